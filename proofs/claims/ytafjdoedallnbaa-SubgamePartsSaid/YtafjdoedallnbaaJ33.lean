/- parlourlaw26.SubgameParts returns true, and changes nothing. -/
import Derived.Test.YtafjdoedallnbaaJ31
import Derived.Test.YtafjdoedallnbaaJ32
import Derived.Test.YtafjdoedallnbaaJ02
namespace Go.Proofs.Ytafjdoedallnbaa
open Go.RowKit
theorem small_of_large {g : Gm} {nodes sets : Int} (h : largeB g nodes sets = false) (hn : nodes ≤ 100) (hs : sets ≤ 100) : Small g := by
 unfold largeB at h
 simp only [Bool.or_eq_false_iff, decide_eq_false_iff_not, List.any_eq_false] at h
 obtain ⟨⟨h1, h2⟩, h3⟩ := h
 have h4 : ∀ n ∈ g.nodes, n.next.length ≤ 100 ∧ n.weights.length ≤ 100 ∧ n.pay.length ≤ 100 := by
  intro n hn'
  have := h3 n hn'
  unfold longNd at this
  simp at this
  omega
 exact ⟨by omega, by omega, fun n hn => (h4 n hn).1, fun n hn => (h4 n hn).2.1, fun n hn => (h4 n hn).2.2⟩
theorem leastRL_short {g : Gm} (hsm : Small g) (node : Int) : (leastRL g node).length < 1000000 := by
 have key : ∀ f roots, roots.length ≤ 1000 → (leastGo g f roots).length ≤ 1000 := by
  intro f
  induction f with
  | zero => intro roots h; exact h
  | succ f ih =>
   intro roots h
   unfold leastGo
   split
   ·exact h
   ·exact ih _ (leastStep_in hsm roots).1
 unfold leastRL
 split
 ·have := key (g.nodes.length + 1) [node] (by simp); omega
 ·simp
theorem properRL_short {g : Gm} (hsm : Small g) : (properRL g).length < 1000000 := by
 have h1 := properToR_length g g.nodes.length
 have h2 := hsm.nodes
 unfold properRL
 split
 ·omega
 ·simp
set_option maxRecDepth 100000 in
set_option maxHeartbeats 6400000 in
theorem lawParts (w : World) (F : Foot) (u : Value) (node : Int) (g : Gm) (hg : GameAt w F u g) :
  Calls Try.prog 4 #[u, .int .i64 node] w (Ret w fun v _ => v = .bool true) := by
 have HG := Lib.hid hg
 obtain ⟨vn, vi, rfl, ⟨A, c, rfl, hc, hN⟩, ⟨Ai, ci, rfl, hci, hI⟩⟩ := hg
 clear hN hI
 go_enter Try.func4, Try.ntmps4
 go_wp2_with fail
 obtain ⟨W, hW, hbx, hWb, hWz⟩ := row_of_alloc w 25 #[.int .i64 g.players, .slice A g.nodes.length c, .slice Ai g.infos.length ci]
 rw [← hW]
 clear hW hWz
 refine (large_any _ F _ g (HG.out.on (Below.same' hWb F)) 60 20 (by omega)).mono ?_
 rintro e w1 ⟨_, rfl, hb1, rfl⟩
 have hbx1 := hbx.below hb1 hbx.lt
 have hB1 := hWb.trans (hb1.mono hWb.size)
 have HSM := Lib.hid (fun h : largeB g 60 20 = false => small_of_large h (by omega) (by omega))
 clear hbx hWb hb1
 generalize largeB g 60 20 = lg at *
 dsimp only
 cases lg
 ·have hsm := HSM.out rfl
  have HS := Lib.hid hsm
  clear hsm HSM
  have x0 := hbx1.cell (i := 0) rfl
  have x1 := hbx1.cell (i := 1) rfl
  have x2 := hbx1.cell (i := 2) rfl
  have hlt1 := hbx1.lt
  go_wp2_with fail
  refine (least_any _ F _ node g (HG.out.on (Below.same' hB1 F)) HS.out fine).mono ?_
  rintro e w2 ⟨_, rfl, hb2, va, rfl, hva⟩
  rw [leastErr_eq]
  rw [leastL_eq HS.out] at hva
  have hbx2 := hbx1.below hb2 hbx1.lt
  have hB2 := hB1.trans (hb2.mono hB1.size)
  clear x0 x1 x2 hb2 hbx1 hB1
  have x0 := hbx2.cell (i := 0) rfl
  have x1 := hbx2.cell (i := 1) rfl
  have x2 := hbx2.cell (i := 2) rfl
  have hlt2 := hbx2.lt
  try dsimp only
  have HVA := Lib.hid (hva.keep (G := fun _ => True) (fun _ _ _ => trivial) (Same.refl _ _))
  clear hva
  go_wp2_with fail
  refine (leastR_any _ F _ node g (HG.out.on (Below.same' hB2 F)) HS.out).mono ?_
  rintro e w3 ⟨_, rfl, hb3, vb, rfl, hvb⟩
  have hbx3 := hbx2.below hb3 hbx2.lt
  have hB3 := hB2.trans (hb3.mono hB2.size)
  have HVA := Lib.hid (HVA.out.on (Below.same' hb3 _))
  clear x0 x1 x2 hb3 hbx2 hB2
  have x0 := hbx3.cell (i := 0) rfl
  have x1 := hbx3.cell (i := 1) rfl
  have x2 := hbx3.cell (i := 2) rfl
  have hlt3 := hbx3.lt
  try dsimp only
  have HVB := Lib.hid (hvb.keep (G := fun _ => True) (fun _ _ _ => trivial) (Same.refl _ _))
  clear hvb
  go_wp2_with fail
  refine (part_any _ F _ node g (HG.out.on (Below.same' hB3 F)) HS.out fine).mono ?_
  rintro e w4 ⟨_, rfl, hb4, vc, vx, rfl, hvc, hvx⟩
  have hbx4 := hbx3.below hb4 hbx3.lt
  have hB4 := hB3.trans (hb4.mono hB3.size)
  have HVA := Lib.hid (HVA.out.on (Below.same' hb4 _))
  have HVB := Lib.hid (HVB.out.on (Below.same' hb4 _))
  clear x0 x1 x2 hb4 hbx3 hB3
  have x0 := hbx4.cell (i := 0) rfl
  have x1 := hbx4.cell (i := 1) rfl
  have x2 := hbx4.cell (i := 2) rfl
  have hlt4 := hbx4.lt
  try dsimp only
  have HVC := Lib.hid (show GameAt w4 (fun _ => True) vc (partG g node) from hvc.keep (fun _ _ _ => trivial) (Same.refl _ _))
  have HVX := Lib.hid (show IntsAt w4 (fun _ => True) vx (partN g node) from hvx.keep (fun _ _ _ => trivial) (Same.refl _ _))
  clear hvc hvx
  obtain ⟨pn, pi, rfl, ⟨Bn, dn, rfl, _, _⟩, ⟨Bi, di, rfl, _, _⟩⟩ := HVC.out
  go_wp2_with fail
  obtain ⟨w5, hw5, hrc, hb5, _⟩ := row_of_alloc w4 25 #[.int .i64 (partG g node).players, .slice Bn (partG g node).nodes.length dn, .slice Bi (partG g node).infos.length di]
  rw [← hw5]
  clear hw5
  have hbx5 := hbx4.below hb5 hbx4.lt
  have hB5 := hB4.trans (hb5.mono hB4.size)
  have HVA := Lib.hid (HVA.out.on (Below.same' hb5 _))
  have HVB := Lib.hid (HVB.out.on (Below.same' hb5 _))
  have HVC := Lib.hid (HVC.out.on (Below.same' hb5 _))
  have HVX := Lib.hid (HVX.out.on (Below.same' hb5 _))
  clear x0 x1 x2 hb5 hbx4 hB4
  have x0 := hbx5.cell (i := 0) rfl
  have x1 := hbx5.cell (i := 1) rfl
  have x2 := hbx5.cell (i := 2) rfl
  have hlt5 := hbx5.lt
  try dsimp only
  try go_wp2_with fail
  refine (partR_any _ F _ node g (HG.out.on (Below.same' hB5 F)) HS.out).mono ?_
  rintro e w6 ⟨_, rfl, hb6, hpr⟩
  obtain ⟨vd, vy, rfl, hvd, hvy⟩ := partRes_eq hpr
  clear hpr
  have hrc6 := hrc.below hb6 hrc.lt
  clear hrc
  have hbx6 := hbx5.below hb6 hbx5.lt
  have hB6 := hB5.trans (hb6.mono hB5.size)
  have HVA := Lib.hid (HVA.out.on (Below.same' hb6 _))
  have HVB := Lib.hid (HVB.out.on (Below.same' hb6 _))
  have HVC := Lib.hid (HVC.out.on (Below.same' hb6 _))
  have HVX := Lib.hid (HVX.out.on (Below.same' hb6 _))
  clear x0 x1 x2 hb6 hbx5 hB5
  have x0 := hbx6.cell (i := 0) rfl
  have x1 := hbx6.cell (i := 1) rfl
  have x2 := hbx6.cell (i := 2) rfl
  have hlt6 := hbx6.lt
  try dsimp only
  have HVD := Lib.hid (show GameAt w6 (fun _ => True) vd (partG g node) from hvd.keep (fun _ _ _ => trivial) (Same.refl _ _))
  have HVY := Lib.hid (show IntsAt w6 (fun _ => True) vy (partN g node) from hvy.keep (fun _ _ _ => trivial) (Same.refl _ _))
  clear hvd hvy
  obtain ⟨qn, qi, rfl, ⟨Cn, en, rfl, _, _⟩, ⟨Ci, ei, rfl, _, _⟩⟩ := HVD.out
  go_wp2_with fail
  obtain ⟨w7, hw7, hrd7, hb7, _⟩ := row_of_alloc w6 25 #[.int .i64 (partG g node).players, .slice Cn (partG g node).nodes.length en, .slice Ci (partG g node).infos.length ei]
  rw [← hw7]
  clear hw7
  have hrc7 := hrc6.below hb7 hrc6.lt
  clear hrc6
  have hbx7 := hbx6.below hb7 hbx6.lt
  have hB7 := hB6.trans (hb7.mono hB6.size)
  have HVA := Lib.hid (HVA.out.on (Below.same' hb7 _))
  have HVB := Lib.hid (HVB.out.on (Below.same' hb7 _))
  have HVC := Lib.hid (HVC.out.on (Below.same' hb7 _))
  have HVX := Lib.hid (HVX.out.on (Below.same' hb7 _))
  have HVD := Lib.hid (HVD.out.on (Below.same' hb7 _))
  have HVY := Lib.hid (HVY.out.on (Below.same' hb7 _))
  clear x0 x1 x2 hb7 hbx6 hB6
  have x0 := hbx7.cell (i := 0) rfl
  have x1 := hbx7.cell (i := 1) rfl
  have x2 := hbx7.cell (i := 2) rfl
  have hlt7 := hbx7.lt
  try dsimp only
  try go_wp2_with fail
  refine (proper_any _ F _ g (HG.out.on (Below.same' hB7 F)) HS.out).mono ?_
  rintro e w8 ⟨_, rfl, hb8, vp, rfl, hvp⟩
  rw [proper_eq] at hvp
  have hrc8 := hrc7.below hb8 hrc7.lt
  have hrd8 := hrd7.below hb8 hrd7.lt
  clear hrc7 hrd7
  have hbx8 := hbx7.below hb8 hbx7.lt
  have hB8 := hB7.trans (hb8.mono hB7.size)
  have HVA := Lib.hid (HVA.out.on (Below.same' hb8 _))
  have HVB := Lib.hid (HVB.out.on (Below.same' hb8 _))
  have HVC := Lib.hid (HVC.out.on (Below.same' hb8 _))
  have HVX := Lib.hid (HVX.out.on (Below.same' hb8 _))
  have HVD := Lib.hid (HVD.out.on (Below.same' hb8 _))
  have HVY := Lib.hid (HVY.out.on (Below.same' hb8 _))
  clear x0 x1 x2 hb8 hbx7 hB7
  have x0 := hbx8.cell (i := 0) rfl
  have x1 := hbx8.cell (i := 1) rfl
  have x2 := hbx8.cell (i := 2) rfl
  have hlt8 := hbx8.lt
  try dsimp only
  have HVP := Lib.hid (hvp.keep (G := fun _ => True) (fun _ _ _ => trivial) (Same.refl _ _))
  clear hvp
  go_wp2_with fail
  refine (properR_any _ F _ g (HG.out.on (Below.same' hB8 F)) HS.out).mono ?_
  rintro e w9 ⟨_, rfl, hb9, vq, rfl, hvq⟩
  have hrc9 := hrc8.below hb9 hrc8.lt
  have hrd9 := hrd8.below hb9 hrd8.lt
  clear hrc8 hrd8
  have hbx9 := hbx8.below hb9 hbx8.lt
  have hB9 := hB8.trans (hb9.mono hB8.size)
  have HVA := Lib.hid (HVA.out.on (Below.same' hb9 _))
  have HVB := Lib.hid (HVB.out.on (Below.same' hb9 _))
  have HVC := Lib.hid (HVC.out.on (Below.same' hb9 _))
  have HVX := Lib.hid (HVX.out.on (Below.same' hb9 _))
  have HVD := Lib.hid (HVD.out.on (Below.same' hb9 _))
  have HVY := Lib.hid (HVY.out.on (Below.same' hb9 _))
  have HVP := Lib.hid (HVP.out.on (Below.same' hb9 _))
  clear x0 x1 x2 hb9 hbx8 hB8
  have x0 := hbx9.cell (i := 0) rfl
  have x1 := hbx9.cell (i := 1) rfl
  have x2 := hbx9.cell (i := 2) rfl
  have hlt9 := hbx9.lt
  try dsimp only
  have HVQ := Lib.hid (hvq.keep (G := fun _ => True) (fun _ _ _ => trivial) (Same.refl _ _))
  clear hvq
  have y0 := hrc9.cell (i := 0) rfl
  have y1 := hrc9.cell (i := 1) rfl
  have y2 := hrc9.cell (i := 2) rfl
  have z0 := hrd9.cell (i := 0) rfl
  have z1 := hrd9.cell (i := 1) rfl
  have z2 := hrd9.cell (i := 2) rfl
  have HL1 := Lib.hid (leastRL_short HS.out node)
  have HL2 := Lib.hid (Nat.lt_of_le_of_lt (partN_short HS.out node) (show 100 < 1000000 by omega))
  have HL3 := Lib.hid (properRL_short HS.out)
  have HL4 := Lib.hid (partG_small HS.out node)
  generalize leastErrR g node = er1 at *
  generalize partErr g node = er2 at *
  generalize formL g = er3 at *
  have her1 : (er1 == er1) = true := by simp
  have her2 : (er2 == er2) = true := by simp
  have her3 : (er3 == er3) = true := by simp
  try dsimp only
  go_wp2_with fail
  refine (alikeInt_any _ (fun _ => True) _ _ _ _ HVA.out HVB.out HL1.out HL1.out).mono ?_
  rintro e w10 ⟨rfl, n10, rfl⟩
  have hd1 : decide (leastRL g node = leastRL g node) = true := by simp
  rw [hd1]
  try dsimp only
  go_wp2_with fail
  refine (alikeGame_any _ (fun _ => True) _ _ (partG g node) (partG g node) (HVC.out.on (Same.drewN _ _ _)) (HVD.out.on (Same.drewN _ _ _)) HL4.out HL4.out).mono ?_
  rintro e w11 ⟨_, rfl, hb11, rfl⟩
  have hd2 : decide (partG g node = partG g node) = true := by simp
  rw [hd2]
  have h911 : Below w9.heap.size w9 w11 := (below_dN (Below.refl w9.heap.size w9) _).trans hb11
  have hB11 := hB9.trans (h911.mono hB9.size)
  have HVA := Lib.hid (HVA.out.on (Below.same' h911 _))
  have HVB := Lib.hid (HVB.out.on (Below.same' h911 _))
  have HVC := Lib.hid (HVC.out.on (Below.same' h911 _))
  have HVX := Lib.hid (HVX.out.on (Below.same' h911 _))
  have HVD := Lib.hid (HVD.out.on (Below.same' h911 _))
  have HVY := Lib.hid (HVY.out.on (Below.same' h911 _))
  have HVP := Lib.hid (HVP.out.on (Below.same' h911 _))
  have HVQ := Lib.hid (HVQ.out.on (Below.same' h911 _))
  clear x0 x1 x2 y0 y1 y2 z0 z1 z2 hb11
  try dsimp only
  go_wp2_with fail
  refine (alikeInt_any _ (fun _ => True) _ _ _ _ HVX.out HVY.out HL2.out HL2.out).mono ?_
  rintro e w12 ⟨rfl, n12, rfl⟩
  have hd3 : decide (partN g node = partN g node) = true := by simp
  rw [hd3]
  try dsimp only
  go_wp2_with fail
  refine (alikeInt_any _ (fun _ => True) _ _ _ _ (HVP.out.on (Same.drewN _ _ _)) (HVQ.out.on (Same.drewN _ _ _)) HL3.out HL3.out).mono ?_
  rintro e w13 ⟨rfl, n13, rfl⟩
  have hd4 : decide (properRL g = properRL g) = true := by simp
  rw [hd4]
  try dsimp only
  go_wp2_with fail
  refine (awake_any _).mono ?_
  rintro e w14 ⟨_, rfl, hb14, rfl⟩
  try dsimp only
  go_wp2
  go_ret
  have h14 : Below w11.heap.size w11 w14 := (below_dN (Below.refl w11.heap.size w11) _).trans hb14
  exact ⟨_, rfl, hB11.trans (h14.mono hB11.size), rfl⟩
 ·go_wp2_with fail
  refine (awake_any _).mono ?_
  rintro e w2 ⟨_, rfl, hb2, rfl⟩
  dsimp only
  go_wp2
  go_ret
  exact ⟨_, rfl, hB1.trans (hb2.mono hB1.size), rfl⟩
end Go.Proofs.Ytafjdoedallnbaa
