/- subgame.view: has, check, inside, some, closed -/
import Derived.Test.YtafjdoedallnbaaJ11
import Derived.Test.YtafjdoedallnbaaJ05
namespace Go.Proofs.Ytafjdoedallnbaa
open Go.RowKit
def hasB (N : Nat) (r : Int) : Bool := decide (0 ≤ r) && decide (r < (N : Int))
set_option maxRecDepth 100000 in
set_option maxHeartbeats 1600000 in
theorem has_any (w : World) (F : Foot) (u : Value) (r : Int) (g : Gm) (par last : List Int) (sets : List (List Int)) (hv : ViewV w F u g par last sets) :
  Calls Try.prog 35 #[u, .int .i64 r] w (Ret w fun v _ => v = .bool (hasB g.nodes.length r)) := by
 obtain ⟨vn, vi, vp, vl, vs, rfl, ⟨A, c, rfl, hc, hN⟩, _⟩ := hv
 clear hN
 by_cases q0 : 0 ≤ r
 ·by_cases q1 : r < (g.nodes.length : Int)
  ·have HF := Lib.hid (show hasB g.nodes.length r = true by simp [hasB, q0, q1])
   go_enter Try.func35, Try.ntmps35
   go_wp2
   go_ret
   exact ⟨_, rfl, (Below.refl _ _).alloc (Nat.le_refl _) _, by rw [HF.out]; rfl⟩
  ·have HF := Lib.hid (show hasB g.nodes.length r = false by simp [hasB, q1])
   have d1 : decide (r < (g.nodes.length : Int)) = false := decide_eq_false q1
   go_enter Try.func35, Try.ntmps35
   go_wp2
   go_ret
   exact ⟨_, rfl, (Below.refl _ _).alloc (Nat.le_refl _) _, by rw [HF.out]; rfl⟩
 ·have HF := Lib.hid (show hasB g.nodes.length r = false by simp [hasB, q0])
  have d0 : decide (0 ≤ r) = false := decide_eq_false q0
  go_enter Try.func35, Try.ntmps35
  go_wp2
  go_ret
  exact ⟨_, rfl, (Below.refl _ _).alloc (Nat.le_refl _) _, by rw [HF.out]; rfl⟩
def laterBad (last roots : List Int) (i : Nat) : Bool := decide (roots.getD i 0 ≤ last.getD (roots.getD (i - 1) 0).toNat 0)
def laterBadTo (last roots : List Int) (m : Nat) : Bool := (List.range' 1 (m - 1)).any (laterBad last roots)
theorem laterBadTo_succ (last roots : List Int) (m : Nat) (h : 1 ≤ m) : laterBadTo last roots (m + 1) = (laterBadTo last roots m || laterBad last roots m) := by
 unfold laterBadTo
 have : m + 1 - 1 = (m - 1) + 1 := by omega
 rw [this, List.range'_concat, List.any_append]
 simp
 rw [show 1 + (m - 1) = m by omega]
theorem laterBadTo_of {last roots : List Int} {m k : Nat} (h : 1 ≤ m) (hm : m < k) (hb : laterBad last roots m = true) : laterBadTo last roots k = true := by
 unfold laterBadTo
 rw [List.any_eq_true]
 exact ⟨m, by rw [List.mem_range'_1]; omega, hb⟩
def checkP (N : Nat) (last roots : List Int) : Int := if roots = [] then 3 else if rangeBad N roots then 2 else if laterBadTo last roots roots.length then 9 else 0
set_option maxRecDepth 100000 in
set_option maxHeartbeats 3200000 in
theorem viewCheck_any (w : World) (F : Foot) (u vr : Value) (g : Gm) (par last : List Int) (sets : List (List Int)) (roots : List Int) (hv : ViewV w F u g par last sets) (hr : IntsAt w F vr roots) (hl : roots.length ≤ 1000) (hN : g.nodes.length ≤ 1000) (hll : last.length = g.nodes.length) :
  Calls Try.prog 44 #[u, vr] w (Ret w fun v _ => v = .int .i64 (checkP g.nodes.length last roots)) := by
 have HVW := Lib.hid hv
 obtain ⟨vn, vi, vp, vl, vs, rfl, ⟨A, c, rfl, hc, hN'⟩, ⟨Ai, ci, rfl, hci, hI⟩, ⟨Ap, cp, rfl, hcp, hP⟩, ⟨Al, cl, rfl, hcl, hL⟩, ⟨As, cs, rfl, hcs, hS⟩⟩ := hv
 clear hN' hI hP hS
 have HL := Lib.hid hL; clear hL
 have HLL := Lib.hid hll; clear hll
 obtain ⟨Ar, cr, rfl, hcr, hRr⟩ := hr
 have HR := Lib.hid hRr; clear hRr
 by_cases hnil : roots = []
 ·subst hnil
  go_enter Try.func44, Try.ntmps44
  go_wp2
  go_ret
  exact ⟨_, rfl, (Below.refl _ _).alloc (Nat.le_refl _) _, rfl⟩
 have hpos : 0 < roots.length := List.length_pos_iff.2 hnil
 have hd0 : ((roots.length : Int) == 0) = false := by simp; omega
 have HNIL := Lib.hid hnil; clear hnil
 obtain ⟨br, or, rfl, hbrF, hbr, hxr⟩ := HR.out hpos
 have HX := Lib.hid hxr; clear hxr HR
 go_enter Try.func44, Try.ntmps44
 go_wp2
 obtain ⟨W, hW, hbx, hWb, hWz⟩ := row_of_alloc w 51 #[.int .i64 g.players, .slice A g.nodes.length c, .slice Ai g.infos.length ci, .slice Ap par.length cp, .slice Al last.length cl, .slice As sets.length cs]
 rw [← hW]
 clear hW hWz
 go_loopw [6, 14] (fun _ i wr => ∃ k : Nat, k ≤ roots.length ∧ i = .int .i64 k ∧ rangeBad g.nodes.length (roots.take k) = false ∧ Below W.heap.size W wr) (fun _ i _ => roots.length - (intOf i).toNat)
 case atStart => exact ⟨0, by omega, rfl, rfl, Below.refl _ _⟩
 case round =>
  obtain ⟨k, hk, rfl, hpre, hbel⟩ := hrel
  have HP := Lib.hid hpre; clear hpre
  have hbx' := hbx.below hbel hbx.lt
  have x0 := hbx'.cell (i := 0) rfl
  have x1 := hbx'.cell (i := 1) rfl
  have x2 := hbx'.cell (i := 2) rfl
  have x3 := hbx'.cell (i := 3) rfl
  have x4 := hbx'.cell (i := 4) rfl
  have x5 := hbx'.cell (i := 5) rfl
  by_cases hlt : k < roots.length
  ·obtain ⟨r, hr⟩ := getSome hlt
   have er := HX.out k r hr
   unfold intE at er
   rw [Nat.mul_one, ← below_old hWb _ _ hbr, ← below_old hbel _ _ (by have := hWb.size; omega)] at er
   have HXX := Lib.hid hr; clear hr
   go_wp2_with fail
   refine (has_any _ F _ r g par last sets ((HVW.out.on (Below.same' hWb F)).on (Below.same' hbel F))).mono ?_
   rintro e w1 ⟨_, rfl, hb1, rfl⟩
   dsimp only
   have HHB := Lib.hid (show hasB g.nodes.length r = (decide (0 ≤ r) && decide (r < (g.nodes.length : Int))) from rfl)
   generalize hasB g.nodes.length r = hb at *
   have hbel1 := hbel.trans (hb1.mono hbel.size)
   clear er x0 x1 x2 x3 x4 x5
   cases hb
   ·have HF := Lib.hid (show checkP g.nodes.length last roots = 2 by
     have : rangeBad g.nodes.length roots = true := List.any_eq_true.2 ⟨r, List.mem_of_getElem? HXX.out, by
      have := HHB.out; simp at this ⊢; omega⟩
     unfold checkP; rw [if_neg HNIL.out, if_pos this])
    go_wp2
    go_ret
    exact ⟨_, rfl, hWb.trans (hbel1.mono hWb.size), by rw [HF.out]; rfl⟩
   ·go_wp2
    go_roundw
    case rel => exact ⟨k + 1, by omega, by go_num, any_snoc HXX.out HP.out (by have := HHB.out; simp at this ⊢; omega), hbel1⟩
    case measure => simp [intOf] <;> omega
  ·have HRB := Lib.hid (show rangeBad g.nodes.length roots = false by
    have := HP.out; rw [List.take_of_length_le (by omega)] at this; exact this)
   go_wp2
   go_loopw [7, 8, 25] (fun _ _ i wr' => ∃ k n : Nat, k ≤ roots.length ∧ i = .int .i64 k ∧ laterBadTo last roots k = false ∧ wr' = wr.drewN n) (fun _ _ i _ => roots.length - (intOf i).toNat)
   case atStart => exact ⟨0, 0, by omega, rfl, rfl, rfl⟩
   case round =>
    obtain ⟨m, n, hm, rfl, hpre, rfl⟩ := hrel
    have HPM := Lib.hid hpre; clear hpre
    by_cases hmt : m < roots.length
    ·obtain ⟨r, hr⟩ := getSome hmt
     have er := HX.out m r hr
     unfold intE at er
     rw [Nat.mul_one, ← below_old hWb _ _ hbr, ← below_old hbel _ _ (by have := hWb.size; omega)] at er
     by_cases hm0 : 0 < m
     ·obtain ⟨p, hp⟩ := getSome (l := roots) (k := m - 1) (by omega)
      have ep := HX.out (m - 1) p hp
      unfold intE at ep
      rw [Nat.mul_one, ← below_old hWb _ _ hbr, ← below_old hbel _ _ (by have := hWb.size; omega)] at ep
      obtain ⟨hp0, hp1⟩ := rangeBad_false HRB.out p (List.mem_of_getElem? hp)
      have hll := HLL.out
      obtain ⟨bl, ol, rfl, _, hbl, hxl⟩ := HL.out (by omega)
      obtain ⟨y, hy⟩ := getSome (l := last) (k := p.toNat) (by omega)
      have el := hxl p.toNat y hy
      unfold intE at el
      rw [Nat.mul_one, ← below_old hWb _ _ hbl, ← below_old hbel _ _ (by have := hWb.size; omega)] at el
      have HLB := Lib.hid (show laterBad last roots m = decide (r ≤ y) by unfold laterBad; simp [List.getD_eq_getElem?_getD, hr, hp, hy])
      have hp2 : p < (last.length : Int) := by omega
      clear hr hp hxl hy hll
      have hdm : decide ((0 : Int) < (m : Int)) = true := decide_eq_true (by omega)
      have hm1 : m - 1 < roots.length := by omega
      have hms : IntKind.i64.wrap ((m : Int) - 1) = ((m - 1 : Nat) : Int) := by rw [IntWalk.i64_in _ (by omega)]; omega
      by_cases hle : r ≤ y
      ·have HF := Lib.hid (show checkP g.nodes.length last roots = 9 by
        unfold checkP; rw [if_neg HNIL.out, HRB.out, laterBadTo_of (m := m) (by omega) hmt (by rw [HLB.out]; simp [hle])]; rfl)
       have hdl : decide (r ≤ y) = true := decide_eq_true hle
       go_wp2
       go_quiet (fail)
       go_wp2
       go_ret
       exact ⟨_, rfl, below_dN (below_dN (hWb.trans (hbel.mono hWb.size)) _) _, by rw [HF.out]; rfl⟩
      ·have HB := Lib.hid (show laterBadTo last roots (m + 1) = false by rw [laterBadTo_succ _ _ _ (by omega), HPM.out, HLB.out]; simp; omega)
       have hdl : decide (r ≤ y) = false := decide_eq_false hle
       go_wp2
       go_quiet (fail)
       go_wp2
       go_roundw
       case rel => exact ⟨m + 1, n + nq, by omega, by go_num, HB.out, rfl⟩
       case measure => simp [intOf] <;> omega
     ·obtain rfl : m = 0 := by omega
      clear hr
      rw [Nat.add_zero] at er
      have hdm : decide ((0 : Int) < 0) = false := rfl
      have hdm' : decide ((0 : Int) < ((0 : Nat) : Int)) = false := rfl
      simp only [Int.natCast_zero, Int.cast_ofNat_Int]
      go_wp2
      go_quiet (fail)
      go_wp2
      go_roundw
      case rel => exact ⟨1, n + nq, by omega, by go_num, rfl, rfl⟩
      case measure => simp [intOf] <;> omega
    ·have HF := Lib.hid (show checkP g.nodes.length last roots = 0 by
      have h1 := HPM.out
      rw [show m = roots.length by omega] at h1
      unfold checkP; rw [if_neg HNIL.out, HRB.out, h1]; rfl)
     go_wp2
     go_ret
     exact ⟨_, rfl, below_dN (hWb.trans (hbel.mono hWb.size)) _, by rw [HF.out]; rfl⟩
end Go.Proofs.Ytafjdoedallnbaa
/- subgame.open, view.inside, view.some, view.closed -/
namespace Go.Proofs.Ytafjdoedallnbaa
open List renaming getElem_toArray → lq1, getElem_cons_zero → lq2, getElem_cons_succ → lq3, setIfInBounds_toArray → lq4, set_cons_zero → lq5, set_cons_succ → lq6
open Go.RowKit
def openErr (g : Gm) (roots : List Int) : Int := if formL g ≠ 0 then formL g else checkP g.nodes.length (lookL g.nodes).2 roots
def OpenOut (F : Foot) (g : Gm) (roots : List Int) (B : Nat) (v : Value) (w' : World) : Prop := ∃ vv, v = .tuple #[vv, .int .i64 (openErr g roots)] ∧
 (∃ p A1 n1 c1 A2 n2 c2 A3 n3 c3 A4 n4 c4 A5 n5 c5, vv = .agg #[.int .i64 p, .slice A1 n1 c1, .slice A2 n2 c2, .slice A3 n3 c3, .slice A4 n4 c4, .slice A5 n5 c5]) ∧ (openErr g roots = 0 → ViewV w' (fun b => F b ∨ B ≤ b) vv g (lookL g.nodes).1 (lookL g.nodes).2 (setsL g))
set_option maxRecDepth 100000 in
set_option maxHeartbeats 3200000 in
theorem open_any (w : World) (F : Foot) (u vr : Value) (g : Gm) (roots : List Int) (hg : GameAt w F u g) (hr : IntsAt w F vr roots) (hsm : Small g) (hl : roots.length ≤ 1000) :
  Calls Try.prog 24 #[u, vr] w (Ret w (OpenOut F g roots w.heap.size)) := by
 have HG := Lib.hid (hg.keep (G := fun b => F b ∧ b < w.heap.size) (fun b hb hl => ⟨hb, hl⟩) (Same.refl _ _))
 obtain ⟨vn, vi, rfl, ⟨A, c, rfl, hc, hN⟩, ⟨Ai, ci, rfl, hci, hI⟩⟩ := hg
 clear hN hI
 have HR := Lib.hid (hr.keep (G := fun b => F b ∧ b < w.heap.size) (fun b hb hl => ⟨hb, hl⟩) (Same.refl _ _)); clear hr
 have hn := hsm.nodes
 have HS := Lib.hid hsm; clear hsm
 go_enter Try.func24, Try.ntmps24
 go_wp2_with fail
 refine (look_any _ (fun b => F b ∧ b < w.heap.size) _ g ((HG.out.on (Same.alloc _ _ _)).on (Same.alloc _ _ _)) HS.out).mono ?_
 rintro e w1 ⟨_, rfl, hb1, vv, rfl, hv1, hv2⟩
 have hrs : Row w1 (w.heap.size + 1) 51 [.int .i64 0, .slice none 0 0, .slice none 0 0, .slice none 0 0, .slice none 0 0, .slice none 0 0] := by
  have := (Row.new (w.alloc (.cells #[.int .i64 g.players, .slice A g.nodes.length c, .slice Ai g.infos.length ci] 25)) 51 #[.int .i64 0, .slice none 0 0, .slice none 0 0, .slice none 0 0, .slice none 0 0, .slice none 0 0]).below hb1 (by simp)
  simpa using this
 have hB : Below w.heap.size w w1 := (below_two w _ _ 0).trans (hb1.mono (by simp; omega))
 simp only [World.size_alloc] at hv2
 clear hb1
 have HV1 := Lib.hid hv1; have HV2 := Lib.hid hv2; clear hv1 hv2
 have HOE := Lib.hid (show openErr g roots = if formL g ≠ 0 then formL g else checkP g.nodes.length (lookL g.nodes).2 roots from rfl)
 generalize formL g = er at *
 dsimp only
 by_cases he : er = 0
 ·have HVV := Lib.hid (HV2.out he)
  have HO := Lib.hid (show openErr g roots = checkP g.nodes.length (lookL g.nodes).2 roots by rw [HOE.out, if_neg (by simpa using he)])
  subst he
  clear HV1 HV2 HOE
  have HVX := Lib.hid HVV.out
  obtain ⟨vn', vi', vp, vl, vs, rfl, ⟨An, cn, rfl, hcn, hN'⟩, ⟨Ax, cx, rfl, hcx, hI'⟩, ⟨Ap, cp, rfl, hcp, hP'⟩, ⟨Al, cl, rfl, hcl, hL'⟩, ⟨As, cs, rfl, hcs, hS'⟩⟩ := HVV.out
  clear hN' hI' hP' hL' hS' HVV
  go_wp2_with fail
  obtain ⟨W, hW, hbv, hWb, hWz⟩ := row_of_alloc w1 51 #[.int .i64 g.players, .slice An g.nodes.length cn, .slice Ax g.infos.length cx, .slice Ap (lookL g.nodes).1.length cp, .slice Al (lookL g.nodes).2.length cl, .slice As (setsL g).length cs]
  rw [← hW]
  clear hW hWz
  have hrs1 := hrs.below hWb hrs.lt
  have hB1 : Below w.heap.size w W := hB.trans (hWb.mono hB.size)
  have hlt1 := hrs.lt
  have x0 := hbv.cell (i := 0) rfl
  have x1 := hbv.cell (i := 1) rfl
  have x2 := hbv.cell (i := 2) rfl
  have x3 := hbv.cell (i := 3) rfl
  have x4 := hbv.cell (i := 4) rfl
  have x5 := hbv.cell (i := 5) rfl
  refine wp_region_held_drew (S := fun w' => w'.cell? ⟨w1.heap.size, 0, none⟩ = some (.int .i64 g.players) ∧ w'.cell? ⟨w1.heap.size, 1, none⟩ = some (.slice An g.nodes.length cn) ∧ w'.cell? ⟨w1.heap.size, 2, none⟩ = some (.slice Ax g.infos.length cx) ∧ w'.cell? ⟨w1.heap.size, 3, none⟩ = some (.slice Ap (lookL g.nodes).1.length cp) ∧ w'.cell? ⟨w1.heap.size, 4, none⟩ = some (.slice Al (lookL g.nodes).2.length cl) ∧ w'.cell? ⟨w1.heap.size, 5, none⟩ = some (.slice As (setsL g).length cs)) (by kernel_rfl) ⟨x0, x1, x2, x3, x4, x5⟩ (fun hHeld => ?_)
  refine wpAnyH_take (i := 0) (v := ?_) rfl (by kernel_rfl) (by kernel_rfl) (by kernel_rfl) (fun _ _ _ h => h) (Or.inl ⟨by rfl, ?_⟩) hHeld ?_
  rotate_left
  ·intro wx hSx; (try dsimp only at hSx); go_split_ands; go_simp; try (with_reducible rfl)
  try simp only [Act.put, lq1, lq2, lq3, lq4, lq5, lq6]
  refine wpAnyH_take (i := 1) (v := ?_) rfl (by kernel_rfl) (by kernel_rfl) (by kernel_rfl) (fun _ _ _ h => h) (Or.inl ⟨by rfl, ?_⟩) hHeld ?_
  rotate_left
  ·intro wx hSx; (try dsimp only at hSx); go_split_ands; go_simp; try (with_reducible rfl)
  try simp only [Act.put, lq1, lq2, lq3, lq4, lq5, lq6]
  refine wpAnyH_take (i := 2) (v := ?_) rfl (by kernel_rfl) (by kernel_rfl) (by kernel_rfl) (fun _ _ _ h => h) (Or.inl ⟨by rfl, ?_⟩) hHeld ?_
  rotate_left
  ·intro wx hSx; (try dsimp only at hSx); go_split_ands; go_simp; try (with_reducible rfl)
  try simp only [Act.put, lq1, lq2, lq3, lq4, lq5, lq6]
  refine wpAnyH_ready (rs := [3]) (by kernel_rfl) (by simp) ?_
  refine AllReadyH.cons (o := _) rfl (fun K hK => ?_) AllReadyH.nil
  go_simp
  refine (viewCheck_any _ (fun b => F b ∧ b < w.heap.size ∨ w.heap.size + 1 + 1 ≤ b) _ _ g (lookL g.nodes).1 (lookL g.nodes).2 (setsL g) roots ((HVX.out.on (Below.same' hWb _)).on (Same.drewN _ _ 1)) ((HR.out.on (Below.same' hB1 _)).keep (fun b hb _ => .inl hb) (Same.drewN _ _ 1)) hl (by omega) (lookTo_len _ _).2).mono ?_
  rintro e w2 ⟨_, rfl, hb2, rfl⟩
  have hb2' : Below W.heap.size W w2 := (below_dN (Below.refl W.heap.size W) 1).trans hb2
  clear hb2
  have hbv2 := hbv.below hb2' hbv.lt
  have hrs2 := hrs1.below hb2' hrs1.lt
  have hB2 : Below w.heap.size w w2 := hB1.trans (hb2'.mono hB1.size)
  dsimp only
  refine hK.out _ _ ⟨hbv2.cell rfl, hbv2.cell rfl, hbv2.cell rfl, hbv2.cell rfl, hbv2.cell rfl, hbv2.cell rfl⟩ (fun hHeld => ?_)
  clear hK K
  try simp only [Act.put, lq1, lq2, lq3, lq4, lq5, lq6]
  have r0 := hrs2.cell (i := 0) rfl
  have f0 := hrs2.frozen 0
  have r1 := hrs2.cell (i := 1) rfl
  have f1 := hrs2.frozen 1
  have r2 := hrs2.cell (i := 2) rfl
  have f2 := hrs2.frozen 2
  have r3 := hrs2.cell (i := 3) rfl
  have f3 := hrs2.frozen 3
  have r4 := hrs2.cell (i := 4) rfl
  have f4 := hrs2.frozen 4
  have r5 := hrs2.cell (i := 5) rfl
  have f5 := hrs2.frozen 5
  refine wpAnyH_ready (rs := [4]) (by kernel_rfl) (by simp) ?_
  refine AllReadyH.cons (o := _) rfl (fun K hK => ?_) AllReadyH.nil
  go_simp
  obtain ⟨W3, hW3, hrw, hww⟩ := set6 hrs2 (.int .i64 g.players) (.slice An g.nodes.length cn) (.slice Ax g.infos.length cx) (.slice Ap (lookL g.nodes).1.length cp) (.slice Al (lookL g.nodes).2.length cl) (.slice As (setsL g).length cs)
  rw [← hW3]
  clear hW3
  have hbv3 := hbv2.wrote hww (by omega)
  refine hK.out _ _ ⟨hbv3.cell rfl, hbv3.cell rfl, hbv3.cell rfl, hbv3.cell rfl, hbv3.cell rfl, hbv3.cell rfl⟩ (fun hHeld => ?_)
  clear hK K
  try simp only [Act.put, lq1, lq2, lq3, lq4, lq5, lq6]
  refine wpAnyH_take (i := 5) (v := ?_) rfl (by kernel_rfl) (by kernel_rfl) (by kernel_rfl) (fun _ _ _ h => h) (Or.inl ⟨by rfl, ?_⟩) hHeld ?_
  rotate_left
  ·intro wx hSx; (try dsimp only at hSx); go_split_ands; go_simp; try (with_reducible rfl)
  try simp only [Act.put, lq1, lq2, lq3, lq4, lq5, lq6]
  clear r0 f0
  have r0 := hrw.cell (i := 0) rfl
  clear r1 f1
  have r1 := hrw.cell (i := 1) rfl
  clear r2 f2
  have r2 := hrw.cell (i := 2) rfl
  clear r3 f3
  have r3 := hrw.cell (i := 3) rfl
  clear r4 f4
  have r4 := hrw.cell (i := 4) rfl
  clear r5 f5
  have r5 := hrw.cell (i := 5) rfl
  refine wpAnyH_done (by kernel_rfl) ?_ _
  clear hHeld
  go_wp2
  refine bodyPost_ret (v := .tuple #[.agg #[.int .i64 g.players, .slice An g.nodes.length cn, .slice Ax g.infos.length cx, .slice Ap (lookL g.nodes).1.length cp, .slice Al (lookL g.nodes).2.length cl, .slice As (setsL g).length cs], .int .i64 (checkP g.nodes.length (lookL g.nodes).2 roots)]) ?_ rfl ?_
  ·simp [results, Try.results24, go_sem, r0, r1, r2, r3, r4, r5]
  ·refine ⟨_, rfl, Wrote.below hB2 hww (fun k hk => by omega) hB2.size, _, by rw [HO.out], ⟨_, _, _, _, _, _, _, _, _, _, _, _, _, _, _, _, rfl⟩, fun _ => ?_⟩
   exact ViewV.keep (F := fun b => F b ∧ b < w.heap.size ∨ w.heap.size + 1 + 1 ≤ b) ((HVX.out.on (Below.same' hWb _)).on (Below.same' hb2' _)) (fun b hb _ => hb.imp And.left (by omega)) (hww.same (fun b hb => by omega))
 ·have hd : (er != 0) = true := by simp [he]
  have HO := Lib.hid (show openErr g roots = er by rw [HOE.out, if_pos he])
  obtain rfl := HV1.out he
  have HNZ := Lib.hid he; clear he
  unfold noView
  have r0 := hrs.cell (i := 0) rfl
  have f0 := hrs.frozen 0
  have r1 := hrs.cell (i := 1) rfl
  have f1 := hrs.frozen 1
  have r2 := hrs.cell (i := 2) rfl
  have f2 := hrs.frozen 2
  have r3 := hrs.cell (i := 3) rfl
  have f3 := hrs.frozen 3
  have r4 := hrs.cell (i := 4) rfl
  have f4 := hrs.frozen 4
  have r5 := hrs.cell (i := 5) rfl
  have f5 := hrs.frozen 5
  have hlt1 := hrs.lt
  go_wp2
  obtain ⟨W, hW, hrw, hww⟩ := set6 hrs (.int .i64 0) (.slice none 0 0) (.slice none 0 0) (.slice none 0 0) (.slice none 0 0) (.slice none 0 0)
  rw [← hW]
  clear hW
  clear r0 f0
  have r0 := (hrw.alloc (.cells #[.int .i64 0, .slice none 0 0, .slice none 0 0, .slice none 0 0, .slice none 0 0, .slice none 0 0] 51)).cell (i := 0) rfl
  clear r1 f1
  have r1 := (hrw.alloc (.cells #[.int .i64 0, .slice none 0 0, .slice none 0 0, .slice none 0 0, .slice none 0 0, .slice none 0 0] 51)).cell (i := 1) rfl
  clear r2 f2
  have r2 := (hrw.alloc (.cells #[.int .i64 0, .slice none 0 0, .slice none 0 0, .slice none 0 0, .slice none 0 0, .slice none 0 0] 51)).cell (i := 2) rfl
  clear r3 f3
  have r3 := (hrw.alloc (.cells #[.int .i64 0, .slice none 0 0, .slice none 0 0, .slice none 0 0, .slice none 0 0, .slice none 0 0] 51)).cell (i := 3) rfl
  clear r4 f4
  have r4 := (hrw.alloc (.cells #[.int .i64 0, .slice none 0 0, .slice none 0 0, .slice none 0 0, .slice none 0 0, .slice none 0 0] 51)).cell (i := 4) rfl
  clear r5 f5
  have r5 := (hrw.alloc (.cells #[.int .i64 0, .slice none 0 0, .slice none 0 0, .slice none 0 0, .slice none 0 0, .slice none 0 0] 51)).cell (i := 5) rfl
  have hBW : Below w.heap.size w W := Wrote.below hB hww (fun k hk => by omega) hB.size
  refine bodyPost_ret (v := .tuple #[noView, .int .i64 er]) ?_ rfl ?_
  ·simp [results, Try.results24, go_sem, r0, r1, r2, r3, r4, r5, noView]
  ·exact ⟨_, rfl, hBW.alloc hBW.size _, noView, by rw [HO.out], ⟨_, _, _, _, _, _, _, _, _, _, _, _, _, _, _, _, rfl⟩, fun h => absurd (HO.out ▸ h) HNZ.out⟩
/-- j marks from a on -/
def fillL (l : List Bool) (a : Nat) : Nat → List Bool
 | 0 => l
 | j + 1 => (fillL l a j).set (a + j) true
theorem fillL_length (l : List Bool) (a j : Nat) : (fillL l a j).length = l.length := by
 induction j with
 | zero => rfl
 | succ j ih => simp [fillL, ih]
def insStep (last : List Int) (l : List Bool) (r : Int) : List Bool := fillL l r.toNat (last.getD r.toNat 0 + 1 - r).toNat
def insL (N : Nat) (last roots : List Int) : List Bool := roots.foldl (insStep last) (List.replicate N false)
theorem insL_snoc {N : Nat} {last roots : List Int} {k : Nat} {r : Int} (h : roots[k]? = some r) : insL N last (roots.take (k + 1)) = insStep last (insL N last (roots.take k)) r := by
 rw [take_snoc h]; simp [insL, List.foldl_append]
theorem insL_length (N : Nat) (last roots : List Int) : (insL N last roots).length = N := by
 unfold insL
 suffices ∀ l : List Bool, (roots.foldl (insStep last) l).length = l.length by simpa using this (List.replicate N false)
 induction roots with
 | nil => intro l; rfl
 | cons r l ih => intro m; simp only [List.foldl_cons]; rw [ih]; simp [insStep, fillL_length]
def boolsV (l : List Bool) : List Value := l.map Value.bool
set_option maxRecDepth 100000 in
set_option maxHeartbeats 3200000 in
theorem inside_any (w : World) (F : Foot) (u vr : Value) (g : Gm) (par last : List Int) (sets : List (List Int)) (roots : List Int) (hv : ViewV w F u g par last sets) (hr : IntsAt w F vr roots) (hl : roots.length ≤ 1000) (hN : g.nodes.length ≤ 1000) (hll : last.length = g.nodes.length)
  (hin : ∀ r ∈ roots, 0 ≤ r ∧ r < (g.nodes.length : Int)) (hla : ∀ x ∈ last, x < (g.nodes.length : Int)) :
  Calls Try.prog 28 #[u, vr] w (Ret w fun v w' => BoolsAt w' (fun b => w.heap.size ≤ b) v (insL g.nodes.length last roots)) := by
 obtain ⟨vn, vi, vp, vl, vs, rfl, ⟨A, c, rfl, hc, hN'⟩, ⟨Ai, ci, rfl, hci, hI⟩, ⟨Ap, cp, rfl, hcp, hP⟩, ⟨Al, cl, rfl, hcl, hL⟩, ⟨As, cs, rfl, hcs, hS⟩⟩ := hv
 clear hN' hI hP hS
 have HL := Lib.hid hL; clear hL
 have HLL := Lib.hid hll; clear hll
 have HIN := Lib.hid hin; clear hin
 have HLA := Lib.hid hla; clear hla
 obtain ⟨Ar, cr, rfl, hcr, hRr⟩ := hr
 have HR := Lib.hid hRr; clear hRr
 go_enter Try.func28, Try.ntmps28
 go_wp2_with (at_make; refine wpl_make _ rfl _ _ 58 rfl 4 (.bool false) 1 Try.underlying58 Try.infoBool rfl g.nodes.length rfl rfl (by omega) (by omega) ?_; intro w1 hb1 hz1 hrow1)
 simp only [World.size_alloc] at hb1 hz1 hrow1
 have hbx := (Row.new w 51 #[.int .i64 g.players, .slice A g.nodes.length c, .slice Ai g.infos.length ci, .slice Ap par.length cp, .slice Al last.length cl, .slice As sets.length cs]).below hb1 (by simp)
 have hB : Below w.heap.size w w1 := ((Below.refl w.heap.size w).alloc (Nat.le_refl _) _).trans (hb1.mono (by omega))
 clear hb1
 have HZ := Lib.hid hz1; clear hz1
 go_loopw [7, 8, 16] (fun _ _ i wr => ∃ k : Nat, k ≤ roots.length ∧ i = .int .i64 k ∧ Row wr w.heap.size 51 [.int .i64 g.players, .slice A g.nodes.length c, .slice Ai g.infos.length ci, .slice Ap par.length cp, .slice Al last.length cl, .slice As sets.length cs] ∧ Row wr (w.heap.size + 1) 4 (boolsV (insL g.nodes.length last (roots.take k))) ∧ Below w.heap.size w wr) (fun _ _ i _ => roots.length - (intOf i).toNat)
 case atStart => exact ⟨0, by omega, rfl, hbx, by simpa [boolsV, insL] using hrow1, hB⟩
 case round =>
  clear hbx hB hrow1 HZ
  obtain ⟨k, hk, rfl, hbx, hrow, hbel⟩ := hrel
  by_cases hlt : k < roots.length
  ·obtain ⟨b, o, rfl, _, hb, hx⟩ := HR.out (by omega)
   obtain ⟨r, hr⟩ := getSome hlt
   have er := hx k r hr
   unfold intE at er
   rw [Nat.mul_one, ← below_old hbel _ _ hb] at er
   obtain ⟨hr0, hr1⟩ := HIN.out r (List.mem_of_getElem? hr)
   obtain ⟨q, rfl⟩ := Int.eq_ofNat_of_zero_le hr0
   have hll := HLL.out
   obtain ⟨bl, ol, rfl, _, hbl, hxl⟩ := HL.out (by omega)
   obtain ⟨y, hy⟩ := getSome (l := last) (k := q) (by omega)
   have el := hxl q y hy
   unfold intE at el
   rw [Nat.mul_one] at el
   have hyN := HLA.out y (List.mem_of_getElem? hy)
   have hqL : q < last.length := by omega
   have HSN := Lib.hid (show insL g.nodes.length last (roots.take (k + 1)) = fillL (insL g.nodes.length last (roots.take k)) q (y + 1 - q).toNat by
    rw [insL_snoc hr]; unfold insStep; simp [List.getD_eq_getElem?_getD, hy])
   have hil := insL_length g.nodes.length last (roots.take k)
   clear hr hx hy hxl hll
   generalize insL g.nodes.length last (roots.take k) = l0 at *
   have HIL := Lib.hid hil; clear hil
   go_wp2
   go_loopw [8] (fun i wr => ∃ j : Nat, (q : Int) + j ≤ max (y + 1) q ∧ i = .int .i64 ((q + j : Nat) : Int) ∧ Row wr w.heap.size 51 [.int .i64 g.players, .slice A g.nodes.length c, .slice Ai g.infos.length ci, .slice Ap par.length cp, .slice (some ⟨bl, ol, none⟩) last.length cl, .slice As sets.length cs] ∧ Row wr (w.heap.size + 1) 4 (boolsV (fillL l0 q j)) ∧ Below w.heap.size w wr) (fun i _ => (y + 1 - intOf i).toNat)
   case atStart => exact ⟨0, by omega, rfl, hbx, hrow, hbel⟩
   case round =>
    clear hbx hrow hbel er
    obtain ⟨j, hj, rfl, hbx, hrow, hbel⟩ := hrel
    have x4 := hbx.cell (i := 4) rfl
    have el' := el
    rw [← below_old hbel _ _ hbl] at el'
    have hlt2 := hrow.lt
    by_cases hjy : ((q + j : Nat) : Int) ≤ y
    ·have hfl : (fillL l0 q j).length = g.nodes.length := by rw [fillL_length, HIL.out]
     obtain ⟨z, hz⟩ := getSome (l := fillL l0 q j) (k := q + j) (by omega)
     have ec := hrow.cell (i := q + j) (v := .bool z) (by simp [boolsV, hz])
     have fc := hrow.frozen (q + j)
     have hqj : q + j < g.nodes.length := by omega
     clear hz hfl
     have hdy : decide (((q + j : Nat) : Int) ≤ y) = true := decide_eq_true hjy
     go_wp2
     go_roundw
     case rel =>
      refine ⟨j + 1, by omega, by go_num, hbx.other (by simp) _, ?_, hbel.setCell (by simp) _⟩
      have := hrow.set (q + j) (.bool true)
      simpa [boolsV, fillL, List.map_set] using this
     case measure => simp [intOf] <;> omega
    ·have hdy : decide (((q + j : Nat) : Int) ≤ y) = false := decide_eq_false hjy
     have HJ := Lib.hid (show (y + 1 - q).toNat = j by omega)
     go_wp2
     go_roundw
     case rel => exact ⟨k + 1, by omega, by go_num, hbx, by rw [HSN.out, HJ.out]; exact hrow, hbel⟩
     case measure => simp [intOf] <;> omega
  ·go_wp2
   go_ret
   rw [List.take_of_length_le (by omega)] at hrow
   have h1 := Row.bools (F := fun b => w.heap.size ≤ b) hrow (by omega) (c := g.nodes.length) (by rw [insL_length]; omega)
   rw [insL_length] at h1
   exact ⟨_, rfl, hbel, h1⟩
/-- a closure of one int that answers in every later world -/
def AnswersFrom (w : World) (fid : FuncId) (caps : Array Value) (X : Int → Prop) (p : Int → Bool) : Prop :=
 (∀ (args : Array Value) (w' : World), (callFunc fid args).run Try.prog w' = .ok (.enter fid args) w') ∧
 ∀ (w' : World) (x : Int), Below w.heap.size w w' → X x → Calls Try.prog fid (#[.int .i64 x] ++ caps) w' fun e w'' => e = .returned (.bool (p x)) ∧ ∃ m, w'' = w'.drewN m
theorem AnswersFrom.at {w w' : World} {fid : FuncId} {caps : Array Value} {X : Int → Prop} {p : Int → Bool} (h : AnswersFrom w fid caps X p) (hb : Below w.heap.size w w') {l : List Int} (hl : ∀ x ∈ l, X x) : Answers w' fid caps l p :=
 ⟨h.1, fun n x hx => (h.2 (w'.drewN n) x (below_dN hb n) (hl x hx)).mono fun e w'' ⟨he, m, hm⟩ => ⟨he, n + m, by rw [hm, World.drewN_drewN]⟩⟩
theorem AnswersFrom.later {w w' : World} {fid : FuncId} {caps : Array Value} {X : Int → Prop} {p : Int → Bool} (h : AnswersFrom w fid caps X p) (hb : Below w.heap.size w w') : AnswersFrom w' fid caps X p :=
 ⟨h.1, fun w'' x hb' hx => h.2 w'' x (hb.trans (hb'.mono hb.size)) hx⟩
def someTo (p : Int → Bool) (sets : List (List Int)) (k : Nat) : List Int := ((sets.take k).zipIdx.filter fun q => q.1.any p).map fun q => (q.2 : Int)
theorem someTo_snoc {p : Int → Bool} {sets : List (List Int)} {k : Nat} {l : List Int} (h : sets[k]? = some l) : someTo p sets (k + 1) = someTo p sets k ++ (if l.any p then [(k : Int)] else []) := by
 unfold someTo
 rw [zipIdx_snoc h, List.filter_append, List.map_append]
 cases h : l.any p <;> simp [h]
theorem someTo_length (p : Int → Bool) (sets : List (List Int)) (k : Nat) : (someTo p sets k).length ≤ k := by
 unfold someTo
 rw [List.length_map]
 refine Nat.le_trans (List.length_filter_le _ _) ?_
 simp; omega
def someL (p : Int → Bool) (sets : List (List Int)) : List Int := someTo p sets sets.length
set_option maxRecDepth 100000 in
set_option maxHeartbeats 3200000 in
theorem some_any (w : World) (F : Foot) (u : Value) (g : Gm) (par last : List Int) (sets : List (List Int)) (fid : FuncId) (caps : Array Value) (X : Int → Prop) (p : Int → Bool) (hv : ViewV w F u g par last sets) (hl : sets.length ≤ 1000) (hll : ∀ l ∈ sets, l.length ≤ 1000) (hX : ∀ l ∈ sets, ∀ x ∈ l, X x)
  (ha : AnswersFrom w fid caps X p) :
  Calls Try.prog 29 #[u, .func (.func fid) #[] caps] w (Ret w fun v w' => IntsAt w' (fun b => w.heap.size ≤ b) v (someL p sets)) := by
 obtain ⟨vn, vi, vp, vl, vs, rfl, ⟨A, c, rfl, hc, hN'⟩, ⟨Ai, ci, rfl, hci, hI⟩, ⟨Ap, cp, rfl, hcp, hP⟩, ⟨Al, cl, rfl, hcl, hL⟩, ⟨As, cs, rfl, hcs, hS⟩⟩ := hv
 clear hN' hI hP hL
 have HS := Lib.hid hS; clear hS
 have HLL := Lib.hid hll; clear hll
 have HX := Lib.hid hX; clear hX
 have HA := Lib.hid ha; clear ha
 go_enter Try.func29, Try.ntmps29
 go_wp2
 obtain ⟨W, hW, hbx, hWb, hWz⟩ := row_of_alloc w 51 #[.int .i64 g.players, .slice A g.nodes.length c, .slice Ai g.infos.length ci, .slice Ap par.length cp, .slice Al last.length cl, .slice As sets.length cs]
 rw [← hW]
 clear hW hWz hbx
 go_loopw [5, 6, 7, 11] (fun vo _ _ i wr => ∃ k : Nat, k ≤ sets.length ∧ i = .int .i64 k ∧ wr.ownsRow W.heap.size 3 1 vo (someTo p sets k).length ((someTo p sets k).map (Value.int .i64)) ∧ Below W.heap.size W wr) (fun _ _ _ i _ => sets.length - (intOf i).toNat)
 case atStart => exact ⟨0, by omega, rfl, World.ownsRow_nil _ _ _ _, Below.refl _ _⟩
 case round =>
  obtain ⟨k, hk, rfl, hown, hbel⟩ := hrel
  have HO := Lib.hid hown; clear hown
  have hlen := someTo_length p sets k
  by_cases hlt : k < sets.length
  ·obtain ⟨b, o, rfl, hbF, hb, hx⟩ := HS.out (by omega)
   obtain ⟨l, hl'⟩ := getSome hlt
   obtain ⟨vl', ev, hvl⟩ := hx k l hl'
   rw [Nat.mul_one, ← below_old hWb _ _ hb, ← below_old hbel _ _ (by have := hWb.size; omega)] at ev
   have HST := Lib.hid (someTo_snoc (p := p) hl')
   have hll := HLL.out l (List.mem_of_getElem? hl')
   have HVL := Lib.hid ((hvl.on (Below.same' hWb F)).on (Below.same' hbel F))
   have HAA := Lib.hid (HA.out.at (hWb.trans (hbel.mono hWb.size)) (HX.out l (List.mem_of_getElem? hl')))
   clear hl' hx hvl
   go_wp2_with fail
   refine (containsFunc_any _ F _ l fid caps p HVL.out (by omega) HAA.out).mono ?_
   rintro e w2 ⟨rfl, n, hw2⟩
   have HO2 := Lib.hid (show w2.ownsRow W.heap.size 3 1 u5 (someTo p sets k).length ((someTo p sets k).map (Value.int .i64)) by rw [hw2]; exact HO.out)
   have hbel2 : Below W.heap.size W w2 := by rw [hw2]; exact below_dN hbel n
   clear ev hw2 HO hbel
   generalize l.any p = r at *
   dsimp only
   cases r
   ·go_wp2
    go_roundw
    case rel => exact ⟨k + 1, by omega, by go_num, by rw [HST.out]; simpa using HO2.out, hbel2⟩
    case measure => simp [intOf] <;> omega
   ·go_wp2_with (at_builtin; refine wpl_app_int rfl _ _ rfl W.heap.size _ (someTo p sets k) rfl (HO2.out.alloc _) w2.heap.size k rfl (heap_alloc_new _ _) (by omega) (by have := hbel2.size; simp; omega) ?_; intro gg cap w3 hown3 hgrow hat hlt3; have hbel3 : Below W.heap.size W w3 := (hbel2.alloc hbel2.size _).grown hgrow (by have := hbel2.size; simp; omega) (fun k hk => (HO2.out.lt k hk).1); have HO3 := Lib.hid hown3; clear hown3 hgrow hat hlt3)
    go_roundw
    case rel => exact ⟨k + 1, by omega, by go_num, by rw [HST.out]; simpa using HO3.out, hbel3⟩
    case measure => simp [intOf] <;> omega
  ·go_wp2
   go_ret
   have hke : k = sets.length := by omega
   subst hke
   have hz := hWb.size
   exact ⟨_, rfl, hWb.trans (hbel.mono hz), Own.ints (by unfold someL; simpa [Own] using HO.out) (fun b hb => by have := (HO.out.lt b hb).1; omega)⟩
end Go.Proofs.Ytafjdoedallnbaa
/- subgame.view.closed, subgame.Closed, subgame.Inside -/
namespace Go.Proofs.Ytafjdoedallnbaa
open Go.RowKit
def inAt (inn : List Bool) (x : Int) : Bool := inn.getD x.toNat false
set_option maxHeartbeats 1600000 in
theorem closed1_any (w : World) (F : Foot) (bc : Nat) (vb : Value) (inn : List Bool) (x : Int) (hc : w.cell? ⟨bc, 0, none⟩ = some vb) (hv : BoolsAt w F vb inn) (hx : 0 ≤ x ∧ x < (inn.length : Int)) :
  Calls Try.prog 45 (#[.int .i64 x] ++ #[.pointer (some ⟨bc, 0, none⟩)]) w fun e w' => e = .returned (.bool (inAt inn x)) ∧ ∃ m, w' = w.drewN m := by
 obtain ⟨A, c, rfl, hcc, hr⟩ := hv
 obtain ⟨q, rfl⟩ := Int.eq_ofNat_of_zero_le hx.1
 obtain ⟨b, o, rfl, _, hb, hxx⟩ := hr (by omega)
 obtain ⟨y, hy⟩ := getSome (l := inn) (k := q) (by omega)
 have ey := hxx q y hy
 unfold boolE at ey
 rw [Nat.mul_one] at ey
 have hq : q < inn.length := by omega
 have HF := Lib.hid (show inAt inn (q : Int) = y by unfold inAt; simp [List.getD_eq_getElem?_getD, hy])
 clear hr hxx hy hx
 show Calls Try.prog _ #[.int .i64 q, .pointer (some ⟨bc, 0, none⟩)] w _
 go_enter Try.func45, Try.ntmps45
 go_wp2
 go_ret
 exact ⟨by rw [HF.out]; rfl, 0, rfl⟩
theorem closed1_answers (w : World) (F : Foot) (bc : Nat) (vb : Value) (inn : List Bool) (hc : w.cell? ⟨bc, 0, none⟩ = some vb) (hb : bc < w.heap.size) (hv : BoolsAt w F vb inn) : AnswersFrom w 45 #[.pointer (some ⟨bc, 0, none⟩)] (fun x => 0 ≤ x ∧ x < (inn.length : Int)) (inAt inn) :=
 ⟨enters Try.func45 (by decide +kernel) (by decide +kernel), fun w' x hb' hx => closed1_any w' F bc vb inn x (by rw [below_old hb' bc 0 hb]; exact hc) (hv.on (Below.same' hb' F)) hx⟩
set_option maxHeartbeats 1600000 in
theorem inside1_any (w : World) (F : Foot) (bc : Nat) (vb : Value) (inn : List Bool) (x : Int) (hc : w.cell? ⟨bc, 0, none⟩ = some vb) (hv : BoolsAt w F vb inn) (hx : 0 ≤ x ∧ x < (inn.length : Int)) :
  Calls Try.prog 30 (#[.int .i64 x] ++ #[.pointer (some ⟨bc, 0, none⟩)]) w fun e w' => e = .returned (.bool (inAt inn x)) ∧ ∃ m, w' = w.drewN m := by
 obtain ⟨A, c, rfl, hcc, hr⟩ := hv
 obtain ⟨q, rfl⟩ := Int.eq_ofNat_of_zero_le hx.1
 obtain ⟨b, o, rfl, _, hb, hxx⟩ := hr (by omega)
 obtain ⟨y, hy⟩ := getSome (l := inn) (k := q) (by omega)
 have ey := hxx q y hy
 unfold boolE at ey
 rw [Nat.mul_one] at ey
 have hq : q < inn.length := by omega
 have HF := Lib.hid (show inAt inn (q : Int) = y by unfold inAt; simp [List.getD_eq_getElem?_getD, hy])
 clear hr hxx hy hx
 show Calls Try.prog _ #[.int .i64 q, .pointer (some ⟨bc, 0, none⟩)] w _
 go_enter Try.func30, Try.ntmps30
 go_wp2
 go_ret
 exact ⟨by rw [HF.out]; rfl, 0, rfl⟩
theorem inside1_answers (w : World) (F : Foot) (bc : Nat) (vb : Value) (inn : List Bool) (hc : w.cell? ⟨bc, 0, none⟩ = some vb) (hb : bc < w.heap.size) (hv : BoolsAt w F vb inn) : AnswersFrom w 30 #[.pointer (some ⟨bc, 0, none⟩)] (fun x => 0 ≤ x ∧ x < (inn.length : Int)) (inAt inn) :=
 ⟨enters Try.func30 (by decide +kernel) (by decide +kernel), fun w' x hb' hx => inside1_any w' F bc vb inn x (by rw [below_old hb' bc 0 hb]; exact hc) (hv.on (Below.same' hb' F)) hx⟩
def allAt (inn : List Bool) (sets : List (List Int)) (s : Int) : Bool := (sets.getD s.toNat []).all (inAt inn)
def closedPL (inn : List Bool) (sets : List (List Int)) : Bool := (someL (inAt inn) sets).all (allAt inn sets)
theorem all_snoc {α : Type} {l : List α} {p : α → Bool} {k : Nat} {x : α} (h : l[k]? = some x) (hn : (l.take k).all p = true) (hx : p x = true) : (l.take (k + 1)).all p = true := by
 rw [take_snoc h, List.all_append]; simp [hn, hx]
theorem all_false {α : Type} {l : List α} {p : α → Bool} {x : α} (h : x ∈ l) (hx : p x = false) : l.all p = false := by
 rw [List.all_eq_false]; exact ⟨x, h, by simp [hx]⟩
theorem someL_in {p : Int → Bool} {sets : List (List Int)} : ∀ s ∈ someL p sets, 0 ≤ s ∧ s < (sets.length : Int) := by
 intro s hs
 unfold someL someTo at hs
 rw [List.mem_map] at hs
 obtain ⟨q, hq, rfl⟩ := hs
 rw [List.mem_filter] at hq
 have := List.mem_zipIdx hq.1
 simp at this
 omega
set_option maxRecDepth 100000 in
set_option maxHeartbeats 3200000 in
theorem viewClosed_any (w : World) (F : Foot) (u vr : Value) (g : Gm) (par last : List Int) (sets : List (List Int)) (roots : List Int) (hv : ViewV w F u g par last sets) (hr : IntsAt w F vr roots) (hl : roots.length ≤ 1000) (hN : g.nodes.length ≤ 1000) (hll : last.length = g.nodes.length)
  (hin : ∀ r ∈ roots, 0 ≤ r ∧ r < (g.nodes.length : Int)) (hla : ∀ x ∈ last, x < (g.nodes.length : Int)) (hs : sets.length ≤ 1000) (hsl : ∀ l ∈ sets, l.length ≤ 1000) (hsx : ∀ l ∈ sets, ∀ x ∈ l, 0 ≤ x ∧ x < (g.nodes.length : Int)) :
  Calls Try.prog 25 #[u, vr] w (Ret w fun v _ => v = .bool (closedPL (insL g.nodes.length last roots) sets)) := by
 have HV := Lib.hid hv
 obtain ⟨vn, vi, vp, vl, vs, rfl, ⟨A, c, rfl, hc, hN'⟩, ⟨Ai, ci, rfl, hci, hI⟩, ⟨Ap, cp, rfl, hcp, hP⟩, ⟨Al, cl, rfl, hcl, hL⟩, ⟨As, cs, rfl, hcs, hS⟩⟩ := hv
 clear hN' hI hP hL
 have HS := Lib.hid hS; clear hS
 have HR := Lib.hid hr; clear hr
 have HLL := Lib.hid hll; clear hll
 have HIN := Lib.hid hin; clear hin
 have HLA := Lib.hid hla; clear hla
 have HSL := Lib.hid hsl; clear hsl
 have HSX := Lib.hid hsx; clear hsx
 have hmf : ∀ (fn : Fn) (first cap : Array Value) (w : World), (Instr.makeFunc fn first cap).run Try.prog w = .ok (.func fn first cap) w := fun _ _ _ _ => rfl
 go_enter Try.func25, Try.ntmps25
 go_wp2_with fail
 obtain ⟨W, hW, hbx, hWb, hWz⟩ := row_of_alloc w 51 #[.int .i64 g.players, .slice A g.nodes.length c, .slice Ai g.infos.length ci, .slice Ap par.length cp, .slice Al last.length cl, .slice As sets.length cs]
 rw [← hW]
 clear hW hWz
 refine (inside_any _ F _ _ g par last sets roots (HV.out.on (Below.same' hWb F)) (HR.out.on (Below.same' hWb F)) hl hN HLL.out HIN.out HLA.out).mono ?_
 rintro e w1 ⟨vb, rfl, hb1, hvb⟩
 have hbx1 := hbx.below hb1 hbx.lt
 have hB1 : Below w.heap.size w w1 := hWb.trans (hb1.mono hWb.size)
 have hil := insL_length g.nodes.length last roots
 generalize hinn : insL g.nodes.length last roots = inn at *
 have HINN := Lib.hid hinn; clear hinn
 have HIL := Lib.hid hil; clear hil hbx hWb hb1
 obtain ⟨Ab, cb, rfl, hcb, hBb⟩ := hvb
 have HVB := Lib.hid (show BoolsAt w1 (fun b => W.heap.size ≤ b) (.slice Ab inn.length cb) inn from ⟨_, _, rfl, hcb, hBb⟩)
 have HBB := Lib.hid hBb; clear hBb
 have x0 := hbx1.cell (i := 0) rfl
 have x1 := hbx1.cell (i := 1) rfl
 have x2 := hbx1.cell (i := 2) rfl
 have x3 := hbx1.cell (i := 3) rfl
 have x4 := hbx1.cell (i := 4) rfl
 have x5 := hbx1.cell (i := 5) rfl
 have hlt1 := hbx1.lt
 dsimp only
 go_wp2_with fail
 obtain ⟨W2, hW2, hbc, hW2b, hW2z⟩ := row_of_alloc w1 58 #[.slice Ab inn.length cb]
 rw [← hW2]
 clear hW2 hW2z x0 x1 x2 x3 x4 x5
 have hB2 : Below w.heap.size w W2 := hB1.trans (hW2b.mono hB1.size)
 refine (some_any _ F _ g par last sets _ _ (fun x => 0 ≤ x ∧ x < (inn.length : Int)) (inAt inn) (HV.out.on (Below.same' hB2 F)) hs HSL.out (fun l hl x hx => by have := HSX.out l hl x hx; have := HIL.out; omega) (closed1_answers W2 _ _ _ inn (hbc.cell rfl) hbc.lt (HVB.out.on (Below.same' hW2b _)))).mono ?_
 rintro e w3 ⟨vo, rfl, hb3, hvo⟩
 have HCL := Lib.hid (show closedPL inn sets = (someL (inAt inn) sets).all (allAt inn sets) from rfl)
 have HSI := Lib.hid (someL_in (p := inAt inn) (sets := sets))
 have hlen : (someL (inAt inn) sets).length ≤ 1000 := by unfold someL; have := someTo_length (inAt inn) sets sets.length; omega
 generalize someL (inAt inn) sets = so at *
 have hbx3 := (hbx1.below hW2b hbx1.lt).below hb3 (by have := hW2b.size; omega)
 have hbc3 := hbc.below hb3 hbc.lt
 have hB3 : Below w.heap.size w w3 := hB2.trans (hb3.mono hB2.size)
 have hB13 : Below w1.heap.size w1 w3 := hW2b.trans (hb3.mono hW2b.size)
 clear hbx1 hbc hB2 hb3 hW2b
 obtain ⟨Ao, co, rfl, hco, hOo⟩ := hvo
 have HOO := Lib.hid hOo; clear hOo
 have x5 := hbx3.cell (i := 5) rfl
 have c5 := hbc3.cell (i := 0) rfl
 dsimp only
 go_wp2
 go_loop [7, 9, 17, 27] (fun _ _ i _ => ∃ k : Nat, k ≤ so.length ∧ i = .int .i64 k ∧ (so.take k).all (allAt inn sets) = true) (fun _ _ i _ => so.length - (intOf i).toNat)
 case atStart => exact ⟨0, by omega, rfl, rfl⟩
 case round =>
  obtain ⟨k, hk, rfl, hpre⟩ := hrel
  have HP := Lib.hid hpre; clear hpre
  by_cases hlt : k < so.length
  ·obtain ⟨bo, oo, rfl, _, hbo, hxo⟩ := HOO.out (by omega)
   obtain ⟨s, hs'⟩ := getSome hlt
   have es := hxo k s hs'
   unfold intE at es
   rw [Nat.mul_one] at es
   obtain ⟨hs0, hs1⟩ := HSI.out s (List.mem_of_getElem? hs')
   obtain ⟨q, rfl⟩ := Int.eq_ofNat_of_zero_le hs0
   have hqs : q < sets.length := by omega
   obtain ⟨bs, os, rfl, _, hbs, hxs⟩ := HS.out (by omega)
   obtain ⟨l, hl'⟩ := getSome hqs
   obtain ⟨vl', el, Av, cv, rfl, hcv, hAv⟩ := hxs q l hl'
   rw [Nat.mul_one, ← below_old hB3 _ _ hbs] at el
   have hl1 := HSL.out l (List.mem_of_getElem? hl')
   have HLX := Lib.hid (HSX.out l (List.mem_of_getElem? hl'))
   have HAA := Lib.hid (show allAt inn sets (q : Int) = l.all (inAt inn) by unfold allAt; simp [List.getD_eq_getElem?_getD, hl'])
   have HSS := Lib.hid hs'
   have HAV := Lib.hid hAv
   clear hs' hxo hxs hl' hAv
   go_wp2
   go_loop [9, 27] (fun _ i => ∃ j : Nat, j ≤ l.length ∧ i = .int .i64 j ∧ (l.take j).all (inAt inn) = true) (fun _ i => l.length - (intOf i).toNat)
   case atStart => exact ⟨0, by omega, rfl, rfl⟩
   case round =>
    obtain ⟨j, hj, rfl, hpre⟩ := hrel
    have HPJ := Lib.hid hpre; clear hpre
    by_cases hjt : j < l.length
    ·obtain ⟨bv, ov, rfl, _, hbv, hxv⟩ := HAV.out (by omega)
     obtain ⟨x, hx⟩ := getSome hjt
     have ex := hxv j x hx
     unfold intE at ex
     rw [Nat.mul_one, ← below_old hB3 _ _ hbv] at ex
     obtain ⟨hx0, hx1⟩ := HLX.out x (List.mem_of_getElem? hx)
     obtain ⟨z, rfl⟩ := Int.eq_ofNat_of_zero_le hx0
     have hzi : z < inn.length := by have := HIL.out; omega
     obtain ⟨bb, ob, rfl, _, hbb, hxb⟩ := HBB.out (by omega)
     obtain ⟨y, hy⟩ := getSome hzi
     have eb := hxb z y hy
     unfold boolE at eb
     rw [Nat.mul_one, ← below_old hB13 _ _ hbb] at eb
     have HY := Lib.hid (show inAt inn (z : Int) = y by unfold inAt; simp [List.getD_eq_getElem?_getD, hy])
     have HXJ := Lib.hid hx
     clear hx hxv hxb hy
     cases y
     ·have HF := Lib.hid (show closedPL inn sets = false by
       rw [HCL.out]; exact all_false (List.mem_of_getElem? HSS.out) (by rw [HAA.out]; exact all_false (List.mem_of_getElem? HXJ.out) HY.out))
      go_wp2
      go_ret
      exact ⟨_, rfl, hB3, by rw [HINN.out, HF.out]; rfl⟩
     ·go_wp2
      go_round
      case rel => exact ⟨j + 1, by omega, by go_num, all_snoc HXJ.out HPJ.out HY.out⟩
      case measure => simp [intOf] <;> omega
    ·go_wp2
     go_round
     case rel => exact ⟨k + 1, by omega, by go_num, all_snoc HSS.out HP.out (by rw [HAA.out]; have := HPJ.out; rwa [List.take_of_length_le (by omega)] at this)⟩
     case measure => simp [intOf] <;> omega
  ·have HF := Lib.hid (show closedPL inn sets = true by rw [HCL.out]; have := HP.out; rwa [List.take_of_length_le (by omega)] at this)
   go_wp2
   go_ret
   exact ⟨_, rfl, hB3, by rw [HINN.out, HF.out]; rfl⟩
/-- what the plain law says of a well formed game and right roots -/
structure LookFine (g : Gm) : Prop where
 last : ∀ x ∈ (lookL g.nodes).2, x < (g.nodes.length : Int)
def FineIf (g : Gm) : Prop := formL g = 0 → LookFine g
theorem setsL_small {g : Gm} (hsm : Small g) : (setsL g).length ≤ 1000 ∧ ∀ l ∈ setsL g, l.length ≤ 1000 := by
 refine ⟨by unfold setsL; rw [setsTo_length]; have := hsm.infos; omega, fun l hl => ?_⟩
 have := setsTo_len l hl
 have := hsm.nodes
 omega
def closedPOut (g : Gm) (roots : List Int) : Bool := decide (openErr g roots = 0) && closedPL (insL g.nodes.length (lookL g.nodes).2 roots) (setsL g)
theorem openErr_in {g : Gm} {roots : List Int} (h : openErr g roots = 0) : formL g = 0 ∧ ∀ r ∈ roots, 0 ≤ r ∧ r < (g.nodes.length : Int) := by
 unfold openErr at h
 split at h
 ·rename_i h1; exact absurd h h1
 ·rename_i h1
  refine ⟨by simpa using h1, ?_⟩
  unfold checkP at h
  split at h
  ·omega
  ·split at h
   ·omega
   ·rename_i h2; exact rangeBad_false (by simpa using h2)
set_option maxRecDepth 100000 in
set_option maxHeartbeats 3200000 in
theorem closed_any (w : World) (F : Foot) (u vr : Value) (g : Gm) (roots : List Int) (hg : GameAt w F u g) (hr : IntsAt w F vr roots) (hsm : Small g) (hl : roots.length ≤ 1000) (hfine : FineIf g) :
  Calls Try.prog 8 #[u, vr] w (Ret w fun v _ => v = .tuple #[.bool (closedPOut g roots), .int .i64 (openErr g roots)]) := by
 have HG := Lib.hid hg
 obtain ⟨vn, vi, rfl, ⟨A, c, rfl, hc, hN⟩, ⟨Ai, ci, rfl, hci, hI⟩⟩ := hg
 clear hN hI
 have HR := Lib.hid hr; clear hr
 have hn := hsm.nodes
 have HS := Lib.hid hsm; clear hsm
 have HFI := Lib.hid hfine; clear hfine
 go_enter Try.func8, Try.ntmps8
 go_wp2_with fail
 refine (open_any _ F _ _ g roots (HG.out.on (Same.alloc _ _ _)) (HR.out.on (Same.alloc _ _ _)) HS.out hl).mono ?_
 rintro e w1 ⟨_, rfl, hb1, vv, rfl, ⟨p0, A1, n1, c1, A2, n2, c2, A3, n3, c3, A4, n4, c4, A5, n5, c5, rfl⟩, hv2⟩
 have hB : Below w.heap.size w w1 := ((Below.refl w.heap.size w).alloc (Nat.le_refl _) _).trans (hb1.mono (by simp))
 simp only [World.size_alloc] at hv2
 clear hb1
 have HV2 := Lib.hid hv2; clear hv2
 have HCO := Lib.hid (show closedPOut g roots = (decide (openErr g roots = 0) && closedPL (insL g.nodes.length (lookL g.nodes).2 roots) (setsL g)) from rfl)
 have HOI := Lib.hid (fun h : openErr g roots = 0 => openErr_in h)
 generalize hoe : openErr g roots = er at *
 have HOE := Lib.hid hoe; clear hoe
 dsimp only
 by_cases he : er = 0
 ·obtain ⟨hf0, hin⟩ := HOI.out he
  have hfine := HFI.out hf0
  have HIN := Lib.hid hin
  have HII := Lib.hid (good_of hf0).infos
  have HFL := Lib.hid hfine.last
  have HVX := Lib.hid (HV2.out he)
  have HE := Lib.hid (show decide (er = 0) = true by simp [he])
  subst he
  clear hin hf0 hfine
  go_wp2_with fail
  obtain ⟨W, hW, hbx, hWb, hWz⟩ := row_of_alloc w1 51 #[.int .i64 p0, .slice A1 n1 c1, .slice A2 n2 c2, .slice A3 n3 c3, .slice A4 n4 c4, .slice A5 n5 c5]
  rw [← hW]
  clear hW hWz hbx
  refine (viewClosed_any _ (fun b => F b ∨ w.heap.size + 1 ≤ b) _ _ g (lookL g.nodes).1 (lookL g.nodes).2 (setsL g) roots (HVX.out.on (Below.same' hWb _)) ((HR.out.on (Below.same' (hB.trans (hWb.mono hB.size)) F)).keep (fun b hb _ => .inl hb) (Same.refl _ _)) hl (by omega) (lookTo_len _ _).2 HIN.out HFL.out (setsL_small HS.out).1 (setsL_small HS.out).2 (fun l hl x hx => setsTo_in (Nat.le_refl _) l hl x hx)).mono ?_
  rintro e w2 ⟨_, rfl, hb2, rfl⟩
  dsimp only
  go_wp2
  go_ret2
  have hB1 := hB.trans (hWb.mono hB.size)
  exact ⟨_, rfl, hB1.trans (hb2.mono hB1.size), by rw [HCO.out, HOE.out]; simp⟩
 ·have hd : (er != 0) = true := by simp [he]
  have HF := Lib.hid (show decide (er = 0) = false by simp [he])
  clear he
  go_wp2
  go_ret2
  exact ⟨_, rfl, hB.alloc hB.size _, by rw [HCO.out, HOE.out, HF.out]; rfl⟩
def insNodesP (g : Gm) (roots : List Int) : List Int := if openErr g roots = 0 then marksL (insL g.nodes.length (lookL g.nodes).2 roots) else []
def insSetsP (g : Gm) (roots : List Int) : List Int := if openErr g roots = 0 then someL (inAt (insL g.nodes.length (lookL g.nodes).2 roots)) (setsL g) else []
set_option maxRecDepth 100000 in
set_option maxHeartbeats 3200000 in
theorem insideP_any (w : World) (F : Foot) (u vr : Value) (g : Gm) (roots : List Int) (hg : GameAt w F u g) (hr : IntsAt w F vr roots) (hsm : Small g) (hl : roots.length ≤ 1000) (hfine : FineIf g) :
  Calls Try.prog 10 #[u, vr] w (Ret w (TwoInts w.heap.size (openErr g roots) (insNodesP g roots) (insSetsP g roots))) := by
 have HG := Lib.hid hg
 obtain ⟨vn, vi, rfl, ⟨A, c, rfl, hc, hN⟩, ⟨Ai, ci, rfl, hci, hI⟩⟩ := hg
 clear hN hI
 have HR := Lib.hid hr; clear hr
 have hn := hsm.nodes
 have HS := Lib.hid hsm; clear hsm
 have HFI := Lib.hid hfine; clear hfine
 have hmf : ∀ (fn : Fn) (first cap : Array Value) (w : World), (Instr.makeFunc fn first cap).run Try.prog w = .ok (.func fn first cap) w := fun _ _ _ _ => rfl
 go_enter Try.func10, Try.ntmps10
 go_wp2_with fail
 refine (open_any _ F _ _ g roots (HG.out.on (Same.alloc _ _ _)) (HR.out.on (Same.alloc _ _ _)) HS.out hl).mono ?_
 rintro e w1 ⟨_, rfl, hb1, vv, rfl, ⟨p0, A1, n1, c1, A2, n2, c2, A3, n3, c3, A4, n4, c4, A5, n5, c5, rfl⟩, hv2⟩
 have hB : Below w.heap.size w w1 := ((Below.refl w.heap.size w).alloc (Nat.le_refl _) _).trans (hb1.mono (by simp))
 simp only [World.size_alloc] at hv2
 clear hb1
 have HV2 := Lib.hid hv2; clear hv2
 have HI1 := Lib.hid (show insNodesP g roots = if openErr g roots = 0 then marksL (insL g.nodes.length (lookL g.nodes).2 roots) else [] from rfl)
 have HI2 := Lib.hid (show insSetsP g roots = if openErr g roots = 0 then someL (inAt (insL g.nodes.length (lookL g.nodes).2 roots)) (setsL g) else [] from rfl)
 have HOI := Lib.hid (fun h : openErr g roots = 0 => openErr_in h)
 generalize hoe : openErr g roots = er at *
 have HOE := Lib.hid hoe; clear hoe
 dsimp only
 by_cases he : er = 0
 ·obtain ⟨hf0, hin⟩ := HOI.out he
  have hfine := HFI.out hf0
  have HIN := Lib.hid hin
  have HII := Lib.hid (good_of hf0).infos
  have HFL := Lib.hid hfine.last
  have HVX := Lib.hid (HV2.out he)
  have HE := Lib.hid he
  subst he
  clear hin hf0 hfine
  go_wp2_with fail
  obtain ⟨W, hW, hbx, hWb, hWz⟩ := row_of_alloc w1 51 #[.int .i64 p0, .slice A1 n1 c1, .slice A2 n2 c2, .slice A3 n3 c3, .slice A4 n4 c4, .slice A5 n5 c5]
  rw [← hW]
  clear hW hWz
  have hB1 := hB.trans (hWb.mono hB.size)
  refine (inside_any _ (fun b => F b ∨ w.heap.size + 1 ≤ b) _ _ g (lookL g.nodes).1 (lookL g.nodes).2 (setsL g) roots (HVX.out.on (Below.same' hWb _)) ((HR.out.on (Below.same' hB1 F)).keep (fun b hb _ => .inl hb) (Same.refl _ _)) hl (by omega) (lookTo_len _ _).2 HIN.out HFL.out).mono ?_
  rintro e w2 ⟨vb, rfl, hb2, hvb⟩
  have hbx2 := hbx.below hb2 hbx.lt
  have hB2 := hB1.trans (hb2.mono hB1.size)
  have HW2 := Lib.hid (hWb.trans (hb2.mono hWb.size))
  have hlt2 := hbx2.lt
  have hil := insL_length g.nodes.length (lookL g.nodes).2 roots
  have HM := Lib.hid (show marksL (insL g.nodes.length (lookL g.nodes).2 roots) = marksTo (insL g.nodes.length (lookL g.nodes).2 roots) (insL g.nodes.length (lookL g.nodes).2 roots).length from rfl)
  generalize insL g.nodes.length (lookL g.nodes).2 roots = inn at *
  have hil2 : inn.length ≤ 100 := by omega
  have HIL := Lib.hid hil; clear hil hbx hb2 hWb hB1 hB
  obtain ⟨Ab, cb, rfl, hcb, hBb⟩ := hvb
  have HVB := Lib.hid (show BoolsAt w2 (fun b => W.heap.size ≤ b) (.slice Ab inn.length cb) inn from ⟨_, _, rfl, hcb, hBb⟩)
  have HBB := Lib.hid hBb; clear hBb
  dsimp only
  go_wp2
  obtain ⟨W2, hW2, hbc, hW2b, hW2z⟩ := row_of_alloc w2 58 #[.slice Ab inn.length cb]
  rw [← hW2]
  clear hW2 hW2z
  have hbx3 := hbx2.below hW2b hbx2.lt
  have hB3 := hB2.trans (hW2b.mono hB2.size)
  have hlt3 := hbc.lt
  clear hbx2
  go_loopw [4, 9, 10, 25] (fun vo _ _ i wr => ∃ k : Nat, k ≤ inn.length ∧ i = .int .i64 k ∧ wr.ownsRow W2.heap.size 3 1 vo (marksTo inn k).length ((marksTo inn k).map (Value.int .i64)) ∧ Below W2.heap.size W2 wr) (fun _ _ _ i _ => inn.length - (intOf i).toNat)
  case atStart => exact ⟨0, by omega, rfl, World.ownsRow_nil _ _ _ _, Below.refl _ _⟩
  case round =>
   obtain ⟨k, hk, rfl, hown, hbel⟩ := hrel
   have HO := Lib.hid hown; clear hown
   have hlen := marksTo_length inn k
   by_cases hlt : k < inn.length
   ·obtain ⟨bu, ou, rfl, _, hbu, hxu⟩ := HBB.out (by omega)
    obtain ⟨y, hy⟩ := getSome hlt
    have ey := hxu k y hy
    unfold boolE at ey
    rw [Nat.mul_one, ← below_old hW2b _ _ hbu, ← below_old hbel _ _ (by omega)] at ey
    have HST := Lib.hid (marksTo_snoc hy)
    clear hy hxu
    cases y
    ·go_wp2
     go_roundw
     case rel => exact ⟨k + 1, by omega, by go_num, by rw [HST.out]; simpa using HO.out, hbel⟩
     case measure => simp [intOf] <;> omega
    ·go_wp2_with (at_builtin; refine wpl_app_int rfl _ _ rfl W2.heap.size _ (marksTo inn k) rfl (HO.out.alloc _) wr.heap.size k rfl (heap_alloc_new _ _) (by omega) (by have := hbel.size; simp; omega) ?_; intro gg cap w3 hown3 hgrow hat hlt3; have hbel3 : Below W2.heap.size W2 w3 := (hbel.alloc hbel.size _).grown hgrow (by have := hbel.size; simp; omega) (fun k hk => (HO.out.lt k hk).1); have HO3 := Lib.hid hown3; clear hown3 hgrow hat hlt3)
     go_roundw
     case rel => exact ⟨k + 1, by omega, by go_num, by rw [HST.out]; simpa using HO3.out, hbel3⟩
     case measure => simp [intOf] <;> omega
   ·have hbx4 := hbx3.below hbel hbx3.lt
    have hbc4 := hbc.below hbel hbc.lt
    have x0 := hbx4.cell (i := 0) rfl
    have x1 := hbx4.cell (i := 1) rfl
    have x2 := hbx4.cell (i := 2) rfl
    have x3 := hbx4.cell (i := 3) rfl
    have x4 := hbx4.cell (i := 4) rfl
    have x5 := hbx4.cell (i := 5) rfl
    have hB4 := hB3.trans (hbel.mono hB3.size)
    have h24 : Below w2.heap.size w2 wr := hW2b.trans (hbel.mono hW2b.size)
    have h14 : Below w1.heap.size w1 wr := HW2.out.trans (h24.mono HW2.out.size)
    go_wp2_with fail
    refine (some_any _ (fun b => F b ∨ w.heap.size + 1 ≤ b) _ g (lookL g.nodes).1 (lookL g.nodes).2 (setsL g) _ _ (fun x => 0 ≤ x ∧ x < (inn.length : Int)) (inAt inn) (HVX.out.on (Below.same' h14 _)) (setsL_small HS.out).1 (setsL_small HS.out).2 (fun l hl x hx => by have := setsTo_in (Nat.le_refl _) l hl x hx; have := HIL.out; omega) (inside1_answers wr _ _ _ inn (hbc4.cell rfl) hbc4.lt (HVB.out.on (Below.same' h24 _)))).mono ?_
    rintro e w5 ⟨vo, rfl, hb5, hvo⟩
    clear x0 x1 x2 x3 x4 x5
    dsimp only
    go_wp2
    go_ret3
    have hke : k = inn.length := by omega
    subst hke
    have z3 := hB3.size
    have z4 := hB4.size
    have z5 := hbel.size
    refine ⟨_, rfl, hB4.trans (hb5.mono z4), u4, vo, by first | rfl | (rw [HOE.out]; rfl), ?_, ?_⟩
    ·rw [HI1.out, if_pos (by first | rfl | trivial), HM.out]
     exact (Own.ints (F := fun b => w.heap.size ≤ b) (by simpa [Own] using HO.out) (fun b hb => by have := (HO.out.lt b hb).1; omega)).on (Below.same' hb5 _)
    ·rw [HI2.out, if_pos (by first | rfl | trivial)]
     exact hvo.keep (fun b hb _ => by omega) (Same.refl _ _)
 ·have hd : (er != 0) = true := by simp [he]
  have HNZ := Lib.hid he
  clear he
  go_wp2
  go_ret3
  refine ⟨_, rfl, hB.alloc hB.size _, .slice none 0 0, .slice none 0 0, by first | rfl | (rw [HOE.out]; rfl), ?_, ?_⟩
  ·rw [HI1.out, if_neg HNZ.out]; exact ints_nil _ _
  ·rw [HI2.out, if_neg HNZ.out]; exact ints_nil _ _
end Go.Proofs.Ytafjdoedallnbaa
