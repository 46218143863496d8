/- parlourlaw26.SubgameClosed returns true, and changes nothing. -/
import Derived.Test.YtafjdoedallnbaaOwnGame
import Derived.Test.YtafjdoedallnbaaAwake
import Derived.Test.YtafjdoedallnbaaLarge
namespace Go.Proofs.Ytafjdoedallnbaa
open Go.RowKit

theorem wpl_app_ints {w : World} {F : Foot} {ops : Array Oper} {rest : List Oper} {o : Oper} {a : Act} {Q : Exit → Act → World → Prop} (hgd : o.guard = none) (s x : Operand) (ho : o.op = .call { callee := .builtin .append, args := #[s, x], argTypes := #[26, 26] })
    (B : Nat) (v : Value) (l : List Int) (hs : a.eval s = .slice (some ⟨B, 0, none⟩) 0 0) (hx : a.eval x = v) (hv : IntsAt w F v l) (hm : l.length ≤ 1000000)
    (h : ∀ A' cap w', Below w.heap.size w w' → IntsAt w' (fun b => w.heap.size ≤ b ∧ b < w'.heap.size) (.slice A' l.length cap) l → wpList Try.prog ops Q rest (a.put o.dst (.slice A' l.length cap)) w') :
    wpList Try.prog ops Q (o :: rest) a w := by
  refine wpList_plain hgd fun K hK => ?_
  exact oper_app_ints s x ho B v l hs hx hv hm (fun A' cap w' hb hi => hK _ _ (h A' cap w' hb hi))

theorem small_of {g : Gm} {nodes sets : Int} (h : largeB g nodes sets = false) (hn : nodes ≤ 100) (hs : sets ≤ 100) : Small g := by
  unfold largeB at h
  simp only [Bool.or_eq_false_iff, decide_eq_false_iff_not, List.any_eq_false] at h
  obtain ⟨⟨h1, h2⟩, h3⟩ := h
  have h4 : ∀ n ∈ g.nodes, n.next.length ≤ 100 ∧ n.weights.length ≤ 100 ∧ n.pay.length ≤ 100 := by
    intro n hn'
    have := h3 n hn'
    unfold longNd at this
    simp at this
    omega
  exact ⟨by omega, by omega, fun n hn => (h4 n hn).1, fun n hn => (h4 n hn).2.1, fun n hn => (h4 n hn).2.2⟩

set_option maxRecDepth 100000 in
set_option maxHeartbeats 6400000 in
theorem lawClosed (w : World) (F : Foot) (u vr : Value) (g : Gm) (roots : List Int) (hg : GameAt w F u g) (hr : IntsAt w F vr roots) :
    Calls Try.prog 3 #[u, vr] w (Ret w fun v _ => v = .bool true) := by
  have HG := Lib.hid hg
  have HR := Lib.hid hr
  obtain ⟨vn, vi, rfl, ⟨A, c, rfl, hc, hN⟩, ⟨Ai, ci, rfl, hci, hI⟩⟩ := hg
  obtain ⟨Ar, cr, rfl, hcr, hRr⟩ := hr
  clear hN hI hRr
  go_enter Try.func3, Try.ntmps3
  go_wp2_with fail
  obtain ⟨W, hW, hbx, hWb, hWz⟩ := row_of_alloc w 25 #[.int .i64 g.players, .slice A g.nodes.length c, .slice Ai g.infos.length ci]
  rw [← hW]
  clear hW hWz
  refine (large_any _ F _ g (HG.out.on (Below.same' hWb F)) 60 20 (by omega)).mono ?_
  rintro e w1 ⟨_, rfl, hb1, rfl⟩
  have hbx1 := hbx.below hb1 hbx.lt
  have hB1 := hWb.trans (hb1.mono hWb.size)
  have HSM := Lib.hid (fun h : largeB g 60 20 = false => small_of h (by omega) (by omega))
  clear hbx hWb hb1
  generalize largeB g 60 20 = lg at *
  dsimp only
  cases lg
  · have hsm := HSM.out rfl
    have HS := Lib.hid hsm
    have hn := hsm.nodes
    have hni := hsm.infos
    clear hsm HSM
    by_cases hrl : 30 < roots.length
    · have hd : decide ((30 : Int) < (roots.length : Int)) = true := decide_eq_true (by omega)
      go_wp2_with fail
      refine (awake_any _).mono ?_
      rintro e w2 ⟨_, rfl, hb2, rfl⟩
      dsimp only
      go_wp2
      go_ret
      exact ⟨_, rfl, hB1.trans (hb2.mono hB1.size), rfl⟩
    · have hd : decide ((30 : Int) < (roots.length : Int)) = false := decide_eq_false (by omega)
      have x0 := hbx1.cell (i := 0) rfl
      have x1 := hbx1.cell (i := 1) rfl
      have x2 := hbx1.cell (i := 2) rfl
      have hlt1 := hbx1.lt
      go_wp2_with fail
      refine (ownGame_any _ F _ g (HG.out.on (Below.same' hB1 F)) HS.out).mono ?_
      rintro e w2 ⟨vh, rfl, hb2, hh⟩
      have hbx2 := hbx1.below hb2 hbx1.lt
      have hB2 := hB1.trans (hb2.mono hB1.size)
      have HH := Lib.hid hh
      obtain ⟨vn', vi', rfl, ⟨A', c', rfl, hc', hN'⟩, ⟨Ai', ci', rfl, hci', hI'⟩⟩ := hh
      clear hN' hI' x0 x1 x2 hb2 hbx1
      dsimp only
      go_wp2_with (at_builtin; refine wpl_app_ints (F := F) rfl _ _ rfl w2.heap.size _ roots rfl rfl ((HR.out.on (Below.same' hB2 F)).on (Same.alloc _ _ _)) (by omega) ?_; intro A2 c2 w3 hb3 hi3)
      obtain ⟨w4, hw4, hbh, hb4, _⟩ := row_of_alloc w3 25 #[.int .i64 g.players, .slice A' g.nodes.length c', .slice Ai' g.infos.length ci']
      rw [← hw4]
      clear hw4
      have h23 : Below w2.heap.size w2 w3 := ((Below.refl w2.heap.size w2).alloc (Nat.le_refl _) _).trans (hb3.mono (by simp))
      have h24 := h23.trans (hb4.mono h23.size)
      have hB4 := hB2.trans (h24.mono hB2.size)
      have HGU := Lib.hid (HG.out.keep (G := fun _ => True) (fun _ _ _ => trivial) (Below.same' hB4 F))
      have HRU := Lib.hid (HR.out.keep (G := fun _ => True) (fun _ _ _ => trivial) (Below.same' hB4 F))
      have HHU := Lib.hid (HH.out.keep (G := fun _ => True) (fun _ _ _ => trivial) (Below.same' h24 _))
      have HLU := Lib.hid (hi3.keep (G := fun _ => True) (fun _ _ _ => trivial) (Below.same' hb4 _))
      have hbx4 := hbx2.below h24 hbx2.lt
      clear hi3 hb3 h23 h24 hbx2 hB2 hB1 hb4
      refine (closed_any _ (fun _ => True) _ _ g roots HHU.out HLU.out HS.out (by omega) fine).mono ?_
      rintro e w5 ⟨_, rfl, hb5, rfl⟩
      rw [closed_eq, open_check]
      have hbx5 := hbx4.below hb5 hbx4.lt
      have hbh5 := hbh.below hb5 hbh.lt
      have hB5 := hB4.trans (hb5.mono hB4.size)
      have HBB := Lib.hid hB4; clear hB4
      have x0 := hbx5.cell (i := 0) rfl
      have x1 := hbx5.cell (i := 1) rfl
      have x2 := hbx5.cell (i := 2) rfl
      dsimp only
      go_wp2_with fail
      refine (refClosed_any _ (fun _ => True) _ _ g roots (HGU.out.on (Below.same' hb5 _)) (HRU.out.on (Below.same' hb5 _)) HS.out (by omega)).mono ?_
      rintro e w6 ⟨_, rfl, hb6, rfl⟩
      have hbx6 := hbx5.below hb6 hbx5.lt
      have hbh6 := hbh5.below hb6 hbh5.lt
      have h46 := hb5.trans (hb6.mono hb5.size)
      have hB6 := hB5.trans (hb6.mono hB5.size)
      clear x0 x1 x2 hb5 hb6 hbx4 hbx5 hbh hbh5 hB5
      have y0 := hbh6.cell (i := 0) rfl
      have y1 := hbh6.cell (i := 1) rfl
      have y2 := hbh6.cell (i := 2) rfl
      dsimp only
      go_wp2_with fail
      refine (insideP_any _ (fun _ => True) _ _ g roots (HHU.out.on (Below.same' h46 _)) (HLU.out.on (Below.same' h46 _)) HS.out (by omega) fine).mono ?_
      rintro e w7 ⟨_, rfl, hb7, v1, v2, rfl, hv1, hv2⟩
      rw [open_check]
      rw [insNodes_eq] at hv1
      rw [insSets_eq] at hv2
      have hbx7 := hbx6.below hb7 hbx6.lt
      have hbh7 := hbh6.below hb7 hbh6.lt
      have h47 := h46.trans (hb7.mono h46.size)
      have hB7 := hB6.trans (hb7.mono hB6.size)
      have HV1 := Lib.hid (hv1.keep (G := fun _ => True) (fun _ _ _ => trivial) (Same.refl _ _))
      have HV2 := Lib.hid (hv2.keep (G := fun _ => True) (fun _ _ _ => trivial) (Same.refl _ _))
      clear y0 y1 y2 h46 hb7 hbx6 hbh6 hB6 hv1 hv2
      have x0 := hbx7.cell (i := 0) rfl
      have x1 := hbx7.cell (i := 1) rfl
      have x2 := hbx7.cell (i := 2) rfl
      dsimp only
      go_wp2_with fail
      refine (refInside_any _ (fun _ => True) _ _ g roots (HGU.out.on (Below.same' h47 _)) (HRU.out.on (Below.same' h47 _)) HS.out (by omega)).mono ?_
      rintro e w8 ⟨_, rfl, hb8, u1, u2, rfl, hu1, hu2⟩
      have hbx8 := hbx7.below hb8 hbx7.lt
      have hbh8 := hbh7.below hb8 hbh7.lt
      have h48 := h47.trans (hb8.mono h47.size)
      have hB8 := hB7.trans (hb8.mono hB7.size)
      have HU1 := Lib.hid (hu1.keep (G := fun _ => True) (fun _ _ _ => trivial) (Same.refl _ _))
      have HU2 := Lib.hid (hu2.keep (G := fun _ => True) (fun _ _ _ => trivial) (Same.refl _ _))
      have HV1' := Lib.hid (HV1.out.on (Below.same' hb8 _))
      have HV2' := Lib.hid (HV2.out.on (Below.same' hb8 _))
      have HLN := Lib.hid (show (insNodesL g roots).length < 1000000 ∧ (insSetsL g roots).length < 1000000 by
        refine ⟨?_, ?_⟩
        · unfold insNodesL; split
          · have h1 := marksTo_length (underL g.nodes roots) (underL g.nodes roots).length
            have h2 := underL_length g.nodes roots
            unfold marksL; omega
          · simp
        · unfold insSetsL; split
          · have h1 := setsInTo_length (underL g.nodes roots) (setsL g) g.infos.length
            unfold setsInL; omega
          · simp)
      clear x0 x1 x2 h47 hb8 hbx7 hbh7 hB7 hu1 hu2 HV1 HV2
      have x0 := hbx8.cell (i := 0) rfl
      have x1 := hbx8.cell (i := 1) rfl
      have x2 := hbx8.cell (i := 2) rfl
      have y0 := hbh8.cell (i := 0) rfl
      have y1 := hbh8.cell (i := 1) rfl
      have y2 := hbh8.cell (i := 2) rfl
      generalize closedOut g roots = co at *
      generalize checkL g roots = ck at *
      dsimp only
      have hco : (co == co) = true := by simp
      have hck : (ck == ck) = true := by simp
      go_wp2_with fail
      refine (alikeInt_any _ (fun _ => True) _ _ _ _ HV1'.out HU1.out HLN.out.1 HLN.out.1).mono ?_
      rintro e w9 ⟨rfl, n9, rfl⟩
      have hd1 : decide (insNodesL g roots = insNodesL g roots) = true := by simp
      rw [hd1]
      dsimp only
      go_wp2_with fail
      refine (alikeInt_any _ (fun _ => True) _ _ _ _ (HV2'.out.on (Same.drewN _ _ _)) (HU2.out.on (Same.drewN _ _ _)) HLN.out.2 HLN.out.2).mono ?_
      rintro e w10 ⟨rfl, n10, rfl⟩
      have hd2 : decide (insSetsL g roots = insSetsL g roots) = true := by simp
      rw [hd2]
      dsimp only
      go_wp2_with fail
      refine (alikeGame_any _ (fun _ => True) _ _ g g ((HGU.out.on (Below.same' h48 _)).on (Same.drewN _ _ _)) ((HHU.out.on (Below.same' h48 _)).on (Same.drewN _ _ _)) HS.out HS.out).mono ?_
      rintro e w11 ⟨_, rfl, hb11, rfl⟩
      have hd3 : decide (g = g) = true := by simp
      rw [hd3]
      have h811 : Below w8.heap.size w8 w11 := (below_dN (Below.refl w8.heap.size w8) _).trans hb11
      have h411 := h48.trans (h811.mono h48.size)
      have hB11 := hB8.trans (h811.mono hB8.size)
      clear x0 x1 x2 y0 y1 y2 hb11
      dsimp only
      go_wp2_with fail
      refine (alikeInt_any _ (fun _ => True) _ _ roots roots (HLU.out.on (Below.same' h411 _)) (HRU.out.on (Below.same' h411 _)) (by omega) (by omega)).mono ?_
      rintro e w12 ⟨rfl, n12, rfl⟩
      have hd4 : decide (roots = roots) = true := by simp
      rw [hd4]
      dsimp only
      go_wp2_with fail
      refine (awake_any _).mono ?_
      rintro e w13 ⟨_, rfl, hb13, rfl⟩
      dsimp only
      go_wp2
      go_ret
      have h13 : Below w11.heap.size w11 w13 := (below_dN (Below.refl w11.heap.size w11) _).trans hb13
      exact ⟨_, rfl, hB11.trans (h13.mono hB11.size), rfl⟩
  · go_wp2_with fail
    refine (awake_any _).mono ?_
    rintro e w2 ⟨_, rfl, hb2, rfl⟩
    dsimp only
    go_wp2
    go_ret
    exact ⟨_, rfl, hB1.trans (hb2.mono hB1.size), rfl⟩
end Go.Proofs.Ytafjdoedallnbaa
