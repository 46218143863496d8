/- parlourref26.Right: the error of roots. -/
import Derived.Test.YtafjdoedallnbaaSetsIn
namespace Go.Proofs.Ytafjdoedallnbaa
open Go.RowKit

theorem IntsAt.take {w : World} {F : Foot} {A : Option Addr} {c k : Nat} {l : List Int} (h : IntsAt w F (.slice A l.length c) l) (hk : k ≤ l.length) : IntsAt w F (.slice A k c) (l.take k) := by
  obtain ⟨A', c', e, hc, hr⟩ := h
  simp only [Value.slice.injEq] at e
  obtain ⟨rfl, _, rfl⟩ := e
  have hl : (l.take k).length = k := by simp; omega
  refine ⟨A, c, by rw [hl], by omega, fun h0 => ?_⟩
  obtain ⟨b, o, rfl, hb, hlt, hx⟩ := hr (by omega)
  refine ⟨b, o, rfl, hb, hlt, fun j x hj => hx j x ?_⟩
  rw [List.getElem?_take] at hj
  split at hj
  · exact hj
  · cases hj

def rangeBad (n : Nat) (l : List Int) : Bool := l.any fun r => decide (r < 0) || decide ((n : Int) ≤ r)
def orderBadAt (nodes : List Nd) (roots : List Int) (i : Nat) : Bool := decide (roots.getD i 0 ≤ roots.getD (i - 1) 0) || (underL nodes (roots.take i)).getD (roots.getD i 0).toNat false
def orderBadTo (nodes : List Nd) (roots : List Int) (m : Nat) : Bool := (List.range' 1 (m - 1)).any (orderBadAt nodes roots)
theorem orderBadTo_succ (nodes : List Nd) (roots : List Int) (m : Nat) (h : 1 ≤ m) : orderBadTo nodes roots (m + 1) = (orderBadTo nodes roots m || orderBadAt nodes roots m) := by
  unfold orderBadTo
  have : m + 1 - 1 = (m - 1) + 1 := by omega
  rw [this, List.range'_concat, List.any_append]
  simp
  rw [show 1 + (m - 1) = m by omega]
theorem orderBadTo_of {nodes : List Nd} {roots : List Int} {m k : Nat} (h : 1 ≤ m) (hm : m < k) (hb : orderBadAt nodes roots m = true) : orderBadTo nodes roots k = true := by
  unfold orderBadTo
  rw [List.any_eq_true]
  exact ⟨m, by rw [List.mem_range'_1]; omega, hb⟩
def rightL (nodes : List Nd) (roots : List Int) : Int :=
  if roots = [] then 3 else if rangeBad nodes.length roots then 2 else if orderBadTo nodes roots roots.length then 9 else 0
theorem rangeBad_false {n : Nat} {l : List Int} (h : rangeBad n l = false) : ∀ r ∈ l, 0 ≤ r ∧ r < (n : Int) := by
  intro r hr
  unfold rangeBad at h
  have := List.any_eq_false.1 h r hr
  simp at this; omega

set_option maxRecDepth 100000 in
set_option maxHeartbeats 1600000 in
theorem right_any (w : World) (F : Foot) (u vr : Value) (g : Gm) (roots : List Int) (hg : GameAt w F u g) (hr : IntsAt w F vr roots) (hsm : Small g) (h0 : 0 < g.nodes.length) (hk : KidsIn g.nodes) (hl : roots.length ≤ 1000) :
    Calls Try.prog 46 #[u, vr] w (Ret w fun v _ => v = .int .i64 (rightL g.nodes roots)) := by
  have HG := Lib.hid hg
  have HR := Lib.hid hr
  obtain ⟨vn, vi, rfl, ⟨A, c, rfl, hc, hN⟩, ⟨Ai, ci, rfl, hci, hI⟩⟩ := hg
  clear hN hI
  obtain ⟨Ar, cr, rfl, hcr, hRr⟩ := hr
  have HRr := Lib.hid hRr; clear hRr
  have HK := Lib.hid hk; clear hk
  have hn := hsm.nodes
  have HS := Lib.hid hsm; clear hsm
  by_cases hnil : roots = []
  · subst hnil
    go_enter Try.func46, Try.ntmps46
    go_wp2
    go_ret
    exact ⟨_, rfl, (Below.refl _ _).alloc (Nat.le_refl _) _, rfl⟩
  have hpos : 0 < roots.length := List.length_pos_iff.2 hnil
  have hd0 : ((roots.length : Int) == 0) = false := by simp; omega
  have HNIL := Lib.hid hnil; clear hnil
  go_enter Try.func46, Try.ntmps46
  go_wp2
  obtain ⟨W, hW⟩ : ∃ W : World, W = w.alloc (.cells #[.int .i64 g.players, .slice A g.nodes.length c, .slice Ai g.infos.length ci] 25) := ⟨_, rfl⟩
  rw [← hW]
  have hbx : Row W w.heap.size 25 [.int .i64 g.players, .slice A g.nodes.length c, .slice Ai g.infos.length ci] := by rw [hW]; exact Row.new w _ _
  have hWb : Below w.heap.size w W := by rw [hW]; exact (Below.refl _ _).alloc (Nat.le_refl _) _
  have hWz : w.heap.size < W.heap.size := by rw [hW]; simp
  clear hW
  have x1 := hbx.cell (i := 1) rfl
  have hold := below_old hWb
  go_loopw [5] (fun i wr => ∃ (k n : Nat), k ≤ roots.length ∧ i = .int .i64 k ∧ rangeBad g.nodes.length (roots.take k) = false ∧ wr = W.drewN n) (fun i _ => roots.length - (intOf i).toNat)
  case atStart => exact ⟨0, 0, by omega, rfl, rfl, rfl⟩
  case round =>
    obtain ⟨k, n, hk, rfl, hpre, rfl⟩ := hrel
    have HP := Lib.hid hpre; clear hpre
    by_cases hlt : k < roots.length
    · obtain ⟨b, o, rfl, _, hb, hx⟩ := HRr.out (by omega)
      obtain ⟨r, hr⟩ := getSome hlt
      have er := hx k r hr
      unfold intE at er
      rw [Nat.mul_one] at er
      have HX := Lib.hid hr; clear hr hx
      have BAD := Lib.hid (show (r < 0 ∨ (g.nodes.length : Int) ≤ r) → rightL g.nodes roots = 2 by
        intro hb
        have : rangeBad g.nodes.length roots = true := List.any_eq_true.2 ⟨r, List.mem_of_getElem? HX.out, by simpa using hb⟩
        unfold rightL; rw [if_neg HNIL.out, if_pos this])
      by_cases q0 : r < 0
      · have hd : decide (r < 0) = true := by simp [q0]
        have HF := Lib.hid (BAD.out (.inl q0))
        go_wp2
        go_quiet (fail)
        go_wp2
        go_ret
        refine ⟨_, rfl, ?_, by rw [HF.out]; rfl⟩
        exact ⟨hWb.os, hWb.tape, hWb.output, hWb.size, hWb.block⟩
      · have hd : decide (r < 0) = false := by simp [q0]
        by_cases q1 : (g.nodes.length : Int) ≤ r
        · have HF := Lib.hid (BAD.out (.inr q1))
          go_wp2
          go_quiet (fail)
          go_wp2
          go_ret
          refine ⟨_, rfl, ?_, by rw [HF.out]; rfl⟩
          exact ⟨hWb.os, hWb.tape, hWb.output, hWb.size, hWb.block⟩
        · have hd1 : decide ((g.nodes.length : Int) ≤ r) = false := by simp; omega
          go_wp2
          go_quiet (fail)
          go_wp2
          go_roundw
          case rel =>
            refine ⟨k + 1, n + nq, by omega, by go_num, ?_, rfl⟩
            exact any_snoc HX.out HP.out (by simp; omega)
          case measure => simp [intOf]; omega
    · have hrb : rangeBad g.nodes.length roots = false := by
        have := HP.out; rw [List.take_of_length_le (by omega)] at this; exact this
      have HRB := Lib.hid hrb; clear hrb
      have x0 := hbx.cell (i := 0) rfl
      have x2 := hbx.cell (i := 2) rfl
      go_wp2
      go_loopw [6] (fun i wr => ∃ m : Nat, 1 ≤ m ∧ m ≤ roots.length ∧ i = .int .i64 m ∧ orderBadTo g.nodes roots m = false ∧ Below W.heap.size W wr) (fun i _ => roots.length - (intOf i).toNat)
      case atStart => exact ⟨1, by omega, by omega, rfl, rfl, ⟨rfl, rfl, rfl, Nat.le_refl _, fun _ _ => rfl⟩⟩
      case round =>
        obtain ⟨m, hm1, hm, rfl, hpre, hbel⟩ := hrel
        have HPM := Lib.hid hpre; clear hpre
        by_cases hmt : m < roots.length
        · obtain ⟨b, o, rfl, _, hb, hx⟩ := HRr.out (by omega)
          obtain ⟨r, hr⟩ := getSome hmt
          obtain ⟨p, hp⟩ := getSome (l := roots) (k := m - 1) (by omega)
          have er := hx m r hr
          have ep := hx (m - 1) p hp
          unfold intE at er ep
          rw [Nat.mul_one] at er ep
          have hbW : b < W.heap.size := by omega
          obtain ⟨hr0, hr1⟩ := rangeBad_false HRB.out r (List.mem_of_getElem? hr)
          have HAT := Lib.hid (show orderBadAt g.nodes roots m = (decide (r ≤ p) || (underL g.nodes (roots.take m)).getD r.toNat false) by
            unfold orderBadAt; simp [List.getD_eq_getElem?_getD, hr, hp])
          have BAD := Lib.hid (show orderBadAt g.nodes roots m = true → rightL g.nodes roots = 9 by
            intro hb
            unfold rightL; rw [if_neg HNIL.out, HRB.out, orderBadTo_of hm1 hmt hb]; rfl)
          clear hr hp hx
          have hold2 := below_old hbel
          by_cases q0 : r ≤ p
          · have hd : decide (r ≤ p) = true := by simp [q0]
            have HF := Lib.hid (BAD.out (by rw [HAT.out, hd]; rfl))
            go_wp2
            go_quiet (fail)
            go_wp2
            go_ret
            refine ⟨_, rfl, hWb.trans ((hbel.mono (by omega)).trans ?_), by rw [HF.out]; rfl⟩
            exact ⟨rfl, rfl, rfl, Nat.le_refl _, fun _ _ => rfl⟩
          · have hd : decide (r ≤ p) = false := by simp; omega
            have hmI : (m : Int) ≤ (roots.length : Int) := by omega
            go_wp2
            have hw1 : IntKind.i64.wrap ((m : Int) - 1) = ((m - 1 : Nat) : Int) := by rw [IntWalk.i64_in _ (by omega)]; omega
            have hm2 : m - 1 < roots.length := by omega
            have hm3 : m ≤ cr := by omega
            have hbd : Below wr.heap.size wr wr.drew := ⟨rfl, rfl, rfl, Nat.le_refl _, fun _ _ => rfl⟩
            refine wp_region_held_drew (S := fun w' => ∀ b o, b < W.heap.size → w'.cell? ⟨b, o, none⟩ = W.cell? ⟨b, o, none⟩) (by kernel_rfl) hold2 (fun hHeld => ?_)
            refine wpAnyH_take (i := 0) (v := ?_) rfl (by kernel_rfl) (by kernel_rfl) (by kernel_rfl) (fun _ _ _ h => h) (Or.inl ⟨by rfl, ?_⟩) hHeld ?_
            rotate_left
            · intro wx hSx; (try dsimp only at hSx); go_split_ands; go_simp; try (with_reducible rfl)
            try simp only [Act.put, List.getElem_toArray, List.getElem_cons_zero, List.getElem_cons_succ, List.setIfInBounds_toArray, List.set_cons_zero, List.set_cons_succ]
            refine wpAnyH_take (i := 1) (v := ?_) rfl (by kernel_rfl) (by kernel_rfl) (by kernel_rfl) (fun _ _ _ h => h) (Or.inl ⟨by rfl, ?_⟩) hHeld ?_
            rotate_left
            · intro wx hSx; (try dsimp only at hSx); go_split_ands; go_simp; try (with_reducible rfl)
            try simp only [Act.put, List.getElem_toArray, List.getElem_cons_zero, List.getElem_cons_succ, List.setIfInBounds_toArray, List.set_cons_zero, List.set_cons_succ]
            refine wpAnyH_take (i := 2) (v := ?_) rfl (by kernel_rfl) (by kernel_rfl) (by kernel_rfl) (fun _ _ _ h => h) (Or.inl ⟨by rfl, ?_⟩) hHeld ?_
            rotate_left
            · intro wx hSx; (try dsimp only at hSx); go_split_ands; go_simp; try (with_reducible rfl)
            try simp only [Act.put, List.getElem_toArray, List.getElem_cons_zero, List.getElem_cons_succ, List.setIfInBounds_toArray, List.set_cons_zero, List.set_cons_succ]
            refine wpAnyH_take (i := 3) (v := ?_) rfl (by kernel_rfl) (by kernel_rfl) (by kernel_rfl) (fun _ _ _ h => h) (Or.inl ⟨by rfl, ?_⟩) hHeld ?_
            rotate_left
            · intro wx hSx; (try dsimp only at hSx); go_split_ands; go_simp; try (with_reducible rfl)
            try simp only [Act.put, List.getElem_toArray, List.getElem_cons_zero, List.getElem_cons_succ, List.setIfInBounds_toArray, List.set_cons_zero, List.set_cons_succ]
            refine wpAnyH_take (i := 4) (v := ?_) rfl (by kernel_rfl) (by kernel_rfl) (by kernel_rfl) (fun _ _ _ h => h) (Or.inl ⟨by rfl, ?_⟩) hHeld ?_
            rotate_left
            · intro wx hSx; (try dsimp only at hSx); go_split_ands; go_simp; try (with_reducible rfl)
            try simp only [Act.put, List.getElem_toArray, List.getElem_cons_zero, List.getElem_cons_succ, List.setIfInBounds_toArray, List.set_cons_zero, List.set_cons_succ]
            refine wpAnyH_take (i := 5) (v := ?_) rfl (by kernel_rfl) (by kernel_rfl) (by kernel_rfl) (fun _ _ _ h => h) (Or.inl ⟨by rfl, ?_⟩) hHeld ?_
            rotate_left
            · intro wx hSx; (try dsimp only at hSx); go_split_ands; go_simp; try (with_reducible rfl)
            try simp only [Act.put, List.getElem_toArray, List.getElem_cons_zero, List.getElem_cons_succ, List.setIfInBounds_toArray, List.set_cons_zero, List.set_cons_succ]
            refine wpAnyH_take (i := 6) (v := ?_) rfl (by kernel_rfl) (by kernel_rfl) (by kernel_rfl) (fun _ _ _ h => h) (Or.inl ⟨by rfl, ?_⟩) hHeld ?_
            rotate_left
            · intro wx hSx; (try dsimp only at hSx); go_split_ands; go_simp; try (with_reducible rfl)
            try simp only [Act.put, List.getElem_toArray, List.getElem_cons_zero, List.getElem_cons_succ, List.setIfInBounds_toArray, List.set_cons_zero, List.set_cons_succ]
            refine wpAnyH_take (i := 7) (v := ?_) rfl (by kernel_rfl) (by kernel_rfl) (by kernel_rfl) (fun _ _ _ h => h) (Or.inl ⟨by rfl, ?_⟩) hHeld ?_
            rotate_left
            · intro wx hSx; (try dsimp only at hSx); go_split_ands; go_simp; try (with_reducible rfl)
            try simp only [Act.put, List.getElem_toArray, List.getElem_cons_zero, List.getElem_cons_succ, List.setIfInBounds_toArray, List.set_cons_zero, List.set_cons_succ]
            refine wpAnyH_take (i := 8) (v := ?_) rfl (by kernel_rfl) (by kernel_rfl) (by kernel_rfl) (fun _ _ _ h => h) (Or.inl ⟨by rfl, ?_⟩) hHeld ?_
            rotate_left
            · intro wx hSx; (try dsimp only at hSx); go_split_ands; go_simp; try (with_reducible rfl)
            try simp only [Act.put, List.getElem_toArray, List.getElem_cons_zero, List.getElem_cons_succ, List.setIfInBounds_toArray, List.set_cons_zero, List.set_cons_succ]
            refine wpAnyH_take (i := 9) (v := ?_) rfl (by kernel_rfl) (by kernel_rfl) (by kernel_rfl) (fun _ _ _ h => h) (Or.inl ⟨by rfl, ?_⟩) hHeld ?_
            rotate_left
            · intro wx hSx; (try dsimp only at hSx); go_split_ands; go_simp; try (with_reducible rfl)
            try simp only [Act.put, List.getElem_toArray, List.getElem_cons_zero, List.getElem_cons_succ, List.setIfInBounds_toArray, List.set_cons_zero, List.set_cons_succ]
            refine wpAnyH_take (i := 10) (v := ?_) rfl (by kernel_rfl) (by kernel_rfl) (by kernel_rfl) (fun _ _ _ h => h) (Or.inl ⟨by rfl, ?_⟩) hHeld ?_
            rotate_left
            · intro wx hSx; (try dsimp only at hSx); go_split_ands; go_simp; try (with_reducible rfl)
            try simp only [Act.put, List.getElem_toArray, List.getElem_cons_zero, List.getElem_cons_succ, List.setIfInBounds_toArray, List.set_cons_zero, List.set_cons_succ]
            refine wpAnyH_take (i := 11) (v := ?_) rfl (by kernel_rfl) (by kernel_rfl) (by kernel_rfl) (fun _ _ _ h => h) (Or.inl ⟨by rfl, ?_⟩) hHeld ?_
            rotate_left
            · intro wx hSx; (try dsimp only at hSx); go_split_ands; go_simp; try (with_reducible rfl)
            try simp only [Act.put, List.getElem_toArray, List.getElem_cons_zero, List.getElem_cons_succ, List.setIfInBounds_toArray, List.set_cons_zero, List.set_cons_succ]
            refine wpAnyH_take (i := 12) (v := ?_) rfl (by kernel_rfl) (by kernel_rfl) (by kernel_rfl) (fun _ _ _ h => h) (Or.inl ⟨by rfl, ?_⟩) hHeld ?_
            rotate_left
            · intro wx hSx; (try dsimp only at hSx); go_split_ands; go_simp; try (with_reducible rfl)
            try simp only [Act.put, List.getElem_toArray, List.getElem_cons_zero, List.getElem_cons_succ, List.setIfInBounds_toArray, List.set_cons_zero, List.set_cons_succ]
            refine wpAnyH_take (i := 13) (v := ?_) rfl (by kernel_rfl) (by kernel_rfl) (by kernel_rfl) (fun _ _ _ h => h) (Or.inl ⟨by rfl, ?_⟩) hHeld ?_
            rotate_left
            · intro wx hSx; (try dsimp only at hSx); go_split_ands; go_simp; try (with_reducible rfl)
            try simp only [Act.put, List.getElem_toArray, List.getElem_cons_zero, List.getElem_cons_succ, List.setIfInBounds_toArray, List.set_cons_zero, List.set_cons_succ]
            refine wpAnyH_take (i := 14) (v := ?_) rfl (by kernel_rfl) (by kernel_rfl) (by kernel_rfl) (fun _ _ _ h => h) (Or.inl ⟨by rfl, ?_⟩) hHeld ?_
            rotate_left
            · intro wx hSx; (try dsimp only at hSx); go_split_ands; go_simp; try (with_reducible rfl)
            try simp only [Act.put, List.getElem_toArray, List.getElem_cons_zero, List.getElem_cons_succ, List.setIfInBounds_toArray, List.set_cons_zero, List.set_cons_succ]
            refine wpAnyH_take (i := 16) (v := ?_) rfl (by kernel_rfl) (by kernel_rfl) (by kernel_rfl) (fun _ _ _ h => h) (Or.inl ⟨by rfl, ?_⟩) hHeld ?_
            rotate_left
            · intro wx hSx; (try dsimp only at hSx); go_split_ands; go_simp; try (with_reducible rfl)
            try simp only [Act.put, List.getElem_toArray, List.getElem_cons_zero, List.getElem_cons_succ, List.setIfInBounds_toArray, List.set_cons_zero, List.set_cons_succ]
            refine wpAnyH_take (i := 17) (v := ?_) rfl (by kernel_rfl) (by kernel_rfl) (by kernel_rfl) (fun _ _ _ h => h) (Or.inl ⟨by rfl, ?_⟩) hHeld ?_
            rotate_left
            · intro wx hSx; (try dsimp only at hSx); go_split_ands; go_simp; try (with_reducible rfl)
            try simp only [Act.put, List.getElem_toArray, List.getElem_cons_zero, List.getElem_cons_succ, List.setIfInBounds_toArray, List.set_cons_zero, List.set_cons_succ]
            refine wpAnyH_take (i := 18) (v := ?_) rfl (by kernel_rfl) (by kernel_rfl) (by kernel_rfl) (fun _ _ _ h => h) (Or.inl ⟨by rfl, ?_⟩) hHeld ?_
            rotate_left
            · intro wx hSx; (try dsimp only at hSx); go_split_ands; go_simp; try (with_reducible rfl)
            try simp only [Act.put, List.getElem_toArray, List.getElem_cons_zero, List.getElem_cons_succ, List.setIfInBounds_toArray, List.set_cons_zero, List.set_cons_succ]
            refine wpAnyH_take (i := 19) (v := ?_) rfl (by kernel_rfl) (by kernel_rfl) (by kernel_rfl) (fun _ _ _ h => h) (Or.inl ⟨by rfl, ?_⟩) hHeld ?_
            rotate_left
            · intro wx hSx; (try dsimp only at hSx); go_split_ands; go_simp; try (with_reducible rfl)
            try simp only [Act.put, List.getElem_toArray, List.getElem_cons_zero, List.getElem_cons_succ, List.setIfInBounds_toArray, List.set_cons_zero, List.set_cons_succ]
            refine wpAnyH_ready (rs := [15]) (by kernel_rfl) (by simp) ?_
            refine AllReadyH.cons (o := _) rfl (fun K hK => ?_) AllReadyH.nil
            go_simp
            have hGd := (((HG.out.on (Below.same' hWb F)).on (Below.same' hbel F)).on (Below.same' hbd F))
            have hRd := (((HR.out.on (Below.same' hWb F)).on (Below.same' hbel F)).on (Below.same' hbd F))
            refine (under_any _ F _ _ g (roots.take m) hGd (hRd.take hm) HS.out h0 HK.out (by simp; omega) (fun x hx => rangeBad_false HRB.out x (List.mem_of_mem_take hx))).mono ?_
            rintro e w1 ⟨vu, rfl, hb1, hun⟩
            clear hGd hRd
            have hb1' : Below W.heap.size W w1 := hbel.drew.trans (hb1.mono hbel.size)
            dsimp only
            refine hK.out _ _ (below_old hb1') (fun hHeld => ?_)
            clear hK K
            try simp only [Act.put, List.getElem_toArray, List.getElem_cons_zero, List.getElem_cons_succ, List.setIfInBounds_toArray, List.set_cons_zero, List.set_cons_succ]
            have hul := underL_length g.nodes (roots.take m)
            obtain ⟨Au, cu, rfl, hcu, hU⟩ := hun
            obtain ⟨bu, ou, rfl, _, hbu, hxu⟩ := hU (by omega)
            obtain ⟨y, hy⟩ := getSome (l := underL g.nodes (roots.take m)) (k := r.toNat) (by omega)
            have ey := hxu _ y hy
            unfold boolE at ey
            rw [Nat.mul_one] at ey
            have hrn : r < ((underL g.nodes (roots.take m)).length : Int) := by omega
            have HAT2 := Lib.hid (show orderBadAt g.nodes roots m = y by rw [HAT.out, hd]; simp [List.getD_eq_getElem?_getD, hy])
            clear hU hxu hy hul
            refine wpAnyH_take (i := 20) (v := ?_) rfl (by kernel_rfl) (by kernel_rfl) (by kernel_rfl) (fun _ _ _ h => h) (Or.inl ⟨by rfl, ?_⟩) hHeld ?_
            rotate_left
            · intro wx hSx; (try dsimp only at hSx); go_split_ands; go_simp; try (with_reducible rfl)
            try simp only [Act.put, List.getElem_toArray, List.getElem_cons_zero, List.getElem_cons_succ, List.setIfInBounds_toArray, List.set_cons_zero, List.set_cons_succ]
            refine wpAnyH_ready (rs := [21]) (by kernel_rfl) (by simp) ?_
            refine AllReadyH.cons (o := _) rfl (fun K hK => ?_) AllReadyH.nil
            go_simp
            refine hK.out _ _ (below_old hb1') (fun hHeld => ?_)
            clear hK K
            try simp only [Act.put, List.getElem_toArray, List.getElem_cons_zero, List.getElem_cons_succ, List.setIfInBounds_toArray, List.set_cons_zero, List.set_cons_succ]
            refine wpAnyH_take (i := 22) (v := ?_) rfl (by kernel_rfl) (by kernel_rfl) (by kernel_rfl) (fun _ _ _ h => h) (Or.inl ⟨by rfl, ?_⟩) hHeld ?_
            rotate_left
            · intro wx hSx; (try dsimp only at hSx); go_split_ands; go_simp; try (with_reducible rfl)
            try simp only [Act.put, List.getElem_toArray, List.getElem_cons_zero, List.getElem_cons_succ, List.setIfInBounds_toArray, List.set_cons_zero, List.set_cons_succ]
            refine wpAnyH_done (by kernel_rfl) ?_ _
            cases y
            · go_wp2
              go_roundw
              case rel =>
                refine ⟨m + 1, by omega, by omega, by go_num, ?_, hb1'⟩
                rw [orderBadTo_succ _ _ _ hm1, HPM.out, HAT2.out]; rfl
              case measure => simp [intOf]; omega
            · have HF := Lib.hid (BAD.out HAT2.out)
              go_wp2
              go_ret
              exact ⟨_, rfl, hWb.trans (hb1'.mono (by omega)), by rw [HF.out]; rfl⟩
        · go_wp2
          go_ret
          have hme : m = roots.length := by omega
          refine ⟨_, rfl, hWb.trans (hbel.mono (by omega)), ?_⟩
          have : rightL g.nodes roots = 0 := by
            unfold rightL; rw [if_neg HNIL.out, HRB.out]
            have := HPM.out; rw [hme] at this; rw [this]; rfl
          rw [this]; rfl
end Go.Proofs.Ytafjdoedallnbaa
