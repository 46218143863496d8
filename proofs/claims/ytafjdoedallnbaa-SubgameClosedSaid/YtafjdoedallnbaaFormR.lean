/- parlourref11.Form: the error of a game. -/
import Derived.Test.YtafjdoedallnbaaNodeErr
import Derived.Test.YtafjdoedallnbaaWalkR
import Derived.Test.YtafjdoedallnbaaSetsIn
namespace Go.Proofs.Ytafjdoedallnbaa
open Go.RowKit

def sizeBad (g : Gm) : Prop := g.players < 1 ∨ 4 < g.players ∨ g.nodes.length < 1 ∨ 2000 < g.nodes.length ∨ 200 < g.infos.length
instance (g : Gm) : Decidable (sizeBad g) := by unfold sizeBad; infer_instance
/-- the first error of some nodes by themselves -/
def nodesErr (players : Int) (ni : Nat) : List Nd → Int
  | [] => 0
  | x :: l => if nodeErr players ni x ≠ 0 then nodeErr players ni x else nodesErr players ni l
def typeBadAt (infos : List Inf) (x : Nd) : Bool := decide (x.kind = 2) && (decide ((infos.getD x.info.toNat default).player ≠ x.player) || decide ((infos.getD x.info.toNat default).actions ≠ (x.next.length : Int)))
def typeBad (g : Gm) : Bool := g.nodes.any (typeBadAt g.infos)
def noneBad (sets : List (List Int)) : Bool := sets.any fun l => decide (l.length = 0)
def firstBadAt (sets : List (List Int)) (i : Nat) : Bool := decide ((sets.getD i []).getD 0 0 < (sets.getD (i - 1) []).getD 0 0)
def firstBadTo (sets : List (List Int)) (m : Nat) : Bool := (List.range' 1 (m - 1)).any (firstBadAt sets)
def setsErr (g : Gm) : Int := if typeBad g then 10 else if noneBad (setsL g) then 18 else if firstBadTo (setsL g) g.infos.length then 9 else 0
def formL (g : Gm) : Int :=
  if sizeBad g then 2 else if nodesErr g.players g.infos.length g.nodes ≠ 0 then nodesErr g.players g.infos.length g.nodes
  else if (walkR g.nodes (g.nodes.length + 1) 0 0 0).1 ≠ g.nodes.length then 9 else if 40 < (walkR g.nodes (g.nodes.length + 1) 0 0 0).2 then 5 else setsErr g

theorem nodesErr_drop {players : Int} {ni : Nat} {l : List Nd} {k : Nat} {x : Nd} (h : l[k]? = some x) : nodesErr players ni (l.drop k) = if nodeErr players ni x ≠ 0 then nodeErr players ni x else nodesErr players ni (l.drop (k + 1)) := by
  have hl := lt_of_get h
  rw [List.drop_eq_getElem_cons hl]
  have : l[k] = x := by simpa [hl] using h
  rw [this]; rfl
theorem nodesErr_zero {players : Int} {ni : Nat} : ∀ {l : List Nd}, nodesErr players ni l = 0 → ∀ x ∈ l, nodeErr players ni x = 0
  | [], _, _, h => by cases h
  | y :: l, h, x, hx => by
    unfold nodesErr at h
    split at h
    · rename_i h1; exact absurd h h1
    · rename_i h1
      rcases List.mem_cons.1 hx with rfl | hx
      · simpa using h1
      · exact nodesErr_zero h x hx
theorem infosIn_of {g : Gm} (h : nodesErr g.players g.infos.length g.nodes = 0) : InfosIn g := by
  intro x hx hk
  have := nodesErr_zero h x hx
  unfold nodeErr moveErr at this
  rw [if_neg (by omega), if_pos hk] at this
  split at this
  · omega
  · split at this
    · omega
    · omega
theorem firstBadTo_succ (sets : List (List Int)) (m : Nat) (h : 1 ≤ m) : firstBadTo sets (m + 1) = (firstBadTo sets m || firstBadAt sets m) := by
  unfold firstBadTo
  have : m + 1 - 1 = (m - 1) + 1 := by omega
  rw [this, List.range'_concat, List.any_append]
  simp
  rw [show 1 + (m - 1) = m by omega]
theorem firstBadTo_of {sets : List (List Int)} {m k : Nat} (h : 1 ≤ m) (hm : m < k) (hb : firstBadAt sets m = true) : firstBadTo sets k = true := by
  unfold firstBadTo
  rw [List.any_eq_true]
  exact ⟨m, by rw [List.mem_range'_1]; omega, hb⟩

set_option maxRecDepth 100000 in
set_option maxHeartbeats 6400000 in
theorem formR_any (w : World) (F : Foot) (u : Value) (g : Gm) (hg : GameAt w F u g) (hsm : Small g) :
    Calls Try.prog 37 #[u] w (Ret w fun v _ => v = .int .i64 (formL g)) := by
  have HG := Lib.hid hg
  obtain ⟨vn, vi, rfl, ⟨A, c, rfl, hc, hN⟩, ⟨Ai, ci, rfl, hci, hI⟩⟩ := hg
  have HN := Lib.hid hN; have HI := Lib.hid hI; clear hN hI
  have hn := hsm.nodes
  have hni := hsm.infos
  have HS := Lib.hid hsm; clear hsm
  by_cases q0 : g.players < 1
  · have HF := Lib.hid (show formL g = 2 by unfold formL; rw [if_pos (by unfold sizeBad; omega)])
    go_enter Try.func37, Try.ntmps37
    go_wp2
    go_ret
    exact ⟨_, rfl, (Below.refl _ _).alloc (Nat.le_refl _) _, by rw [HF.out]; rfl⟩
  have d0 : decide (g.players < 1) = false := decide_eq_false (by omega)
  by_cases q1 : 4 < g.players
  · have HF := Lib.hid (show formL g = 2 by unfold formL; rw [if_pos (by unfold sizeBad; omega)])
    go_enter Try.func37, Try.ntmps37
    go_wp2
    go_ret
    exact ⟨_, rfl, (Below.refl _ _).alloc (Nat.le_refl _) _, by rw [HF.out]; rfl⟩
  have d1 : decide ((4 : Int) < g.players) = false := decide_eq_false (by omega)
  by_cases q2 : g.nodes.length < 1
  · have HF := Lib.hid (show formL g = 2 by unfold formL; rw [if_pos (by unfold sizeBad; omega)])
    go_enter Try.func37, Try.ntmps37
    go_wp2
    go_ret
    exact ⟨_, rfl, (Below.refl _ _).alloc (Nat.le_refl _) _, by rw [HF.out]; rfl⟩
  have d2 : decide ((g.nodes.length : Int) < 1) = false := decide_eq_false (by omega)
  have HV := Lib.hid (show formL g = if nodesErr g.players g.infos.length g.nodes ≠ 0 then nodesErr g.players g.infos.length g.nodes
      else if (walkR g.nodes (g.nodes.length + 1) 0 0 0).1 ≠ g.nodes.length then 9 else if 40 < (walkR g.nodes (g.nodes.length + 1) 0 0 0).2 then 5 else setsErr g by
    unfold formL; rw [if_neg (by unfold sizeBad; omega)])
  obtain ⟨b, o, rfl, hbF, hb, hcell⟩ := HN.out (by omega)
  have HC := Lib.hid hcell; clear hcell
  go_enter Try.func37, Try.ntmps37
  go_wp2
  go_loopw [3] (fun i wr => ∃ k : Nat, k ≤ g.nodes.length ∧ i = .int .i64 k ∧ Row wr w.heap.size 25 [.int .i64 g.players, .slice (some ⟨b, o, none⟩) g.nodes.length c, .slice Ai g.infos.length ci] ∧ Below w.heap.size w wr ∧ nodesErr g.players g.infos.length g.nodes = nodesErr g.players g.infos.length (g.nodes.drop k)) (fun i _ => g.nodes.length - (intOf i).toNat)
  case atStart => exact ⟨0, by omega, rfl, Row.new w _ _, (Below.refl _ _).alloc (Nat.le_refl _) _, rfl⟩
  case round =>
    obtain ⟨k, hk, rfl, hbx, hbel, hval⟩ := hrel
    have HV1 := Lib.hid hval; clear hval
    have x0 := hbx.cell (i := 0) rfl
    have x1 := hbx.cell (i := 1) rfl
    have x2 := hbx.cell (i := 2) rfl
    have hold := below_old hbel
    by_cases hlt : k < g.nodes.length
    · obtain ⟨x, hx⟩ := getSome hlt
      obtain ⟨e0, e1, e2, ⟨v3, e3, i3⟩, ⟨v4, e4, i4⟩, ⟨v5, e5, i5⟩⟩ := HC.out k x hx
      have V := Lib.hid (show NodeV w F _ x from ⟨v3, v4, v5, rfl, i3, i4, i5⟩)
      clear i3 i4 i5
      have M := List.mem_of_getElem? hx
      have L : x.next.length < 1000000 ∧ x.weights.length < 1000000 ∧ x.pay.length < 1000000 := ⟨by have := HS.out.next x M; omega, by have := HS.out.weights x M; omega, by have := HS.out.pay x M; omega⟩
      have HL := Lib.hid L; clear L M
      have HV2 := Lib.hid (HV1.out.trans (nodesErr_drop hx)); clear hx
      have hbw : b < wr.heap.size := by have := hbel.size; omega
      have hBw : w.heap.size < wr.heap.size := hbx.lt
      go_wp2
      refine wp_region_held_drew (S := fun w' => ∀ b o, b < wr.heap.size → w'.cell? ⟨b, o, none⟩ = wr.cell? ⟨b, o, none⟩) (by kernel_rfl) (fun _ _ _ => rfl) (fun hHeld => ?_)
      refine wpAnyH_take (i := 0) (v := ?_) rfl (by kernel_rfl) (by kernel_rfl) (by kernel_rfl) (fun _ _ _ h => h) (Or.inl ⟨by rfl, ?_⟩) hHeld ?_
      rotate_left
      · intro wx hSx; (try dsimp only at hSx); go_split_ands; go_simp; try (with_reducible rfl)
      try simp only [Act.put, List.getElem_toArray, List.getElem_cons_zero, List.getElem_cons_succ, List.setIfInBounds_toArray, List.set_cons_zero, List.set_cons_succ]
      refine wpAnyH_take (i := 1) (v := ?_) rfl (by kernel_rfl) (by kernel_rfl) (by kernel_rfl) (fun _ _ _ h => h) (Or.inl ⟨by rfl, ?_⟩) hHeld ?_
      rotate_left
      · intro wx hSx; (try dsimp only at hSx); go_split_ands; go_simp; try (with_reducible rfl)
      try simp only [Act.put, List.getElem_toArray, List.getElem_cons_zero, List.getElem_cons_succ, List.setIfInBounds_toArray, List.set_cons_zero, List.set_cons_succ]
      refine wpAnyH_take (i := 2) (v := ?_) rfl (by kernel_rfl) (by kernel_rfl) (by kernel_rfl) (fun _ _ _ h => h) (Or.inl ⟨by rfl, ?_⟩) hHeld ?_
      rotate_left
      · intro wx hSx; (try dsimp only at hSx); go_split_ands; go_simp; try (with_reducible rfl)
      try simp only [Act.put, List.getElem_toArray, List.getElem_cons_zero, List.getElem_cons_succ, List.setIfInBounds_toArray, List.set_cons_zero, List.set_cons_succ]
      refine wpAnyH_take (i := 3) (v := ?_) rfl (by kernel_rfl) (by kernel_rfl) (by kernel_rfl) (fun _ _ _ h => h) (Or.inl ⟨by rfl, ?_⟩) hHeld ?_
      rotate_left
      · intro wx hSx; (try dsimp only at hSx); go_split_ands; go_simp; try (with_reducible rfl)
      try simp only [Act.put, List.getElem_toArray, List.getElem_cons_zero, List.getElem_cons_succ, List.setIfInBounds_toArray, List.set_cons_zero, List.set_cons_succ]
      refine wpAnyH_take (i := 4) (v := ?_) rfl (by kernel_rfl) (by kernel_rfl) (by kernel_rfl) (fun _ _ _ h => h) (Or.inl ⟨by rfl, ?_⟩) hHeld ?_
      rotate_left
      · intro wx hSx; (try dsimp only at hSx); go_split_ands; go_simp; try (with_reducible rfl)
      try simp only [Act.put, List.getElem_toArray, List.getElem_cons_zero, List.getElem_cons_succ, List.setIfInBounds_toArray, List.set_cons_zero, List.set_cons_succ]
      refine wpAnyH_take (i := 5) (v := ?_) rfl (by kernel_rfl) (by kernel_rfl) (by kernel_rfl) (fun _ _ _ h => h) (Or.inl ⟨by rfl, ?_⟩) hHeld ?_
      rotate_left
      · intro wx hSx; (try dsimp only at hSx); go_split_ands; go_simp; try (with_reducible rfl)
      try simp only [Act.put, List.getElem_toArray, List.getElem_cons_zero, List.getElem_cons_succ, List.setIfInBounds_toArray, List.set_cons_zero, List.set_cons_succ]
      refine wpAnyH_ready (rs := [6]) (by kernel_rfl) (by simp) ?_
      refine AllReadyH.cons (o := _) rfl (fun K hK => ?_) AllReadyH.nil
      go_simp
      refine (node_any _ F _ _ g x (HG.out.on (Below.same' hbel.drew F)) (V.out.on (Below.same' hbel.drew F)) HL.out (by omega)).mono ?_
      rintro e w1 ⟨_, rfl, hb1, rfl⟩
      have hb1' : Below wr.heap.size wr w1 := (Below.refl _ _).drew.trans hb1
      dsimp only
      refine hK.out _ _ (below_old hb1') (fun hHeld => ?_)
      clear hK K
      try simp only [Act.put, List.getElem_toArray, List.getElem_cons_zero, List.getElem_cons_succ, List.setIfInBounds_toArray, List.set_cons_zero, List.set_cons_succ]
      refine wpAnyH_take (i := 7) (v := ?_) rfl (by kernel_rfl) (by kernel_rfl) (by kernel_rfl) (fun _ _ _ h => h) (Or.inl ⟨by rfl, ?_⟩) hHeld ?_
      rotate_left
      · intro wx hSx; (try dsimp only at hSx); go_split_ands; go_simp; try (with_reducible rfl)
      try simp only [Act.put, List.getElem_toArray, List.getElem_cons_zero, List.getElem_cons_succ, List.setIfInBounds_toArray, List.set_cons_zero, List.set_cons_succ]
      refine wpAnyH_done (by kernel_rfl) ?_ _
      generalize nodeErr g.players g.infos.length x = er at *
      by_cases he : er = 0
      · subst he
        go_wp2
        go_roundw
        case rel =>
          refine ⟨k + 1, by omega, by go_num, hbx.below hb1' hbx.lt, hbel.trans (hb1'.mono hbel.size), ?_⟩
          rw [HV2.out]; simp
        case measure => simp [intOf]; omega
      · have hd : (er != 0) = true := by simp [he]
        have HF := Lib.hid (show formL g = er by rw [HV.out, HV2.out]; simp [he])
        clear he
        go_wp2
        go_ret
        exact ⟨_, rfl, hbel.trans (hb1'.mono hbel.size), by rw [HF.out]; rfl⟩
    · have HNE := Lib.hid (show nodesErr g.players g.infos.length g.nodes = 0 by
        rw [HV1.out, List.drop_eq_nil_of_le (by omega)]; rfl)
      go_wp2
      obtain ⟨W, hW⟩ : ∃ W : World, W = wr.alloc (.cells #[.int .i64 0] 3) := ⟨_, rfl⟩
      rw [← hW]
      have hbd : Row W wr.heap.size 3 [.int .i64 0] := by rw [hW]; exact Row.new wr _ _
      have hbx2 := hbx.alloc (.cells #[.int .i64 0] 3)
      rw [← hW] at hbx2
      have hWb : Below w.heap.size w W := by rw [hW]; exact hbel.alloc hbel.size _
      have hBw : w.heap.size < wr.heap.size := hbx.lt
      clear hW hbx x0 x1 x2 hold hbel
      have hGW : GameAt W (fun b => b ≠ wr.heap.size) _ g := HG.out.keep (fun b _ hl => by omega) (Below.same' hWb F)
      have HGW := Lib.hid hGW; clear hGW
      have x0 := hbx2.cell (i := 0) rfl
      have x1 := hbx2.cell (i := 1) rfl
      have x2 := hbx2.cell (i := 2) rfl
      refine wp_region_held_drew (S := fun w' => w'.cell? ⟨w.heap.size, 0, none⟩ = some (.int .i64 g.players) ∧ w'.cell? ⟨w.heap.size, 1, none⟩ = some (.slice (some ⟨b, o, none⟩) g.nodes.length c) ∧ w'.cell? ⟨w.heap.size, 2, none⟩ = some (.slice Ai g.infos.length ci)) (by kernel_rfl) ⟨x0, x1, x2⟩ (fun hHeld => ?_)
      refine wpAnyH_take (i := 0) (v := ?_) rfl (by kernel_rfl) (by kernel_rfl) (by kernel_rfl) (fun _ _ _ h => h) (Or.inl ⟨by rfl, ?_⟩) hHeld ?_
      rotate_left
      · intro wx hSx; (try dsimp only at hSx); go_split_ands; go_simp; try (with_reducible rfl)
      try simp only [Act.put, List.getElem_toArray, List.getElem_cons_zero, List.getElem_cons_succ, List.setIfInBounds_toArray, List.set_cons_zero, List.set_cons_succ]
      refine wpAnyH_take (i := 2) (v := ?_) rfl (by kernel_rfl) (by kernel_rfl) (by kernel_rfl) (fun _ _ _ h => h) (Or.inl ⟨by rfl, ?_⟩) hHeld ?_
      rotate_left
      · intro wx hSx; (try dsimp only at hSx); go_split_ands; go_simp; try (with_reducible rfl)
      try simp only [Act.put, List.getElem_toArray, List.getElem_cons_zero, List.getElem_cons_succ, List.setIfInBounds_toArray, List.set_cons_zero, List.set_cons_succ]
      refine wpAnyH_take (i := 3) (v := ?_) rfl (by kernel_rfl) (by kernel_rfl) (by kernel_rfl) (fun _ _ _ h => h) (Or.inl ⟨by rfl, ?_⟩) hHeld ?_
      rotate_left
      · intro wx hSx; (try dsimp only at hSx); go_split_ands; go_simp; try (with_reducible rfl)
      try simp only [Act.put, List.getElem_toArray, List.getElem_cons_zero, List.getElem_cons_succ, List.setIfInBounds_toArray, List.set_cons_zero, List.set_cons_succ]
      refine wpAnyH_take (i := 4) (v := ?_) rfl (by kernel_rfl) (by kernel_rfl) (by kernel_rfl) (fun _ _ _ h => h) (Or.inl ⟨by rfl, ?_⟩) hHeld ?_
      rotate_left
      · intro wx hSx; (try dsimp only at hSx); go_split_ands; go_simp; try (with_reducible rfl)
      try simp only [Act.put, List.getElem_toArray, List.getElem_cons_zero, List.getElem_cons_succ, List.setIfInBounds_toArray, List.set_cons_zero, List.set_cons_succ]
      refine wpAnyH_ready (rs := [1]) (by kernel_rfl) (by simp) ?_
      refine AllReadyH.cons (o := _) rfl (fun K hK => ?_) AllReadyH.nil
      go_simp
      refine (walkR_any g HS.out (g.nodes.length + 1) 0 0 0 W.drew wr.heap.size _ (HGW.out.on (Same.drewN _ W 1)) hbd.drew (by omega) (by omega) (by omega) (by omega) (by omega)).mono ?_
      rintro e w1 ⟨rfl, hrw, hgr⟩
      have hbx3 : Row w1 w.heap.size _ _ := hbx2.drew.of_block (hgr.block _ (by have := hbx2.lt; simpa using this) (by simp; omega))
      have hb1 : Below w.heap.size w w1 := hWb.drew.grown hgr (by have := hWb.size; simpa using this) (fun k hk => by simp at hk; omega)
      dsimp only
      refine hK.out _ _ ⟨hbx3.cell rfl, hbx3.cell rfl, hbx3.cell rfl⟩ (fun hHeld => ?_)
      clear hK K
      try simp only [Act.put, List.getElem_toArray, List.getElem_cons_zero, List.getElem_cons_succ, List.setIfInBounds_toArray, List.set_cons_zero, List.set_cons_succ]
      refine wpAnyH_take (i := 5) (v := ?_) rfl (by kernel_rfl) (by kernel_rfl) (by kernel_rfl) (fun _ _ _ h => h) (Or.inl ⟨by rfl, ?_⟩) hHeld ?_
      rotate_left
      · intro wx hSx; (try dsimp only at hSx); go_split_ands; go_simp; try (with_reducible rfl)
      try simp only [Act.put, List.getElem_toArray, List.getElem_cons_zero, List.getElem_cons_succ, List.setIfInBounds_toArray, List.set_cons_zero, List.set_cons_succ]
      refine wpAnyH_done (by kernel_rfl) ?_ _
      have hdd := walkR_deep g.nodes 1000 (g.nodes.length + 1) 0 0 0 (by omega) (by omega) (by omega)
      have HV2 := Lib.hid (HV.out.trans (by rw [HNE.out]; simp only [ne_eq, not_true_eq_false, ↓reduceIte]) : formL g = if (walkR g.nodes (g.nodes.length + 1) 0 0 0).1 ≠ g.nodes.length then 9 else if 40 < (walkR g.nodes (g.nodes.length + 1) 0 0 0).2 then 5 else setsErr g)
      generalize walkR g.nodes (g.nodes.length + 1) 0 0 0 = rr at *
      obtain ⟨rn, rd⟩ := rr
      dsimp only at hrw hdd HV2
      clear hbd hbx2 x0 x1 x2 hWb hgr hHeld HGW
      by_cases he : rn = (g.nodes.length : Int)
      case neg =>
        have hd : (rn != (g.nodes.length : Int)) = true := by simp [he]
        have HF := Lib.hid (show formL g = 9 by rw [HV2.out, if_pos he])
        clear he
        go_wp2
        go_ret
        exact ⟨_, rfl, hb1, by rw [HF.out]; rfl⟩
      have hd : (rn != (g.nodes.length : Int)) = false := by simp [he]
      have HRN := Lib.hid he; clear he
      have y0 := hrw.cell (i := 0) rfl
      by_cases h40 : 40 < rd
      · have HF := Lib.hid (show formL g = 5 by rw [HV2.out, if_neg (by simpa using HRN.out), if_pos h40])
        go_wp2
        go_ret
        exact ⟨_, rfl, hb1, by rw [HF.out]; rfl⟩
      have HV3 := Lib.hid (show formL g = setsErr g by rw [HV2.out, if_neg (by simpa using HRN.out), if_neg h40])
      have x1 := hbx3.cell (i := 1) rfl
      go_wp2
      clear hrw y0 x1 hdd
      go_loopw [6] (fun i wi => ∃ k : Nat, k ≤ g.nodes.length ∧ i = .int .i64 k ∧ (g.nodes.take k).any (typeBadAt g.infos) = false ∧ Row wi w.heap.size 25 [.int .i64 g.players, .slice (some ⟨b, o, none⟩) g.nodes.length c, .slice Ai g.infos.length ci] ∧ Below w.heap.size w wi) (fun i _ => g.nodes.length - (intOf i).toNat)
      case atStart => exact ⟨0, by omega, rfl, rfl, hbx3, hb1⟩
      case round =>
        clear hbx3 hb1
        obtain ⟨k2, hk2, rfl, hpre, hbx, hbel⟩ := hrel
        have HP := Lib.hid hpre; clear hpre
        have x0 := hbx.cell (i := 0) rfl
        have x1 := hbx.cell (i := 1) rfl
        have x2 := hbx.cell (i := 2) rfl
        have hold := below_old hbel
        have hBw : w.heap.size < wr.heap.size := hbx.lt
        by_cases hlt2 : k2 < g.nodes.length
        · obtain ⟨x, hx⟩ := getSome hlt2
          obtain ⟨e0, e1, e2, ⟨v3, e3, A3, c3, rfl, hc3, i3⟩, ⟨v4, e4, A4, c4, rfl, hc4, i4⟩, ⟨v5, e5, A5, c5, rfl, hc5, i5⟩⟩ := HC.out k2 x hx
          clear i3 i4 i5
          have hl3 := HS.out.next x (List.mem_of_getElem? hx)
          have HX := Lib.hid hx
          have BAD := Lib.hid (show typeBadAt g.infos x = true → formL g = 10 by
            intro h
            have : typeBad g = true := List.any_eq_true.2 ⟨x, List.mem_of_getElem? HX.out, h⟩
            rw [HV3.out]; unfold setsErr; rw [this]; rfl)
          have HII := Lib.hid (infosIn_of HNE.out x (List.mem_of_getElem? hx))
          clear hx
          by_cases hkd : x.kind = 2
          · obtain ⟨hin0, hin1⟩ := HII.out hkd
            have hd2 : (x.kind == 2) = true := by simp [hkd]
            obtain ⟨bi, oi, rfl, _, hbi, hxi⟩ := HI.out (by omega)
            obtain ⟨inf, hinf⟩ := getSome (l := g.infos) (k := x.info.toNat) (by omega)
            obtain ⟨c0, c1⟩ := hxi _ inf hinf
            have HT := Lib.hid (show typeBadAt g.infos x = (decide (inf.player ≠ x.player) || decide (inf.actions ≠ (x.next.length : Int))) by
              unfold typeBadAt; simp [hkd, List.getD_eq_getElem?_getD, hinf])
            have hbiw : bi < wr.heap.size := by have := hbel.size; omega
            clear hinf hxi hkd
            by_cases p1 : inf.player = x.player
            · have f1 : (inf.player != x.player) = false := neF p1
              by_cases p2 : inf.actions = (x.next.length : Int)
              · have f2 : (inf.actions != (x.next.length : Int)) = false := neF p2
                have HF := Lib.hid (show typeBadAt g.infos x = false by rw [HT.out]; simp [p1, p2])
                clear p1 p2
                go_wp2
                go_quiet (fail)
                go_wp2
                go_roundw
                case rel => exact ⟨k2 + 1, by omega, by go_num, any_snoc HX.out HP.out HF.out, (hbx.alloc _).dN _, below_dN (hbel.alloc hbel.size _) _⟩
                case measure => simp [intOf]; omega
              · have f2 : (inf.actions != (x.next.length : Int)) = true := neT p2
                have HF := Lib.hid (BAD.out (by rw [HT.out]; simp [p2]))
                clear p1 p2
                go_wp2
                go_quiet (fail)
                go_wp2
                go_ret
                exact ⟨_, rfl, below_dN (hbel.alloc hbel.size _) _, by rw [HF.out]; rfl⟩
            · have f1 : (inf.player != x.player) = true := neT p1
              have HF := Lib.hid (BAD.out (by rw [HT.out]; simp [p1]))
              clear p1
              go_wp2
              go_quiet (fail)
              go_wp2
              go_ret
              exact ⟨_, rfl, below_dN (hbel.alloc hbel.size _) _, by rw [HF.out]; rfl⟩
          · have hd2 : (x.kind == 2) = false := by simp [hkd]
            have HF := Lib.hid (show typeBadAt g.infos x = false by unfold typeBadAt; simp [hkd])
            clear hkd
            go_wp2
            go_quiet (fail)
            go_wp2
            go_roundw
            case rel => exact ⟨k2 + 1, by omega, by go_num, any_snoc HX.out HP.out HF.out, (hbx.alloc _).dN _, below_dN (hbel.alloc hbel.size _) _⟩
            case measure => simp [intOf]; omega
        · have HTB := Lib.hid (show typeBad g = false by
            have := HP.out; rw [List.take_of_length_le (by omega)] at this; exact this)
          go_wp2_with fail
          refine (setsOf_any _ F _ g (HG.out.on (Below.same' hbel F)) HS.out (infosIn_of HNE.out)).mono ?_
          rintro e w2 ⟨vss, rfl, hb2, hse⟩
          have hB2 : Below w.heap.size w w2 := hbel.trans (hb2.mono hbel.size)
          have HV4 := Lib.hid (show formL g = if noneBad (setsL g) then 18 else if firstBadTo (setsL g) g.infos.length then 9 else 0 by
            rw [HV3.out]; unfold setsErr; rw [HTB.out]; rfl)
          have hsl : (setsL g).length = g.infos.length := setsTo_length _ _ _
          have hsle : ∀ l ∈ setsL g, l.length ≤ g.nodes.length := setsTo_len
          generalize setsL g = sets at *
          obtain ⟨As, cs, rfl, hcs, hS⟩ := hse
          have HSE := Lib.hid hS; clear hS
          have HSLE := Lib.hid hsle; clear hsle
          have HSL := Lib.hid hsl; have hsl0 : sets.length ≤ 100 := by omega
          clear hsl hbx x0 x1 x2 hold hbel hb2
          dsimp only
          go_wp2
          go_loop [9] (fun i => ∃ k : Nat, k ≤ sets.length ∧ i = .int .i64 k ∧ noneBad (sets.take k) = false) (fun i => sets.length - (intOf i).toNat)
          case atStart => exact ⟨0, by omega, rfl, rfl⟩
          case round =>
            obtain ⟨k3, hk3, rfl, hpre⟩ := hrel
            have HP3 := Lib.hid hpre; clear hpre
            by_cases hlt3 : k3 < sets.length
            · obtain ⟨bs, os, rfl, _, hbs, hxs⟩ := HSE.out (by omega)
              obtain ⟨l, hl⟩ := getSome hlt3
              obtain ⟨vl, el, Al, cl, rfl, hcl, hLl⟩ := hxs k3 l hl
              rw [Nat.mul_one] at el
              have HX := Lib.hid hl
              have hll := HSLE.out l (List.mem_of_getElem? hl)
              clear hl hxs hLl
              by_cases hz : l.length = 0
              · have hd : ((l.length : Int) == 0) = true := eqT (by omega)
                have HF := Lib.hid (show formL g = 18 by
                  have : noneBad sets = true := List.any_eq_true.2 ⟨l, List.mem_of_getElem? HX.out, by simp; exact List.eq_nil_of_length_eq_zero hz⟩
                  rw [HV4.out, this]; rfl)
                clear hz
                go_wp2
                go_ret
                exact ⟨_, rfl, hB2, by rw [HF.out]; rfl⟩
              · have hd : ((l.length : Int) == 0) = false := eqF (by omega)
                go_wp2
                go_round
                case rel => exact ⟨k3 + 1, by omega, by go_num, any_snoc HX.out HP3.out (by simp; intro h; rw [h] at hz; simp at hz)⟩
                case measure => simp [intOf]; omega
            · have HNB := Lib.hid (show noneBad sets = false by
                have := HP3.out; rw [List.take_of_length_le (by omega)] at this; exact this)
              have HNZ := Lib.hid (show ∀ l ∈ sets, 0 < l.length by
                intro l hl
                have := List.any_eq_false.1 HNB.out l hl
                simp at this
                exact List.length_pos_iff.2 this)
              go_wp2
              go_loopw [10] (fun i wi => ∃ m n : Nat, 1 ≤ m ∧ (m ≤ sets.length ∨ m = 1) ∧ i = .int .i64 m ∧ firstBadTo sets m = false ∧ wi = w2.drewN n) (fun i _ => sets.length - (intOf i).toNat)
              case atStart => exact ⟨1, 0, by omega, .inr rfl, rfl, rfl, rfl⟩
              case round =>
                obtain ⟨m, nd, hm1, hm, rfl, hpre, rfl⟩ := hrel
                have HPM := Lib.hid hpre; clear hpre
                by_cases hmt : m < sets.length
                · obtain ⟨bs, os, rfl, _, hbs, hxs⟩ := HSE.out (by omega)
                  obtain ⟨l, hl⟩ := getSome hmt
                  obtain ⟨vl, el, Al, cl, rfl, hcl, hLl⟩ := hxs m l hl
                  obtain ⟨l', hl'⟩ := getSome (l := sets) (k := m - 1) (by omega)
                  obtain ⟨vl', el', Al', cl', rfl, hcl', hLl'⟩ := hxs (m - 1) l' hl'
                  have p0 := HNZ.out l (List.mem_of_getElem? hl)
                  have p1 := HNZ.out l' (List.mem_of_getElem? hl')
                  obtain ⟨bl, ol, rfl, _, hbl, hxl⟩ := hLl p0
                  obtain ⟨bl', ol', rfl, _, hbl', hxl'⟩ := hLl' p1
                  obtain ⟨x, hx⟩ := getSome p0
                  obtain ⟨y, hy⟩ := getSome p1
                  have ex := hxl 0 x hx
                  have ey := hxl' 0 y hy
                  unfold intE at ex ey
                  simp only [Nat.zero_mul, Nat.add_zero] at ex ey
                  rw [Nat.mul_one] at el el'
                  have HAT := Lib.hid (show firstBadAt sets m = decide (x < y) by
                    unfold firstBadAt; simp [List.getD_eq_getElem?_getD, hl, hl', hx, hy])
                  clear hl hl' hx hy hxl hxl' hLl hLl' hxs
                  have hmd : m - 1 < sets.length := by omega
                  by_cases q : x < y
                  · have HF := Lib.hid (show formL g = 9 by
                      rw [HV4.out, HNB.out]
                      have := firstBadTo_of hm1 hmt (by rw [HAT.out]; simp [q])
                      rw [← HSL.out, this]; rfl)
                    go_wp2
                    have hw1 : IntKind.i64.wrap ((m : Int) - 1) = ((m - 1 : Nat) : Int) := by rw [IntWalk.i64_in _ (by omega)]; omega
                    go_quiet (fail)
                    go_wp2
                    go_ret
                    exact ⟨_, rfl, below_dN (below_dN hB2 _) _, by rw [HF.out]; rfl⟩
                  · have hq : decide (x < y) = false := decide_eq_false q
                    go_wp2
                    have hw1 : IntKind.i64.wrap ((m : Int) - 1) = ((m - 1 : Nat) : Int) := by rw [IntWalk.i64_in _ (by omega)]; omega
                    go_quiet (fail)
                    clear hw1
                    go_wp2
                    go_roundw
                    case rel => exact ⟨m + 1, nd + nq, by omega, .inl (by omega), by go_num, by rw [firstBadTo_succ _ _ hm1, HPM.out, HAT.out, hq]; rfl, rfl⟩
                    case measure => simp [intOf]; omega
                · go_wp2
                  go_ret
                  refine ⟨_, rfl, below_dN hB2 _, ?_⟩
                  have : formL g = 0 := by
                    rw [HV4.out, HNB.out]
                    have h1 := HPM.out
                    have h2 := HSL.out
                    rcases hm with hm | hm
                    · have : m = sets.length := by omega
                      rw [← h2, ← this, h1]; rfl
                    · subst hm
                      have : firstBadTo sets g.infos.length = false := by
                        unfold firstBadTo; rw [show g.infos.length - 1 = 0 by omega]; rfl
                      rw [this]; rfl
                  rw [this]; rfl
end Go.Proofs.Ytafjdoedallnbaa
