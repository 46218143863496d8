/- slices.IsSorted for ints -/
import Derived.Test.YtafjdoedallnbaaJ03
import Derived.Test.YtafjdoedallnbaaJ02
import Derived.Test.YtafjdoedallnbaaJ01
namespace Go.Proofs.Ytafjdoedallnbaa
open List renaming getElem_toArray → lq1, getElem_cons_zero → lq2, getElem_cons_succ → lq3, setIfInBounds_toArray → lq4, set_cons_zero → lq5, set_cons_succ → lq6
open Go.RowKit
def sortedL : List Int → Bool
 | a :: b :: r => decide (a ≤ b) && sortedL (b :: r)
 | _ => true
theorem sortedL_drop : ∀ (l : List Int) (k : Nat), sortedL l = true → sortedL (l.drop k) = true
 | l, 0, h => h
 | [], k + 1, h => by simp [sortedL]
 | [a], k + 1, h => by simp [sortedL]
 | a :: b :: r, k + 1, h => by
  simp only [sortedL, Bool.and_eq_true] at h
  simp only [List.drop_succ_cons]
  exact sortedL_drop (b :: r) k h.2
theorem sortedL_step {l : List Int} {k : Nat} {x y : Int} (hx : l[k]? = some x) (hy : l[k + 1]? = some y) : sortedL (l.drop k) = (decide (x ≤ y) && sortedL (l.drop (k + 1))) := by
 have h1 := lt_of_get hx
 have h2 := lt_of_get hy
 have e1 : l[k] = x := by simpa [h1] using hx
 have e2 : l[k + 1] = y := by simpa [h2] using hy
 rw [List.drop_eq_getElem_cons h1, List.drop_eq_getElem_cons h2, e1, e2]
 rfl
theorem sortedL_iff (l : List Int) : sortedL l = true ↔ ∀ k x y, l[k]? = some x → l[k + 1]? = some y → x ≤ y := by
 constructor
 ·intro h k x y hx hy
  have := sortedL_drop l k h
  rw [sortedL_step hx hy] at this
  simp at this; exact this.1
 ·induction l with
  | nil => intro _; rfl
  | cons a r ih => match r with
   | [] => intro _; rfl
   | b :: r => intro h; simp only [sortedL, Bool.and_eq_true, decide_eq_true_eq]; exact ⟨h 0 a b rfl rfl, ih (fun k x y hx hy => h (k + 1) x y (by simpa using hx) (by simpa using hy))⟩
set_option maxRecDepth 100000 in
set_option maxHeartbeats 1600000 in
theorem isSorted_any (w : World) (F : Foot) (v : Value) (l : List Int) (hv : IntsAt w F v l) (hl : l.length ≤ 1000000) :
  Calls Try.prog 67 #[v] w (Ret w fun v _ => v = .bool (sortedL l)) := by
 obtain ⟨A, c, rfl, hc, hN⟩ := hv
 have HN := Lib.hid hN; clear hN
 go_enter Try.func67, Try.ntmps67
 go_wp2
 go_loopw [3] (fun i wr => ∃ k : Nat, k ≤ l.length ∧ i = .int .i64 ((k : Int) - 1) ∧ sortedL (l.drop (k - 1)) = true ∧ ∃ n, wr = w.drewN n) (fun i _ => (intOf i + 1).toNat)
 case atStart => exact ⟨l.length, by omega, rfl, by cases h : l.length with | zero => simp [List.length_eq_zero_iff.1 h, sortedL] | succ m => (have hm : m < l.length := by omega); simp [List.drop_eq_getElem_cons hm, List.drop_eq_nil_of_le (show l.length ≤ m + 1 by omega), sortedL], 0, rfl⟩
 case round =>
  obtain ⟨k, hk, rfl, hp, nn, rfl⟩ := hrel
  have HP := Lib.hid hp; clear hp
  by_cases hlt : 2 ≤ k
  ·obtain ⟨b, o, rfl, _, hb, hx⟩ := HN.out (by omega)
   obtain ⟨q, rfl⟩ : ∃ q, k = q + 2 := ⟨k - 2, by omega⟩
   obtain ⟨p, hpq⟩ : ∃ p, p = q + 1 := ⟨_, rfl⟩
   have hpl : p < l.length := by omega
   have hql : q < l.length := by omega
   obtain ⟨x, hx'⟩ := getSome (l := l) (k := q) (by omega)
   obtain ⟨y, hy'⟩ := getSome (l := l) (k := p) (by omega)
   have ex := hx q x hx'
   have ey := hx p y hy'
   unfold intE at ex ey; rw [Nat.mul_one] at ex ey
   have HS := Lib.hid (sortedL_step hx' (by rw [← hpq]; exact hy'))
   clear hx hx' hy'
   have i1 : (((q + 2 : Nat) : Int) - 1) = (p : Int) := by omega
   have i2 : ((p : Int) - 1) = (q : Int) := by omega
   have wr2 : IntKind.i64.wrap (q : Int) = (q : Int) := IntWalk.i64_in _ (by omega)
   have hp0 : (0 : Int) < (p : Int) := by omega
   rw [i1]
   have HPQ := Lib.hid hpq; clear hpq i1
   go_wp2_with fail
   refine wp_region_held_drew (S := fun w' => w'.cell? ⟨b, o + q, none⟩ = some (.int .i64 x) ∧ w'.cell? ⟨b, o + p, none⟩ = some (.int .i64 y)) (by kernel_rfl) ⟨ex, ey⟩ (fun hHeld => ?_)
   refine wpAnyH_take (i := 0) (v := ?_) rfl (by kernel_rfl) (by kernel_rfl) (by kernel_rfl) (fun _ _ _ h => h) (Or.inl ⟨by rfl, ?_⟩) hHeld ?_
   rotate_left
   ·intro wx hSx; (try dsimp only at hSx); go_split_ands; go_simp; try (with_reducible rfl)
   try simp only [Act.put, lq1, lq2, lq3, lq4, lq5, lq6]
   refine wpAnyH_take (i := 1) (v := ?_) rfl (by kernel_rfl) (by kernel_rfl) (by kernel_rfl) (fun _ _ _ h => h) (Or.inl ⟨by rfl, ?_⟩) hHeld ?_
   rotate_left
   ·intro wx hSx; (try dsimp only at hSx); go_split_ands; go_simp; try (with_reducible rfl)
   try simp only [Act.put, lq1, lq2, lq3, lq4, lq5, lq6]
   refine wpAnyH_take (i := 2) (v := ?_) rfl (by kernel_rfl) (by kernel_rfl) (by kernel_rfl) (fun _ _ _ h => h) (Or.inl ⟨by rfl, ?_⟩) hHeld ?_
   rotate_left
   ·intro wx hSx; (try dsimp only at hSx); go_split_ands; go_simp; try (with_reducible rfl)
   try simp only [Act.put, lq1, lq2, lq3, lq4, lq5, lq6]
   refine wpAnyH_take (i := 3) (v := ?_) rfl (by kernel_rfl) (by kernel_rfl) (by kernel_rfl) (fun _ _ _ h => h) (Or.inl ⟨by rfl, ?_⟩) hHeld ?_
   rotate_left
   ·intro wx hSx; (try dsimp only at hSx); go_split_ands; go_simp; try (with_reducible rfl)
   try simp only [Act.put, lq1, lq2, lq3, lq4, lq5, lq6]
   refine wpAnyH_take (i := 4) (v := ?_) rfl (by kernel_rfl) (by kernel_rfl) (by kernel_rfl) (fun _ _ _ h => h) (Or.inl ⟨by rfl, ?_⟩) hHeld ?_
   rotate_left
   ·intro wx hSx; (try dsimp only at hSx); go_split_ands; go_simp; try (with_reducible rfl)
   try simp only [Act.put, lq1, lq2, lq3, lq4, lq5, lq6]
   refine wpAnyH_take (i := 5) (v := ?_) rfl (by kernel_rfl) (by kernel_rfl) (by kernel_rfl) (fun _ _ _ h => h) (Or.inl ⟨by rfl, ?_⟩) hHeld ?_
   rotate_left
   ·intro wx hSx; (try dsimp only at hSx); go_split_ands; go_simp; try (with_reducible rfl)
   try simp only [Act.put, lq1, lq2, lq3, lq4, lq5, lq6]
   refine wpAnyH_take (i := 6) (v := ?_) rfl (by kernel_rfl) (by kernel_rfl) (by kernel_rfl) (fun _ _ _ h => h) (Or.inl ⟨by rfl, ?_⟩) hHeld ?_
   rotate_left
   ·intro wx hSx; (try dsimp only at hSx); go_split_ands; go_simp; try (with_reducible rfl)
   try simp only [Act.put, lq1, lq2, lq3, lq4, lq5, lq6]
   refine wpAnyH_take (i := 7) (v := ?_) rfl (by kernel_rfl) (by kernel_rfl) (by kernel_rfl) (fun _ _ _ h => h) (Or.inl ⟨by rfl, ?_⟩) hHeld ?_
   rotate_left
   ·intro wx hSx; (try dsimp only at hSx); go_split_ands; go_simp; try (with_reducible rfl)
   try simp only [Act.put, lq1, lq2, lq3, lq4, lq5, lq6]
   refine wpAnyH_take (i := 8) (v := ?_) rfl (by kernel_rfl) (by kernel_rfl) (by kernel_rfl) (fun _ _ _ h => h) (Or.inl ⟨by rfl, ?_⟩) hHeld ?_
   rotate_left
   ·intro wx hSx; (try dsimp only at hSx); go_split_ands; go_simp; try (with_reducible rfl)
   try simp only [Act.put, lq1, lq2, lq3, lq4, lq5, lq6]
   refine wpAnyH_ready (rs := [9]) (by kernel_rfl) (by simp) ?_
   refine AllReadyH.cons (o := _) rfl (fun K hK => ?_) AllReadyH.nil
   go_simp
   refine (less_any _ y x).mono ?_
   rintro e w1 ⟨rfl, rfl⟩
   dsimp only
   refine hK.out _ _ ⟨ex, ey⟩ (fun hHeld => ?_)
   clear hK K
   try simp only [Act.put, lq1, lq2, lq3, lq4, lq5, lq6]
   refine wpAnyH_done (by kernel_rfl) ?_ _
   clear hHeld ex ey
   by_cases hyx : y < x
   ·have HF := Lib.hid (show sortedL l = false by
     cases h : sortedL l with
     | false => rfl
     | true => have := sortedL_drop l q h; rw [HS.out] at this; simp at this; omega)
    go_wp2
    go_ret
    exact ⟨_, rfl, below_dN (Below.refl _ _) _, by first | rfl | (rw [HF.out]; rfl)⟩
   ·have hd : decide (y < x) = false := decide_eq_false hyx
    go_wp2
    go_roundw
    case rel =>
     have e := HPQ.out
     refine ⟨q + 1, by omega, by first | rfl | (congr 1; omega), ?_, _, rfl⟩
     have := HP.out
     rw [Nat.add_sub_cancel, HS.out]
     simp only [Bool.and_eq_true, decide_eq_true_eq]
     exact ⟨by omega, this⟩
    case measure => simp [intOf]; omega
  ·go_wp2
   go_ret
   refine ⟨_, rfl, below_dN (Below.refl _ _) _, ?_⟩
   have := HP.out
   rw [show k - 1 = 0 by omega] at this
   simp at this
   rw [this]; rfl
end Go.Proofs.Ytafjdoedallnbaa
/- parlourref11.SetsOf: the nodes of each information set. -/
namespace Go.Proofs.Ytafjdoedallnbaa
open List renaming getElem_toArray → lq1, getElem_cons_zero → lq2, getElem_cons_succ → lq3, setIfInBounds_toArray → lq4, set_cons_zero → lq5, set_cons_succ → lq6
open Go.RowKit
set_option maxRecDepth 100000 in
set_option maxHeartbeats 1600000 in
theorem setsOf_any (w : World) (F : Foot) (u : Value) (g : Gm) (hg : GameAt w F u g) (hsm : Small g) (hin : InfosIn g) :
  Calls Try.prog 38 #[u] w (Ret w fun v w' => RowsAt w' (fun b => w.heap.size ≤ b) v (setsL g)) := by
 obtain ⟨vn, vi, rfl, ⟨A, c, rfl, hc, hN⟩, ⟨Ai, ci, rfl, hci, hI⟩⟩ := hg
 have HN := Lib.hid hN; clear hN hI
 have hn := hsm.nodes
 have hni := hsm.infos
 have HIN := Lib.hid hin; clear hin
 go_enter Try.func38, Try.ntmps38
 go_wp2_with (at_make; refine wpl_make _ rfl _ _ 49 rfl 26 (.slice none 0 0) 24 Try.underlying49 Try.infoInts rfl g.infos.length rfl rfl (by omega) (by omega) ?_; intro w1 hb1 hz1 hrow1)
 simp only [World.size_alloc] at hb1 hz1 hrow1
 go_loopw [4] (fun i wr => ∃ (k : Nat) (vs : List Value), k ≤ g.nodes.length ∧ i = .int .i64 k ∧ Row wr w.heap.size 25 [.int .i64 g.players, .slice A g.nodes.length c, .slice Ai g.infos.length ci] ∧ Row wr (w.heap.size + 1) 26 vs ∧ OwnRows wr (w.heap.size + 2) 3 vs (setsTo g.nodes g.infos.length k) ∧ Below w.heap.size w wr) (fun i _ => g.nodes.length - (intOf i).toNat)
 case atStart =>
  refine ⟨0, _, by omega, rfl, ?_, hrow1, ?_, ?_⟩
  ·exact (Row.new w _ _).below hb1 (by simp)
  ·exact OwnRows.start _ _ _ _
  ·exact ((Below.refl w.heap.size w).alloc (Nat.le_refl _) _).trans (hb1.mono (by omega))
 case round =>
  obtain ⟨k, vs, hk, rfl, hr, hrow, hown, hbel⟩ := hrel
  have x1 := hr.cell (i := 1) rfl
  by_cases hlt : k < g.nodes.length
  ·obtain ⟨b, o, rfl, _, hb, hcell⟩ := HN.out (by omega)
   obtain ⟨n, hn'⟩ := getSome hlt
   obtain ⟨e0, e1, e2, ⟨v3, e3, A3, c3, rfl, hc3, i3⟩, ⟨v4, e4, A4, c4, rfl, hc4, i4⟩, ⟨v5, e5, A5, c5, rfl, hc5, i5⟩⟩ := hcell k n hn'
   clear i3 i4 i5 hcell
   have HX := Lib.hid hn'; clear hn'
   have hold := below_old hbel
   have hlr := hrow.lt
   by_cases hkd : n.kind = 2
   ·obtain ⟨hin0, hin1⟩ := HIN.out n (List.mem_of_getElem? HX.out) hkd
    have hd : (n.kind == 2) = true := by simp [hkd]
    have HKD := Lib.hid hkd; clear hkd
    obtain ⟨l, hl⟩ := getSome (l := setsTo g.nodes g.infos.length k) (k := n.info.toNat) (by rw [setsTo_length]; omega)
    obtain ⟨v, hv⟩ := getSome (l := vs) (k := n.info.toNat) (by rw [hown.len, setsTo_length]; omega)
    have rv := hrow.cell hv
    have fv := hrow.frozen n.info.toNat
    have ho := hown.own _ v l hv hl
    have hll := setsTo_len l (List.mem_of_getElem? hl)
    have HO := Lib.hid ho; clear ho
    have HL := Lib.hid hl; clear hl
    have HV := Lib.hid hv; clear hv
    go_wp2
    obtain ⟨W, hW⟩ : ∃ W : World, W = wr.alloc (.cells #[.int .i64 n.kind, .int .i64 n.player, .int .i64 n.info, .slice A3 n.next.length c3, .slice A4 n.weights.length c4, .slice A5 n.pay.length c5] 45) := ⟨_, rfl⟩
    rw [← hW]
    have cx : W.cell? ⟨wr.heap.size, 2, none⟩ = some (.int .i64 n.info) := by rw [hW]; simp
    have hWz : W.heap.size = wr.heap.size + 1 := by rw [hW]; simp
    have hWo : OwnRows W (w.heap.size + 2) 3 vs (setsTo g.nodes g.infos.length k) := by rw [hW]; exact hown.alloc _
    have hWr : Row W w.heap.size 25 [.int .i64 g.players, .slice (some ⟨b, o, none⟩) g.nodes.length c, .slice Ai g.infos.length ci] := by rw [hW]; exact hr.alloc _
    have hWw : Row W (w.heap.size + 1) 26 vs := by rw [hW]; exact hrow.alloc _
    have hWb : Below w.heap.size w W := by rw [hW]; exact hbel.alloc hbel.size _
    have rv := hWw.cell HV.out
    have fv := hWw.frozen n.info.toNat
    have HOW := Lib.hid (hWo.own _ v l HV.out HL.out)
    have hWlt : wr.heap.size < W.heap.size := by omega
    have HHW := Lib.hid hWz; have hWle : w.heap.size + 2 < W.heap.size := by omega
    clear hW hWz hr hrow hown hbel x1 hold e0 e1 e2 e3 e4 e5 hlr
    have HWR := Lib.hid (And.intro hWr (And.intro hWw (And.intro hWo hWb))); clear hWr hWw hWo hWb
    refine wp_peel2 (fun w' => w'.cell? ⟨wr.heap.size, 2, none⟩ = some (.int .i64 n.info) ∧ w'.cell? ⟨w.heap.size + 1, n.info.toNat, none⟩ = some v) 11 (by kernel_rfl) rfl rfl (by kernel_rfl) (by kernel_rfl) (by kernel_rfl) (by kernel_rfl) ⟨cx, rv⟩ ?_
    have hHeld : (fun w' : World => w'.cell? ⟨wr.heap.size, 2, none⟩ = some (.int .i64 n.info) ∧ w'.cell? ⟨w.heap.size + 1, n.info.toNat, none⟩ = some v) W.drew := ⟨cx, rv⟩
    simp only [List.take_succ_cons, List.take_zero]
    refine wpAnyH_take (i := 0) (v := ?_) rfl (by kernel_rfl) (by kernel_rfl) (by kernel_rfl) (fun _ _ _ h => h) (Or.inl ⟨by rfl, ?_⟩) hHeld ?_
    rotate_left
    ·intro wx hSx; (try dsimp only at hSx); go_split_ands; go_simp; try (with_reducible rfl)
    try simp only [Act.put, lq1, lq2, lq3, lq4, lq5, lq6]
    refine wpAnyH_take (i := 1) (v := ?_) rfl (by kernel_rfl) (by kernel_rfl) (by kernel_rfl) (fun _ _ _ h => h) (Or.inl ⟨by rfl, ?_⟩) hHeld ?_
    rotate_left
    ·intro wx hSx; (try dsimp only at hSx); go_split_ands; go_simp; try (with_reducible rfl)
    try simp only [Act.put, lq1, lq2, lq3, lq4, lq5, lq6]
    refine wpAnyH_take (i := 2) (v := ?_) rfl (by kernel_rfl) (by kernel_rfl) (by kernel_rfl) (fun _ _ _ h => h) (Or.inl ⟨by rfl, ?_⟩) hHeld ?_
    rotate_left
    ·intro wx hSx; (try dsimp only at hSx); go_split_ands; go_simp; try (with_reducible rfl)
    try simp only [Act.put, lq1, lq2, lq3, lq4, lq5, lq6]
    refine wpAnyH_take (i := 3) (v := ?_) rfl (by kernel_rfl) (by kernel_rfl) (by kernel_rfl) (fun _ _ _ h => h) (Or.inl ⟨by rfl, ?_⟩) hHeld ?_
    rotate_left
    ·intro wx hSx; (try dsimp only at hSx); go_split_ands; go_simp; try (with_reducible rfl)
    try simp only [Act.put, lq1, lq2, lq3, lq4, lq5, lq6]
    refine wpAnyH_take (i := 4) (v := ?_) rfl (by kernel_rfl) (by kernel_rfl) (by kernel_rfl) (fun _ _ _ h => h) (Or.inl ⟨by rfl, ?_⟩) hHeld ?_
    rotate_left
    ·intro wx hSx; (try dsimp only at hSx); go_split_ands; go_simp; try (with_reducible rfl)
    try simp only [Act.put, lq1, lq2, lq3, lq4, lq5, lq6]
    refine wpAnyH_take (i := 5) (v := ?_) rfl (by kernel_rfl) (by kernel_rfl) (by kernel_rfl) (fun _ _ _ h => h) (Or.inl ⟨by rfl, ?_⟩) hHeld ?_
    rotate_left
    ·intro wx hSx; (try dsimp only at hSx); go_split_ands; go_simp; try (with_reducible rfl)
    try simp only [Act.put, lq1, lq2, lq3, lq4, lq5, lq6]
    refine wpAnyH_take (i := 6) (v := ?_) rfl (by kernel_rfl) (by kernel_rfl) (by kernel_rfl) (fun _ _ _ h => h) (Or.inl ⟨by rfl, ?_⟩) hHeld ?_
    rotate_left
    ·intro wx hSx; (try dsimp only at hSx); go_split_ands; go_simp; try (with_reducible rfl)
    try simp only [Act.put, lq1, lq2, lq3, lq4, lq5, lq6]
    refine wpAnyH_take (i := 7) (v := ?_) rfl (by kernel_rfl) (by kernel_rfl) (by kernel_rfl) (fun _ _ _ h => h) (Or.inl ⟨by rfl, ?_⟩) hHeld ?_
    rotate_left
    ·intro wx hSx; (try dsimp only at hSx); go_split_ands; go_simp; try (with_reducible rfl)
    try simp only [Act.put, lq1, lq2, lq3, lq4, lq5, lq6]
    refine wpAnyH_take (i := 8) (v := ?_) rfl (by kernel_rfl) (by kernel_rfl) (by kernel_rfl) (fun _ _ _ h => h) (Or.inl ⟨by rfl, ?_⟩) hHeld ?_
    rotate_left
    ·intro wx hSx; (try dsimp only at hSx); go_split_ands; go_simp; try (with_reducible rfl)
    try simp only [Act.put, lq1, lq2, lq3, lq4, lq5, lq6]
    refine wpAnyH_ready (rs := [9]) (by kernel_rfl) (by simp) ?_
    refine AllReadyH.cons (o := _) rfl (fun K hK => ?_) AllReadyH.nil
    go_simp
    refine hK.out _ _ ⟨by rw [World.cell?_drew, World.cell?_alloc_lt _ _ _ (by simp; omega)]; exact cx, by rw [World.cell?_drew, World.cell?_alloc_lt _ _ _ (by simp; omega)]; exact rv⟩ (fun hHeld => ?_)
    clear hK K
    try simp only [Act.put, List.setIfInBounds_toArray, List.set_cons_zero, List.set_cons_succ]
    refine wpAnyH_ready (rs := [10]) (by kernel_rfl) (by simp) ?_
    refine AllReadyH.cons (o := _) rfl (fun K hK => ?_) AllReadyH.nil
    refine step_app_int (by rfl) _ _ (by rfl) (w.heap.size + 2) v l (by rfl) (HOW.out.alloc _) W.heap.size k (by rfl) (heap_alloc_new W _) (by omega) (by simp; omega) ?_
    intro gg cap w1 hown1 hgrow hat hlt1
    have hnb : ∀ b, v.ownBlock = some b → w.heap.size + 2 ≤ b := fun b hb => (HOW.out.lt b hb).1
    have hHG : ∀ b, b < w.heap.size + 2 → w1.heap[b]? = W.heap[b]? := fun b hb => by
     rw [hgrow.block b (by simp; omega) (fun e => by have := hnb b e.symm; omega)]
     exact Below.heap_alloc W _ b (by omega)
    obtain ⟨hWr, hWw, hWo, hWb⟩ := HWR.out
    have k1 : Row w1 w.heap.size _ _ := hWr.of_block (hHG _ (by omega))
    have k2 : Row w1 (w.heap.size + 1) _ _ := hWw.of_block (hHG _ (by omega))
    have k3 := ((hWo.alloc _).drew).put HV.out hown1 hgrow rfl hat
    have k4 : Below w.heap.size w w1 := ((hWb.alloc (by omega) _).drew).grown hgrow (by simp; omega) (fun k hk => by have := hnb k hk; omega)
    have rv1 := k2.cell HV.out
    have fv1 := k2.frozen n.info.toNat
    have KK := Lib.hid (And.intro k1 (And.intro k2 (And.intro k3 k4)))
    refine hK.out _ _ ⟨?_, rv1⟩ (fun hHeld => ?_)
    ·rw [hgrow.cell_far _ (by simp; omega) (fun e => by have := (HO.out.lt _ e.symm).2; simp at this), World.cell?_drew, World.cell?_alloc_lt _ _ _ (by simp; omega)]; exact cx
    clear hK K k1 k2 k3 k4 hWr hWw hWo hWb hHG hgrow hown1 hat cx rv fv
    try simp only [Act.put, List.setIfInBounds_toArray, List.set_cons_zero, List.set_cons_succ]
    refine wpAnyH_done (by kernel_rfl) ?_ _
    show wpList _ _ _ _ _ _
    go_wp2
    show wpList _ _ _ _ _ _
    go_wp2
    go_roundw
    case rel =>
     obtain ⟨k1, k2, k3, k4⟩ := KK.out
     refine ⟨k + 1, _, by omega, by go_num, k1.other (by simp) _, k2.set _ _, ?_, k4.setCell (by simp) _⟩
     rw [setsTo_move HX.out HKD.out HL.out]
     exact k3.setCell (by simp) _
    case measure => simp [intOf]; omega
   ·have hd : (n.kind == 2) = false := by simp [hkd]
    have HKD := Lib.hid hkd; clear hkd
    go_wp2
    go_roundw
    case rel =>
     refine ⟨k + 1, vs, by omega, by go_num, by repeat (first | exact hr | refine Row.alloc ?_ _ | refine Row.other ?_ (by have := hr.lt; simp; omega) _), by repeat (first | exact hrow | refine Row.alloc ?_ _ | refine Row.other ?_ (by simp; omega) _), ?_, by repeat (first | exact hbel | refine Below.alloc ?_ hbel.size _ | refine Below.setCell ?_ hbel.size _)⟩
     rw [setsTo_skip HX.out HKD.out]
     repeat (first | exact hown | refine OwnRows.alloc ?_ _)
    case measure => simp [intOf]; omega
  ·go_wp2
   go_ret
   refine ⟨_, rfl, hbel, ?_⟩
   have hke : k = g.nodes.length := by omega
   subst hke
   have h1 : (setsL g).length = g.infos.length := setsTo_length _ _ _
   have := OwnRows.rows (F := fun b => w.heap.size ≤ b) hown hrow (by omega) (fun _ _ => by omega) (c := g.infos.length) (by rw [setsTo_length]; omega)
   rw [setsTo_length] at this
   exact this
end Go.Proofs.Ytafjdoedallnbaa
/- parlourref26.SetsIn: the sets that are inside, and whether all of their nodes are. -/
namespace Go.Proofs.Ytafjdoedallnbaa
open List renaming getElem_toArray → lq1, getElem_cons_zero → lq2, getElem_cons_succ → lq3, setIfInBounds_toArray → lq4, set_cons_zero → lq5, set_cons_succ → lq6
open Go.RowKit
/-- how many of some nodes are marked -/
def manyIn (inn : List Bool) (l : List Int) : Nat := l.countP fun x => inn.getD x.toNat false
theorem manyIn_snoc {inn : List Bool} {l : List Int} {k : Nat} {x : Int} {b : Bool} (h : l[k]? = some x) (hb : inn[x.toNat]? = some b) : manyIn inn (l.take (k + 1)) = manyIn inn (l.take k) + (if b then 1 else 0) := by
 rw [take_snoc h]; unfold manyIn
 rw [List.countP_append]
 cases b <;> simp [List.getD_eq_getElem?_getD, hb]
theorem manyIn_le (inn : List Bool) (l : List Int) : manyIn inn l ≤ l.length := List.countP_le_length
/-- the sets some of whose nodes are marked, among the first k; and whether all of theirs are -/
def setsInTo (inn : List Bool) (sets : List (List Int)) (k : Nat) : List Int := ((sets.take k).zipIdx.filter fun p => decide (0 < manyIn inn p.1)).map fun p => (p.2 : Int)
def allInTo (inn : List Bool) (sets : List (List Int)) (k : Nat) : Bool := (sets.take k).all fun l => !decide (0 < manyIn inn l) || decide (manyIn inn l = l.length)
theorem zipIdx_snoc {α : Type} {l : List α} {k : Nat} {x : α} (h : l[k]? = some x) : (l.take (k + 1)).zipIdx = (l.take k).zipIdx ++ [(x, k)] := by
 rw [take_snoc h, List.zipIdx_append]
 have := lt_of_get h
 simp [List.length_take, Nat.min_eq_left (Nat.le_of_lt this)]
theorem setsInTo_snoc {inn : List Bool} {sets : List (List Int)} {k : Nat} {l : List Int} (h : sets[k]? = some l) : setsInTo inn sets (k + 1) = setsInTo inn sets k ++ (if 0 < manyIn inn l then [(k : Int)] else []) := by
 unfold setsInTo
 rw [zipIdx_snoc h, List.filter_append, List.map_append]
 by_cases hm : 0 < manyIn inn l <;> simp [hm]
theorem allInTo_snoc {inn : List Bool} {sets : List (List Int)} {k : Nat} {l : List Int} (h : sets[k]? = some l) : allInTo inn sets (k + 1) = (allInTo inn sets k && (!decide (0 < manyIn inn l) || decide (manyIn inn l = l.length))) := by
 unfold allInTo
 rw [take_snoc h, List.all_append]
 simp
theorem setsInTo_length (inn : List Bool) (sets : List (List Int)) (k : Nat) : (setsInTo inn sets k).length ≤ k := by
 unfold setsInTo
 rw [List.length_map]
 refine Nat.le_trans (List.length_filter_le _ _) ?_
 simp; omega
def setsInL (g : Gm) (roots : List Int) : List Int := setsInTo (underL g.nodes roots) (setsL g) g.infos.length
def closedL (g : Gm) (roots : List Int) : Bool := allInTo (underL g.nodes roots) (setsL g) g.infos.length
/-- the nodes of sets are nodes -/
theorem setsTo_in {nodes : List Nd} {ni k : Nat} (hk : k ≤ nodes.length) : ∀ l ∈ setsTo nodes ni k, ∀ x ∈ l, 0 ≤ x ∧ x < (nodes.length : Int) := by
 induction k with
 | zero => intro l hl; simp [setsTo] at hl; simp [hl.2]
 | succ k ih =>
  intro l hl x hx
  unfold setsTo at hl
  split at hl
  ·split at hl
   ·rcases List.mem_or_eq_of_mem_set hl with h | h
    ·exact ih (by omega) l h x hx
    ·rename_i n _ _
     subst h
     rw [List.mem_append] at hx
     rcases hx with hx | hx
     ·rcases Nat.lt_or_ge n.info.toNat (setsTo nodes ni k).length with hlt | hge
      ·exact ih (by omega) ((setsTo nodes ni k).getD n.info.toNat []) (by rw [List.getD_eq_getElem?_getD]; simp [hlt]) x hx
      ·rw [List.getD_eq_getElem?_getD, List.getElem?_eq_none hge] at hx; simp at hx
     ·simp at hx; omega
   ·exact ih (by omega) l hl x hx
  ·exact ih (by omega) l hl x hx
theorem underL_length (nodes : List Nd) (roots : List Int) : (underL nodes roots).length = nodes.length := by unfold underL; rw [spTo_length, markL_length]; simp
set_option maxRecDepth 100000 in
set_option maxHeartbeats 1600000 in
theorem setsIn_any (w : World) (F : Foot) (u vr : Value) (g : Gm) (roots : List Int) (hg : GameAt w F u g) (hr : IntsAt w F vr roots) (hsm : Small g) (h0 : 0 < g.nodes.length) (hk : KidsIn g.nodes) (hii : InfosIn g)
  (hl : roots.length ≤ 1000) (hin : ∀ r ∈ roots, 0 ≤ r ∧ r < (g.nodes.length : Int)) :
  Calls Try.prog 27 #[u, vr] w (Ret w fun v w' => ∃ vs, v = .tuple #[vs, .bool (closedL g roots)] ∧ IntsAt w' (fun b => w.heap.size ≤ b) vs (setsInL g roots)) := by
 have HG := Lib.hid hg
 obtain ⟨vn, vi, rfl, ⟨A, c, rfl, hc, hN⟩, ⟨Ai, ci, rfl, hci, hI⟩⟩ := hg
 clear hN hI
 have HR := Lib.hid hr; clear hr
 have HK := Lib.hid hk; clear hk
 have hn := hsm.nodes
 have hni := hsm.infos
 have HS := Lib.hid hsm; clear hsm
 have HIN := Lib.hid hin; clear hin
 have HII := Lib.hid hii; clear hii
 go_enter Try.func27, Try.ntmps27
 go_wp2_with fail
 obtain ⟨W, hW⟩ : ∃ W : World, W = w.alloc (.cells #[.int .i64 g.players, .slice A g.nodes.length c, .slice Ai g.infos.length ci] 25) := ⟨_, rfl⟩
 rw [← hW]
 have hbx : Row W w.heap.size 25 [.int .i64 g.players, .slice A g.nodes.length c, .slice Ai g.infos.length ci] := by rw [hW]; exact Row.new w _ _
 have hWb : Below w.heap.size w W := by rw [hW]; exact (Below.refl _ _).alloc (Nat.le_refl _) _
 have hWz : w.heap.size < W.heap.size := by rw [hW]; simp
 clear hW
 refine wp_region_held_drew (S := fun w' => w'.cell? ⟨w.heap.size, 0, none⟩ = some (.int .i64 g.players) ∧ w'.cell? ⟨w.heap.size, 1, none⟩ = some (.slice A g.nodes.length c) ∧ w'.cell? ⟨w.heap.size, 2, none⟩ = some (.slice Ai g.infos.length ci)) (by kernel_rfl) ⟨hbx.cell rfl, hbx.cell rfl, hbx.cell rfl⟩ (fun hHeld => ?_)
 refine wpAnyH_take (i := 0) (v := ?_) rfl (by kernel_rfl) (by kernel_rfl) (by kernel_rfl) (fun _ _ _ h => h) (Or.inl ⟨by rfl, ?_⟩) hHeld ?_
 rotate_left
 ·intro wx hSx; (try dsimp only at hSx); go_split_ands; go_simp; try (with_reducible rfl)
 try simp only [Act.put, lq1, lq2, lq3, lq4, lq5, lq6]
 refine wpAnyH_take (i := 1) (v := ?_) rfl (by kernel_rfl) (by kernel_rfl) (by kernel_rfl) (fun _ _ _ h => h) (Or.inl ⟨by rfl, ?_⟩) hHeld ?_
 rotate_left
 ·intro wx hSx; (try dsimp only at hSx); go_split_ands; go_simp; try (with_reducible rfl)
 try simp only [Act.put, lq1, lq2, lq3, lq4, lq5, lq6]
 refine wpAnyH_take (i := 3) (v := ?_) rfl (by kernel_rfl) (by kernel_rfl) (by kernel_rfl) (fun _ _ _ h => h) (Or.inl ⟨by rfl, ?_⟩) hHeld ?_
 rotate_left
 ·intro wx hSx; (try dsimp only at hSx); go_split_ands; go_simp; try (with_reducible rfl)
 try simp only [Act.put, lq1, lq2, lq3, lq4, lq5, lq6]
 refine wpAnyH_ready (rs := [2]) (by kernel_rfl) (by simp) ?_
 refine AllReadyH.cons (o := _) rfl (fun K hK => ?_) AllReadyH.nil
 go_simp
 refine (under_any _ F _ _ g roots ((HG.out.on (Below.same' hWb F)).on (Same.drewN F W 1)) ((HR.out.on (Below.same' hWb F)).on (Same.drewN F W 1)) HS.out h0 HK.out hl HIN.out).mono ?_
 rintro e w1 ⟨vu, rfl, hb1, hun⟩
 have hbx1 := hbx.drew.below hb1 hbx.lt
 dsimp only
 refine hK.out _ _ ⟨hbx1.cell rfl, hbx1.cell rfl, hbx1.cell rfl⟩ (fun hHeld => ?_)
 clear hK K
 try simp only [Act.put, lq1, lq2, lq3, lq4, lq5, lq6]
 refine wpAnyH_ready (rs := [4]) (by kernel_rfl) (by simp) ?_
 refine AllReadyH.cons (o := _) rfl (fun K hK => ?_) AllReadyH.nil
 go_simp
 refine (setsOf_any _ F _ g (((HG.out.on (Below.same' hWb F)).on (Same.drewN F W 1)).on (Below.same' hb1 F)) HS.out HII.out).mono ?_
 rintro e w2 ⟨vss, rfl, hb2, hse⟩
 have hbx2 := hbx1.below hb2 hbx1.lt
 dsimp only
 refine hK.out _ _ ⟨hbx2.cell rfl, hbx2.cell rfl, hbx2.cell rfl⟩ (fun hHeld => ?_)
 clear hK K
 try simp only [Act.put, lq1, lq2, lq3, lq4, lq5, lq6]
 refine wpAnyH_take (i := 5) (v := ?_) rfl (by kernel_rfl) (by kernel_rfl) (by kernel_rfl) (fun _ _ _ h => h) (Or.inl ⟨by rfl, ?_⟩) hHeld ?_
 rotate_left
 ·intro wx hSx; (try dsimp only at hSx); go_split_ands; go_simp; try (with_reducible rfl)
 try simp only [Act.put, lq1, lq2, lq3, lq4, lq5, lq6]
 refine wpAnyH_take (i := 6) (v := ?_) rfl (by kernel_rfl) (by kernel_rfl) (by kernel_rfl) (fun _ _ _ h => h) (Or.inl ⟨by rfl, ?_⟩) hHeld ?_
 rotate_left
 ·intro wx hSx; (try dsimp only at hSx); go_split_ands; go_simp; try (with_reducible rfl)
 try simp only [Act.put, lq1, lq2, lq3, lq4, lq5, lq6]
 refine wpAnyH_done (by kernel_rfl) ?_ _
 have hz12 : w1.heap.size ≤ w2.heap.size := hb2.size
 have hzW : W.heap.size ≤ w1.heap.size := hb1.size
 have hun2 := hun.on (Below.same' hb2 _)
 have hBB : Below w.heap.size w w2 := hWb.drew.trans ((hb1.mono (by simp; omega)).trans (hb2.mono (by omega)))
 have HBB := Lib.hid hBB
 clear hBB hun hbx1 hbx hb1 hb2 hWb hHeld HG HR
 have hx1 := hbx2.lt
 clear hbx2
 have hul := underL_length g.nodes roots
 generalize hinn : underL g.nodes roots = inn at *
 have hsl : (setsL g).length = g.infos.length := setsTo_length _ _ _
 have hsin : ∀ l ∈ setsL g, ∀ x ∈ l, 0 ≤ x ∧ x < (g.nodes.length : Int) := setsTo_in (Nat.le_refl _)
 have hsle : ∀ l ∈ setsL g, l.length ≤ g.nodes.length := setsTo_len
 have hR1 : setsInL g roots = setsInTo inn (setsL g) g.infos.length := by unfold setsInL; rw [hinn]
 have hR2 : closedL g roots = allInTo inn (setsL g) g.infos.length := by unfold closedL; rw [hinn]
 have HR1 := Lib.hid hR1; have HR2 := Lib.hid hR2
 clear hR1 hR2 hinn
 generalize setsL g = sets at *
 obtain ⟨As, cs, rfl, hcs, hS⟩ := hse
 obtain ⟨Au, cu, rfl, hcu, hU⟩ := hun2
 have HSE := Lib.hid hS; clear hS
 have HUN := Lib.hid hU; clear hU
 have HSIN := Lib.hid hsin; clear hsin
 have HSLE := Lib.hid hsle; clear hsle
 have HUL := Lib.hid hul; have hul0 : inn.length ≤ 100 := by omega
 clear hul
 have HSL := Lib.hid hsl; have hsl0 : sets.length ≤ 100 := by omega
 clear hsl
 go_wp2
 go_loopw [8, 9, 10] (fun vo cl i wr => ∃ k : Nat, k ≤ sets.length ∧ i = .int .i64 k ∧ cl = .bool (allInTo inn sets k) ∧ wr.ownsRow w2.heap.size 3 1 vo (setsInTo inn sets k).length ((setsInTo inn sets k).map (Value.int .i64)) ∧ Below w2.heap.size w2 wr) (fun _ _ i _ => sets.length - (intOf i).toNat)
 case atStart => exact ⟨0, by omega, rfl, rfl, World.ownsRow_nil _ _ _ _, Below.refl _ _⟩
 case round =>
  obtain ⟨k, hk, rfl, rfl, hown, hbel⟩ := hrel
  have hold := below_old hbel
  by_cases hlt : k < sets.length
  ·obtain ⟨bs, os, rfl, _, hbs, hxs⟩ := HSE.out (by omega)
   obtain ⟨l, hl⟩ := getSome hlt
   obtain ⟨vl, el, Al, cl, rfl, hcl, hLl⟩ := hxs k l hl
   rw [Nat.mul_one] at el
   have HX := Lib.hid hl
   have hll := HSLE.out l (List.mem_of_getElem? hl)
   have hlin := HSIN.out l (List.mem_of_getElem? hl)
   have HLIN := Lib.hid hlin
   have HLl := Lib.hid hLl
   clear hl hxs hlin hLl
   have HO := Lib.hid hown; clear hown
   have hlen := setsInTo_length inn sets k
   generalize hal : allInTo inn sets k = al at *
   have HAL := Lib.hid hal; clear hal
   go_wp2
   go_loop [11, 12] (fun m i => ∃ j : Nat, j ≤ l.length ∧ i = .int .i64 j ∧ m = .int .i64 (manyIn inn (l.take j))) (fun _ i => l.length - (intOf i).toNat)
   case atStart => exact ⟨0, by omega, rfl, by simp [manyIn]⟩
   case round =>
    obtain ⟨j, hj, rfl, rfl⟩ := hrel
    have hmj := manyIn_le inn (l.take j)
    rw [List.length_take] at hmj
    have hmj' : manyIn inn (l.take j) ≤ 1000 := by omega
    clear hmj
    by_cases hjt : j < l.length
    ·obtain ⟨bl, ol, rfl, _, hbl, hxl⟩ := HLl.out (by omega)
     obtain ⟨x, hx⟩ := getSome hjt
     have ex := hxl j x hx
     unfold intE at ex
     rw [Nat.mul_one] at ex
     obtain ⟨hx0, hx1'⟩ := HLIN.out x (List.mem_of_getElem? hx)
     have hul := HUL.out
     obtain ⟨bu, ou, rfl, _, hbu, hxu⟩ := HUN.out (by omega)
     obtain ⟨y, hy⟩ := getSome (l := inn) (k := x.toNat) (by omega)
     have ey := hxu _ y hy
     unfold boolE at ey
     rw [Nat.mul_one] at ey
     have hxn : x < (inn.length : Int) := by omega
     clear hul hxl hxu
     have HST := Lib.hid (manyIn_snoc hx hy)
     clear hx hy
     cases y
     ·go_wp2
      go_round
      case rel => exact ⟨j + 1, by omega, by go_num, by rw [HST.out]; simp⟩
      case measure => simp [intOf]; omega
     ·go_wp2
      go_round
      case rel => exact ⟨j + 1, by omega, by go_num, by rw [HST.out]; simp⟩
      case measure => simp [intOf]; omega
    ·have hje : j = l.length := by omega
     have hmm : manyIn inn (l.take j) = manyIn inn l := by rw [List.take_of_length_le (by omega)]
     rw [hmm] at hmj' ⊢
     clear hmm
     have HSI := Lib.hid (setsInTo_snoc (inn := inn) HX.out)
     have HAI := Lib.hid (allInTo_snoc (inn := inn) HX.out)
     generalize manyIn inn l = m at *
     by_cases hm0 : 0 < m
     ·cases al
      ·go_wp2_with (at_builtin; refine wpl_app_int rfl _ _ rfl w2.heap.size _ (setsInTo inn sets k) rfl (HO.out.alloc _) wr.heap.size k rfl (heap_alloc_new _ _) (by omega) (by have := hbel.size; simp; omega) ?_; intro gg cap w3 hown3 hgrow hat hlt3; have hbel3 : Below w2.heap.size w2 w3 := (hbel.alloc hbel.size _).grown hgrow (by have := hbel.size; simp; omega) (fun k hk => (HO.out.lt k hk).1); have HO3 := Lib.hid hown3; clear hown3 hgrow hat hlt3; have hold3 := below_old hbel3)
       go_roundw
       case rel =>
        refine ⟨k + 1, by omega, by go_num, ?_, ?_, hbel3⟩
        ·rw [HAI.out, HAL.out]; rfl
        ·rw [HSI.out, if_pos hm0]; simpa using HO3.out
       case measure => simp [intOf]; omega
      ·by_cases hml : m = l.length
       ·have hd : ((m : Int) == (l.length : Int)) = true := by simp; omega
        go_wp2_with (at_builtin; refine wpl_app_int rfl _ _ rfl w2.heap.size _ (setsInTo inn sets k) rfl (HO.out.alloc _) wr.heap.size k rfl (heap_alloc_new _ _) (by omega) (by have := hbel.size; simp; omega) ?_; intro gg cap w3 hown3 hgrow hat hlt3; have hbel3 : Below w2.heap.size w2 w3 := (hbel.alloc hbel.size _).grown hgrow (by have := hbel.size; simp; omega) (fun k hk => (HO.out.lt k hk).1); have HO3 := Lib.hid hown3; clear hown3 hgrow hat hlt3; have hold3 := below_old hbel3)
        go_roundw
        case rel =>
         refine ⟨k + 1, by omega, by go_num, ?_, ?_, hbel3⟩
         ·rw [HAI.out, HAL.out]; simp [hml]
         ·rw [HSI.out, if_pos hm0]; simpa using HO3.out
        case measure => simp [intOf]; omega
       ·have hd : ((m : Int) == (l.length : Int)) = false := by simp; omega
        go_wp2_with (at_builtin; refine wpl_app_int rfl _ _ rfl w2.heap.size _ (setsInTo inn sets k) rfl (HO.out.alloc _) wr.heap.size k rfl (heap_alloc_new _ _) (by omega) (by have := hbel.size; simp; omega) ?_; intro gg cap w3 hown3 hgrow hat hlt3; have hbel3 : Below w2.heap.size w2 w3 := (hbel.alloc hbel.size _).grown hgrow (by have := hbel.size; simp; omega) (fun k hk => (HO.out.lt k hk).1); have HO3 := Lib.hid hown3; clear hown3 hgrow hat hlt3; have hold3 := below_old hbel3)
        go_roundw
        case rel =>
         refine ⟨k + 1, by omega, by go_num, ?_, ?_, hbel3⟩
         ·rw [HAI.out, HAL.out]; simp [hml, hm0]
         ·rw [HSI.out, if_pos hm0]; simpa using HO3.out
        case measure => simp [intOf]; omega
     ·go_wp2
      go_roundw
      case rel =>
       refine ⟨k + 1, by omega, by go_num, ?_, ?_, hbel⟩
       ·rw [HAI.out, HAL.out]; simp [hm0]
       ·rw [HSI.out, if_neg hm0]; simpa using HO.out
      case measure => simp [intOf]; omega
  ·go_wp2
   go_ret2
   have hke : k = sets.length := by omega
   subst hke
   have h1 := HSL.out
   refine ⟨_, rfl, HBB.out.trans (hbel.mono (by omega)), u8, ?_, ?_⟩
   ·rw [HR2.out, ← h1]; rfl
   ·rw [HR1.out, ← h1]
    exact Own.ints (by simpa [Own] using hown) (fun b hb => by have := (hown.lt b hb).1; omega)
end Go.Proofs.Ytafjdoedallnbaa
/- parlourref11.Form: the error of a game. -/
namespace Go.Proofs.Ytafjdoedallnbaa
open List renaming getElem_toArray → lq1, getElem_cons_zero → lq2, getElem_cons_succ → lq3, setIfInBounds_toArray → lq4, set_cons_zero → lq5, set_cons_succ → lq6
open Go.RowKit
def sizeBad (g : Gm) : Prop := g.players < 1 ∨ 4 < g.players ∨ g.nodes.length < 1 ∨ 2000 < g.nodes.length ∨ 200 < g.infos.length
instance (g : Gm) : Decidable (sizeBad g) := by unfold sizeBad; infer_instance
/-- the first error of some nodes by themselves -/
def nodesErr (players : Int) (ni : Nat) : List Nd → Int
 | [] => 0
 | x :: l => if nodeErr players ni x ≠ 0 then nodeErr players ni x else nodesErr players ni l
def typeBadAt (infos : List Inf) (x : Nd) : Bool := decide (x.kind = 2) && (decide ((infos.getD x.info.toNat default).player ≠ x.player) || decide ((infos.getD x.info.toNat default).actions ≠ (x.next.length : Int)))
def typeBad (g : Gm) : Bool := g.nodes.any (typeBadAt g.infos)
def noneBad (sets : List (List Int)) : Bool := sets.any fun l => decide (l.length = 0)
def firstBadAt (sets : List (List Int)) (i : Nat) : Bool := decide ((sets.getD i []).getD 0 0 < (sets.getD (i - 1) []).getD 0 0)
def firstBadTo (sets : List (List Int)) (m : Nat) : Bool := (List.range' 1 (m - 1)).any (firstBadAt sets)
def setsErr (g : Gm) : Int := if typeBad g then 10 else if noneBad (setsL g) then 18 else if firstBadTo (setsL g) g.infos.length then 9 else 0
def formL (g : Gm) : Int :=
 if sizeBad g then 2 else if nodesErr g.players g.infos.length g.nodes ≠ 0 then nodesErr g.players g.infos.length g.nodes
 else if (walkR g.nodes (g.nodes.length + 1) 0 0 0).1 ≠ g.nodes.length then 9 else if 40 < (walkR g.nodes (g.nodes.length + 1) 0 0 0).2 then 5 else setsErr g
theorem nodesErr_drop {players : Int} {ni : Nat} {l : List Nd} {k : Nat} {x : Nd} (h : l[k]? = some x) : nodesErr players ni (l.drop k) = if nodeErr players ni x ≠ 0 then nodeErr players ni x else nodesErr players ni (l.drop (k + 1)) := by
 have hl := lt_of_get h
 rw [List.drop_eq_getElem_cons hl]
 have : l[k] = x := by simpa [hl] using h
 rw [this]; rfl
theorem nodesErr_zero {players : Int} {ni : Nat} : ∀ {l : List Nd}, nodesErr players ni l = 0 → ∀ x ∈ l, nodeErr players ni x = 0
 | [], _, _, h => by cases h
 | y :: l, h, x, hx => by
  unfold nodesErr at h
  split at h
  ·rename_i h1; exact absurd h h1
  ·rename_i h1
   rcases List.mem_cons.1 hx with rfl | hx
   ·simpa using h1
   ·exact nodesErr_zero h x hx
theorem infosIn_of {g : Gm} (h : nodesErr g.players g.infos.length g.nodes = 0) : InfosIn g := by
 intro x hx hk
 have := nodesErr_zero h x hx
 unfold nodeErr moveErr at this
 rw [if_neg (by omega), if_pos hk] at this
 split at this
 ·omega
 ·split at this
  ·omega
  ·omega
theorem firstBadTo_succ (sets : List (List Int)) (m : Nat) (h : 1 ≤ m) : firstBadTo sets (m + 1) = (firstBadTo sets m || firstBadAt sets m) := by
 unfold firstBadTo
 have : m + 1 - 1 = (m - 1) + 1 := by omega
 rw [this, List.range'_concat, List.any_append]
 simp
 rw [show 1 + (m - 1) = m by omega]
theorem firstBadTo_of {sets : List (List Int)} {m k : Nat} (h : 1 ≤ m) (hm : m < k) (hb : firstBadAt sets m = true) : firstBadTo sets k = true := by
 unfold firstBadTo
 rw [List.any_eq_true]
 exact ⟨m, by rw [List.mem_range'_1]; omega, hb⟩
set_option maxRecDepth 100000 in
set_option maxHeartbeats 6400000 in
theorem formR_any (w : World) (F : Foot) (u : Value) (g : Gm) (hg : GameAt w F u g) (hsm : Small g) :
  Calls Try.prog 37 #[u] w (Ret w fun v _ => v = .int .i64 (formL g)) := by
 have HG := Lib.hid hg
 obtain ⟨vn, vi, rfl, ⟨A, c, rfl, hc, hN⟩, ⟨Ai, ci, rfl, hci, hI⟩⟩ := hg
 have HN := Lib.hid hN; have HI := Lib.hid hI; clear hN hI
 have hn := hsm.nodes
 have hni := hsm.infos
 have HS := Lib.hid hsm; clear hsm
 by_cases q0 : g.players < 1
 ·have HF := Lib.hid (show formL g = 2 by unfold formL; rw [if_pos (by unfold sizeBad; omega)])
  go_enter Try.func37, Try.ntmps37
  go_wp2
  go_ret
  exact ⟨_, rfl, (Below.refl _ _).alloc (Nat.le_refl _) _, by rw [HF.out]; rfl⟩
 have d0 : decide (g.players < 1) = false := decide_eq_false (by omega)
 by_cases q1 : 4 < g.players
 ·have HF := Lib.hid (show formL g = 2 by unfold formL; rw [if_pos (by unfold sizeBad; omega)])
  go_enter Try.func37, Try.ntmps37
  go_wp2
  go_ret
  exact ⟨_, rfl, (Below.refl _ _).alloc (Nat.le_refl _) _, by rw [HF.out]; rfl⟩
 have d1 : decide ((4 : Int) < g.players) = false := decide_eq_false (by omega)
 by_cases q2 : g.nodes.length < 1
 ·have HF := Lib.hid (show formL g = 2 by unfold formL; rw [if_pos (by unfold sizeBad; omega)])
  go_enter Try.func37, Try.ntmps37
  go_wp2
  go_ret
  exact ⟨_, rfl, (Below.refl _ _).alloc (Nat.le_refl _) _, by rw [HF.out]; rfl⟩
 have d2 : decide ((g.nodes.length : Int) < 1) = false := decide_eq_false (by omega)
 have HV := Lib.hid (show formL g = if nodesErr g.players g.infos.length g.nodes ≠ 0 then nodesErr g.players g.infos.length g.nodes
   else if (walkR g.nodes (g.nodes.length + 1) 0 0 0).1 ≠ g.nodes.length then 9 else if 40 < (walkR g.nodes (g.nodes.length + 1) 0 0 0).2 then 5 else setsErr g by
  unfold formL; rw [if_neg (by unfold sizeBad; omega)])
 obtain ⟨b, o, rfl, hbF, hb, hcell⟩ := HN.out (by omega)
 have HC := Lib.hid hcell; clear hcell
 go_enter Try.func37, Try.ntmps37
 go_wp2
 go_loopw [3] (fun i wr => ∃ k : Nat, k ≤ g.nodes.length ∧ i = .int .i64 k ∧ Row wr w.heap.size 25 [.int .i64 g.players, .slice (some ⟨b, o, none⟩) g.nodes.length c, .slice Ai g.infos.length ci] ∧ Below w.heap.size w wr ∧ nodesErr g.players g.infos.length g.nodes = nodesErr g.players g.infos.length (g.nodes.drop k)) (fun i _ => g.nodes.length - (intOf i).toNat)
 case atStart => exact ⟨0, by omega, rfl, Row.new w _ _, (Below.refl _ _).alloc (Nat.le_refl _) _, rfl⟩
 case round =>
  obtain ⟨k, hk, rfl, hbx, hbel, hval⟩ := hrel
  have HV1 := Lib.hid hval; clear hval
  have x0 := hbx.cell (i := 0) rfl
  have x1 := hbx.cell (i := 1) rfl
  have x2 := hbx.cell (i := 2) rfl
  have hold := below_old hbel
  by_cases hlt : k < g.nodes.length
  ·obtain ⟨x, hx⟩ := getSome hlt
   obtain ⟨e0, e1, e2, ⟨v3, e3, i3⟩, ⟨v4, e4, i4⟩, ⟨v5, e5, i5⟩⟩ := HC.out k x hx
   have V := Lib.hid (show NodeV w F _ x from ⟨v3, v4, v5, rfl, i3, i4, i5⟩)
   clear i3 i4 i5
   have M := List.mem_of_getElem? hx
   have L : x.next.length < 1000000 ∧ x.weights.length < 1000000 ∧ x.pay.length < 1000000 := ⟨by have := HS.out.next x M; omega, by have := HS.out.weights x M; omega, by have := HS.out.pay x M; omega⟩
   have HL := Lib.hid L; clear L M
   have HV2 := Lib.hid (HV1.out.trans (nodesErr_drop hx)); clear hx
   have hbw : b < wr.heap.size := by have := hbel.size; omega
   have hBw : w.heap.size < wr.heap.size := hbx.lt
   go_wp2
   refine wp_region_held_drew (S := fun w' => ∀ b o, b < wr.heap.size → w'.cell? ⟨b, o, none⟩ = wr.cell? ⟨b, o, none⟩) (by kernel_rfl) (fun _ _ _ => rfl) (fun hHeld => ?_)
   refine wpAnyH_take (i := 0) (v := ?_) rfl (by kernel_rfl) (by kernel_rfl) (by kernel_rfl) (fun _ _ _ h => h) (Or.inl ⟨by rfl, ?_⟩) hHeld ?_
   rotate_left
   ·intro wx hSx; (try dsimp only at hSx); go_split_ands; go_simp; try (with_reducible rfl)
   try simp only [Act.put, lq1, lq2, lq3, lq4, lq5, lq6]
   refine wpAnyH_take (i := 1) (v := ?_) rfl (by kernel_rfl) (by kernel_rfl) (by kernel_rfl) (fun _ _ _ h => h) (Or.inl ⟨by rfl, ?_⟩) hHeld ?_
   rotate_left
   ·intro wx hSx; (try dsimp only at hSx); go_split_ands; go_simp; try (with_reducible rfl)
   try simp only [Act.put, lq1, lq2, lq3, lq4, lq5, lq6]
   refine wpAnyH_take (i := 2) (v := ?_) rfl (by kernel_rfl) (by kernel_rfl) (by kernel_rfl) (fun _ _ _ h => h) (Or.inl ⟨by rfl, ?_⟩) hHeld ?_
   rotate_left
   ·intro wx hSx; (try dsimp only at hSx); go_split_ands; go_simp; try (with_reducible rfl)
   try simp only [Act.put, lq1, lq2, lq3, lq4, lq5, lq6]
   refine wpAnyH_take (i := 3) (v := ?_) rfl (by kernel_rfl) (by kernel_rfl) (by kernel_rfl) (fun _ _ _ h => h) (Or.inl ⟨by rfl, ?_⟩) hHeld ?_
   rotate_left
   ·intro wx hSx; (try dsimp only at hSx); go_split_ands; go_simp; try (with_reducible rfl)
   try simp only [Act.put, lq1, lq2, lq3, lq4, lq5, lq6]
   refine wpAnyH_take (i := 4) (v := ?_) rfl (by kernel_rfl) (by kernel_rfl) (by kernel_rfl) (fun _ _ _ h => h) (Or.inl ⟨by rfl, ?_⟩) hHeld ?_
   rotate_left
   ·intro wx hSx; (try dsimp only at hSx); go_split_ands; go_simp; try (with_reducible rfl)
   try simp only [Act.put, lq1, lq2, lq3, lq4, lq5, lq6]
   refine wpAnyH_take (i := 5) (v := ?_) rfl (by kernel_rfl) (by kernel_rfl) (by kernel_rfl) (fun _ _ _ h => h) (Or.inl ⟨by rfl, ?_⟩) hHeld ?_
   rotate_left
   ·intro wx hSx; (try dsimp only at hSx); go_split_ands; go_simp; try (with_reducible rfl)
   try simp only [Act.put, lq1, lq2, lq3, lq4, lq5, lq6]
   refine wpAnyH_ready (rs := [6]) (by kernel_rfl) (by simp) ?_
   refine AllReadyH.cons (o := _) rfl (fun K hK => ?_) AllReadyH.nil
   go_simp
   refine (node_any _ F _ _ g x (HG.out.on (Below.same' hbel.drew F)) (V.out.on (Below.same' hbel.drew F)) HL.out (by omega)).mono ?_
   rintro e w1 ⟨_, rfl, hb1, rfl⟩
   have hb1' : Below wr.heap.size wr w1 := (Below.refl _ _).drew.trans hb1
   dsimp only
   refine hK.out _ _ (below_old hb1') (fun hHeld => ?_)
   clear hK K
   try simp only [Act.put, lq1, lq2, lq3, lq4, lq5, lq6]
   refine wpAnyH_take (i := 7) (v := ?_) rfl (by kernel_rfl) (by kernel_rfl) (by kernel_rfl) (fun _ _ _ h => h) (Or.inl ⟨by rfl, ?_⟩) hHeld ?_
   rotate_left
   ·intro wx hSx; (try dsimp only at hSx); go_split_ands; go_simp; try (with_reducible rfl)
   try simp only [Act.put, lq1, lq2, lq3, lq4, lq5, lq6]
   refine wpAnyH_done (by kernel_rfl) ?_ _
   generalize nodeErr g.players g.infos.length x = er at *
   by_cases he : er = 0
   ·subst he
    go_wp2
    go_roundw
    case rel =>
     refine ⟨k + 1, by omega, by go_num, hbx.below hb1' hbx.lt, hbel.trans (hb1'.mono hbel.size), ?_⟩
     rw [HV2.out]; simp
    case measure => simp [intOf]; omega
   ·have hd : (er != 0) = true := by simp [he]
    have HF := Lib.hid (show formL g = er by rw [HV.out, HV2.out]; simp [he])
    clear he
    go_wp2
    go_ret
    exact ⟨_, rfl, hbel.trans (hb1'.mono hbel.size), by rw [HF.out]; rfl⟩
  ·have HNE := Lib.hid (show nodesErr g.players g.infos.length g.nodes = 0 by
    rw [HV1.out, List.drop_eq_nil_of_le (by omega)]; rfl)
   go_wp2
   obtain ⟨W, hW⟩ : ∃ W : World, W = wr.alloc (.cells #[.int .i64 0] 3) := ⟨_, rfl⟩
   rw [← hW]
   have hbd : Row W wr.heap.size 3 [.int .i64 0] := by rw [hW]; exact Row.new wr _ _
   have hbx2 := hbx.alloc (.cells #[.int .i64 0] 3)
   rw [← hW] at hbx2
   have hWb : Below w.heap.size w W := by rw [hW]; exact hbel.alloc hbel.size _
   have hBw : w.heap.size < wr.heap.size := hbx.lt
   clear hW hbx x0 x1 x2 hold hbel
   have hGW : GameAt W (fun b => b ≠ wr.heap.size) _ g := HG.out.keep (fun b _ hl => by omega) (Below.same' hWb F)
   have HGW := Lib.hid hGW; clear hGW
   have x0 := hbx2.cell (i := 0) rfl
   have x1 := hbx2.cell (i := 1) rfl
   have x2 := hbx2.cell (i := 2) rfl
   refine wp_region_held_drew (S := fun w' => w'.cell? ⟨w.heap.size, 0, none⟩ = some (.int .i64 g.players) ∧ w'.cell? ⟨w.heap.size, 1, none⟩ = some (.slice (some ⟨b, o, none⟩) g.nodes.length c) ∧ w'.cell? ⟨w.heap.size, 2, none⟩ = some (.slice Ai g.infos.length ci)) (by kernel_rfl) ⟨x0, x1, x2⟩ (fun hHeld => ?_)
   refine wpAnyH_take (i := 0) (v := ?_) rfl (by kernel_rfl) (by kernel_rfl) (by kernel_rfl) (fun _ _ _ h => h) (Or.inl ⟨by rfl, ?_⟩) hHeld ?_
   rotate_left
   ·intro wx hSx; (try dsimp only at hSx); go_split_ands; go_simp; try (with_reducible rfl)
   try simp only [Act.put, lq1, lq2, lq3, lq4, lq5, lq6]
   refine wpAnyH_take (i := 2) (v := ?_) rfl (by kernel_rfl) (by kernel_rfl) (by kernel_rfl) (fun _ _ _ h => h) (Or.inl ⟨by rfl, ?_⟩) hHeld ?_
   rotate_left
   ·intro wx hSx; (try dsimp only at hSx); go_split_ands; go_simp; try (with_reducible rfl)
   try simp only [Act.put, lq1, lq2, lq3, lq4, lq5, lq6]
   refine wpAnyH_take (i := 3) (v := ?_) rfl (by kernel_rfl) (by kernel_rfl) (by kernel_rfl) (fun _ _ _ h => h) (Or.inl ⟨by rfl, ?_⟩) hHeld ?_
   rotate_left
   ·intro wx hSx; (try dsimp only at hSx); go_split_ands; go_simp; try (with_reducible rfl)
   try simp only [Act.put, lq1, lq2, lq3, lq4, lq5, lq6]
   refine wpAnyH_take (i := 4) (v := ?_) rfl (by kernel_rfl) (by kernel_rfl) (by kernel_rfl) (fun _ _ _ h => h) (Or.inl ⟨by rfl, ?_⟩) hHeld ?_
   rotate_left
   ·intro wx hSx; (try dsimp only at hSx); go_split_ands; go_simp; try (with_reducible rfl)
   try simp only [Act.put, lq1, lq2, lq3, lq4, lq5, lq6]
   refine wpAnyH_ready (rs := [1]) (by kernel_rfl) (by simp) ?_
   refine AllReadyH.cons (o := _) rfl (fun K hK => ?_) AllReadyH.nil
   go_simp
   refine (walkR_any g HS.out (g.nodes.length + 1) 0 0 0 W.drew wr.heap.size _ (HGW.out.on (Same.drewN _ W 1)) hbd.drew (by omega) (by omega) (by omega) (by omega) (by omega)).mono ?_
   rintro e w1 ⟨rfl, hrw, hgr⟩
   have hbx3 : Row w1 w.heap.size _ _ := hbx2.drew.of_block (hgr.block _ (by have := hbx2.lt; simpa using this) (by simp; omega))
   have hb1 : Below w.heap.size w w1 := hWb.drew.grown hgr (by have := hWb.size; simpa using this) (fun k hk => by simp at hk; omega)
   dsimp only
   refine hK.out _ _ ⟨hbx3.cell rfl, hbx3.cell rfl, hbx3.cell rfl⟩ (fun hHeld => ?_)
   clear hK K
   try simp only [Act.put, lq1, lq2, lq3, lq4, lq5, lq6]
   refine wpAnyH_take (i := 5) (v := ?_) rfl (by kernel_rfl) (by kernel_rfl) (by kernel_rfl) (fun _ _ _ h => h) (Or.inl ⟨by rfl, ?_⟩) hHeld ?_
   rotate_left
   ·intro wx hSx; (try dsimp only at hSx); go_split_ands; go_simp; try (with_reducible rfl)
   try simp only [Act.put, lq1, lq2, lq3, lq4, lq5, lq6]
   refine wpAnyH_done (by kernel_rfl) ?_ _
   have hdd := walkR_deep g.nodes 1000 (g.nodes.length + 1) 0 0 0 (by omega) (by omega) (by omega)
   have HV2 := Lib.hid (HV.out.trans (by rw [HNE.out]; simp only [ne_eq, not_true_eq_false, ↓reduceIte]) : formL g = if (walkR g.nodes (g.nodes.length + 1) 0 0 0).1 ≠ g.nodes.length then 9 else if 40 < (walkR g.nodes (g.nodes.length + 1) 0 0 0).2 then 5 else setsErr g)
   generalize walkR g.nodes (g.nodes.length + 1) 0 0 0 = rr at *
   obtain ⟨rn, rd⟩ := rr
   dsimp only at hrw hdd HV2
   clear hbd hbx2 x0 x1 x2 hWb hgr hHeld HGW
   by_cases he : rn = (g.nodes.length : Int)
   case neg =>
    have hd : (rn != (g.nodes.length : Int)) = true := by simp [he]
    have HF := Lib.hid (show formL g = 9 by rw [HV2.out, if_pos he])
    clear he
    go_wp2
    go_ret
    exact ⟨_, rfl, hb1, by rw [HF.out]; rfl⟩
   have hd : (rn != (g.nodes.length : Int)) = false := by simp [he]
   have HRN := Lib.hid he; clear he
   have y0 := hrw.cell (i := 0) rfl
   by_cases h40 : 40 < rd
   ·have HF := Lib.hid (show formL g = 5 by rw [HV2.out, if_neg (by simpa using HRN.out), if_pos h40])
    go_wp2
    go_ret
    exact ⟨_, rfl, hb1, by rw [HF.out]; rfl⟩
   have HV3 := Lib.hid (show formL g = setsErr g by rw [HV2.out, if_neg (by simpa using HRN.out), if_neg h40])
   have x1 := hbx3.cell (i := 1) rfl
   go_wp2
   clear hrw y0 x1 hdd
   go_loopw [6] (fun i wi => ∃ k : Nat, k ≤ g.nodes.length ∧ i = .int .i64 k ∧ (g.nodes.take k).any (typeBadAt g.infos) = false ∧ Row wi w.heap.size 25 [.int .i64 g.players, .slice (some ⟨b, o, none⟩) g.nodes.length c, .slice Ai g.infos.length ci] ∧ Below w.heap.size w wi) (fun i _ => g.nodes.length - (intOf i).toNat)
   case atStart => exact ⟨0, by omega, rfl, rfl, hbx3, hb1⟩
   case round =>
    clear hbx3 hb1
    obtain ⟨k2, hk2, rfl, hpre, hbx, hbel⟩ := hrel
    have HP := Lib.hid hpre; clear hpre
    have x0 := hbx.cell (i := 0) rfl
    have x1 := hbx.cell (i := 1) rfl
    have x2 := hbx.cell (i := 2) rfl
    have hold := below_old hbel
    have hBw : w.heap.size < wr.heap.size := hbx.lt
    by_cases hlt2 : k2 < g.nodes.length
    ·obtain ⟨x, hx⟩ := getSome hlt2
     obtain ⟨e0, e1, e2, ⟨v3, e3, A3, c3, rfl, hc3, i3⟩, ⟨v4, e4, A4, c4, rfl, hc4, i4⟩, ⟨v5, e5, A5, c5, rfl, hc5, i5⟩⟩ := HC.out k2 x hx
     clear i3 i4 i5
     have hl3 := HS.out.next x (List.mem_of_getElem? hx)
     have HX := Lib.hid hx
     have BAD := Lib.hid (show typeBadAt g.infos x = true → formL g = 10 by
      intro h
      have : typeBad g = true := List.any_eq_true.2 ⟨x, List.mem_of_getElem? HX.out, h⟩
      rw [HV3.out]; unfold setsErr; rw [this]; rfl)
     have HII := Lib.hid (infosIn_of HNE.out x (List.mem_of_getElem? hx))
     clear hx
     by_cases hkd : x.kind = 2
     ·obtain ⟨hin0, hin1⟩ := HII.out hkd
      have hd2 : (x.kind == 2) = true := by simp [hkd]
      obtain ⟨bi, oi, rfl, _, hbi, hxi⟩ := HI.out (by omega)
      obtain ⟨inf, hinf⟩ := getSome (l := g.infos) (k := x.info.toNat) (by omega)
      obtain ⟨c0, c1⟩ := hxi _ inf hinf
      have HT := Lib.hid (show typeBadAt g.infos x = (decide (inf.player ≠ x.player) || decide (inf.actions ≠ (x.next.length : Int))) by
       unfold typeBadAt; simp [hkd, List.getD_eq_getElem?_getD, hinf])
      have hbiw : bi < wr.heap.size := by have := hbel.size; omega
      clear hinf hxi hkd
      by_cases p1 : inf.player = x.player
      ·have f1 : (inf.player != x.player) = false := neF p1
       by_cases p2 : inf.actions = (x.next.length : Int)
       ·have f2 : (inf.actions != (x.next.length : Int)) = false := neF p2
        have HF := Lib.hid (show typeBadAt g.infos x = false by rw [HT.out]; simp [p1, p2])
        clear p1 p2
        go_wp2
        go_quiet (fail)
        go_wp2
        go_roundw
        case rel => exact ⟨k2 + 1, by omega, by go_num, any_snoc HX.out HP.out HF.out, (hbx.alloc _).dN _, below_dN (hbel.alloc hbel.size _) _⟩
        case measure => simp [intOf]; omega
       ·have f2 : (inf.actions != (x.next.length : Int)) = true := neT p2
        have HF := Lib.hid (BAD.out (by rw [HT.out]; simp [p2]))
        clear p1 p2
        go_wp2
        go_quiet (fail)
        go_wp2
        go_ret
        exact ⟨_, rfl, below_dN (hbel.alloc hbel.size _) _, by rw [HF.out]; rfl⟩
      ·have f1 : (inf.player != x.player) = true := neT p1
       have HF := Lib.hid (BAD.out (by rw [HT.out]; simp [p1]))
       clear p1
       go_wp2
       go_quiet (fail)
       go_wp2
       go_ret
       exact ⟨_, rfl, below_dN (hbel.alloc hbel.size _) _, by rw [HF.out]; rfl⟩
     ·have hd2 : (x.kind == 2) = false := by simp [hkd]
      have HF := Lib.hid (show typeBadAt g.infos x = false by unfold typeBadAt; simp [hkd])
      clear hkd
      go_wp2
      go_quiet (fail)
      go_wp2
      go_roundw
      case rel => exact ⟨k2 + 1, by omega, by go_num, any_snoc HX.out HP.out HF.out, (hbx.alloc _).dN _, below_dN (hbel.alloc hbel.size _) _⟩
      case measure => simp [intOf]; omega
    ·have HTB := Lib.hid (show typeBad g = false by
      have := HP.out; rw [List.take_of_length_le (by omega)] at this; exact this)
     go_wp2_with fail
     refine (setsOf_any _ F _ g (HG.out.on (Below.same' hbel F)) HS.out (infosIn_of HNE.out)).mono ?_
     rintro e w2 ⟨vss, rfl, hb2, hse⟩
     have hB2 : Below w.heap.size w w2 := hbel.trans (hb2.mono hbel.size)
     have HV4 := Lib.hid (show formL g = if noneBad (setsL g) then 18 else if firstBadTo (setsL g) g.infos.length then 9 else 0 by
      rw [HV3.out]; unfold setsErr; rw [HTB.out]; rfl)
     have hsl : (setsL g).length = g.infos.length := setsTo_length _ _ _
     have hsle : ∀ l ∈ setsL g, l.length ≤ g.nodes.length := setsTo_len
     generalize setsL g = sets at *
     obtain ⟨As, cs, rfl, hcs, hS⟩ := hse
     have HSE := Lib.hid hS; clear hS
     have HSLE := Lib.hid hsle; clear hsle
     have HSL := Lib.hid hsl; have hsl0 : sets.length ≤ 100 := by omega
     clear hsl hbx x0 x1 x2 hold hbel hb2
     dsimp only
     go_wp2
     go_loop [9] (fun i => ∃ k : Nat, k ≤ sets.length ∧ i = .int .i64 k ∧ noneBad (sets.take k) = false) (fun i => sets.length - (intOf i).toNat)
     case atStart => exact ⟨0, by omega, rfl, rfl⟩
     case round =>
      obtain ⟨k3, hk3, rfl, hpre⟩ := hrel
      have HP3 := Lib.hid hpre; clear hpre
      by_cases hlt3 : k3 < sets.length
      ·obtain ⟨bs, os, rfl, _, hbs, hxs⟩ := HSE.out (by omega)
       obtain ⟨l, hl⟩ := getSome hlt3
       obtain ⟨vl, el, Al, cl, rfl, hcl, hLl⟩ := hxs k3 l hl
       rw [Nat.mul_one] at el
       have HX := Lib.hid hl
       have hll := HSLE.out l (List.mem_of_getElem? hl)
       clear hl hxs hLl
       by_cases hz : l.length = 0
       ·have hd : ((l.length : Int) == 0) = true := eqT (by omega)
        have HF := Lib.hid (show formL g = 18 by
         have : noneBad sets = true := List.any_eq_true.2 ⟨l, List.mem_of_getElem? HX.out, by simp; exact List.eq_nil_of_length_eq_zero hz⟩
         rw [HV4.out, this]; rfl)
        clear hz
        go_wp2
        go_ret
        exact ⟨_, rfl, hB2, by rw [HF.out]; rfl⟩
       ·have hd : ((l.length : Int) == 0) = false := eqF (by omega)
        go_wp2
        go_round
        case rel => exact ⟨k3 + 1, by omega, by go_num, any_snoc HX.out HP3.out (by simp; intro h; rw [h] at hz; simp at hz)⟩
        case measure => simp [intOf]; omega
      ·have HNB := Lib.hid (show noneBad sets = false by
        have := HP3.out; rw [List.take_of_length_le (by omega)] at this; exact this)
       have HNZ := Lib.hid (show ∀ l ∈ sets, 0 < l.length by
        intro l hl
        have := List.any_eq_false.1 HNB.out l hl
        simp at this
        exact List.length_pos_iff.2 this)
       go_wp2
       go_loopw [10] (fun i wi => ∃ m n : Nat, 1 ≤ m ∧ (m ≤ sets.length ∨ m = 1) ∧ i = .int .i64 m ∧ firstBadTo sets m = false ∧ wi = w2.drewN n) (fun i _ => sets.length - (intOf i).toNat)
       case atStart => exact ⟨1, 0, by omega, .inr rfl, rfl, rfl, rfl⟩
       case round =>
        obtain ⟨m, nd, hm1, hm, rfl, hpre, rfl⟩ := hrel
        have HPM := Lib.hid hpre; clear hpre
        by_cases hmt : m < sets.length
        ·obtain ⟨bs, os, rfl, _, hbs, hxs⟩ := HSE.out (by omega)
         obtain ⟨l, hl⟩ := getSome hmt
         obtain ⟨vl, el, Al, cl, rfl, hcl, hLl⟩ := hxs m l hl
         obtain ⟨l', hl'⟩ := getSome (l := sets) (k := m - 1) (by omega)
         obtain ⟨vl', el', Al', cl', rfl, hcl', hLl'⟩ := hxs (m - 1) l' hl'
         have p0 := HNZ.out l (List.mem_of_getElem? hl)
         have p1 := HNZ.out l' (List.mem_of_getElem? hl')
         obtain ⟨bl, ol, rfl, _, hbl, hxl⟩ := hLl p0
         obtain ⟨bl', ol', rfl, _, hbl', hxl'⟩ := hLl' p1
         obtain ⟨x, hx⟩ := getSome p0
         obtain ⟨y, hy⟩ := getSome p1
         have ex := hxl 0 x hx
         have ey := hxl' 0 y hy
         unfold intE at ex ey
         simp only [Nat.zero_mul, Nat.add_zero] at ex ey
         rw [Nat.mul_one] at el el'
         have HAT := Lib.hid (show firstBadAt sets m = decide (x < y) by
          unfold firstBadAt; simp [List.getD_eq_getElem?_getD, hl, hl', hx, hy])
         clear hl hl' hx hy hxl hxl' hLl hLl' hxs
         have hmd : m - 1 < sets.length := by omega
         by_cases q : x < y
         ·have HF := Lib.hid (show formL g = 9 by
           rw [HV4.out, HNB.out]
           have := firstBadTo_of hm1 hmt (by rw [HAT.out]; simp [q])
           rw [← HSL.out, this]; rfl)
          go_wp2
          have hw1 : IntKind.i64.wrap ((m : Int) - 1) = ((m - 1 : Nat) : Int) := by rw [IntWalk.i64_in _ (by omega)]; omega
          go_quiet (fail)
          go_wp2
          go_ret
          exact ⟨_, rfl, below_dN (below_dN hB2 _) _, by rw [HF.out]; rfl⟩
         ·have hq : decide (x < y) = false := decide_eq_false q
          go_wp2
          have hw1 : IntKind.i64.wrap ((m : Int) - 1) = ((m - 1 : Nat) : Int) := by rw [IntWalk.i64_in _ (by omega)]; omega
          go_quiet (fail)
          clear hw1
          go_wp2
          go_roundw
          case rel => exact ⟨m + 1, nd + nq, by omega, .inl (by omega), by go_num, by rw [firstBadTo_succ _ _ hm1, HPM.out, HAT.out, hq]; rfl, rfl⟩
          case measure => simp [intOf]; omega
        ·go_wp2
         go_ret
         refine ⟨_, rfl, below_dN hB2 _, ?_⟩
         have : formL g = 0 := by
          rw [HV4.out, HNB.out]
          have h1 := HPM.out
          have h2 := HSL.out
          rcases hm with hm | hm
          ·have : m = sets.length := by omega
           rw [← h2, ← this, h1]; rfl
          ·subst hm
           have : firstBadTo sets g.infos.length = false := by
            unfold firstBadTo; rw [show g.infos.length - 1 = 0 by omega]; rfl
           rw [this]; rfl
         rw [this]; rfl
end Go.Proofs.Ytafjdoedallnbaa
