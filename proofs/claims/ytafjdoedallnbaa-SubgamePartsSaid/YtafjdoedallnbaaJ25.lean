/- subgame.view.moved$1: a node, moved -/
import Derived.Test.YtafjdoedallnbaaJ20
import Derived.Test.YtafjdoedallnbaaJ11
import Derived.Test.YtafjdoedallnbaaJ03
import Derived.Test.YtafjdoedallnbaaJ05
import Derived.Maps.OwnOps
namespace Go.Proofs.Ytafjdoedallnbaa
open List renaming getElem_toArray → lq1, getElem_cons_zero → lq2, getElem_cons_succ → lq3, setIfInBounds_toArray → lq4, set_cons_zero → lq5, set_cons_succ → lq6
open Go.RowKit
/-- a copy of ints at an address, one's own -/
def CopyAt (B E : Nat) (l : List Int) (A : Option Addr) (c : Nat) (w' : World) : Prop :=
 l.length ≤ c ∧ (0 < l.length → ∃ b rest, A = some ⟨b, 0, none⟩ ∧ (B ≤ b ∧ b < E) ∧ Row w' b 3 (l.map (Value.int .i64) ++ rest))
theorem CopyAt.of {B : Nat} {l : List Int} {A : Option Addr} {c : Nat} {w' : World} (h : l.length ≤ c ∧ (0 < l.length → ∃ b rest, A = some ⟨b, 0, none⟩ ∧ B ≤ b ∧ Row w' b 3 (l.map (Value.int .i64) ++ rest))) : CopyAt B w'.heap.size l A c w' :=
 ⟨h.1, fun h0 => let ⟨b, rest, e, hb, hr⟩ := h.2 h0; ⟨b, rest, e, ⟨hb, hr.lt⟩, hr⟩⟩
theorem CopyAt.on {B E : Nat} {l : List Int} {A : Option Addr} {c : Nat} {w w' : World} (h : CopyAt B E l A c w) (hs : Same (fun b => B ≤ b ∧ b < E) w w') : CopyAt B E l A c w' :=
 ⟨h.1, fun h0 => let ⟨b, rest, e, hb, hr⟩ := h.2 h0; ⟨b, rest, e, hb, hr.of_block (hs.block b hb hr.lt)⟩⟩
theorem CopyAt.ints {B E : Nat} {l : List Int} {A : Option Addr} {c : Nat} {w : World} (h : CopyAt B E l A c w) : IntsAt w (fun b => B ≤ b ∧ b < E) (.slice A l.length c) l := by
 refine ⟨A, c, rfl, h.1, fun h0 => ?_⟩
 obtain ⟨b, rest, rfl, hb, hrow⟩ := h.2 h0
 refine ⟨b, 0, rfl, hb, hrow.lt, fun k y hk => ?_⟩
 unfold intE; rw [Nat.mul_one, Nat.zero_add]
 refine hrow.cell ?_
 rw [List.getElem?_append_left (by simpa using lt_of_get hk)]
 simp [hk]
/-- the first j entries have been moved -/
def mixTo (root : Int) (l : List Int) (j : Nat) : List Int := (l.take j).map (fun c => c - root) ++ l.drop j
theorem mixTo_length (root : Int) (l : List Int) (j : Nat) : (mixTo root l j).length = l.length := by
 unfold mixTo; simp; omega
theorem mixTo_get {root : Int} {l : List Int} {j : Nat} {c : Int} (h : l[j]? = some c) : (mixTo root l j)[j]? = some c := by
 have hl := lt_of_get h
 unfold mixTo
 rw [List.getElem?_append_right (by simp; omega), List.length_map, List.length_take, Nat.min_eq_left (by omega), Nat.sub_self, List.getElem?_drop, Nat.add_zero]
 exact h
theorem mixTo_set {root : Int} {l : List Int} {j : Nat} {c : Int} (h : l[j]? = some c) : (mixTo root l j).set j (c - root) = mixTo root l (j + 1) := by
 have hl := lt_of_get h
 unfold mixTo
 have hd : l.drop j = c :: l.drop (j + 1) := by
  rw [List.drop_eq_getElem_cons hl]
  congr
  exact (List.getElem?_eq_some_iff.1 h).2
 rw [List.set_append_right _ _ (by simp; omega), hd, take_snoc h, List.map_append, List.length_map, List.length_take, Nat.min_eq_left (by omega), Nat.sub_self]
 simp
theorem mixTo_all (root : Int) (l : List Int) : mixTo root l l.length = l.map (fun c => c - root) := by
 unfold mixTo; simp
theorem CopyAt.set {B E : Nat} {root : Int} {l : List Int} {j : Nat} {c0 : Int} {b d : Nat} {w : World} {rest : List Value} (hd : l.length ≤ d) (h : l[j]? = some c0) (hb : B ≤ b ∧ b < E) (hr : Row w b 3 ((mixTo root l j).map (Value.int .i64) ++ rest)) : CopyAt B E (mixTo root l (j + 1)) (some ⟨b, 0, none⟩) d (w.setCell ⟨b, j, none⟩ (.int .i64 (c0 - root))) := by
 have hl := lt_of_get h
 refine ⟨by rw [mixTo_length]; exact hd, fun _ => ⟨b, rest, rfl, hb, ?_⟩⟩
 have := hr.set j (.int .i64 (c0 - root))
 rw [List.set_append_left _ _ (by simp [mixTo_length]; exact hl), ← List.map_set, mixTo_set h] at this
 exact this
def movedNode (root : Int) (f : Int → Int) (x : Nd) : Nd := { x with info := if x.kind = 2 then f x.info else 0, next := x.next.map (fun c => c - root) }
set_option maxRecDepth 100000 in
set_option maxHeartbeats 6400000 in
theorem moved1_any (w : World) (F : Foot) (i : Nat) (x : Nd) (g : Gm) (bv br bc bm n : Nat) (f : Int → Int) (root : Int) (a0 vn a2 a3 a4 a5 : Value)
  (hv : Row w bv 51 [a0, vn, a2, a3, a4, a5]) (hN : NodesAt w F vn g.nodes) (hr : Row w br 3 [.int .i64 root]) (hc : Row w bc 72 [.map (some bm)]) (hm : MapAt w bm n f) (hx : g.nodes[i]? = some x)
  (hsm : Small g) (hnx : ∀ c ∈ x.next, 0 ≤ c ∧ c < 1000) (hroot : 0 ≤ root ∧ root < 1000) (hinfo : x.kind = 2 → (Lit.int .i64 x.info).wf = true) :
  Calls Try.prog 54 (#[.int .i64 (i : Int)] ++ #[.pointer (some ⟨bv, 0, none⟩), .pointer (some ⟨br, 0, none⟩), .pointer (some ⟨bc, 0, none⟩)]) w
   (Ret w fun v w' => ∃ q : NV, v = .agg q.cells.toArray ∧ q.n = movedNode root f x ∧ q.fine w' (fun b => w.heap.size ≤ b ∧ b < w'.heap.size) ∧ q.v3.oneCell' = true ∧ q.v4.oneCell' = true ∧ q.v5.oneCell' = true) := by
 obtain ⟨A, c, rfl, hcn, hN⟩ := hN
 have hil := lt_of_get hx
 have hn := hsm.nodes
 obtain ⟨b, o, rfl, _, hb, hcell⟩ := hN (by omega)
 obtain ⟨e0, e1, e2, ⟨v3, e3, i3⟩, ⟨v4, e4, i4⟩, ⟨v5, e5, i5⟩⟩ := hcell i x hx
 have hmm := List.mem_of_getElem? hx
 have s3 := hsm.next x hmm
 have s4 := hsm.weights x hmm
 have s5 := hsm.pay x hmm
 have H3 := Lib.hid i3; have H4 := Lib.hid i4; have H5 := Lib.hid i5
 obtain ⟨A3, c3, rfl, hc3, _⟩ := i3
 obtain ⟨A4, c4, rfl, hc4, _⟩ := i4
 obtain ⟨A5, c5, rfl, hc5, _⟩ := i5
 have HNX := Lib.hid hnx
 have HM := Lib.hid hm
 have HI := Lib.hid hinfo
 have xv := hv.cell (i := 1) rfl
 have lv := hv.lt
 have lr := hr.lt
 have lc := hc.lt
 have lm := hm.lt
 clear hcell hN hx hmm hnx hm hinfo hsm
 show Calls Try.prog _ #[.int .i64 (i : Int), .pointer (some ⟨bv, 0, none⟩), .pointer (some ⟨br, 0, none⟩), .pointer (some ⟨bc, 0, none⟩)] w _
 go_enter Try.func54, Try.ntmps54
 go_upto_region 2 with fail
 obtain ⟨w1, hw1, hb5, hb6, hB⟩ : ∃ W, W = (w.alloc (.cells #[.int .i64 0, .int .i64 0, .int .i64 0, .slice none 0 0, .slice none 0 0, .slice none 0 0] 45)).alloc (.cells #[.int .i64 x.kind, .int .i64 x.player, .int .i64 x.info, .slice A3 x.next.length c3, .slice A4 x.weights.length c4, .slice A5 x.pay.length c5] 45) ∧ Row W w.heap.size 45 [.int .i64 0, .int .i64 0, .int .i64 0, .slice none 0 0, .slice none 0 0, .slice none 0 0] ∧ Row W (w.heap.size + 1) 45 [.int .i64 x.kind, .int .i64 x.player, .int .i64 x.info, .slice A3 x.next.length c3, .slice A4 x.weights.length c4, .slice A5 x.pay.length c5] ∧ Below w.heap.size w W := by
  refine ⟨_, rfl, (Row.new w _ _).alloc _, ?_, below_two _ _ _ 0⟩
  have := Row.new (w.alloc (.cells #[.int .i64 0, .int .i64 0, .int .i64 0, .slice none 0 0, .slice none 0 0, .slice none 0 0] 45)) 45 #[.int .i64 x.kind, .int .i64 x.player, .int .i64 x.info, .slice A3 x.next.length c3, .slice A4 x.weights.length c4, .slice A5 x.pay.length c5]
  simpa using this
 rw [← hw1]
 clear hw1 e0 e1 e2 e3 e4 e5 xv
 go_cut [7] from 15 to 28 (fun v7 wx => ∃ bo B3 d3 B4 d4 B5 d5 p3 q3 p4 q4 p5 q5, v7 = .pointer (some ⟨bo, 0, none⟩) ∧ Row wx bo 45 [.int .i64 x.kind, .int .i64 x.player, .int .i64 0, .slice B3 x.next.length d3, .slice B4 x.weights.length d4, .slice B5 x.pay.length d5] ∧ CopyAt p3 q3 x.next B3 d3 wx ∧ CopyAt p4 q4 x.weights B4 d4 wx ∧ CopyAt p5 q5 x.pay B5 d5 wx ∧ Row wx w.heap.size 45 [.int .i64 0, .int .i64 0, .int .i64 0, .slice none 0 0, .slice none 0 0, .slice none 0 0] ∧ Row wx (w.heap.size + 1) 45 [.int .i64 x.kind, .int .i64 x.player, .int .i64 x.info, .slice A3 x.next.length c3, .slice A4 x.weights.length c4, .slice A5 x.pay.length c5] ∧ Below w.heap.size w wx ∧ w.heap.size + 1 < bo ∧ w.heap.size + 1 < p3 ∧ q3 ≤ p4 ∧ q3 ≤ p5 ∧ p3 ≤ q3 ∧ (bo < p3 ∨ q3 ≤ bo) ∧ (bo < p4 ∨ q4 ≤ bo) ∧ (bo < p5 ∨ q5 ≤ bo) ∧ q3 ≤ wx.heap.size ∧ q4 ≤ wx.heap.size ∧ q5 ≤ wx.heap.size)
 case first =>
  refine wp_peelMany (fun w' => w'.cell? ⟨w.heap.size + 1, 0, none⟩ = some (.int .i64 x.kind) ∧ w'.cell? ⟨w.heap.size + 1, 1, none⟩ = some (.int .i64 x.player) ∧ w'.cell? ⟨w.heap.size + 1, 3, none⟩ = some (.slice A3 x.next.length c3) ∧ w'.cell? ⟨w.heap.size + 1, 4, none⟩ = some (.slice A4 x.weights.length c4) ∧ w'.cell? ⟨w.heap.size + 1, 5, none⟩ = some (.slice A5 x.pay.length c5)) 15 1 (by kernel_rfl) rfl (by kernel_rfl) ?_
  have hHeld : (fun w' : World => w'.cell? ⟨w.heap.size + 1, 0, none⟩ = some (.int .i64 x.kind) ∧ w'.cell? ⟨w.heap.size + 1, 1, none⟩ = some (.int .i64 x.player) ∧ w'.cell? ⟨w.heap.size + 1, 3, none⟩ = some (.slice A3 x.next.length c3) ∧ w'.cell? ⟨w.heap.size + 1, 4, none⟩ = some (.slice A4 x.weights.length c4) ∧ w'.cell? ⟨w.heap.size + 1, 5, none⟩ = some (.slice A5 x.pay.length c5)) w1.drew := ⟨hb6.cell rfl, hb6.cell rfl, hb6.cell rfl, hb6.cell rfl, hb6.cell rfl⟩
  simp only [List.take_succ_cons, List.take_zero]
  refine wpAnyH_take (i := 0) (v := ?_) rfl (by kernel_rfl) (by kernel_rfl) (by kernel_rfl) (fun _ _ _ h => h) (Or.inl ⟨by rfl, ?_⟩) hHeld ?_
  rotate_left
  ·intro wx hSx; (try dsimp only at hSx); go_split_ands; go_simp; try (with_reducible rfl)
  try simp only [Act.put, lq1, lq2, lq3, lq4, lq5, lq6]
  refine wpAnyH_take (i := 1) (v := ?_) rfl (by kernel_rfl) (by kernel_rfl) (by kernel_rfl) (fun _ _ _ h => h) (Or.inl ⟨by rfl, ?_⟩) hHeld ?_
  rotate_left
  ·intro wx hSx; (try dsimp only at hSx); go_split_ands; go_simp; try (with_reducible rfl)
  try simp only [Act.put, lq1, lq2, lq3, lq4, lq5, lq6]
  refine wpAnyH_take (i := 2) (v := ?_) rfl (by kernel_rfl) (by kernel_rfl) (by kernel_rfl) (fun _ _ _ h => h) (Or.inl ⟨by rfl, ?_⟩) hHeld ?_
  rotate_left
  ·intro wx hSx; (try dsimp only at hSx); go_split_ands; go_simp; try (with_reducible rfl)
  try simp only [Act.put, lq1, lq2, lq3, lq4, lq5, lq6]
  refine wpAnyH_take (i := 3) (v := ?_) rfl (by kernel_rfl) (by kernel_rfl) (by kernel_rfl) (fun _ _ _ h => h) (Or.inl ⟨by rfl, ?_⟩) hHeld ?_
  rotate_left
  ·intro wx hSx; (try dsimp only at hSx); go_split_ands; go_simp; try (with_reducible rfl)
  try simp only [Act.put, lq1, lq2, lq3, lq4, lq5, lq6]
  refine wpAnyH_take (i := 4) (v := ?_) rfl (by kernel_rfl) (by kernel_rfl) (by kernel_rfl) (fun _ _ _ h => h) (Or.inl ⟨by rfl, ?_⟩) hHeld ?_
  rotate_left
  ·intro wx hSx; (try dsimp only at hSx); go_split_ands; go_simp; try (with_reducible rfl)
  try simp only [Act.put, lq1, lq2, lq3, lq4, lq5, lq6]
  refine wpAnyH_take (i := 5) (v := ?_) rfl (by kernel_rfl) (by kernel_rfl) (by kernel_rfl) (fun _ _ _ h => h) (Or.inl ⟨by rfl, ?_⟩) hHeld ?_
  rotate_left
  ·intro wx hSx; (try dsimp only at hSx); go_split_ands; go_simp; try (with_reducible rfl)
  try simp only [Act.put, lq1, lq2, lq3, lq4, lq5, lq6]
  refine wpAnyH_take (i := 7) (v := ?_) rfl (by kernel_rfl) (by kernel_rfl) (by kernel_rfl) (fun _ _ _ h => h) (Or.inl ⟨by rfl, ?_⟩) hHeld ?_
  rotate_left
  ·intro wx hSx; (try dsimp only at hSx); go_split_ands; go_simp; try (with_reducible rfl)
  try simp only [Act.put, lq1, lq2, lq3, lq4, lq5, lq6]
  refine wpAnyH_take (i := 8) (v := ?_) rfl (by kernel_rfl) (by kernel_rfl) (by kernel_rfl) (fun _ _ _ h => h) (Or.inl ⟨by rfl, ?_⟩) hHeld ?_
  rotate_left
  ·intro wx hSx; (try dsimp only at hSx); go_split_ands; go_simp; try (with_reducible rfl)
  try simp only [Act.put, lq1, lq2, lq3, lq4, lq5, lq6]
  refine wpAnyH_take (i := 10) (v := ?_) rfl (by kernel_rfl) (by kernel_rfl) (by kernel_rfl) (fun _ _ _ h => h) (Or.inl ⟨by rfl, ?_⟩) hHeld ?_
  rotate_left
  ·intro wx hSx; (try dsimp only at hSx); go_split_ands; go_simp; try (with_reducible rfl)
  try simp only [Act.put, lq1, lq2, lq3, lq4, lq5, lq6]
  refine wpAnyH_take (i := 11) (v := ?_) rfl (by kernel_rfl) (by kernel_rfl) (by kernel_rfl) (fun _ _ _ h => h) (Or.inl ⟨by rfl, ?_⟩) hHeld ?_
  rotate_left
  ·intro wx hSx; (try dsimp only at hSx); go_split_ands; go_simp; try (with_reducible rfl)
  try simp only [Act.put, lq1, lq2, lq3, lq4, lq5, lq6]
  obtain ⟨w0, hw0⟩ : ∃ W, W = w1.drew := ⟨_, rfl⟩
  have hb5_0 : Row w0 _ _ _ := hw0 ▸ hb5.drew
  have hb60 : Row w0 _ _ _ := hw0 ▸ hb6.drew
  have hz0 := hb5_0
  have hB0 : Below w.heap.size w w0 := hw0 ▸ hB.drew
  rw [← hw0] at hHeld ⊢
  clear hw0 hb5 hb6 hB hb5_0
  refine wpAnyH_ready (rs := [6, 14]) (by decide +kernel) (by simp) ?_
  refine (AllReadyH.cons (o := _) rfl (fun K hK => ?_) (AllReadyH.cons (o := _) rfl (fun K hK => ?_) AllReadyH.nil))
  ·go_simp
   refine (clone_any w0 F _ x.next (H3.out.on (Below.same' hB0 F)) (by omega)).mono ?_
   rintro e w1 ⟨_, rfl, hb, A6', c6', rfl, hi⟩
   have hi6_1 := CopyAt.of hi
   clear hi
   have g6 := hb60.lt
   dsimp only
   have sz1 := hb.size
   have hb61 := hb60.below hb hb60.lt
   have hz1 := hz0.below hb hz0.lt
   have hB1 := hB0.trans (hb.mono hB0.size)
   clear hb
   refine hK.out _ _ ⟨hb61.cell rfl, hb61.cell rfl, hb61.cell rfl, hb61.cell rfl, hb61.cell rfl⟩ (fun hHeld => ?_)
   clear hK K
   try simp only [Act.put, lq1, lq2, lq3, lq4, lq5, lq6]
   refine wpAnyH_ready (rs := [9, 14]) (by decide +kernel) (by simp) ?_
   refine (AllReadyH.cons (o := _) rfl (fun K hK => ?_) (AllReadyH.cons (o := _) rfl (fun K hK => ?_) AllReadyH.nil))
   ·go_simp
    refine (clone_any w1 F _ x.weights (H4.out.on (Below.same' hB1 F)) (by omega)).mono ?_
    rintro e w2 ⟨_, rfl, hb, A9', c9', rfl, hi⟩
    have hi9_2 := CopyAt.of hi
    clear hi
    have g9 := hb61.lt
    dsimp only
    have hi6_2 := hi6_1.on (Below.same' hb _)
    have sz2 := hb.size
    have hb62 := hb61.below hb hb61.lt
    have hz2 := hz1.below hb hz1.lt
    have hB2 := hB1.trans (hb.mono hB1.size)
    clear hb
    refine hK.out _ _ ⟨hb62.cell rfl, hb62.cell rfl, hb62.cell rfl, hb62.cell rfl, hb62.cell rfl⟩ (fun hHeld => ?_)
    clear hK K
    try simp only [Act.put, lq1, lq2, lq3, lq4, lq5, lq6]
    refine wpAnyH_ready (rs := [12, 14]) (by decide +kernel) (by simp) ?_
    refine (AllReadyH.cons (o := _) rfl (fun K hK => ?_) (AllReadyH.cons (o := _) rfl (fun K hK => ?_) AllReadyH.nil))
    ·go_simp
     refine (clone_any w2 F _ x.pay (H5.out.on (Below.same' hB2 F)) (by omega)).mono ?_
     rintro e w3 ⟨_, rfl, hb, A12', c12', rfl, hi⟩
     have hi12_3 := CopyAt.of hi
     clear hi
     have g12 := hb62.lt
     dsimp only
     have hi6_3 := hi6_2.on (Below.same' hb _)
     have hi9_3 := hi9_2.on (Below.same' hb _)
     have sz3 := hb.size
     have hb63 := hb62.below hb hb62.lt
     have hz3 := hz2.below hb hz2.lt
     have hB3 := hB2.trans (hb.mono hB2.size)
     clear hb
     refine hK.out _ _ ⟨hb63.cell rfl, hb63.cell rfl, hb63.cell rfl, hb63.cell rfl, hb63.cell rfl⟩ (fun hHeld => ?_)
     clear hK K
     try simp only [Act.put, lq1, lq2, lq3, lq4, lq5, lq6]
     refine wpAnyH_take (i := 13) (v := ?_) rfl (by kernel_rfl) (by kernel_rfl) (by kernel_rfl) (fun _ _ _ h => h) (Or.inl ⟨by rfl, ?_⟩) hHeld ?_
     rotate_left
     ·intro wx hSx; (try dsimp only at hSx); go_split_ands; go_simp; try (with_reducible rfl)
     try simp only [Act.put, lq1, lq2, lq3, lq4, lq5, lq6]
     refine wpAnyH_ready (rs := [14]) (by decide +kernel) (by simp) ?_
     refine (AllReadyH.cons (o := _) rfl (fun K hK => ?_) AllReadyH.nil)
     ·go_simp
      obtain ⟨w4, hw, hr14_4, hb, hz⟩ := row_of_alloc w3 45 #[.int .i64 0, .int .i64 0, .int .i64 0, .slice none 0 0, .slice none 0 0, .slice none 0 0]
      rw [← hw]
      clear hw hz
      have g14 := hb63.lt
      have hi6_4 := hi6_3.on (Below.same' hb _)
      have hi9_4 := hi9_3.on (Below.same' hb _)
      have hi12_4 := hi12_3.on (Below.same' hb _)
      have sz4 := hb.size
      have hb64 := hb63.below hb hb63.lt
      have hz4 := hz3.below hb hz3.lt
      have hB4 := hB3.trans (hb.mono hB3.size)
      clear hb
      refine hK.out _ _ ⟨hb64.cell rfl, hb64.cell rfl, hb64.cell rfl, hb64.cell rfl, hb64.cell rfl⟩ (fun hHeld => ?_)
      clear hK K
      try simp only [Act.put, lq1, lq2, lq3, lq4, lq5, lq6]
      have r0 := hr14_4.cell (i := 0) rfl
      have f0 := hr14_4.frozen 0
      have r1 := hr14_4.cell (i := 1) rfl
      have f1 := hr14_4.frozen 1
      have r2 := hr14_4.cell (i := 2) rfl
      have f2 := hr14_4.frozen 2
      have r3 := hr14_4.cell (i := 3) rfl
      have f3 := hr14_4.frozen 3
      have r4 := hr14_4.cell (i := 4) rfl
      have f4 := hr14_4.frozen 4
      have r5 := hr14_4.cell (i := 5) rfl
      have f5 := hr14_4.frozen 5
      refine wpAnyH_done (by kernel_rfl) ?_ _
      clear hHeld
      show wpList _ _ _ _ _ _
      go_wp2_with fail
      obtain ⟨W, hW, hrw, hww⟩ := set6 hr14_4 (.int .i64 x.kind) (.int .i64 x.player) (.int .i64 0) (.slice A6' x.next.length c6') (.slice A9' x.weights.length c9') (.slice A12' x.pay.length c12')
      rw [← hW]
      clear hW
      clear r0 f0
      clear r1 f1
      clear r2 f2
      clear r3 f3
      clear r4 f4
      clear r5 f5
      have szw := hww.size
      have l14 := hr14_4.lt
      show Exit.then _ _ .normal _ _
      go_wp2_with fail
      go_meet
      exact ⟨_, _, _, _, _, _, _, _, _, _, _, _, _, rfl, hrw, hi6_4.on (hww.same (fun b hb => by omega)), hi9_4.on (hww.same (fun b hb => by omega)), hi12_4.on (hww.same (fun b hb => by omega)), hz4.wrote hww (by omega), hb64.wrote hww (by omega), Wrote.below hB4 hww (fun k hk => by omega) hB4.size, by omega, by omega, by omega, by omega, by omega, by omega, by omega, by omega, by omega, by omega, by omega⟩
    ·go_simp
     obtain ⟨w3, hw, hr14_3, hb, hz⟩ := row_of_alloc w2 45 #[.int .i64 0, .int .i64 0, .int .i64 0, .slice none 0 0, .slice none 0 0, .slice none 0 0]
     rw [← hw]
     clear hw hz
     have g14 := hb62.lt
     have hi6_3 := hi6_2.on (Below.same' hb _)
     have hi9_3 := hi9_2.on (Below.same' hb _)
     have sz3 := hb.size
     have hb63 := hb62.below hb hb62.lt
     have hz3 := hz2.below hb hz2.lt
     have hB3 := hB2.trans (hb.mono hB2.size)
     clear hb
     refine hK.out _ _ ⟨hb63.cell rfl, hb63.cell rfl, hb63.cell rfl, hb63.cell rfl, hb63.cell rfl⟩ (fun hHeld => ?_)
     clear hK K
     try simp only [Act.put, lq1, lq2, lq3, lq4, lq5, lq6]
     refine wpAnyH_ready (rs := [12]) (by decide +kernel) (by simp) ?_
     refine (AllReadyH.cons (o := _) rfl (fun K hK => ?_) AllReadyH.nil)
     ·go_simp
      refine (clone_any w3 F _ x.pay (H5.out.on (Below.same' hB3 F)) (by omega)).mono ?_
      rintro e w4 ⟨_, rfl, hb, A12', c12', rfl, hi⟩
      have hi12_4 := CopyAt.of hi
      clear hi
      have g12 := hb63.lt
      dsimp only
      have hi6_4 := hi6_3.on (Below.same' hb _)
      have hi9_4 := hi9_3.on (Below.same' hb _)
      have l14_12 := hr14_3.lt
      have hr14_4 := hr14_3.below hb hr14_3.lt
      have sz4 := hb.size
      have hb64 := hb63.below hb hb63.lt
      have hz4 := hz3.below hb hz3.lt
      have hB4 := hB3.trans (hb.mono hB3.size)
      clear hb
      refine hK.out _ _ ⟨hb64.cell rfl, hb64.cell rfl, hb64.cell rfl, hb64.cell rfl, hb64.cell rfl⟩ (fun hHeld => ?_)
      clear hK K
      try simp only [Act.put, lq1, lq2, lq3, lq4, lq5, lq6]
      refine wpAnyH_take (i := 13) (v := ?_) rfl (by kernel_rfl) (by kernel_rfl) (by kernel_rfl) (fun _ _ _ h => h) (Or.inl ⟨by rfl, ?_⟩) hHeld ?_
      rotate_left
      ·intro wx hSx; (try dsimp only at hSx); go_split_ands; go_simp; try (with_reducible rfl)
      try simp only [Act.put, lq1, lq2, lq3, lq4, lq5, lq6]
      have r0 := hr14_4.cell (i := 0) rfl
      have f0 := hr14_4.frozen 0
      have r1 := hr14_4.cell (i := 1) rfl
      have f1 := hr14_4.frozen 1
      have r2 := hr14_4.cell (i := 2) rfl
      have f2 := hr14_4.frozen 2
      have r3 := hr14_4.cell (i := 3) rfl
      have f3 := hr14_4.frozen 3
      have r4 := hr14_4.cell (i := 4) rfl
      have f4 := hr14_4.frozen 4
      have r5 := hr14_4.cell (i := 5) rfl
      have f5 := hr14_4.frozen 5
      refine wpAnyH_done (by kernel_rfl) ?_ _
      clear hHeld
      show wpList _ _ _ _ _ _
      go_wp2_with fail
      obtain ⟨W, hW, hrw, hww⟩ := set6 hr14_4 (.int .i64 x.kind) (.int .i64 x.player) (.int .i64 0) (.slice A6' x.next.length c6') (.slice A9' x.weights.length c9') (.slice A12' x.pay.length c12')
      rw [← hW]
      clear hW
      clear r0 f0
      clear r1 f1
      clear r2 f2
      clear r3 f3
      clear r4 f4
      clear r5 f5
      have szw := hww.size
      have l14 := hr14_4.lt
      show Exit.then _ _ .normal _ _
      go_wp2_with fail
      go_meet
      exact ⟨_, _, _, _, _, _, _, _, _, _, _, _, _, rfl, hrw, hi6_4.on (hww.same (fun b hb => by omega)), hi9_4.on (hww.same (fun b hb => by omega)), hi12_4.on (hww.same (fun b hb => by omega)), hz4.wrote hww (by omega), hb64.wrote hww (by omega), Wrote.below hB4 hww (fun k hk => by omega) hB4.size, by omega, by omega, by omega, by omega, by omega, by omega, by omega, by omega, by omega, by omega, by omega⟩
   ·go_simp
    obtain ⟨w2, hw, hr14_2, hb, hz⟩ := row_of_alloc w1 45 #[.int .i64 0, .int .i64 0, .int .i64 0, .slice none 0 0, .slice none 0 0, .slice none 0 0]
    rw [← hw]
    clear hw hz
    have g14 := hb61.lt
    have hi6_2 := hi6_1.on (Below.same' hb _)
    have sz2 := hb.size
    have hb62 := hb61.below hb hb61.lt
    have hz2 := hz1.below hb hz1.lt
    have hB2 := hB1.trans (hb.mono hB1.size)
    clear hb
    refine hK.out _ _ ⟨hb62.cell rfl, hb62.cell rfl, hb62.cell rfl, hb62.cell rfl, hb62.cell rfl⟩ (fun hHeld => ?_)
    clear hK K
    try simp only [Act.put, lq1, lq2, lq3, lq4, lq5, lq6]
    refine wpAnyH_ready (rs := [9]) (by decide +kernel) (by simp) ?_
    refine (AllReadyH.cons (o := _) rfl (fun K hK => ?_) AllReadyH.nil)
    ·go_simp
     refine (clone_any w2 F _ x.weights (H4.out.on (Below.same' hB2 F)) (by omega)).mono ?_
     rintro e w3 ⟨_, rfl, hb, A9', c9', rfl, hi⟩
     have hi9_3 := CopyAt.of hi
     clear hi
     have g9 := hb62.lt
     dsimp only
     have hi6_3 := hi6_2.on (Below.same' hb _)
     have l14_9 := hr14_2.lt
     have hr14_3 := hr14_2.below hb hr14_2.lt
     have sz3 := hb.size
     have hb63 := hb62.below hb hb62.lt
     have hz3 := hz2.below hb hz2.lt
     have hB3 := hB2.trans (hb.mono hB2.size)
     clear hb
     refine hK.out _ _ ⟨hb63.cell rfl, hb63.cell rfl, hb63.cell rfl, hb63.cell rfl, hb63.cell rfl⟩ (fun hHeld => ?_)
     clear hK K
     try simp only [Act.put, lq1, lq2, lq3, lq4, lq5, lq6]
     refine wpAnyH_ready (rs := [12]) (by decide +kernel) (by simp) ?_
     refine (AllReadyH.cons (o := _) rfl (fun K hK => ?_) AllReadyH.nil)
     ·go_simp
      refine (clone_any w3 F _ x.pay (H5.out.on (Below.same' hB3 F)) (by omega)).mono ?_
      rintro e w4 ⟨_, rfl, hb, A12', c12', rfl, hi⟩
      have hi12_4 := CopyAt.of hi
      clear hi
      have g12 := hb63.lt
      dsimp only
      have hi6_4 := hi6_3.on (Below.same' hb _)
      have l14_12 := hr14_3.lt
      have hr14_4 := hr14_3.below hb hr14_3.lt
      have hi9_4 := hi9_3.on (Below.same' hb _)
      have sz4 := hb.size
      have hb64 := hb63.below hb hb63.lt
      have hz4 := hz3.below hb hz3.lt
      have hB4 := hB3.trans (hb.mono hB3.size)
      clear hb
      refine hK.out _ _ ⟨hb64.cell rfl, hb64.cell rfl, hb64.cell rfl, hb64.cell rfl, hb64.cell rfl⟩ (fun hHeld => ?_)
      clear hK K
      try simp only [Act.put, lq1, lq2, lq3, lq4, lq5, lq6]
      refine wpAnyH_take (i := 13) (v := ?_) rfl (by kernel_rfl) (by kernel_rfl) (by kernel_rfl) (fun _ _ _ h => h) (Or.inl ⟨by rfl, ?_⟩) hHeld ?_
      rotate_left
      ·intro wx hSx; (try dsimp only at hSx); go_split_ands; go_simp; try (with_reducible rfl)
      try simp only [Act.put, lq1, lq2, lq3, lq4, lq5, lq6]
      have r0 := hr14_4.cell (i := 0) rfl
      have f0 := hr14_4.frozen 0
      have r1 := hr14_4.cell (i := 1) rfl
      have f1 := hr14_4.frozen 1
      have r2 := hr14_4.cell (i := 2) rfl
      have f2 := hr14_4.frozen 2
      have r3 := hr14_4.cell (i := 3) rfl
      have f3 := hr14_4.frozen 3
      have r4 := hr14_4.cell (i := 4) rfl
      have f4 := hr14_4.frozen 4
      have r5 := hr14_4.cell (i := 5) rfl
      have f5 := hr14_4.frozen 5
      refine wpAnyH_done (by kernel_rfl) ?_ _
      clear hHeld
      show wpList _ _ _ _ _ _
      go_wp2_with fail
      obtain ⟨W, hW, hrw, hww⟩ := set6 hr14_4 (.int .i64 x.kind) (.int .i64 x.player) (.int .i64 0) (.slice A6' x.next.length c6') (.slice A9' x.weights.length c9') (.slice A12' x.pay.length c12')
      rw [← hW]
      clear hW
      clear r0 f0
      clear r1 f1
      clear r2 f2
      clear r3 f3
      clear r4 f4
      clear r5 f5
      have szw := hww.size
      have l14 := hr14_4.lt
      show Exit.then _ _ .normal _ _
      go_wp2_with fail
      go_meet
      exact ⟨_, _, _, _, _, _, _, _, _, _, _, _, _, rfl, hrw, hi6_4.on (hww.same (fun b hb => by omega)), hi9_4.on (hww.same (fun b hb => by omega)), hi12_4.on (hww.same (fun b hb => by omega)), hz4.wrote hww (by omega), hb64.wrote hww (by omega), Wrote.below hB4 hww (fun k hk => by omega) hB4.size, by omega, by omega, by omega, by omega, by omega, by omega, by omega, by omega, by omega, by omega, by omega⟩
  ·go_simp
   obtain ⟨w1, hw, hr14_1, hb, hz⟩ := row_of_alloc w0 45 #[.int .i64 0, .int .i64 0, .int .i64 0, .slice none 0 0, .slice none 0 0, .slice none 0 0]
   rw [← hw]
   clear hw hz
   have g14 := hb60.lt
   have sz1 := hb.size
   have hb61 := hb60.below hb hb60.lt
   have hz1 := hz0.below hb hz0.lt
   have hB1 := hB0.trans (hb.mono hB0.size)
   clear hb
   refine hK.out _ _ ⟨hb61.cell rfl, hb61.cell rfl, hb61.cell rfl, hb61.cell rfl, hb61.cell rfl⟩ (fun hHeld => ?_)
   clear hK K
   try simp only [Act.put, lq1, lq2, lq3, lq4, lq5, lq6]
   refine wpAnyH_ready (rs := [6]) (by decide +kernel) (by simp) ?_
   refine (AllReadyH.cons (o := _) rfl (fun K hK => ?_) AllReadyH.nil)
   ·go_simp
    refine (clone_any w1 F _ x.next (H3.out.on (Below.same' hB1 F)) (by omega)).mono ?_
    rintro e w2 ⟨_, rfl, hb, A6', c6', rfl, hi⟩
    have hi6_2 := CopyAt.of hi
    clear hi
    have g6 := hb61.lt
    dsimp only
    have l14_6 := hr14_1.lt
    have hr14_2 := hr14_1.below hb hr14_1.lt
    have sz2 := hb.size
    have hb62 := hb61.below hb hb61.lt
    have hz2 := hz1.below hb hz1.lt
    have hB2 := hB1.trans (hb.mono hB1.size)
    clear hb
    refine hK.out _ _ ⟨hb62.cell rfl, hb62.cell rfl, hb62.cell rfl, hb62.cell rfl, hb62.cell rfl⟩ (fun hHeld => ?_)
    clear hK K
    try simp only [Act.put, lq1, lq2, lq3, lq4, lq5, lq6]
    refine wpAnyH_ready (rs := [9]) (by decide +kernel) (by simp) ?_
    refine (AllReadyH.cons (o := _) rfl (fun K hK => ?_) AllReadyH.nil)
    ·go_simp
     refine (clone_any w2 F _ x.weights (H4.out.on (Below.same' hB2 F)) (by omega)).mono ?_
     rintro e w3 ⟨_, rfl, hb, A9', c9', rfl, hi⟩
     have hi9_3 := CopyAt.of hi
     clear hi
     have g9 := hb62.lt
     dsimp only
     have l14_9 := hr14_2.lt
     have hr14_3 := hr14_2.below hb hr14_2.lt
     have hi6_3 := hi6_2.on (Below.same' hb _)
     have sz3 := hb.size
     have hb63 := hb62.below hb hb62.lt
     have hz3 := hz2.below hb hz2.lt
     have hB3 := hB2.trans (hb.mono hB2.size)
     clear hb
     refine hK.out _ _ ⟨hb63.cell rfl, hb63.cell rfl, hb63.cell rfl, hb63.cell rfl, hb63.cell rfl⟩ (fun hHeld => ?_)
     clear hK K
     try simp only [Act.put, lq1, lq2, lq3, lq4, lq5, lq6]
     refine wpAnyH_ready (rs := [12]) (by decide +kernel) (by simp) ?_
     refine (AllReadyH.cons (o := _) rfl (fun K hK => ?_) AllReadyH.nil)
     ·go_simp
      refine (clone_any w3 F _ x.pay (H5.out.on (Below.same' hB3 F)) (by omega)).mono ?_
      rintro e w4 ⟨_, rfl, hb, A12', c12', rfl, hi⟩
      have hi12_4 := CopyAt.of hi
      clear hi
      have g12 := hb63.lt
      dsimp only
      have l14_12 := hr14_3.lt
      have hr14_4 := hr14_3.below hb hr14_3.lt
      have hi6_4 := hi6_3.on (Below.same' hb _)
      have hi9_4 := hi9_3.on (Below.same' hb _)
      have sz4 := hb.size
      have hb64 := hb63.below hb hb63.lt
      have hz4 := hz3.below hb hz3.lt
      have hB4 := hB3.trans (hb.mono hB3.size)
      clear hb
      refine hK.out _ _ ⟨hb64.cell rfl, hb64.cell rfl, hb64.cell rfl, hb64.cell rfl, hb64.cell rfl⟩ (fun hHeld => ?_)
      clear hK K
      try simp only [Act.put, lq1, lq2, lq3, lq4, lq5, lq6]
      refine wpAnyH_take (i := 13) (v := ?_) rfl (by kernel_rfl) (by kernel_rfl) (by kernel_rfl) (fun _ _ _ h => h) (Or.inl ⟨by rfl, ?_⟩) hHeld ?_
      rotate_left
      ·intro wx hSx; (try dsimp only at hSx); go_split_ands; go_simp; try (with_reducible rfl)
      try simp only [Act.put, lq1, lq2, lq3, lq4, lq5, lq6]
      have r0 := hr14_4.cell (i := 0) rfl
      have f0 := hr14_4.frozen 0
      have r1 := hr14_4.cell (i := 1) rfl
      have f1 := hr14_4.frozen 1
      have r2 := hr14_4.cell (i := 2) rfl
      have f2 := hr14_4.frozen 2
      have r3 := hr14_4.cell (i := 3) rfl
      have f3 := hr14_4.frozen 3
      have r4 := hr14_4.cell (i := 4) rfl
      have f4 := hr14_4.frozen 4
      have r5 := hr14_4.cell (i := 5) rfl
      have f5 := hr14_4.frozen 5
      refine wpAnyH_done (by kernel_rfl) ?_ _
      clear hHeld
      show wpList _ _ _ _ _ _
      go_wp2_with fail
      obtain ⟨W, hW, hrw, hww⟩ := set6 hr14_4 (.int .i64 x.kind) (.int .i64 x.player) (.int .i64 0) (.slice A6' x.next.length c6') (.slice A9' x.weights.length c9') (.slice A12' x.pay.length c12')
      rw [← hW]
      clear hW
      clear r0 f0
      clear r1 f1
      clear r2 f2
      clear r3 f3
      clear r4 f4
      clear r5 f5
      have szw := hww.size
      have l14 := hr14_4.lt
      show Exit.then _ _ .normal _ _
      go_wp2_with fail
      go_meet
      exact ⟨_, _, _, _, _, _, _, _, _, _, _, _, _, rfl, hrw, hi6_4.on (hww.same (fun b hb => by omega)), hi9_4.on (hww.same (fun b hb => by omega)), hi12_4.on (hww.same (fun b hb => by omega)), hz4.wrote hww (by omega), hb64.wrote hww (by omega), Wrote.below hB4 hww (fun k hk => by omega) hB4.size, by omega, by omega, by omega, by omega, by omega, by omega, by omega, by omega, by omega, by omega, by omega⟩
 case rest =>
  obtain ⟨bo, B3, d3, B4, d4, B5, d5, p3, q3, p4, q4, p5, q5, rfl, hbo, hk3, hk4, hk5, hz, hb6', hB', g1, g2, g3, g4, g5, g6, g7, g8, g9, g10, g11⟩ := hcut
  clear hb5 hb6 hB hv
  have x3 := hbo.cell (i := 3) rfl
  have lo := hbo.lt
  have hd3 := hk3.1
  have HK := Lib.hid (And.intro hk3 (And.intro hk4 hk5)); clear hk3 hk4 hk5
  have HZ := Lib.hid (And.intro hz hb6'); clear hz hb6'
  have HB := Lib.hid hB'; clear hB'
  have HBO := Lib.hid hbo; clear hbo
  have HRC := Lib.hid (And.intro hr hc); clear hr hc
  have HML := Lib.hid (mixTo_length root x.next)
  obtain ⟨wz, rfl⟩ : ∃ wz : World, wz = wc := ⟨_, rfl⟩
  go_wp2_with fail
  go_loopw [8, 32] (fun _ k wr => ∃ j : Nat, j ≤ x.next.length ∧ k = .int .i64 j ∧ Row wr bo 45 [.int .i64 x.kind, .int .i64 x.player, .int .i64 0, .slice B3 x.next.length d3, .slice B4 x.weights.length d4, .slice B5 x.pay.length d5] ∧ CopyAt p3 q3 (mixTo root x.next j) B3 d3 wr ∧ CopyAt p4 q4 x.weights B4 d4 wr ∧ CopyAt p5 q5 x.pay B5 d5 wr ∧ Row wr w.heap.size 45 [.int .i64 0, .int .i64 0, .int .i64 0, .slice none 0 0, .slice none 0 0, .slice none 0 0] ∧ Row wr (w.heap.size + 1) 45 [.int .i64 x.kind, .int .i64 x.player, .int .i64 x.info, .slice A3 x.next.length c3, .slice A4 x.weights.length c4, .slice A5 x.pay.length c5] ∧ Below w.heap.size w wr ∧ wz.heap.size ≤ wr.heap.size) (fun _ k _ => x.next.length - (intOf k).toNat)
  case atStart => exact ⟨0, by omega, rfl, HBO.out, by simpa [mixTo] using HK.out.1, HK.out.2.1, HK.out.2.2, HZ.out.1, HZ.out.2, HB.out, Nat.le_refl _⟩
  case round =>
   clear x3
   obtain ⟨j, hj, rfl, hbo, hk3, hk4, hk5, hz, hb6, hB, hle⟩ := hrel
   by_cases hlt : j < x.next.length
   ·obtain ⟨c0, hc0⟩ := getSome hlt
    obtain ⟨b3, rest, rfl, hb3, hrow⟩ := hk3.2 (by rw [HML.out]; omega)
    have x3 := hbo.cell (i := 3) rfl
    have xj := hrow.cell (i := j) (v := .int .i64 c0) (by rw [List.getElem?_append_left (by simp [HML.out]; exact hlt), List.getElem?_map, mixTo_get hc0]; rfl)
    have fj := hrow.frozen j
    have hrr := HRC.out.1.below hB lr
    have xr := hrr.cell (i := 0) rfl
    have l3 := hrow.lt
    have lbo := hbo.lt
    have lrr := hrr.lt
    obtain ⟨hc1, hc2⟩ := HNX.out c0 (List.mem_of_getElem? hc0)
    have HALL := Lib.hid (And.intro hbo (And.intro hrow (And.intro hk4 (And.intro hk5 (And.intro hz (And.intro hb6 hB))))))
    have HC0 := Lib.hid hc0
    clear hbo hrow hk3 hk4 hk5 hz hb6 hB hrr hc0
    go_upto_region 6 with fail
    refine wp_peelMany (fun w' => w'.cell? ⟨bo, 3, none⟩ = some (.slice (some ⟨b3, 0, none⟩) x.next.length d3) ∧ w'.cell? ⟨b3, j, none⟩ = some (.int .i64 c0) ∧ w'.cell? ⟨br, 0, none⟩ = some (.int .i64 root)) 7 2 (by kernel_rfl) rfl (by kernel_rfl) ?_
    have hHeld : (fun w' : World => w'.cell? ⟨bo, 3, none⟩ = some (.slice (some ⟨b3, 0, none⟩) x.next.length d3) ∧ w'.cell? ⟨b3, j, none⟩ = some (.int .i64 c0) ∧ w'.cell? ⟨br, 0, none⟩ = some (.int .i64 root)) wr.drew := ⟨x3, xj, xr⟩
    simp only [List.take_succ_cons, List.take_zero]
    refine wpAnyH_take (i := 0) (v := ?_) rfl (by kernel_rfl) (by kernel_rfl) (by kernel_rfl) (fun _ _ _ h => h) (Or.inl ⟨by rfl, ?_⟩) hHeld ?_
    rotate_left
    ·intro wx hSx; (try dsimp only at hSx); go_split_ands; go_simp; try (with_reducible rfl)
    try simp only [Act.put, lq1, lq2, lq3, lq4, lq5, lq6]
    refine wpAnyH_take (i := 1) (v := ?_) rfl (by kernel_rfl) (by kernel_rfl) (by kernel_rfl) (fun _ _ _ h => h) (Or.inl ⟨by rfl, ?_⟩) hHeld ?_
    rotate_left
    ·intro wx hSx; (try dsimp only at hSx); go_split_ands; go_simp; try (with_reducible rfl)
    try simp only [Act.put, lq1, lq2, lq3, lq4, lq5, lq6]
    refine wpAnyH_take (i := 2) (v := ?_) rfl (by kernel_rfl) (by kernel_rfl) (by kernel_rfl) (fun _ _ _ h => h) (Or.inl ⟨by rfl, ?_⟩) hHeld ?_
    rotate_left
    ·intro wx hSx; (try dsimp only at hSx); go_split_ands; go_simp; try (with_reducible rfl)
    try simp only [Act.put, lq1, lq2, lq3, lq4, lq5, lq6]
    refine wpAnyH_take (i := 3) (v := ?_) rfl (by kernel_rfl) (by kernel_rfl) (by kernel_rfl) (fun _ _ _ h => h) (Or.inl ⟨by rfl, ?_⟩) hHeld ?_
    rotate_left
    ·intro wx hSx; (try dsimp only at hSx); go_split_ands; go_simp; try (with_reducible rfl)
    try simp only [Act.put, lq1, lq2, lq3, lq4, lq5, lq6]
    refine wpAnyH_take (i := 4) (v := ?_) rfl (by kernel_rfl) (by kernel_rfl) (by kernel_rfl) (fun _ _ _ h => h) (Or.inl ⟨by rfl, ?_⟩) hHeld ?_
    rotate_left
    ·intro wx hSx; (try dsimp only at hSx); go_split_ands; go_simp; try (with_reducible rfl)
    try simp only [Act.put, lq1, lq2, lq3, lq4, lq5, lq6]
    refine wpAnyH_take (i := 5) (v := ?_) rfl (by kernel_rfl) (by kernel_rfl) (by kernel_rfl) (fun _ _ _ h => h) (Or.inl ⟨by rfl, ?_⟩) hHeld ?_
    rotate_left
    ·intro wx hSx; (try dsimp only at hSx); go_split_ands; go_simp; try (with_reducible rfl)
    try simp only [Act.put, lq1, lq2, lq3, lq4, lq5, lq6]
    refine wpAnyH_take (i := 6) (v := ?_) rfl (by kernel_rfl) (by kernel_rfl) (by kernel_rfl) (fun _ _ _ h => h) (Or.inl ⟨by rfl, ?_⟩) hHeld ?_
    rotate_left
    ·intro wx hSx; (try dsimp only at hSx); go_split_ands; go_simp; try (with_reducible rfl)
    try simp only [Act.put, lq1, lq2, lq3, lq4, lq5, lq6]
    refine wpAnyH_done (by kernel_rfl) ?_ _
    clear hHeld
    show wpList _ _ _ _ _ _
    go_wp2_with fail
    show wpList _ _ _ _ _ _
    go_wp2_with fail
    show Exit.inBlock _ _ .normal _ _
    go_wp2_with fail
    go_roundw
    case rel =>
     obtain ⟨hbo, hrow, hk4, hk5, hz, hb6, hB⟩ := HALL.out
     have hsame : ∀ G : Foot, (∀ b, G b → b ≠ b3) → Same G wr (wr.setCell ⟨b3, j, none⟩ (.int .i64 (c0 - root))).drew := fun G hG =>
      (Same.setCell G wr (p := ⟨b3, j, none⟩) (fun h => hG _ h rfl) _).trans (Same.drewN _ _ 1)
     exact ⟨j + 1, by omega, by go_num, (hbo.other (by simp; omega) _).drew, (CopyAt.set hd3 HC0.out hb3 hrow).on (Same.drewN _ _ 1), hk4.on (hsame _ (fun b hb => by omega)), hk5.on (hsame _ (fun b hb => by omega)), (hz.other (by simp; omega) _).drew, (hb6.other (by simp; omega) _).drew, (hB.setCell (by simp; omega) _).drew, by simp; omega⟩
    case measure => simp [intOf] <;> omega
   ·obtain rfl : j = x.next.length := by omega
    rw [mixTo_all] at hk3
    have HK3 := Lib.hid hk3; clear hk3
    have HK45 := Lib.hid (And.intro hk4 hk5); clear hk4 hk5
    have hmp := Lib.hid (HM.out.below hB)
    have hcc := HRC.out.2.below hB lc
    have xc := hcc.cell (i := 0) rfl
    have lcc := hcc.lt
    have y0 := hb6.cell (i := 0) rfl
    have y2 := hb6.cell (i := 2) rfl
    have l6 := hb6.lt
    have lbo := hbo.lt
    have lz := hz.lt
    by_cases hkd : x.kind = 2
    ·have HKD := Lib.hid hkd
     have hd : (x.kind == 2) = true := by simp [hkd]
     clear hkd
     have r2 := hbo.cell (i := 2) rfl
     have f2 := hbo.frozen 2
     go_upto_region 10 with (at_lookup; refine wpl_map_look rfl _ _ rfl bm n f rfl hmp.out x.info rfl (HI.out HKD.out) ?_)
     obtain ⟨W1, hW1⟩ : ∃ W, W = wr.setCell ⟨bo, 2, none⟩ (.int .i64 (f x.info)) := ⟨_, rfl⟩
     rw [← hW1]
     have hbo1 : Row W1 bo _ _ := hW1 ▸ hbo.set 2 (.int .i64 (f x.info))
     have hz1 : Row W1 w.heap.size _ _ := hW1 ▸ hz.other (a := ⟨bo, 2, none⟩) (by simp; omega) _
     have hB1 : Below w.heap.size w W1 := hW1 ▸ hB.setCell (p := ⟨bo, 2, none⟩) (by simp; omega) _
     have hS1 : ∀ G : Foot, (∀ b, G b → b ≠ bo) → Same G wr W1 := fun G hG => hW1 ▸ Same.setCell G wr (p := ⟨bo, 2, none⟩) (fun h => hG _ h rfl) _
     have HS1 := Lib.hid hS1; clear hS1
     have hle1 : wr.heap.size ≤ W1.heap.size := by rw [hW1]; simp
     clear hW1 r2 f2
     have r0 := hbo1.cell (i := 0) rfl
     have z0 := hz1.cell (i := 0) rfl
     have f0 := hz1.frozen 0
     have r1 := hbo1.cell (i := 1) rfl
     have z1 := hz1.cell (i := 1) rfl
     have f1 := hz1.frozen 1
     have r2 := hbo1.cell (i := 2) rfl
     have z2 := hz1.cell (i := 2) rfl
     have f2 := hz1.frozen 2
     have r3 := hbo1.cell (i := 3) rfl
     have z3 := hz1.cell (i := 3) rfl
     have f3 := hz1.frozen 3
     have r4 := hbo1.cell (i := 4) rfl
     have z4 := hz1.cell (i := 4) rfl
     have f4 := hz1.frozen 4
     have r5 := hbo1.cell (i := 5) rfl
     have z5 := hz1.cell (i := 5) rfl
     have f5 := hz1.frozen 5
     have lbo1 := hbo1.lt
     have lz1 := hz1.lt
     go_wp2_with fail
     obtain ⟨W, hW, hrw, hww⟩ := set6 hz1 (.int .i64 x.kind) (.int .i64 x.player) (.int .i64 (f x.info)) (.slice B3 x.next.length d3) (.slice B4 x.weights.length d4) (.slice B5 x.pay.length d5)
     rw [← hW]
     clear hW
     have t0 := hrw.cell (i := 0) rfl
     have t1 := hrw.cell (i := 1) rfl
     have t2 := hrw.cell (i := 2) rfl
     have t3 := hrw.cell (i := 3) rfl
     have t4 := hrw.cell (i := 4) rfl
     have t5 := hrw.cell (i := 5) rfl
     refine bodyPost_ret (v := .agg #[.int .i64 x.kind, .int .i64 x.player, (.int .i64 (f x.info)), .slice B3 x.next.length d3, .slice B4 x.weights.length d4, .slice B5 x.pay.length d5]) (by simp [results, Try.results54, go_sem, t0, t1, t2, t3, t4, t5]) rfl ?_
     have hwz := hww.size
     refine ⟨_, rfl, Wrote.below hB1 hww (fun k hk => by omega) hB1.size, ⟨movedNode root f x, .slice B3 x.next.length d3, .slice B4 x.weights.length d4, .slice B5 x.pay.length d5⟩, ?_, rfl, ⟨?_, ?_, ?_⟩, rfl, rfl, rfl⟩
     ·simp [NV.cells, movedNode, HKD.out]
     ·have h := HK3.out.ints; rw [List.length_map] at h; exact (h.on (HS1.out _ (fun b hb => by omega))).keep (fun b hb _ => by omega) (hww.same (fun b hb => by omega))
     ·exact (HK45.out.1.ints.on (HS1.out _ (fun b hb => by omega))).keep (fun b hb _ => by omega) (hww.same (fun b hb => by omega))
     ·exact (HK45.out.2.ints.on (HS1.out _ (fun b hb => by omega))).keep (fun b hb _ => by omega) (hww.same (fun b hb => by omega))
    ·have HKD := Lib.hid hkd
     have hd : (x.kind == 2) = false := by simp [hkd]
     clear hkd
     have r0 := hbo.cell (i := 0) rfl
     have z0 := hz.cell (i := 0) rfl
     have f0 := hz.frozen 0
     have r1 := hbo.cell (i := 1) rfl
     have z1 := hz.cell (i := 1) rfl
     have f1 := hz.frozen 1
     have r2 := hbo.cell (i := 2) rfl
     have z2 := hz.cell (i := 2) rfl
     have f2 := hz.frozen 2
     have r3 := hbo.cell (i := 3) rfl
     have z3 := hz.cell (i := 3) rfl
     have f3 := hz.frozen 3
     have r4 := hbo.cell (i := 4) rfl
     have z4 := hz.cell (i := 4) rfl
     have f4 := hz.frozen 4
     have r5 := hbo.cell (i := 5) rfl
     have z5 := hz.cell (i := 5) rfl
     have f5 := hz.frozen 5
     go_wp2_with fail
     obtain ⟨W, hW, hrw, hww⟩ := set6 hz (.int .i64 x.kind) (.int .i64 x.player) (.int .i64 0) (.slice B3 x.next.length d3) (.slice B4 x.weights.length d4) (.slice B5 x.pay.length d5)
     rw [← hW]
     clear hW
     have t0 := hrw.cell (i := 0) rfl
     have t1 := hrw.cell (i := 1) rfl
     have t2 := hrw.cell (i := 2) rfl
     have t3 := hrw.cell (i := 3) rfl
     have t4 := hrw.cell (i := 4) rfl
     have t5 := hrw.cell (i := 5) rfl
     refine bodyPost_ret (v := .agg #[.int .i64 x.kind, .int .i64 x.player, (.int .i64 0), .slice B3 x.next.length d3, .slice B4 x.weights.length d4, .slice B5 x.pay.length d5]) (by simp [results, Try.results54, go_sem, t0, t1, t2, t3, t4, t5]) rfl ?_
     have hwz := hww.size
     refine ⟨_, rfl, Wrote.below hB hww (fun k hk => by omega) hB.size, ⟨movedNode root f x, .slice B3 x.next.length d3, .slice B4 x.weights.length d4, .slice B5 x.pay.length d5⟩, ?_, rfl, ⟨?_, ?_, ?_⟩, rfl, rfl, rfl⟩
     ·simp [NV.cells, movedNode, HKD.out]
     ·have h := HK3.out.ints; rw [List.length_map] at h; exact (h.on (Same.refl _ _)).keep (fun b hb _ => by omega) (hww.same (fun b hb => by omega))
     ·exact (HK45.out.1.ints.on (Same.refl _ _)).keep (fun b hb _ => by omega) (hww.same (fun b hb => by omega))
     ·exact (HK45.out.2.ints.on (Same.refl _ _)).keep (fun b hb _ => by omega) (hww.same (fun b hb => by omega))
end Go.Proofs.Ytafjdoedallnbaa
