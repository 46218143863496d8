/- subgame.walk at nodes: the nodes of a part, each visited, in order -/
import Derived.Test.YtafjdoedallnbaaJ25
import Derived.Test.YtafjdoedallnbaaJ26
import Derived.Test.YtafjdoedallnbaaJ13
namespace Go.Proofs.Ytafjdoedallnbaa
open Go.RowKit
/-- a node by value -/
def NodeVal (w' : World) (F : Foot) (v : Value) (n : Nd) : Prop := ∃ A3 c3 A4 c4 A5 c5, v = .agg #[.int .i64 n.kind, .int .i64 n.player, .int .i64 n.info, .slice A3 n.next.length c3, .slice A4 n.weights.length c4, .slice A5 n.pay.length c5] ∧
 IntsAt w' F (.slice A3 n.next.length c3) n.next ∧ IntsAt w' F (.slice A4 n.weights.length c4) n.weights ∧ IntsAt w' F (.slice A5 n.pay.length c5) n.pay
theorem NodeVal.of {w : World} {F : Foot} {q : NV} (h : q.fine w F) : NodeVal w F (.agg q.cells.toArray) q.n := by
 obtain ⟨n, v3, v4, v5⟩ := q
 obtain ⟨⟨A3, c3, e3, h3⟩, ⟨A4, c4, e4, h4⟩, ⟨A5, c5, e5, h5⟩⟩ := h
 dsimp only at e3 e4 e5
 subst e3 e4 e5
 exact ⟨A3, c3, A4, c4, A5, c5, rfl, ⟨A3, c3, rfl, h3⟩, ⟨A4, c4, rfl, h4⟩, ⟨A5, c5, rfl, h5⟩⟩
def Visits (w : World) (fid : FuncId) (caps : Array Value) (N : Nat) (mv : Nat → Nd) : Prop :=
 (∀ (args : Array Value) (w' : World), (callFunc fid args).run Try.prog w' = .ok (.enter fid args) w') ∧
 ∀ (w' : World) (a : Nat), Below w.heap.size w w' → a < N → Calls Try.prog fid (#[.int .i64 (a : Int)] ++ caps) w' (Ret w' fun v w'' => NodeVal w'' (fun b => w'.heap.size ≤ b ∧ b < w''.heap.size) v (mv a))
theorem Visits.later {w w' : World} {fid : FuncId} {caps : Array Value} {N : Nat} {mv : Nat → Nd} (h : Visits w fid caps N mv) (hb : Below w.heap.size w w') : Visits w' fid caps N mv :=
 ⟨h.1, fun w'' a hb' ha => h.2 w'' a (hb.trans (hb'.mono hb.size)) ha⟩
def preL (nodes : List Nd) : Nat → Nat → List Nat
 | 0, _ => []
 | f + 1, a => a :: match nodes[a]? with
  | some n => n.next.flatMap fun c => preL nodes f c.toNat
  | none => []
theorem flat_take_le {l : List Int} {F : Int → List Nat} (k : Nat) : ((l.take k).flatMap F).length ≤ (l.flatMap F).length := by
 conv => rhs; rw [← List.take_append_drop k l, List.flatMap_append, List.length_append]
 omega
theorem flat_snoc {l : List Int} {F : Int → List Nat} {k : Nat} {c : Int} (h : l[k]? = some c) : (l.take (k + 1)).flatMap F = (l.take k).flatMap F ++ F c := by
 rw [take_snoc h, List.flatMap_append]; simp
/-- the nodes that have been walked, in a row of one's own -/
def WalkedN (B : Nat) (ns : List Nd) (v : Value) (w' : World) : Prop := ∃ (gg cap : Nat) (L : List NV), v = .slice (some ⟨gg, 0, none⟩) L.length cap ∧ w'.ownsRow B 45 6 v L.length (L.flatMap NV.cells) ∧ L.map NV.n = ns ∧ (∀ q ∈ L, q.fine w' (fun b => B ≤ b ∧ b < w'.heap.size ∧ b ≠ gg)) ∧ (∀ q ∈ L, q.v3.oneCell' = true ∧ q.v4.oneCell' = true ∧ q.v5.oneCell' = true)
theorem ownsRow_below {w w' : World} {base : Nat} {t : TypeId} {sz : Nat} {v : Value} {n : Nat} {xs : List Value} (h : w.ownsRow base t sz v n xs) (hb : Below w.heap.size w w') : w'.ownsRow base t sz v n xs :=
 ⟨h.1, h.2.imp id (fun ⟨gg, cap, cur, h1, h2, h3, h4⟩ => ⟨gg, cap, cur, h1, h2, by rw [hb.block gg (Array.getElem?_eq_some_iff.1 h3).1]; exact h3, h4⟩)⟩
theorem ownsRow_base {w : World} {base base' : Nat} {t : TypeId} {sz : Nat} {v : Value} {n : Nat} {xs : List Value} (h : w.ownsRow base t sz v n xs) (hb : base' ≤ base) : w.ownsRow base' t sz v n xs :=
 ⟨h.1, h.2.imp id (fun ⟨gg, cap, cur, h1, h2, h3⟩ => ⟨gg, cap, cur, h1, Nat.le_trans hb h2, h3⟩)⟩
theorem wpl_app_nodes {w : World} {ops : Array Oper} {rest : List Oper} {o : Oper} {a : Act} {Q : Exit → Act → World → Prop} (hgd : o.guard = none) (s x : Operand)
  (ho : o.op = .call { callee := .builtin .append, args := #[s, x], argTypes := #[22, 22] })
  (base : Nat) (v : Value) (L : List NV) (hs : a.eval s = v) (hown : w.ownsRow base 45 6 v L.length (L.flatMap NV.cells))
  (B g2 cap2 : Nat) (L2 : List NV) (hx : a.eval x = .slice (some ⟨g2, 0, none⟩) L2.length cap2) (hown2 : w.ownsRow B 45 6 (.slice (some ⟨g2, 0, none⟩) L2.length cap2) L2.length (L2.flatMap NV.cells)) (hone : ∀ q ∈ L2, q.v3.oneCell' = true ∧ q.v4.oneCell' = true ∧ q.v5.oneCell' = true)
  (h0 : 0 < L2.length) (hlen : L.length ≤ 1000000) (hlen2 : L2.length ≤ 1000000) (hbase : base ≤ w.heap.size)
  (h : ∀ g cap w', w'.ownsRow base 45 6 (.slice (some ⟨g, 0, none⟩) (L ++ L2).length cap) (L ++ L2).length ((L ++ L2).flatMap NV.cells) → w.grownBy w' v.ownBlock → (v.ownBlock = some g ∨ g = w.heap.size) → g < w'.heap.size →
   wpList Try.prog ops Q rest (a.put o.dst (.slice (some ⟨g, 0, none⟩) (L ++ L2).length cap)) w') :
  wpList Try.prog ops Q (o :: rest) a w := by
 obtain ⟨i0, hi, hz0, hz1, hz2⟩ := info_parts Try.infoNode
 refine wpList_append_lies w hgd s x _ ho base _ i0 _ 6 96 Try.underlying22 hi hz0 hz1 hz2 rfl (by omega) v L.length _ hs hown ⟨g2, 0, none⟩ L2.length cap2 (L2.flatMap NV.cells) hx hown2.1 (hown2.cells rfl) ?_ h0 (by unfold maxLen; omega) (by omega) hbase w.heap.size rfl ?_
 ·intro u hu
  obtain ⟨q, hq, hu⟩ := List.mem_flatMap.1 hu
  obtain ⟨o3, o4, o5⟩ := hone q hq
  simp only [NV.cells, List.mem_cons, List.not_mem_nil, or_false] at hu
  rcases hu with rfl | rfl | rfl | rfl | rfl | rfl
  ·rfl
  ·rfl
  ·rfl
  ·exact o3
  ·exact o4
  ·exact o5
 ·intro g cap w' h1 h2 h3 h4
  rw [← List.flatMap_append, ← List.length_append] at h1
  have := h g cap w' h1 h2 h3 h4
  rw [List.length_append] at this
  exact this
set_option maxRecDepth 100000 in
set_option maxHeartbeats 6400000 in
theorem walkN_any (g : Gm) (hsm : Small g) (hkid : ∀ (i : Nat) (n : Nd), g.nodes[i]? = some n → ∀ c ∈ n.next, (i : Int) < c ∧ c < (g.nodes.length : Int)) (fid : FuncId) (caps : Array Value) (mv : Nat → Nd) :
  ∀ (f a : Nat) (w : World) (F : Foot) (u : Value), GameAt w F u g → Visits w fid caps g.nodes.length mv → g.nodes.length ≤ a + f → a < g.nodes.length → (preL g.nodes f a).length ≤ 100000 →
  Calls Try.prog 42 #[u, .int .i64 (a : Int), .func (.func fid) #[] caps] w (Ret w (WalkedN w.heap.size ((preL g.nodes f a).map mv))) := by
 intro f
 induction f with
 | zero => intro a w F u hg hv hf ha; omega
 | succ f ih =>
  intro a w F u hg hv hf ha hlen
  have HG := Lib.hid hg
  obtain ⟨vn, vi, rfl, ⟨A, c, rfl, hc, hN⟩, ⟨Ai, ci, rfl, hci, hI⟩⟩ := hg
  clear hI
  have hn := hsm.nodes
  obtain ⟨b, o, rfl, hbF, hb, hcell⟩ := hN (by omega)
  obtain ⟨x, hx⟩ := getSome ha
  obtain ⟨v3, e3, i3⟩ := (hcell a x hx).c3
  have s3 := hsm.next x (List.mem_of_getElem? hx)
  have HKD := Lib.hid (hkid a x hx)
  obtain ⟨A3, c3, rfl, hc3, h3⟩ := i3
  have H3 := Lib.hid h3
  have HPR := Lib.hid (show preL g.nodes (f + 1) a = a :: x.next.flatMap (fun c => preL g.nodes f c.toNat) by rw [preL, hx])
  have IH := Lib.hid ih
  have HL := Lib.hid hlen
  have hcf := hv.1
  have HV := Lib.hid hv
  clear hN hcell hx h3 ih hlen hv hsm hkid
  go_enter Try.func42, Try.ntmps42
  go_wp2_with fail
  obtain ⟨W, hW, hbx, hWb, hWz⟩ := row_of_alloc w 25 #[.int .i64 g.players, .slice (some ⟨b, o, none⟩) g.nodes.length c, .slice Ai g.infos.length ci]
  rw [← hW]
  clear hW
  have HWZ := Lib.hid hWz; clear hWz
  refine (HV.out.2 W a hWb ha).mono ?_
  rintro e w1 ⟨_, rfl, hb1, B3, d3, B4, d4, B5, d5, rfl, j3, j4, j5⟩
  dsimp only
  have hbx1 := hbx.below hb1 hbx.lt
  have x1 := hbx1.cell (i := 1) rfl
  have lx := hbx1.lt
  have hB1 : Below w.heap.size w w1 := hWb.trans (hb1.mono hWb.size)
  have e3' := e3
  rw [← below_old hB1 _ _ hb] at e3'
  have HJ := Lib.hid (And.intro j3 (And.intro j4 j5)); clear j3 j4 j5
  have HR1 := Lib.hid (And.intro hbx1 hB1); clear hbx1 hB1 hbx
  have hs1 : W.heap.size ≤ w1.heap.size := hb1.size
  have HW := Lib.hid (And.intro hWb hb1); clear hWb hb1
  have HE3 := Lib.hid e3; clear e3
  have lb1 : b < w1.heap.size := by omega
  go_wp2_with fail
  go_loopw [7, 9, 21] (fun vo _ i wr => ∃ (k gg cap : Nat) (L : List NV) (G : Foot), k ≤ x.next.length ∧ i = .int .i64 k ∧ vo = .slice (some ⟨gg, 0, none⟩) L.length cap ∧ wr.ownsRow (w.heap.size + 1) 45 6 (.slice (some ⟨gg, 0, none⟩) L.length cap) L.length (L.flatMap NV.cells) ∧ L.map NV.n = (a :: (x.next.take k).flatMap (fun c => preL g.nodes f c.toNat)).map mv ∧ (∀ q ∈ L, q.fine wr G) ∧ (∀ b, G b → w.heap.size + 1 ≤ b ∧ b < wr.heap.size ∧ b ≠ gg) ∧ (∀ q ∈ L, q.v3.oneCell' = true ∧ q.v4.oneCell' = true ∧ q.v5.oneCell' = true) ∧ Row wr w.heap.size 25 [.int .i64 g.players, .slice (some ⟨b, o, none⟩) g.nodes.length c, .slice Ai g.infos.length ci] ∧ Below w.heap.size w wr ∧ w.heap.size + 1 ≤ wr.heap.size) (fun _ _ i _ => x.next.length - (intOf i).toNat)
  case atStart =>
   have hz := HWZ.out
   obtain ⟨hbx1, hB1⟩ := HR1.out
   obtain ⟨j3, j4, j5⟩ := HJ.out
   refine ⟨0, w1.heap.size, 1, [⟨mv a, .slice B3 (mv a).next.length d3, .slice B4 (mv a).weights.length d4, .slice B5 (mv a).pay.length d5⟩], fun b => W.heap.size ≤ b ∧ b < w1.heap.size, by omega, rfl, rfl, ?_, by simp, ?_, ?_, ?_, hbx1.alloc _, hB1.alloc (by omega) _, by simp; omega⟩
   ·exact ⟨by simp [NV.cells], .inr ⟨w1.heap.size, 1, _, rfl, by omega, heap_alloc_new _ _, by simp, by unfold maxLen; omega, by simp, by simp [NV.cells]⟩⟩
   ·intro q hq
    rw [List.mem_singleton] at hq
    subst hq
    exact ⟨j3.on (Same.alloc _ _ _), j4.on (Same.alloc _ _ _), j5.on (Same.alloc _ _ _)⟩
   ·intro b hb; simp; omega
   ·intro q hq
    rw [List.mem_singleton] at hq
    subst hq
    exact ⟨rfl, rfl, rfl⟩
  case round =>
   obtain ⟨k, gg, cap, L, G, hk, rfl, rfl, hown, hLn, hfn, hG, hone, hbx, hB, hsz⟩ := hrel
   have HO := Lib.hid hown; clear hown
   have HLN := Lib.hid hLn; clear hLn
   have HFN := Lib.hid hfn; clear hfn
   have HGG := Lib.hid hG; clear hG
   have HON := Lib.hid hone; clear hone
   have hgl := HO.out.lt gg rfl
   by_cases hlt : k < x.next.length
   ·obtain ⟨b3, o3, rfl, hF3, hb3, hx3⟩ := H3.out (by omega)
    obtain ⟨c0, hc0⟩ := getSome hlt
    have e0 := hx3 k c0 hc0
    unfold intE at e0
    rw [Nat.mul_one, ← below_old hB _ _ hb3] at e0
    obtain ⟨hk1, hk2⟩ := HKD.out c0 (List.mem_of_getElem? hc0)
    obtain ⟨cn, rfl⟩ := Int.eq_ofNat_of_zero_le (show 0 ≤ c0 by omega)
    have HC0 := Lib.hid hc0; clear hc0 hx3
    have hlb : b3 < wr.heap.size := by have := hB.size; omega
    have y0 := hbx.cell (i := 0) rfl
    have y1 := hbx.cell (i := 1) rfl
    have y2 := hbx.cell (i := 2) rfl
    have hPL := HPR.out ▸ HL.out
    have hl1 : (preL g.nodes f cn).length ≤ 100000 := by
     have h1 := flat_take_le (l := x.next) (F := fun c => preL g.nodes f c.toNat) (k + 1)
     rw [flat_snoc HC0.out, List.length_append] at h1
     simp only [Int.toNat_natCast, List.length_cons] at h1 hPL
     omega
    have hl2 : L.length ≤ 100000 := by
     have h1 := flat_take_le (l := x.next) (F := fun c => preL g.nodes f c.toNat) k
     have h2 := congrArg List.length HLN.out
     simp only [List.length_map, List.length_cons] at h2 hPL
     omega
    clear hPL
    have HBX := Lib.hid (And.intro hbx hB); clear hbx hB
    go_wp2_with fail
    refine (IH.out cn wr F _ (HG.out.on (Below.same' HBX.out.2 F)) (HV.out.later HBX.out.2) (by omega) (by omega) hl1).mono ?_
    rintro e w2 ⟨_, rfl, hb2, g2, cap2, L2, rfl, hown2, hL2, hf2, ho2⟩
    dsimp only
    have hs2 := hb2.size
    have hne : 0 < L2.length := by
     have h2 := congrArg List.length hL2
     cases f with
     | zero => omega
     | succ f => simp only [List.length_map, preL, List.length_cons] at h2; omega
    have hl3 : L2.length ≤ 100000 := by
     have h2 := congrArg List.length hL2
     simp only [List.length_map] at h2
     omega
    have HO2 := Lib.hid (And.intro hown2 (And.intro hL2 (And.intro hf2 (And.intro ho2 hb2)))); clear hown2 hL2 hf2 ho2 hb2
    have HOW := Lib.hid (ownsRow_below HO.out HO2.out.2.2.2.2)
    go_wp2_with (at_builtin; refine wpl_app_nodes rfl _ _ rfl (w.heap.size + 1) _ L rfl HOW.out wr.heap.size g2 cap2 L2 rfl HO2.out.1 HO2.out.2.2.2.1 hne (by omega) (by omega) (by omega) ?_; intro gg' cap' w3 hown3 hgrow hat hlt3; have HO3 := Lib.hid (And.intro hown3 (And.intro hgrow hat)); clear hown3 hgrow hat)
    go_roundw
    case rel =>
     obtain ⟨hown3, hgrow, hat⟩ := HO3.out
     obtain ⟨hown2, hL2, hf2, ho2, hb2⟩ := HO2.out
     obtain ⟨hbx, hB⟩ := HBX.out
     have hg3 := hgrow.size
     have hbl := hbx.lt
     have hg' : gg' = gg ∨ gg' = w2.heap.size := hat.imp (fun e => by cases e; rfl) id
     have hgl2 := hown2.lt g2 rfl
     have hblk : ∀ b, b < w2.heap.size → b ≠ gg → w3.heap[b]? = w2.heap[b]? := fun b hb hne => hgrow.block b hb (fun e => hne (by cases e; rfl))
     refine ⟨k + 1, gg', cap', L ++ L2, fun b => (G b ∧ b < wr.heap.size) ∨ (wr.heap.size ≤ b ∧ b < w2.heap.size ∧ b ≠ g2), by omega, by go_num, by rw [List.length_append], hown3, ?_, ?_, ?_, ?_, ?_, ?_, by omega⟩
     ·rw [List.map_append, HLN.out, hL2, flat_snoc HC0.out]; simp
     ·intro q hq
      rcases List.mem_append.1 hq with hq | hq
      ·exact (HFN.out q hq).keep (fun b hb hl => .inl ⟨hb, hl⟩) ((Below.same' hb2 G).trans ⟨hg3, fun b hb hl => hblk b hl (HGG.out b hb).2.2⟩)
      ·exact (hf2 q hq).keep (fun b hb _ => .inr hb) ⟨hg3, fun b hb hl => hblk b hl (by omega)⟩
     ·intro b hb
      rcases hb with ⟨hb, hl⟩ | hb
      ·have := HGG.out b hb; omega
      ·omega
     ·intro q hq
      rcases List.mem_append.1 hq with hq | hq
      ·exact HON.out q hq
      ·exact ho2 q hq
     ·exact (hbx.below hb2 hbx.lt).of_block (hblk _ (by omega) (by omega))
     ·exact (hB.trans (hb2.mono hB.size)).grown hgrow (by omega) (fun k hk => by cases hk; show _ ≤ gg; omega)
    case measure => simp [intOf] <;> omega
   ·have HT := Lib.hid (show x.next.take k = x.next from List.take_of_length_le (by omega))
    go_wp2_with fail
    go_ret
    have hsz2 := hB.size
    refine ⟨_, rfl, hB, gg, cap, L, rfl, ownsRow_base HO.out (by omega), ?_, fun q hq => (HFN.out q hq).keep (fun b hb _ => by have := HGG.out b hb; omega) (Same.refl _ _), HON.out⟩
    rw [HLN.out, HT.out, HPR.out]
end Go.Proofs.Ytafjdoedallnbaa
/- the nodes of a part, in preorder, are those from its root to its end -/
namespace Go.Proofs.Ytafjdoedallnbaa
theorem preL_len {nodes : List Nd} {cs : List Int} {a b : Nat} (h : Span nodes cs a b) : ∀ f, (cs.flatMap fun c => preL nodes f c.toNat).length ≤ b - a := by
 induction h with
 | nil a => intro f; simp
 | @cons a m b n cs hn h1 h2 ih1 ih2 =>
  intro f
  have l1 := h1.le
  have l2 := h2.le
  have k2 := ih2 f
  rw [List.flatMap_cons, List.length_append]
  cases f with
  | zero => simp only [preL, List.length_nil] at k2 ⊢; omega
  | succ f =>
   have k1 := ih1 f
   have e : preL nodes (f + 1) a = a :: n.next.flatMap fun c => preL nodes f c.toNat := by rw [preL, hn]
   rw [Int.toNat_natCast, e, List.length_cons]
   omega
theorem preL_short {g : Gm} (hg : Good g) (f a : Nat) : (preL g.nodes f a).length ≤ g.nodes.length + 1 := by
 by_cases ha : a < g.nodes.length
 ·obtain ⟨e, hs, _, he, _⟩ := look_last hg ha
  have := preL_len hs f
  simp at this
  omega
 ·cases f with
  | zero => simp [preL]
  | succ f => simp [preL, List.getElem?_eq_none (Nat.le_of_not_lt ha)]
theorem preL_range {nodes : List Nd} {cs : List Int} {a b : Nat} (h : Span nodes cs a b) : ∀ f, nodes.length ≤ a + f → (cs.flatMap fun c => preL nodes f c.toNat) = List.range' a (b - a) := by
 induction h with
 | nil a => intro f _; simp
 | @cons a m b n cs hn h1 h2 ih1 ih2 =>
  intro f hf
  have l1 := h1.le
  have l2 := h2.le
  have hl := lt_of_get hn
  have k2 := ih2 f (by omega)
  cases f with
  | zero => omega
  | succ f =>
   have k1 := ih1 f (by omega)
   rw [List.flatMap_cons, k2]
   have e : preL nodes (f + 1) a = a :: n.next.flatMap fun c => preL nodes f c.toNat := by rw [preL, hn]
   rw [Int.toNat_natCast, e, k1, show b - a = (m - (a + 1) + 1) + (b - m) by omega, ← List.range'_append_1, List.range'_succ, show a + (m - (a + 1) + 1) = m by omega]
end Go.Proofs.Ytafjdoedallnbaa
