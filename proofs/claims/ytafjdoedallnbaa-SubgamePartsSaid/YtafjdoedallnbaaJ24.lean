/- parlourref26.Proper, and that the program's nodes are the document's. -/
import Derived.Test.YtafjdoedallnbaaJ23
namespace Go.Proofs.Ytafjdoedallnbaa
open Go.RowKit
def properAtR (g : Gm) (i : Nat) : Bool := match g.nodes[i]? with | some n => closedL g [(i : Int)] && decide (n.kind ≠ 3) | none => false
def properToR (g : Gm) (k : Nat) : List Int := ((List.range k).filter (properAtR g)).map fun i : Nat => (i : Int)
theorem properToR_succ (g : Gm) (k : Nat) : properToR g (k + 1) = properToR g k ++ (if properAtR g k then [(k : Int)] else []) := by
 unfold properToR
 rw [List.range_succ, List.filter_append, List.map_append]
 cases h : properAtR g k <;> simp [h]
theorem properToR_length (g : Gm) (k : Nat) : (properToR g k).length ≤ k := by
 unfold properToR
 rw [List.length_map]
 refine Nat.le_trans (List.length_filter_le _ _) ?_
 simp
def properRL (g : Gm) : List Int := if formL g = 0 then properToR g g.nodes.length else []
theorem under_one {g : Gm} (hg : Good g) {r : Nat} (hr : r < g.nodes.length) {y : Int} (hy : (lookL g.nodes).2[r]? = some y) (k : Nat) : (underL g.nodes [(r : Int)]).getD k false = within2 r y k := by
 obtain ⟨e, h1, h2, h3, h4⟩ := look_last hg hr
 rw [hy] at h4; cases h4
 rw [Bool.eq_iff_iff, under_get hg (fun x hx => by simp at hx; omega)]
 unfold within2
 simp only [Bool.and_eq_true, decide_eq_true_eq]
 constructor
 ·rintro ⟨_, q, hq, e', h5, h6, h7⟩
  simp at hq
  have : q = r := by omega
  subst this
  have := h5.unique h1
  omega
 ·rintro ⟨h5, h6⟩
  exact ⟨by omega, r, by simp, e, h1, by omega, by omega⟩
theorem alone_closed {g : Gm} (hg : Good g) {r : Nat} (hr : r < g.nodes.length) : aloneB (lookL g.nodes).2 (setsL g) (r : Int) = closedL g [(r : Int)] := by
 obtain ⟨e, h1, h2, h3, h4⟩ := look_last hg hr
 unfold aloneB closedL allInTo
 have hsl : (setsL g).length = g.infos.length := setsTo_length _ _ _
 rw [← hsl, List.take_length]
 rw [Bool.eq_iff_iff, List.all_eq_true, List.all_eq_true]
 refine forall_congr' fun l => forall_congr' fun hl => ?_
 have hy : (lookL g.nodes).2.getD (r : Int).toNat 0 = (e : Int) - 1 := by simp [List.getD_eq_getElem?_getD, h4]
 rw [hy]
 have hc : l.countP (within2 (r : Int) ((e : Int) - 1)) = manyIn (underL g.nodes [(r : Int)]) l := by
  unfold manyIn
  apply List.countP_congr
  intro x hx
  have hx2 := setsTo_in (Nat.le_refl _) l hl x hx
  obtain ⟨z, rfl⟩ := Int.eq_ofNat_of_zero_le hx2.1
  rw [Int.toNat_natCast, under_one hg hr h4]
 unfold mixedIn
 rw [hc]
 have hle := manyIn_le (underL g.nodes [(r : Int)]) l
 generalize manyIn (underL g.nodes [(r : Int)]) l = c at *
 simp
 omega
theorem proper_eq (g : Gm) : properPL g = properRL g := by
 unfold properPL properRL
 split
 ·rename_i h
  have hg := good_of h
  unfold properTo properToR
  congr 1
  apply List.filter_congr
  intro i hi
  rw [List.mem_range] at hi
  unfold properAt properAtR
  obtain ⟨n, hn⟩ := getSome hi
  rw [hn]
  simp only
  rw [alone_closed hg hi, Bool.and_comm]
 ·rfl
set_option maxRecDepth 100000 in
set_option maxHeartbeats 3200000 in
theorem properR_any (w : World) (F : Foot) (u : Value) (g : Gm) (hg : GameAt w F u g) (hsm : Small g) :
  Calls Try.prog 19 #[u] w (Ret w (OneInts w.heap.size (formL g) (properRL g))) := by
 have HG := Lib.hid hg
 obtain ⟨vn, vi, rfl, ⟨A, c, rfl, hc, hN⟩, ⟨Ai, ci, rfl, hci, hI⟩⟩ := hg
 clear hI
 have HN := Lib.hid hN; clear hN
 have hn := hsm.nodes
 have hni := hsm.infos
 have HS := Lib.hid hsm; clear hsm
 go_enter Try.func19, Try.ntmps19
 go_wp2_with fail
 refine (formR_any _ F _ g (HG.out.on (Same.alloc _ _ _)) HS.out).mono ?_
 rintro e w1 ⟨_, rfl, hb1, rfl⟩
 have hbx := (Row.new w 25 #[.int .i64 g.players, .slice A g.nodes.length c, .slice Ai g.infos.length ci]).below hb1 (by simp)
 have hB : Below w.heap.size w w1 := ((Below.refl w.heap.size w).alloc (Nat.le_refl _) _).trans (hb1.mono (by simp))
 clear hb1
 have HPP := Lib.hid (show properRL g = if formL g = 0 then properToR g g.nodes.length else [] from rfl)
 have HGD := Lib.hid (fun h : formL g = 0 => good_of h)
 generalize hfe : formL g = er at *
 have HFE := Lib.hid hfe; clear hfe
 have hlt1 := hbx.lt
 dsimp only
 by_cases he : er = 0
 ·have HGG := Lib.hid (HGD.out he)
  have HP2 := Lib.hid (show properRL g = properToR g g.nodes.length by rw [HPP.out, if_pos he])
  subst he
  have hp := HGG.out.pos
  obtain ⟨b, o, rfl, _, hb, hcell⟩ := HN.out hp
  have HC := Lib.hid hcell; clear hcell HGD
  go_wp2
  obtain ⟨wo, rfl⟩ : ∃ wo : World, wo = w1 := ⟨_, rfl⟩
  go_loopw [5, 6, 7, 8] (fun vo i _ _ wr => ∃ k : Nat, k ≤ g.nodes.length ∧ i = .int .i64 k ∧ wr.ownsRow wo.heap.size 3 1 vo (properToR g k).length ((properToR g k).map (Value.int .i64)) ∧ Below wo.heap.size wo wr) (fun _ i _ _ _ => g.nodes.length - (intOf i).toNat)
  case atStart => exact ⟨0, by omega, rfl, World.ownsRow_nil _ _ _ _, Below.refl _ _⟩
  case round =>
   obtain ⟨k, hk, rfl, hown, hbel⟩ := hrel
   have HO := Lib.hid hown; clear hown
   have hlen := properToR_length g k
   have HST := Lib.hid (properToR_succ g k)
   have hbx2 := hbx.below hbel hbx.lt
   have x0 := hbx2.cell (i := 0) rfl
   have x1 := hbx2.cell (i := 1) rfl
   have x2 := hbx2.cell (i := 2) rfl
   have hlt2 := hbx2.lt
   by_cases hlt : k < g.nodes.length
   ·obtain ⟨n, hn'⟩ := getSome hlt
    have e0 := (HC.out k n hn').c0
    have HPA := Lib.hid (show properAtR g k = (closedL g [(k : Int)] && decide (n.kind ≠ 3)) by unfold properAtR; rw [hn'])
    clear hn'
    have hwr := hB.trans (hbel.mono hB.size)
    go_wp2_with fail
    obtain ⟨w2, hw2, hrn, hb2, _⟩ := row_of_alloc wr 3 #[.int .i64 (k : Int)]
    rw [← hw2]
    have HO2 := Lib.hid (show w2.ownsRow wo.heap.size 3 1 u5 (properToR g k).length ((properToR g k).map (Value.int .i64)) by rw [hw2]; exact HO.out.alloc _)
    clear hw2 HO
    have hbel2 := hbel.trans (hb2.mono hbel.size)
    have hw2' := hwr.trans (hb2.mono hwr.size)
    refine (setsIn_any _ (fun _ => True) _ _ g [(k : Int)] (HG.out.keep (fun _ _ _ => trivial) (Below.same' hw2' F)) (Row.ints (l := [(k : Int)]) hrn trivial (c := 1) (by simp)) HS.out hp HGG.out.kidsIn HGG.out.infos (by simp) (fun x hx => by simp at hx; omega)).mono ?_
    rintro e w3 ⟨_, rfl, hb3, vs3, rfl, hvs3⟩
    have hbel3 := hbel2.trans (hb3.mono hbel2.size)
    have hw3 := hw2'.trans (hb3.mono hw2'.size)
    have hbx3 := (hbx2.below hb2 hbx2.lt).below hb3 (by have := hb2.size; omega)
    have HO3 := Lib.hid (show w3.ownsRow wo.heap.size 3 1 u5 (properToR g k).length ((properToR g k).map (Value.int .i64)) from ⟨HO2.out.1, HO2.out.2.imp id (fun ⟨gg, cap, cur, h1, h2, h3, h4⟩ => ⟨gg, cap, cur, h1, h2, by rw [hb3.block gg (Array.getElem?_eq_some_iff.1 h3).1]; exact h3, h4⟩)⟩)
    rw [← below_old hw3 _ _ hb] at e0
    clear HO2 hbel2 hb3 hb2 hrn x0 x1 x2 hbx2 hwr hw2' hbel hvs3
    have x1 := hbx3.cell (i := 1) rfl
    generalize closedL g [(k : Int)] = cl at *
    dsimp only
    cases cl
    ·have HR := Lib.hid (show properAtR g k = false by rw [HPA.out]; rfl)
     go_wp2
     go_roundw
     case rel => exact ⟨k + 1, by omega, by go_num, by rw [HST.out, HR.out]; simpa using HO3.out, hbel3⟩
     case measure => simp [intOf] <;> omega
    ·by_cases hkd : n.kind = 3
     ·have HR := Lib.hid (show properAtR g k = false by rw [HPA.out]; simp [hkd])
      have hd : (n.kind != 3) = false := by simp [hkd]
      clear hkd
      go_wp2
      go_roundw
      case rel => exact ⟨k + 1, by omega, by go_num, by rw [HST.out, HR.out]; simpa using HO3.out, hbel3⟩
      case measure => simp [intOf] <;> omega
     ·have HR := Lib.hid (show properAtR g k = true by rw [HPA.out]; simp [hkd])
      have hd : (n.kind != 3) = true := by simp [hkd]
      clear hkd
      go_wp2_with (at_builtin; refine wpl_app_int rfl _ _ rfl wo.heap.size _ (properToR g k) rfl (HO3.out.alloc _) w3.heap.size k rfl (heap_alloc_new _ _) (by omega) (by have := hbel3.size; simp; omega) ?_; intro gg cap w4 hown4 hgrow hat hlt4; have hbel4 : Below wo.heap.size wo w4 := (hbel3.alloc hbel3.size _).grown hgrow (by have := hbel3.size; simp; omega) (fun k hk => (HO3.out.lt k hk).1); have HO4 := Lib.hid hown4; clear hown4 hgrow hat hlt4)
      go_roundw
      case rel => exact ⟨k + 1, by omega, by go_num, by rw [HST.out, HR.out]; simpa using HO4.out, hbel4⟩
      case measure => simp [intOf] <;> omega
   ·go_wp2
    go_ret2
    have hke : k = g.nodes.length := by omega
    have zW := hB.size
    refine ⟨_, rfl, hB.trans (hbel.mono zW), u5, by first | rfl | (rw [HFE.out]; rfl), ?_⟩
    rw [HP2.out, ← hke]
    exact Own.ints (by simpa [Own] using HO.out) (fun b hb => by have := (HO.out.lt b hb).1; omega)
 ·have hd : (er != 0) = true := by simp [he]
  have HNZ := Lib.hid he; clear he
  go_wp2
  go_ret2
  exact ⟨_, rfl, hB, .slice none 0 0, by first | rfl | (rw [HFE.out]; rfl), by rw [HPP.out, if_neg HNZ.out]; exact ints_nil _ _⟩
end Go.Proofs.Ytafjdoedallnbaa
/- Plain law: the least roots that the program finds are those of the document. -/
namespace Go.Proofs.Ytafjdoedallnbaa
open Go.RowKit
theorem lookKids_fst (q : Nat) : ∀ (cs : List Int) (s : List Int × List Int), (lookKids q cs s).1 = parKids cs q s.1
 | [], s => rfl
 | c :: cs, s => by
  show (lookKids q cs _).1 = parKids cs q _
  rw [lookKids_fst q cs]
theorem lookTo_par {g : Gm} (hg : Good g) {j p : Nat} {n : Nd} (hj : j < g.nodes.length) (hp : g.nodes[p]? = some n) (hc : (j : Int) ∈ n.next) (m : Nat) : m ≤ g.nodes.length → g.nodes.length - m ≤ p → (lookTo g.nodes m).1[j]? = some (p : Int) := by
 have hpl := lt_of_get hp
 induction m with
 | zero => intro _ h; omega
 | succ m ih =>
  intro hm hle
  obtain ⟨k, hk⟩ := getSome (l := g.nodes) (k := g.nodes.length - 1 - m) (by omega)
  have hlen := lookTo_len g.nodes m
  have hst : (lookTo g.nodes (m + 1)).1 = parKids k.next ((g.nodes.length - 1 - m : Nat) : Int) (lookTo g.nodes m).1 := by
   rw [lookTo, lookStep, hk]; exact lookKids_fst _ _ _
  rw [hst, parKids_get (by rw [hlen.1]; exact hj) (fun c hc => (hg.kidsIn k (List.mem_of_getElem? hk) c hc).1)]
  by_cases h1 : (j : Int) ∈ k.next
  ·have : p = g.nodes.length - 1 - m := hg.span.once.2 _ p _ n k (by omega) hpl (by omega) (by omega) hp hk hc h1
   rw [if_pos h1, ← this]
  ·rw [if_neg h1]
   by_cases h2 : p = g.nodes.length - 1 - m
   ·subst h2; rw [hp] at hk; cases hk; exact absurd hc h1
   ·exact ih (by omega) (by omega)
theorem look_par {g : Gm} (hg : Good g) {j p : Nat} {n : Nd} (hj : j < g.nodes.length) (hp : g.nodes[p]? = some n) (hc : (j : Int) ∈ n.next) : (lookL g.nodes).1[j]? = some (p : Int) :=
 lookTo_par hg hj hp hc _ (Nat.le_refl _) (by omega)
/-- a set of nodes with all children of its nodes, and with all nodes of their information sets -/
structure Shut (g : Gm) (X : Nat → Prop) : Prop where
 kids : ∀ (p : Nat) (n : Nd) (c : Nat), g.nodes[p]? = some n → X p → (c : Int) ∈ n.next → X c
 sets : ∀ s i j, mv g.nodes s i = true → mv g.nodes s j = true → X i → X j
theorem mv_lt {nodes : List Nd} {s i : Nat} (h : mv nodes s i = true) : i < nodes.length := by
 unfold mv at h
 cases hn : nodes[i]? with
 | none => rw [hn] at h; cases h
 | some n => exact lt_of_get hn
theorem mv_info {g : Gm} (hin : InfosIn g) {s i : Nat} (h : mv g.nodes s i = true) : s < g.infos.length := by
 unfold mv at h
 cases hn : g.nodes[i]? with
 | none => rw [hn] at h; cases h
 | some n =>
  rw [hn] at h
  simp at h
  have := hin n (List.mem_of_getElem? hn) h.1
  omega
theorem in_one {g : Gm} {r i : Nat} : In g.nodes [(r : Int)] i ↔ ∃ e, Span g.nodes [(r : Int)] r e ∧ r ≤ i ∧ i < e := by
 constructor
 ·rintro ⟨q, hq, h⟩
  simp at hq
  have : q = r := by omega
  subst this; exact h
 ·intro h; exact ⟨r, by simp, h⟩
theorem in_iff {g : Gm} {roots : List Int} {i : Nat} : In g.nodes roots i ↔ ∃ r : Nat, (r : Int) ∈ roots ∧ In g.nodes [(r : Int)] i := by
 constructor
 ·rintro ⟨r, h1, h2⟩; exact ⟨r, h1, r, by simp, h2⟩
 ·rintro ⟨r, h1, h2⟩; exact ⟨r, h1, in_one.1 h2⟩
theorem in_lt {g : Gm} (hg : Good g) {roots : List Int} (hr : ∀ r ∈ roots, 0 ≤ r ∧ r < (g.nodes.length : Int)) {i : Nat} (h : In g.nodes roots i) : i < g.nodes.length := by
 obtain ⟨r, h1, e, h2, h3, h4⟩ := h
 have := hr _ h1
 have := h2.bound (by omega)
 omega
theorem Shut.sub {g : Gm} (hg : Good g) {X : Nat → Prop} (hX : Shut g X) {r : Nat} (hr : r < g.nodes.length) (h : X r) : ∀ i, i < g.nodes.length → In g.nodes [(r : Int)] i → X i := by
 intro i
 induction i using Nat.strongRecOn with
 | _ i ih =>
  intro hi hin
  by_cases hir : i = r
  ·subst hir; exact h
  ·have hle : r ≤ i := by obtain ⟨e, _, h1, _⟩ := in_one.1 hin; exact h1
   obtain ⟨p, n, hp1, hp2, hp3⟩ := has_parent hg (show 0 < i by omega) hi
   rcases (in_step hg hi hp2 hp3).1 hin with h1 | h1
   ·simp at h1; omega
   ·exact hX.kids p n i hp2 (ih p hp1 (by omega) h1) hp3
/-- roots in their order, none in the subtree of another -/
structure Tidy (g : Gm) (R : List Int) : Prop where
 asc : R.Pairwise (· < ·)
 apart : ∀ r r' : Nat, (r : Int) ∈ R → (r' : Int) ∈ R → In g.nodes [(r' : Int)] r → r' = r
theorem asc_filter (p : Nat → Bool) (N : Nat) : (((List.range N).filter p).map fun i : Nat => (i : Int)).Pairwise (· < ·) := by
 rw [List.pairwise_map]
 refine List.Pairwise.filter p ?_
 have := List.pairwise_lt_range (n := N)
 exact this.imp (fun h => by omega)
theorem asc_ext : ∀ {l m : List Int}, l.Pairwise (· < ·) → m.Pairwise (· < ·) → (∀ x, x ∈ l ↔ x ∈ m) → l = m
 | [], [], _, _, _ => rfl
 | [], y :: m, _, _, h => by have := (h y).2 (by simp); cases this
 | x :: l, [], _, _, h => by have := (h x).1 (by simp); cases this
 | x :: l, y :: m, hl, hm, h => by
  rw [List.pairwise_cons] at hl hm
  have hxy : x = y := by
   rcases List.mem_cons.1 ((h x).1 (by simp)) with h1 | h1
   ·exact h1
   ·rcases List.mem_cons.1 ((h y).2 (by simp)) with h2 | h2
    ·exact h2.symm
    ·have := hm.1 x h1; have := hl.1 y h2; omega
  subst hxy
  congr 1
  refine asc_ext hl.2 hm.2 fun z => ?_
  constructor
  ·intro hz
   rcases List.mem_cons.1 ((h z).1 (List.mem_cons_of_mem _ hz)) with h1 | h1
   ·have := hl.1 z hz; omega
   ·exact h1
  ·intro hz
   rcases List.mem_cons.1 ((h z).2 (List.mem_cons_of_mem _ hz)) with h1 | h1
   ·have := hm.1 z hz; omega
   ·exact h1
theorem mem_tops {par : List Int} {m : List Bool} {N i : Nat} : (i : Int) ∈ topsTo par m N ↔ i < N ∧ topAt par m i = true := by
 unfold topsTo
 rw [List.mem_map]
 constructor
 ·rintro ⟨k, hk, he⟩
  rw [List.mem_filter, List.mem_range] at hk
  have : k = i := by omega
  subst this; exact hk
 ·rintro ⟨h1, h2⟩; exact ⟨i, by rw [List.mem_filter, List.mem_range]; exact ⟨h1, h2⟩, rfl⟩
theorem above_of {g : Gm} (hg : Good g) {m : List Bool} {r' : Nat} (hm : m.getD r' false = true) : ∀ r : Nat, r < g.nodes.length → In g.nodes [(r' : Int)] r → r' ≠ r → ∀ x, (parentsL g.nodes)[r]? = some x → aboveB (parentsL g.nodes) m x = true := by
 intro r
 induction r using Nat.strongRecOn with
 | _ r ih =>
  intro hr hin hne x hx
  have hle : r' ≤ r := by obtain ⟨e, _, h1, _⟩ := in_one.1 hin; exact h1
  obtain ⟨p, n, hp1, hp2, hp3⟩ := has_parent hg (show 0 < r by omega) hr
  rw [parents_get hg hr hp2 hp3] at hx
  cases hx
  have hpN : p < g.nodes.length := by omega
  obtain ⟨y, hy⟩ := getSome (l := parentsL g.nodes) (k := p) (by rw [parentsL_length]; exact hpN)
  rw [above_step (parentsL_length _) (parents_falls hg) hpN hy, Bool.or_eq_true]
  rcases (in_step hg hr hp2 hp3).1 hin with h1 | h1
  ·simp at h1; omega
  ·by_cases hpe : r' = p
   ·subst hpe; exact .inl hm
   ·exact .inr (ih p hp1 hpN h1 hpe y hy)
theorem tops_tidy {g : Gm} (hg : Good g) (m : List Bool) : Tidy g (topsTo (parentsL g.nodes) m g.nodes.length) := by
 refine ⟨asc_filter _ _, fun r r' h1 h2 h3 => ?_⟩
 obtain ⟨a1, a2⟩ := mem_tops.1 h1
 obtain ⟨b1, b2⟩ := mem_tops.1 h2
 apply Classical.byContradiction
 intro hne
 unfold topAt at a2 b2
 simp only [Bool.and_eq_true, Bool.not_eq_true'] at a2 b2
 obtain ⟨x, hx⟩ := getSome (l := parentsL g.nodes) (k := r) (by rw [parentsL_length]; exact a1)
 have := above_of hg b2.1 r a1 h3 hne x hx
 have e : (parentsL g.nodes).getD r 0 = x := by simp [List.getD_eq_getElem?_getD, hx]
 rw [e, this] at a2
 simp at a2
theorem closed_shut {g : Gm} (hg : Good g) {R : List Int} (hr : ∀ r ∈ R, 0 ≤ r ∧ r < (g.nodes.length : Int)) (hc : closedL g R = true) : Shut g (In g.nodes R) := by
 refine ⟨fun p n c hp hX hcn => ?_, fun s i j hi hj hX => ?_⟩
 ·have hcl := (hg.kidsIn n (List.mem_of_getElem? hp) c hcn)
  exact (in_step hg (by omega) hp hcn).2 (.inr hX)
 ·have hs := mv_info hg.infos hi
  have hget := setsL_get hg.infos hs
  unfold closedL allInTo at hc
  rw [List.all_eq_true] at hc
  have hsl : (setsL g).length = g.infos.length := setsTo_length _ _ _
  have h1 := hc _ (by rw [← hsl, List.take_length]; exact List.mem_of_getElem? hget)
  rw [many_any, many_all] at h1
  have mem : ∀ k, mv g.nodes s k = true → (k : Int) ∈ membersTo g.nodes s g.nodes.length := fun k hk => mem_members.2 ⟨k, rfl, mv_lt hk, hk⟩
  have inn : ∀ k : Nat, inAt (underL g.nodes R) (k : Int) = true ↔ k < g.nodes.length ∧ In g.nodes R k := fun k => by unfold inAt; rw [Int.toNat_natCast]; exact under_get hg hr k
  have ha : (membersTo g.nodes s g.nodes.length).any (inAt (underL g.nodes R)) = true := List.any_eq_true.2 ⟨i, mem i hi, (inn i).2 ⟨mv_lt hi, hX⟩⟩
  rw [ha] at h1
  simp only [Bool.not_true, Bool.false_or] at h1
  exact ((inn j).1 (List.all_eq_true.1 h1 j (mem j hj))).2
theorem leastGo_spec {g : Gm} (hg : Good g) (hsm : Small g) : ∀ (f : Nat) (roots : List Int), RootsIn g roots → Tidy g roots → g.nodes.length < f + (underL g.nodes roots).countP id →
  RootsIn g (leastGo g f roots) ∧ Tidy g (leastGo g f roots) ∧ closedL g (leastGo g f roots) = true ∧ (∀ i, In g.nodes roots i → In g.nodes (leastGo g f roots) i) ∧
  ∀ X, Shut g X → (∀ i, In g.nodes roots i → X i) → ∀ i, In g.nodes (leastGo g f roots) i → X i
 | 0, roots, _, _, h => by
  have h1 : (underL g.nodes roots).countP id ≤ (underL g.nodes roots).length := List.countP_le_length
  rw [underL_length] at h1
  omega
 | f + 1, roots, hr, ht, h => by
  unfold leastGo
  cases hc : closedL g roots with
  | true => simp only [if_true]; exact ⟨hr, ht, hc, fun _ h => h, fun X _ h => h⟩
  | false =>
   simp only [Bool.false_eq_true, if_false]
   have hgr := least_grows hg hsm hr.2 hc
   obtain ⟨h1, h2, h3, h4, h5⟩ := leastGo_spec hg hsm f (leastStep g roots) (leastStep_in hsm roots) (tops_tidy hg _) (by omega)
   have hmk : ∀ i, (markedOf g roots).getD i false = true ↔ (i : Int) ∈ insideOf g roots ∨ (underL g.nodes roots).getD i false = true := fun i => by
    unfold markedOf
    exact markL_getD (by rw [underL_length]; exact insideOf_in roots) i
   refine ⟨h1, h2, h3, fun i hi => h4 i ?_, fun X hX hs => h5 X hX fun i hi => ?_⟩
   ·have hiN := in_lt hg hr.2 hi
    exact tops_cover hg _ i hiN ((hmk i).2 (.inr ((under_get hg hr.2 i).2 ⟨hiN, hi⟩)))
   ·have hiN := in_lt hg (leastStep_in hsm roots).2 hi
    obtain ⟨r, hrm, hri⟩ := in_iff.1 hi
    obtain ⟨hrN, hrt⟩ := mem_tops.1 hrm
    refine hX.sub hg hrN ?_ i hiN hri
    unfold topAt at hrt
    simp only [Bool.and_eq_true] at hrt
    rcases (hmk r).1 hrt.1 with h6 | h6
    ·unfold insideOf at h6
     rw [List.mem_flatMap] at h6
     obtain ⟨s, hs1, hs2⟩ := h6
     obtain ⟨q, l, rfl, hq, ha⟩ := mem_setsIn.1 hs1
     have hqs : q < g.infos.length := by have := lt_of_get hq; rwa [show (setsL g).length = g.infos.length from setsTo_length _ _ _] at this
     rw [setsL_get hg.infos hqs] at hq
     cases hq
     simp only [Int.toNat_natCast, List.getD_eq_getElem?_getD, setsL_get hg.infos hqs, Option.getD_some] at hs2
     obtain ⟨k, hk1, hk2, hk3⟩ := mem_members.1 hs2
     obtain ⟨x, hx1, hx2⟩ := List.any_eq_true.1 ha
     obtain ⟨z, rfl, hz2, hz3⟩ := mem_members.1 hx1
     have hrk : r = k := by omega
     subst hrk
     refine hX.sets q z r hz3 hk3 (hs z ?_)
     unfold inAt at hx2
     rw [Int.toNat_natCast] at hx2
     exact ((under_get hg hr.2 z).1 hx2).2
    ·exact hs r ((under_get hg hr.2 r).1 h6).2
/-- what the program's closure keeps -/
def Inn (s : Cl) (i : Nat) : Prop := s.inn.getD i false = true
def Fnd (s : Cl) (k : Nat) : Prop := s.fnd.getD k false = true
structure ClInv (g : Gm) (node : Nat) (E : Nat → Prop) (s : Cl) : Prop where
 ok : Cl.Ok g.nodes.length g.infos.length s
 kids : ∀ (p : Nat) (n : Nd) (c : Nat), g.nodes[p]? = some n → Inn s p → (c : Int) ∈ n.next → Inn s c
 found : ∀ k i, mv g.nodes k i = true → Inn s i → Fnd s k
 why : ∀ k, Fnd s k → ∃ i, mv g.nodes k i = true ∧ Inn s i
 q : ∀ k, Fnd s k → (k : Int) ∈ s.q ∨ E k ∨ ∀ j, mv g.nodes k j = true → Inn s j
 qf : ∀ k : Nat, (k : Int) ∈ s.q → Fnd s k
 min : ∀ X, Shut g X → X node → ∀ i, Inn s i → X i
theorem putAt_spec {g : Gm} (hin : InfosIn g) {s : Cl} (hok : Cl.Ok g.nodes.length g.infos.length s) {i : Nat} (hi : i < g.nodes.length) :
  (∀ k, Inn (putAt g.nodes s i) k ↔ Inn s k ∨ k = i) ∧ (∀ k, Fnd (putAt g.nodes s i) k ↔ Fnd s k ∨ mv g.nodes k i = true) ∧ (∀ x ∈ s.q, x ∈ (putAt g.nodes s i).q) ∧
  (∀ k : Nat, (k : Int) ∈ (putAt g.nodes s i).q → (k : Int) ∈ s.q ∨ mv g.nodes k i = true) ∧ ∀ k : Nat, mv g.nodes k i = true → Fnd s k ∨ (k : Int) ∈ (putAt g.nodes s i).q := by
 obtain ⟨n, hn⟩ := getSome hi
 have inn : ∀ k, (s.inn.set i true).getD k false = true ↔ s.inn.getD k false = true ∨ k = i := fun k => by
  simp only [List.getD_eq_getElem?_getD, List.getElem?_set]
  by_cases h : i = k
  ·subst h; simp [hok.inn, hi]
  ·simp [h, Ne.symm h]
 have mvi : ∀ k, mv g.nodes k i = true ↔ n.kind = 2 ∧ n.info.toNat = k := fun k => by simp [mv, hn]
 unfold Inn Fnd putAt
 rw [hn]
 simp only
 split
 ·rename_i hc
  have hb := hin n (List.mem_of_getElem? hn) hc.1
  have hlt : n.info.toNat < s.fnd.length := by rw [hok.fnd]; omega
  have fnd : ∀ k, (s.fnd.set n.info.toNat true).getD k false = true ↔ s.fnd.getD k false = true ∨ n.info.toNat = k := fun k => by
   simp only [List.getD_eq_getElem?_getD, List.getElem?_set]
   by_cases h : n.info.toNat = k
   ·subst h; simp [hlt]
   ·simp [h]
  refine ⟨inn, fun k => ?_, fun x hx => List.mem_append.2 (.inl hx), fun k hk => ?_, fun k hk => ?_⟩
  ·rw [mvi]
   simp only
   rw [fnd]; simp [hc.1]
  ·rcases List.mem_append.1 hk with h | h
   ·exact .inl h
   ·right; rw [mvi]; simp at h; exact ⟨hc.1, by omega⟩
  ·right
   rw [mvi] at hk
   exact List.mem_append.2 (.inr (by simp; omega))
 ·rename_i hc
  refine ⟨inn, fun k => ?_, fun x hx => hx, fun k hk => .inl hk, fun k hk => .inl ?_⟩
  ·rw [mvi]
   constructor
   ·exact .inl
   ·rintro (h | ⟨h1, h2⟩)
    ·exact h
    ·subst h2
     cases hf : s.fnd.getD n.info.toNat false with
     | true => rfl
     | false => exact absurd ⟨h1, hf⟩ hc
  ·rw [mvi] at hk
   obtain ⟨h1, h2⟩ := hk
   subst h2
   cases hf : s.fnd.getD n.info.toNat false with
   | true => rfl
   | false => exact absurd ⟨h1, hf⟩ hc
theorem putN_spec {g : Gm} (hin : InfosIn g) {s : Cl} (hok : Cl.Ok g.nodes.length g.infos.length s) {a : Nat} : ∀ j : Nat, a + j ≤ g.nodes.length →
  (∀ k, Inn (putN g.nodes s a j) k ↔ Inn s k ∨ (a ≤ k ∧ k < a + j)) ∧ (∀ k, Fnd (putN g.nodes s a j) k ↔ Fnd s k ∨ ∃ i, a ≤ i ∧ i < a + j ∧ mv g.nodes k i = true) ∧ (∀ x ∈ s.q, x ∈ (putN g.nodes s a j).q) ∧
  (∀ k : Nat, (k : Int) ∈ (putN g.nodes s a j).q → (k : Int) ∈ s.q ∨ ∃ i, a ≤ i ∧ i < a + j ∧ mv g.nodes k i = true) ∧ ∀ k i : Nat, a ≤ i → i < a + j → mv g.nodes k i = true → Fnd s k ∨ (k : Int) ∈ (putN g.nodes s a j).q := by
 intro j
 induction j with
 | zero =>
  intro _
  refine ⟨fun k => ⟨.inl, fun h => h.elim id (fun h => by omega)⟩, fun k => ⟨.inl, fun h => h.elim id (fun ⟨i, h1, h2, _⟩ => by omega)⟩, fun x hx => hx, fun k hk => .inl hk, fun k i h1 h2 => by omega⟩
 | succ j ih =>
  intro hj
  obtain ⟨i1, i2, i3, i4, i5⟩ := ih (by omega)
  obtain ⟨p1, p2, p3, p4, p5⟩ := putAt_spec hin (hok.putN hin a j) (i := a + j) (by omega)
  have hpn : putN g.nodes s a (j + 1) = putAt g.nodes (putN g.nodes s a j) (a + j) := rfl
  rw [hpn]
  refine ⟨fun k => ?_, fun k => ?_, fun x hx => p3 x (i3 x hx), fun k hk => ?_, fun k i h1 h2 h3 => ?_⟩
  ·rw [p1, i1]
   constructor
   ·rintro ((h | h) | h)
    ·exact .inl h
    ·exact .inr (by omega)
    ·exact .inr (by omega)
   ·rintro (h | h)
    ·exact .inl (.inl h)
    ·by_cases hk : k = a + j
     ·exact .inr hk
     ·exact .inl (.inr (by omega))
  ·rw [p2, i2]
   constructor
   ·rintro ((h | ⟨i, h1, h2, h3⟩) | h)
    ·exact .inl h
    ·exact .inr ⟨i, h1, by omega, h3⟩
    ·exact .inr ⟨a + j, by omega, by omega, h⟩
   ·rintro (h | ⟨i, h1, h2, h3⟩)
    ·exact .inl (.inl h)
    ·by_cases hk : i = a + j
     ·subst hk; exact .inr h3
     ·exact .inl (.inr ⟨i, h1, by omega, h3⟩)
  ·rcases p4 k hk with h | h
   ·rcases i4 k h with h | ⟨i, h1, h2, h3⟩
    ·exact .inl h
    ·exact .inr ⟨i, h1, by omega, h3⟩
   ·exact .inr ⟨a + j, by omega, by omega, h⟩
  ·by_cases hk : i = a + j
   ·subst hk
    rcases p5 k h3 with h | h
    ·rcases (i2 k).1 h with h | ⟨i', h4, h5, h6⟩
     ·exact .inl h
     ·rcases i5 k i' h4 h5 h6 with h | h
      ·exact .inl h
      ·exact .inr (p3 _ h)
    ·exact .inr h
   ·rcases i5 k i h1 (by omega) h3 with h | h
    ·exact .inl h
    ·exact .inr (p3 _ h)
theorem putL_inv {g : Gm} (hg : Good g) {node : Nat} {E : Nat → Prop} {s : Cl} (h : ClInv g node E s) {r : Nat} (hr : r < g.nodes.length) (hX : ∀ X, Shut g X → X node → X r) :
  ClInv g node E (putL g.nodes (lookL g.nodes).2 s (r : Int)) ∧ Inn (putL g.nodes (lookL g.nodes).2 s (r : Int)) r ∧ ∀ i, Inn s i → Inn (putL g.nodes (lookL g.nodes).2 s (r : Int)) i := by
 obtain ⟨e, hs, he1, he2, hv⟩ := look_last hg hr
 have hpl : putL g.nodes (lookL g.nodes).2 s (r : Int) = if s.inn.getD r false then s else putN g.nodes s r (e - r) := by
  unfold putL
  simp only [Int.toNat_natCast, List.getD_eq_getElem?_getD, hv, Option.getD_some]
  rw [show ((e : Int) - 1 + 1 - (r : Int)).toNat = e - r by omega]
 rw [hpl]
 cases hin : s.inn.getD r false with
 | true => simp only [if_true]; exact ⟨h, hin, fun _ h => h⟩
 | false =>
  simp only [Bool.false_eq_true, if_false]
  obtain ⟨p1, p2, p3, p4, p5⟩ := putN_spec hg.infos h.ok (a := r) (e - r) (by omega)
  have ee : r + (e - r) = e := by omega
  rw [ee] at p1 p2 p4 p5
  refine ⟨⟨h.ok.putN hg.infos _ _, fun p n c hp hi hc => ?_, fun k i hm hi => ?_, fun k hk => ?_, fun k hk => ?_, fun k hk => ?_, fun X hS hn i hi => ?_⟩, (p1 r).2 (.inr (by omega)), fun i hi => (p1 i).2 (.inl hi)⟩
  ·rw [p1] at hi ⊢
   rcases hi with hi | hi
   ·exact .inl (h.kids p n c hp hi hc)
   ·have := hs.kids p n hi.1 hi.2 hp _ hc
    exact .inr (by omega)
  ·rw [p2]
   rcases (p1 i).1 hi with hi | hi
   ·exact .inl (h.found k i hm hi)
   ·exact .inr ⟨i, hi.1, hi.2, hm⟩
  ·rcases (p2 k).1 hk with hk | ⟨i, h1, h2, h3⟩
   ·obtain ⟨i, h1, h2⟩ := h.why k hk
    exact ⟨i, h1, (p1 i).2 (.inl h2)⟩
   ·exact ⟨i, h3, (p1 i).2 (.inr ⟨h1, h2⟩)⟩
  ·have old : Fnd s k → (k : Int) ∈ (putN g.nodes s r (e - r)).q ∨ E k ∨ ∀ j, mv g.nodes k j = true → Inn (putN g.nodes s r (e - r)) j := fun hk => by
    rcases h.q k hk with hq | hq | hq
    ·exact .inl (p3 _ hq)
    ·exact .inr (.inl hq)
    ·exact .inr (.inr fun j hj => (p1 j).2 (.inl (hq j hj)))
   rcases (p2 k).1 hk with hk | ⟨i, h1, h2, h3⟩
   ·exact old hk
   ·rcases p5 k i h1 h2 h3 with h4 | h4
    ·exact old h4
    ·exact .inl h4
  ·rw [p2]
   rcases p4 k hk with hk | hk
   ·exact .inl (h.qf k hk)
   ·exact .inr hk
  ·rcases (p1 i).1 hi with hi | hi
   ·exact h.min X hS hn i hi
   ·exact hS.sub hg hr (hX X hS hn) i (by omega) (in_one.2 ⟨e, hs, hi⟩)
theorem putAll_inv {g : Gm} (hg : Good g) {node : Nat} {E : Nat → Prop} : ∀ (l : List Int) (s : Cl), ClInv g node E s → (∀ x ∈ l, ∃ r : Nat, x = r ∧ r < g.nodes.length ∧ ∀ X, Shut g X → X node → X r) →
  ClInv g node E (l.foldl (putL g.nodes (lookL g.nodes).2) s) ∧ (∀ r : Nat, (r : Int) ∈ l → Inn (l.foldl (putL g.nodes (lookL g.nodes).2) s) r) ∧ ∀ i, Inn s i → Inn (l.foldl (putL g.nodes (lookL g.nodes).2) s) i
 | [], s, h, _ => ⟨h, fun r hr => (by cases hr), fun _ h => h⟩
 | x :: l, s, h, hl => by
  obtain ⟨r, rfl, hr, hX⟩ := hl x (by simp)
  obtain ⟨h1, h2, h3⟩ := putL_inv hg h hr hX
  obtain ⟨k1, k2, k3⟩ := putAll_inv hg l _ h1 (fun y hy => hl y (List.mem_cons_of_mem _ hy))
  refine ⟨k1, fun q hq => ?_, fun i hi => k3 i (h3 i hi)⟩
  rcases List.mem_cons.1 hq with hq | hq
  ·have : q = r := by omega
   subst this; exact k3 _ h2
  ·exact k2 q hq
theorem closeGo_inv {g : Gm} (hg : Good g) {node : Nat} : ∀ (f : Nat) (s : Cl), ClInv g node (fun _ => False) s → s.left g.infos.length ≤ f →
  ClInv g node (fun _ => False) (closeGo g.nodes (lookL g.nodes).2 (setsL g) f s) ∧ (closeGo g.nodes (lookL g.nodes).2 (setsL g) f s).q = [] ∧ ∀ i, Inn s i → Inn (closeGo g.nodes (lookL g.nodes).2 (setsL g) f s) i := by
 intro f
 induction f with
 | zero =>
  intro s h hl
  have hq : s.q = [] := List.eq_nil_of_length_eq_zero (by unfold Cl.left at hl; omega)
  exact ⟨h, hq, fun _ h => h⟩
 | succ f ih =>
  intro s h hl
  cases hq : s.q with
  | nil => rw [closeGo_nil hq]; exact ⟨h, hq, fun _ h => h⟩
  | cons x q =>
   rw [closeGo_cons hq]
   obtain ⟨hok, hx0, hx1, hlf⟩ := h.ok.pop hq
   obtain ⟨z, rfl⟩ := Int.eq_ofNat_of_zero_le hx0
   have hzs : z < g.infos.length := by omega
   have hset : (setsL g).getD (z : Int).toNat [] = membersTo g.nodes z g.nodes.length := by
    simp [List.getD_eq_getElem?_getD, setsL_get hg.infos hzs]
   rw [hset]
   have h0 : ClInv g node (fun k => k = z) ⟨s.inn, s.fnd, q⟩ := by
    refine ⟨hok, h.kids, h.found, h.why, fun k hk => ?_, fun k hk => h.qf k (by rw [hq]; exact List.mem_cons_of_mem _ hk), h.min⟩
    rcases h.q k hk with h1 | h1 | h1
    ·rw [hq] at h1
     rcases List.mem_cons.1 h1 with h2 | h2
     ·exact .inr (.inl (by omega))
     ·exact .inl h2
    ·exact h1.elim
    ·exact .inr (.inr h1)
   have hfz : Fnd s z := h.qf z (by rw [hq]; simp)
   obtain ⟨i0, hi1, hi2⟩ := h.why z hfz
   obtain ⟨k1, k2, k3⟩ := putAll_inv hg (membersTo g.nodes z g.nodes.length) _ h0 (fun y hy => by
    obtain ⟨r, rfl, hr, hm⟩ := mem_members.1 hy
    exact ⟨r, rfl, hr, fun X hS hn => hS.sets z i0 r hi1 hm (h.min X hS hn i0 hi2)⟩)
   have h1 : ClInv g node (fun _ => False) ((membersTo g.nodes z g.nodes.length).foldl (putL g.nodes (lookL g.nodes).2) ⟨s.inn, s.fnd, q⟩) := by
    refine ⟨k1.ok, k1.kids, k1.found, k1.why, fun k hk => ?_, k1.qf, k1.min⟩
    rcases k1.q k hk with h2 | h2 | h2
    ·exact .inl h2
    ·subst h2
     exact .inr (.inr fun j hj => k2 j (mem_members.2 ⟨j, rfl, mv_lt hj, hj⟩))
    ·exact .inr (.inr h2)
   obtain ⟨r1, r2, r3⟩ := ih _ h1 (by rw [(putAll_ok hg.infos (lookL g.nodes).2 _ _ hok).2]; omega)
   exact ⟨r1, r2, fun i hi => r3 i (k3 i hi)⟩
theorem least_eq {g : Gm} (hsm : Small g) (hf : formL g = 0) {node : Nat} (hn : node < g.nodes.length) :
  rootsTo (closureL g.nodes (lookL g.nodes).2 (setsL g) g.infos.length (node : Int)) (lookL g.nodes).1 g.nodes.length = leastGo g (g.nodes.length + 1) [(node : Int)] := by
 have hg := good_of hf
 -- the program's side
 have hst : ClInv g node (fun _ => False) ⟨List.replicate g.nodes.length false, List.replicate g.infos.length false, []⟩ := by
  have no : ∀ i : Nat, ¬ Inn ⟨List.replicate g.nodes.length false, List.replicate g.infos.length false, []⟩ i := fun i hi => by
   unfold Inn at hi
   simp only [List.getD_eq_getElem?_getD, List.getElem?_replicate] at hi
   split at hi <;> simp at hi
  have no2 : ∀ i : Nat, ¬ Fnd ⟨List.replicate g.nodes.length false, List.replicate g.infos.length false, []⟩ i := fun i hi => by
   unfold Fnd at hi
   simp only [List.getD_eq_getElem?_getD, List.getElem?_replicate] at hi
   split at hi <;> simp at hi
  exact ⟨Cl.Ok.start _ _, fun p n c hp hi => (no p hi).elim, fun k i _ hi => (no i hi).elim, fun k hk => (no2 k hk).elim, fun k hk => (no2 k hk).elim, fun k hk => (by cases hk), fun X _ _ i hi => (no i hi).elim⟩
 obtain ⟨s1, s2, s3⟩ := putL_inv hg hst hn (fun X _ h => h)
 have hleft : (putL g.nodes (lookL g.nodes).2 ⟨List.replicate g.nodes.length false, List.replicate g.infos.length false, []⟩ (node : Int)).left g.infos.length ≤ g.infos.length := by
  rw [putL_left (Cl.Ok.start _ _) hg.infos]; unfold Cl.left; simp
 obtain ⟨c1, c2, c3⟩ := closeGo_inv hg g.infos.length _ s1 hleft
 have hI : ∀ i, (closureL g.nodes (lookL g.nodes).2 (setsL g) g.infos.length (node : Int)).getD i false = true ↔ Inn (closeGo g.nodes (lookL g.nodes).2 (setsL g) g.infos.length (putL g.nodes (lookL g.nodes).2 ⟨List.replicate g.nodes.length false, List.replicate g.infos.length false, []⟩ (node : Int))) i := fun i => Iff.rfl
 have hlen := closureL_length g.nodes (lookL g.nodes).2 (setsL g) g.infos.length (node : Int)
 generalize closureL g.nodes (lookL g.nodes).2 (setsL g) g.infos.length (node : Int) = inn at *
 generalize closeGo g.nodes (lookL g.nodes).2 (setsL g) g.infos.length (putL g.nodes (lookL g.nodes).2 ⟨List.replicate g.nodes.length false, List.replicate g.infos.length false, []⟩ (node : Int)) = S at *
 have hshut : Shut g (Inn S) := by
  refine ⟨c1.kids, fun k i j hi hj hx => ?_⟩
  rcases c1.q k (c1.found k i hi hx) with h1 | h1 | h1
  ·rw [c2] at h1; cases h1
  ·exact h1.elim
  ·exact h1 j hj
 have hnode : Inn S node := c3 node s2
 -- the document's side
 have ht : Tidy g [(node : Int)] := ⟨by simp, fun r r' h1 h2 _ => by simp at h1 h2; omega⟩
 obtain ⟨r1, r2, r3, r4, r5⟩ := leastGo_spec hg hsm (g.nodes.length + 1) [(node : Int)] ⟨by simp, fun r hr => by simp at hr; omega⟩ ht (by omega)
 generalize leastGo g (g.nodes.length + 1) [(node : Int)] = R at *
 have hnR : In g.nodes R node := r4 node (in_root hg hn (by simp))
 have same : ∀ i, i < g.nodes.length → (inn.getD i false = true ↔ In g.nodes R i) := fun i hi => by
  rw [hI]
  constructor
  ·exact fun h => c1.min _ (closed_shut hg r1.2 r3) hnR i h
  ·exact fun h => r5 (fun k => k < g.nodes.length → Inn S k) ⟨fun p n c hp hX hc hcl => hshut.kids p n c hp (hX (lt_of_get hp)) hc, fun k a b ha hb hX _ => hshut.sets k a b ha hb (hX (mv_lt ha))⟩
    (fun k hk hkN => hshut.sub hg hn hnode k hkN hk) i h hi
 refine asc_ext (asc_filter _ _) r2.asc fun x => ?_
 -- members
 have hroot : ∀ i : Nat, i < g.nodes.length → (rootAt inn (lookL g.nodes).1 i = true ↔ (i : Int) ∈ R) := by
  intro i hi
  unfold rootAt
  simp only [Bool.and_eq_true, Bool.or_eq_true, decide_eq_true_eq, Bool.not_eq_true']
  rw [same i hi]
  by_cases h0 : i = 0
  ·subst h0
   simp only [true_or, and_true]
   constructor
   ·rintro ⟨r, h1, e, h2, h3, h4⟩
    have : r = 0 := by omega
    subst this; exact h1
   ·exact fun h => in_root hg hi h
  ·obtain ⟨p, n, hp1, hp2, hp3⟩ := has_parent hg (show 0 < i by omega) hi
   have hpar := look_par hg hi hp2 hp3
   have hpg : ((lookL g.nodes).1.getD i 0).toNat = p := by simp [List.getD_eq_getElem?_getD, hpar]
   rw [hpg]
   simp only [h0, false_or]
   have hsp := same p (by omega)
   constructor
   ·rintro ⟨h1, h2⟩
    have hnp : ¬ In g.nodes R p := fun h => by rw [hsp.2 h] at h2; cases h2
    rcases (in_step hg hi hp2 hp3).1 h1 with h3 | h3
    ·exact h3
    ·exact absurd h3 hnp
   ·intro h
    refine ⟨in_root hg hi h, ?_⟩
    cases hb : inn.getD p false with
    | false => rfl
    | true =>
     obtain ⟨r, hr1, hr2⟩ := in_iff.1 (hsp.1 hb)
     have hri : In g.nodes [(r : Int)] i := (in_step hg hi hp2 hp3).2 (.inr hr2)
     have := r2.apart i r h hr1 hri
     subst this
     obtain ⟨e, _, h5, _⟩ := in_one.1 hr2
     omega
 constructor
 ·intro hx
  unfold rootsTo at hx
  rw [List.mem_map] at hx
  obtain ⟨i, hi, rfl⟩ := hx
  rw [List.mem_filter, List.mem_range] at hi
  exact (hroot i hi.1).1 hi.2
 ·intro hx
  obtain ⟨h0, h1⟩ := r1.2 x hx
  obtain ⟨i, rfl⟩ := Int.eq_ofNat_of_zero_le h0
  unfold rootsTo
  rw [List.mem_map]
  exact ⟨i, by rw [List.mem_filter, List.mem_range]; exact ⟨by omega, (hroot i (by omega)).2 hx⟩, rfl⟩
theorem leastErr_eq (g : Gm) (node : Int) : leastErr g node = leastErrR g node := by
 unfold leastErr leastErrR hasB
 split
 ·rfl
 ·by_cases h : 0 ≤ node ∧ node < (g.nodes.length : Int)
  ·rw [if_pos (by simp; omega), if_neg (by omega)]
  ·rw [if_neg (by simp; omega), if_pos (by omega)]
theorem leastL_eq {g : Gm} (hsm : Small g) (node : Int) : leastPL g node = leastRL g node := by
 unfold leastPL leastRL
 rw [leastErr_eq]
 split
 ·rename_i h
  unfold leastErrR at h
  split at h
  ·rename_i h1; exact absurd h h1
  ·rename_i h1
   split at h
   ·omega
   ·rename_i h2
    obtain ⟨i, rfl⟩ := Int.eq_ofNat_of_zero_le (show 0 ≤ node by omega)
    exact least_eq hsm (by simpa using h1) (by omega)
 ·rfl
end Go.Proofs.Ytafjdoedallnbaa
