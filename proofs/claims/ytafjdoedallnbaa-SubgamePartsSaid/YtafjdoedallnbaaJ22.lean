/- subgame.view.closure: what is inside the least roots of a node -/
import Derived.Test.YtafjdoedallnbaaJ21
import Derived.Deep.LoopGhost
namespace Go.Proofs.Ytafjdoedallnbaa
open List renaming getElem_toArray → lq1, getElem_cons_zero → lq2, getElem_cons_succ → lq3, setIfInBounds_toArray → lq4, set_cons_zero → lq5, set_cons_succ → lq6
open Go.RowKit
def closeGo (nodes : List Nd) (last : List Int) (sets : List (List Int)) : Nat → Cl → Cl
 | 0, s => s
 | f + 1, s => match s.q with
  | [] => s
  | x :: q => closeGo nodes last sets f ((sets.getD x.toNat []).foldl (putL nodes last) ⟨s.inn, s.fnd, q⟩)
def closureL (nodes : List Nd) (last : List Int) (sets : List (List Int)) (ni : Nat) (node : Int) : List Bool :=
 (closeGo nodes last sets ni (putL nodes last ⟨List.replicate nodes.length false, List.replicate ni false, []⟩ node)).inn
def Cl.left (ni : Nat) (s : Cl) : Nat := s.q.length + (ni - s.fnd.countP id)
theorem closeGo_nil {nodes : List Nd} {last : List Int} {sets : List (List Int)} {f : Nat} {s : Cl} (h : s.q = []) : closeGo nodes last sets f s = s := by
 cases f with
 | zero => rfl
 | succ f => rw [closeGo, h]
theorem closeGo_cons {nodes : List Nd} {last : List Int} {sets : List (List Int)} {f : Nat} {s : Cl} {x : Int} {q : List Int} (h : s.q = x :: q) : closeGo nodes last sets (f + 1) s = closeGo nodes last sets f ((sets.getD x.toNat []).foldl (putL nodes last) ⟨s.inn, s.fnd, q⟩) := by
 rw [closeGo, h]
theorem putAt_left {N ni : Nat} {s : Cl} (h : Cl.Ok N ni s) {nodes : List Nd} (hin : ∀ n ∈ nodes, n.kind = 2 → 0 ≤ n.info ∧ n.info < (ni : Int)) (i : Nat) : (putAt nodes s i).left ni = s.left ni := by
 unfold putAt
 split
 ·rename_i n hn
  split
  ·rename_i hc
   have hb := hin n (List.mem_of_getElem? hn) hc.1
   have hf : s.fnd[n.info.toNat]? = some false := by
    obtain ⟨b, hb'⟩ := getSome (l := s.fnd) (k := n.info.toNat) (by rw [h.fnd]; omega)
    have := hc.2
    simp [List.getD_eq_getElem?_getD, hb'] at this
    rw [hb', this]
   have h1 := count_lt hf
   have h2 := h.fnd
   unfold Cl.left
   simp only [List.length_append, List.length_cons, List.length_nil]
   rw [count_set hf]
   omega
  ·rfl
 ·rfl
theorem putL_left {N ni : Nat} {s : Cl} (h : Cl.Ok N ni s) {nodes : List Nd} (hin : ∀ n ∈ nodes, n.kind = 2 → 0 ≤ n.info ∧ n.info < (ni : Int)) (last : List Int) (r : Int) : (putL nodes last s r).left ni = s.left ni := by
 unfold putL
 split
 ·rfl
 ·generalize (last.getD r.toNat 0 + 1 - r).toNat = j
  induction j with
  | zero => rfl
  | succ j ih =>
   show (putAt nodes (putN nodes s r.toNat j) (r.toNat + j)).left ni = _
   rw [putAt_left (h.putN hin _ _) hin, ih]
theorem putAll_ok {N ni : Nat} {nodes : List Nd} (hin : ∀ n ∈ nodes, n.kind = 2 → 0 ≤ n.info ∧ n.info < (ni : Int)) (last : List Int) : ∀ (l : List Int) (s : Cl), Cl.Ok N ni s → Cl.Ok N ni (l.foldl (putL nodes last) s) ∧ (l.foldl (putL nodes last) s).left ni = s.left ni
 | [], s, h => ⟨h, rfl⟩
 | x :: l, s, h => by
  obtain ⟨h1, h2⟩ := putAll_ok hin last l (putL nodes last s x) (h.putL hin last x)
  exact ⟨h1, by rw [List.foldl_cons, h2, putL_left h hin]⟩
theorem Cl.Ok.pop {N ni : Nat} {s : Cl} {x : Int} {q : List Int} (h : Cl.Ok N ni s) (hq : s.q = x :: q) : Cl.Ok N ni ⟨s.inn, s.fnd, q⟩ ∧ 0 ≤ x ∧ x < (ni : Int) ∧ Cl.left ni ⟨s.inn, s.fnd, q⟩ + 1 = s.left ni := by
 have h1 := h.few
 rw [hq] at h1
 refine ⟨⟨h.inn, h.fnd, ?_, fun y hy => h.q y (by rw [hq]; exact List.mem_cons_of_mem _ hy)⟩, (h.q x (by rw [hq]; simp)).1, (h.q x (by rw [hq]; simp)).2, ?_⟩
 ·simp at h1; simp; omega
 ·unfold Cl.left; rw [hq]; simp; omega
theorem Cl.Ok.start (N ni : Nat) : Cl.Ok N ni ⟨List.replicate N false, List.replicate ni false, []⟩ := ⟨by simp, by simp, by simp, by simp⟩
theorem bytesInt : ∃ i, Try.prog.info? 3 = some i ∧ i.bytes = 8 := by
 have h : (Try.prog.info? 3).map (·.bytes) = some 8 := by kernel_rfl
 obtain ⟨i, hi, hb⟩ := Option.map_eq_some_iff.1 h
 exact ⟨i, hi, hb⟩
theorem makeChan_run (n : Nat) (hn : n ≤ 1000) (w : World) : (Instr.makeChan 79 (.int .i64 n)).run Try.prog w = .ok (.chan (some w.heap.size)) (w.alloc (.chan n #[] false 0 0 false)) := by
 obtain ⟨i, hi, hb⟩ := bytesInt
 exact Go.Conc.run_makeChan (P := Try.prog) (w := w) Try.underlying79 hi .i64 n (by omega) (by rw [hb]; omega)
set_option maxRecDepth 100000 in
set_option maxHeartbeats 12800000 in
theorem closure_any (w : World) (F : Foot) (u : Value) (r : Int) (g : Gm) (par last : List Int) (sets : List (List Int)) (hv : ViewV w F u g par last sets) (hin : InfosIn g) (hN : g.nodes.length ≤ 1000) (hni : g.infos.length ≤ 1000)
  (hll : last.length = g.nodes.length) (hla : ∀ x ∈ last, x < (g.nodes.length : Int)) (hsl : sets.length = g.infos.length) (hsm : ∀ l ∈ sets, l.length ≤ 1000) (hsx : ∀ l ∈ sets, ∀ x ∈ l, 0 ≤ x ∧ x < (g.nodes.length : Int)) (hr : 0 ≤ r ∧ r < (g.nodes.length : Int)) :
  Calls Try.prog 36 #[u, .int .i64 r] w (Ret w fun v w' => BoolsAt w' (fun b => w.heap.size ≤ b) v (closureL g.nodes last sets g.infos.length r)) := by
 have HV := Lib.hid (hv.keep (G := fun b => F b ∧ b < w.heap.size) (fun b hb hl => ⟨hb, hl⟩) (Same.refl _ _))
 obtain ⟨vn, vi, vp, vl, vs, rfl, ⟨A, c, rfl, hc, hN'⟩, ⟨Ai, ci, rfl, hci, hI⟩, ⟨Ap, cp, rfl, hcp, hP⟩, ⟨Al, cl, rfl, hcl, hL⟩, ⟨As, cs, rfl, hcs, hS⟩⟩ := hv
 have HNO := Lib.hid (show NodesAt w (fun b => F b ∧ b < w.heap.size) (.slice A g.nodes.length c) g.nodes from NodesAt.keep ⟨_, _, rfl, hc, hN'⟩ (fun b hb hl => ⟨hb, hl⟩) (Same.refl F w))
 have HLO := Lib.hid (show IntsAt w (fun b => F b ∧ b < w.heap.size) (.slice Al last.length cl) last from IntsAt.keep ⟨_, _, rfl, hcl, hL⟩ (fun b hb hl => ⟨hb, hl⟩) (Same.refl F w))
 clear hN' hI hP hL
 rw [hsl] at hS hcs ⊢
 have HS := Lib.hid hS; clear hS
 have HLL := Lib.hid hll; clear hll
 have HLA := Lib.hid hla; clear hla
 have HIN := Lib.hid hin; clear hin
 have HSL := Lib.hid hsl; clear hsl
 have HSM := Lib.hid hsm; clear hsm
 have HSX := Lib.hid hsx; clear hsx
 have hmf : ∀ (fn : Fn) (first cap : Array Value) (w : World), (Instr.makeFunc fn first cap).run Try.prog w = .ok (.func fn first cap) w := fun _ _ _ _ => rfl
 have hmc := makeChan_run g.infos.length hni
 have hcf := enters Try.func50 (by decide +kernel) (by decide +kernel)
 go_enter Try.func36, Try.ntmps36
 go_upto_region 1 with fail
 obtain ⟨w1, hw1, hbx, hb1, hz1⟩ := row_of_alloc w 51 #[.int .i64 g.players, .slice A g.nodes.length c, .slice Ai g.infos.length ci, .slice Ap par.length cp, .slice Al last.length cl, .slice As g.infos.length cs]
 rw [← hw1]
 clear hw1 hz1
 go_cut [5, 6] from 11 to 19 (fun v5 v6 wx => ∃ bi di bf df, v5 = .pointer (some ⟨bi, 0, none⟩) ∧ v6 = .pointer (some ⟨bf, 0, none⟩) ∧ Row wx w.heap.size 51 [.int .i64 g.players, .slice A g.nodes.length c, .slice Ai g.infos.length ci, .slice Ap par.length cp, .slice Al last.length cl, .slice As g.infos.length cs] ∧ Row wx bi 58 [.slice (some ⟨di, 0, none⟩) g.nodes.length g.nodes.length] ∧ Row wx bf 58 [.slice (some ⟨df, 0, none⟩) g.infos.length g.infos.length] ∧ Row wx di 4 (List.replicate g.nodes.length (.bool false)) ∧ Row wx df 4 (List.replicate g.infos.length (.bool false)) ∧ Below w.heap.size w wx ∧ w.heap.size < bi ∧ w.heap.size < di ∧ w.heap.size < bf ∧ w.heap.size < df ∧ bi ≠ di ∧ bi ≠ df ∧ bf ≠ di ∧ bf ≠ df ∧ di ≠ df)
 case first =>
  obtain ⟨w0, hw0⟩ : ∃ W, W = w1.drew := ⟨_, rfl⟩
  refine wp_region_held_drew (S := fun w' => w'.cell? ⟨w.heap.size, 1, none⟩ = some (.slice A g.nodes.length c) ∧ w'.cell? ⟨w.heap.size, 5, none⟩ = some (.slice As g.infos.length cs)) (by kernel_rfl) ⟨hbx.cell rfl, hbx.cell rfl⟩ (fun hHeld => ?_)
  refine wpAnyH_take (i := 0) (v := ?_) rfl (by kernel_rfl) (by kernel_rfl) (by kernel_rfl) (fun _ _ _ h => h) (Or.inl ⟨by rfl, ?_⟩) hHeld ?_
  rotate_left
  ·intro wx hSx; (try dsimp only at hSx); go_split_ands; go_simp; try (with_reducible rfl)
  try simp only [Act.put, lq1, lq2, lq3, lq4, lq5, lq6]
  refine wpAnyH_take (i := 1) (v := ?_) rfl (by kernel_rfl) (by kernel_rfl) (by kernel_rfl) (fun _ _ _ h => h) (Or.inl ⟨by rfl, ?_⟩) hHeld ?_
  rotate_left
  ·intro wx hSx; (try dsimp only at hSx); go_split_ands; go_simp; try (with_reducible rfl)
  try simp only [Act.put, lq1, lq2, lq3, lq4, lq5, lq6]
  refine wpAnyH_take (i := 2) (v := ?_) rfl (by kernel_rfl) (by kernel_rfl) (by kernel_rfl) (fun _ _ _ h => h) (Or.inl ⟨by rfl, ?_⟩) hHeld ?_
  rotate_left
  ·intro wx hSx; (try dsimp only at hSx); go_split_ands; go_simp; try (with_reducible rfl)
  try simp only [Act.put, lq1, lq2, lq3, lq4, lq5, lq6]
  refine wpAnyH_take (i := 3) (v := ?_) rfl (by kernel_rfl) (by kernel_rfl) (by kernel_rfl) (fun _ _ _ h => h) (Or.inl ⟨by rfl, ?_⟩) hHeld ?_
  rotate_left
  ·intro wx hSx; (try dsimp only at hSx); go_split_ands; go_simp; try (with_reducible rfl)
  try simp only [Act.put, lq1, lq2, lq3, lq4, lq5, lq6]
  refine wpAnyH_take (i := 5) (v := ?_) rfl (by kernel_rfl) (by kernel_rfl) (by kernel_rfl) (fun _ _ _ h => h) (Or.inl ⟨by rfl, ?_⟩) hHeld ?_
  rotate_left
  ·intro wx hSx; (try dsimp only at hSx); go_split_ands; go_simp; try (with_reducible rfl)
  try simp only [Act.put, lq1, lq2, lq3, lq4, lq5, lq6]
  refine wpAnyH_take (i := 6) (v := ?_) rfl (by kernel_rfl) (by kernel_rfl) (by kernel_rfl) (fun _ _ _ h => h) (Or.inl ⟨by rfl, ?_⟩) hHeld ?_
  rotate_left
  ·intro wx hSx; (try dsimp only at hSx); go_split_ands; go_simp; try (with_reducible rfl)
  try simp only [Act.put, lq1, lq2, lq3, lq4, lq5, lq6]
  refine wpAnyH_take (i := 7) (v := ?_) rfl (by kernel_rfl) (by kernel_rfl) (by kernel_rfl) (fun _ _ _ h => h) (Or.inl ⟨by rfl, ?_⟩) hHeld ?_
  rotate_left
  ·intro wx hSx; (try dsimp only at hSx); go_split_ands; go_simp; try (with_reducible rfl)
  try simp only [Act.put, lq1, lq2, lq3, lq4, lq5, lq6]
  have hbx0 : Row w0 _ _ _ := hw0 ▸ hbx.drew
  have hB0 : Below w.heap.size w w0 := hw0 ▸ hb1.drew
  rw [← hw0] at hHeld ⊢
  clear hw0 hbx hb1
  refine wpAnyH_ready (rs := [4, 8, 9, 10]) (by decide +kernel) (by simp) ?_
  refine (AllReadyH.cons (o := _) rfl (fun K hK => ?_) (AllReadyH.cons (o := _) rfl (fun K hK => ?_) (AllReadyH.cons (o := _) rfl (fun K hK => ?_) (AllReadyH.cons (o := _) rfl (fun K hK => ?_) AllReadyH.nil))))
  ·refine ifT rfl ?_
   refine oper_make _ _ _ 58 rfl 4 (.bool false) 1 Try.underlying58 Try.infoBool rfl g.nodes.length rfl rfl (by omega) (by omega) ?_
   intro w1 hb hz hr4_1
   clear hz
   have g4 := hbx0.lt
   have sz1 := hb.size
   have hbx1 := hbx0.below hb hbx0.lt
   have hB1 := hB0.trans (hb.mono hB0.size)
   clear hb
   refine hK.out _ _ ⟨hbx1.cell rfl, hbx1.cell rfl⟩ (fun hHeld => ?_)
   clear hK K
   try simp only [Act.put, lq1, lq2, lq3, lq4, lq5, lq6]
   refine wpAnyH_ready (rs := [8, 9, 10]) (by decide +kernel) (by simp) ?_
   refine (AllReadyH.cons (o := _) rfl (fun K hK => ?_) (AllReadyH.cons (o := _) rfl (fun K hK => ?_) (AllReadyH.cons (o := _) rfl (fun K hK => ?_) AllReadyH.nil)))
   ·refine ifT rfl ?_
    refine oper_make _ _ _ 58 rfl 4 (.bool false) 1 Try.underlying58 Try.infoBool rfl g.infos.length rfl rfl (by omega) (by omega) ?_
    intro w2 hb hz hr8_2
    clear hz
    have g8 := hbx1.lt
    have l4_8 := hr4_1.lt
    have hr4_2 := hr4_1.below hb hr4_1.lt
    have sz2 := hb.size
    have hbx2 := hbx1.below hb hbx1.lt
    have hB2 := hB1.trans (hb.mono hB1.size)
    clear hb
    refine hK.out _ _ ⟨hbx2.cell rfl, hbx2.cell rfl⟩ (fun hHeld => ?_)
    clear hK K
    try simp only [Act.put, lq1, lq2, lq3, lq4, lq5, lq6]
    refine wpAnyH_ready (rs := [9, 10]) (by decide +kernel) (by simp) ?_
    refine (AllReadyH.cons (o := _) rfl (fun K hK => ?_) (AllReadyH.cons (o := _) rfl (fun K hK => ?_) AllReadyH.nil))
    ·go_simp
     obtain ⟨w3, hw, hr9_3, hb, hz⟩ := row_of_alloc w2 58 #[.slice none 0 0]
     rw [← hw]
     clear hw hz
     have g9 := hbx2.lt
     have l4_9 := hr4_2.lt
     have hr4_3 := hr4_2.below hb hr4_2.lt
     have l8_9 := hr8_2.lt
     have hr8_3 := hr8_2.below hb hr8_2.lt
     have sz3 := hb.size
     have hbx3 := hbx2.below hb hbx2.lt
     have hB3 := hB2.trans (hb.mono hB2.size)
     clear hb
     refine hK.out _ _ ⟨hbx3.cell rfl, hbx3.cell rfl⟩ (fun hHeld => ?_)
     clear hK K
     try simp only [Act.put, lq1, lq2, lq3, lq4, lq5, lq6]
     refine wpAnyH_ready (rs := [10]) (by decide +kernel) (by simp) ?_
     refine (AllReadyH.cons (o := _) rfl (fun K hK => ?_) AllReadyH.nil)
     ·go_simp
      obtain ⟨w4, hw, hr10_4, hb, hz⟩ := row_of_alloc w3 58 #[.slice none 0 0]
      rw [← hw]
      clear hw hz
      have g10 := hbx3.lt
      have l4_10 := hr4_3.lt
      have hr4_4 := hr4_3.below hb hr4_3.lt
      have l8_10 := hr8_3.lt
      have hr8_4 := hr8_3.below hb hr8_3.lt
      have l9_10 := hr9_3.lt
      have hr9_4 := hr9_3.below hb hr9_3.lt
      have sz4 := hb.size
      have hbx4 := hbx3.below hb hbx3.lt
      have hB4 := hB3.trans (hb.mono hB3.size)
      clear hb
      refine hK.out _ _ ⟨hbx4.cell rfl, hbx4.cell rfl⟩ (fun hHeld => ?_)
      clear hK K
      try simp only [Act.put, lq1, lq2, lq3, lq4, lq5, lq6]
      refine wpAnyH_ready (rs := [11]) (by decide +kernel) (by simp) ?_
      refine (AllReadyH.cons (o := _) rfl (fun K hK => ?_) AllReadyH.nil)
      ·have yy := hr9_4.cell (i := 0) rfl
       have ff := hr9_4.frozen 0
       go_simp
       obtain ⟨w5, hw⟩ : ∃ W, W = w4.setCell ⟨w2.heap.size, 0, none⟩ (.slice (some ⟨w0.heap.size, 0, none⟩) g.nodes.length g.nodes.length) := ⟨_, rfl⟩
       rw [← hw]
       have hbx5 : Row w5 _ _ _ := hw ▸ hbx4.other (a := ⟨w2.heap.size, 0, none⟩) (by simp; omega) (.slice (some ⟨w0.heap.size, 0, none⟩) g.nodes.length g.nodes.length)
       have hr4_5 : Row w5 _ _ _ := hw ▸ hr4_4.other (a := ⟨w2.heap.size, 0, none⟩) (by simp; omega) (.slice (some ⟨w0.heap.size, 0, none⟩) g.nodes.length g.nodes.length)
       have hr8_5 : Row w5 _ _ _ := hw ▸ hr8_4.other (a := ⟨w2.heap.size, 0, none⟩) (by simp; omega) (.slice (some ⟨w0.heap.size, 0, none⟩) g.nodes.length g.nodes.length)
       have hr9_5 : Row w5 _ _ _ := hw ▸ hr9_4.set 0 (.slice (some ⟨w0.heap.size, 0, none⟩) g.nodes.length g.nodes.length)
       have hr10_5 : Row w5 _ _ _ := hw ▸ hr10_4.other (a := ⟨w2.heap.size, 0, none⟩) (by simp; omega) (.slice (some ⟨w0.heap.size, 0, none⟩) g.nodes.length g.nodes.length)
       have hB5 := hw ▸ hB4.setCell (p := ⟨w2.heap.size, 0, none⟩) (by simp; omega) (.slice (some ⟨w0.heap.size, 0, none⟩) g.nodes.length g.nodes.length)
       clear hw yy ff
       refine hK.out _ _ ⟨hbx5.cell rfl, hbx5.cell rfl⟩ (fun hHeld => ?_)
       clear hK K
       try simp only [Act.put, lq1, lq2, lq3, lq4, lq5, lq6]
       refine wpAnyH_ready (rs := [12]) (by decide +kernel) (by simp) ?_
       refine (AllReadyH.cons (o := _) rfl (fun K hK => ?_) AllReadyH.nil)
       ·have yy := hr10_5.cell (i := 0) rfl
        have ff := hr10_5.frozen 0
        go_simp
        obtain ⟨w6, hw⟩ : ∃ W, W = w5.setCell ⟨w3.heap.size, 0, none⟩ (.slice (some ⟨w1.heap.size, 0, none⟩) g.infos.length g.infos.length) := ⟨_, rfl⟩
        rw [← hw]
        have hbx6 : Row w6 _ _ _ := hw ▸ hbx5.other (a := ⟨w3.heap.size, 0, none⟩) (by simp; omega) (.slice (some ⟨w1.heap.size, 0, none⟩) g.infos.length g.infos.length)
        have hr4_6 : Row w6 _ _ _ := hw ▸ hr4_5.other (a := ⟨w3.heap.size, 0, none⟩) (by simp; omega) (.slice (some ⟨w1.heap.size, 0, none⟩) g.infos.length g.infos.length)
        have hr8_6 : Row w6 _ _ _ := hw ▸ hr8_5.other (a := ⟨w3.heap.size, 0, none⟩) (by simp; omega) (.slice (some ⟨w1.heap.size, 0, none⟩) g.infos.length g.infos.length)
        have hr9_6 : Row w6 _ _ _ := hw ▸ hr9_5.other (a := ⟨w3.heap.size, 0, none⟩) (by simp; omega) (.slice (some ⟨w1.heap.size, 0, none⟩) g.infos.length g.infos.length)
        have hr10_6 : Row w6 _ _ _ := hw ▸ hr10_5.set 0 (.slice (some ⟨w1.heap.size, 0, none⟩) g.infos.length g.infos.length)
        have hB6 := hw ▸ hB5.setCell (p := ⟨w3.heap.size, 0, none⟩) (by simp; omega) (.slice (some ⟨w1.heap.size, 0, none⟩) g.infos.length g.infos.length)
        clear hw yy ff
        refine hK.out _ _ ⟨hbx6.cell rfl, hbx6.cell rfl⟩ (fun hHeld => ?_)
        clear hK K
        try simp only [Act.put, lq1, lq2, lq3, lq4, lq5, lq6]
        refine wpAnyH_done (by kernel_rfl) ?_ _
        clear hHeld
        go_wp2_with fail
        go_meet
        exact ⟨w2.heap.size, w0.heap.size, w3.heap.size, w1.heap.size, rfl, rfl, hbx6, hr9_6, hr10_6, hr4_6, hr8_6, hB6, g9, g4, g10, g8, by omega, by omega, by omega, by omega, by omega⟩
    ·go_simp
     obtain ⟨w3, hw, hr10_3, hb, hz⟩ := row_of_alloc w2 58 #[.slice none 0 0]
     rw [← hw]
     clear hw hz
     have g10 := hbx2.lt
     have l4_10 := hr4_2.lt
     have hr4_3 := hr4_2.below hb hr4_2.lt
     have l8_10 := hr8_2.lt
     have hr8_3 := hr8_2.below hb hr8_2.lt
     have sz3 := hb.size
     have hbx3 := hbx2.below hb hbx2.lt
     have hB3 := hB2.trans (hb.mono hB2.size)
     clear hb
     refine hK.out _ _ ⟨hbx3.cell rfl, hbx3.cell rfl⟩ (fun hHeld => ?_)
     clear hK K
     try simp only [Act.put, lq1, lq2, lq3, lq4, lq5, lq6]
     refine wpAnyH_ready (rs := [9]) (by decide +kernel) (by simp) ?_
     refine (AllReadyH.cons (o := _) rfl (fun K hK => ?_) AllReadyH.nil)
     ·go_simp
      obtain ⟨w4, hw, hr9_4, hb, hz⟩ := row_of_alloc w3 58 #[.slice none 0 0]
      rw [← hw]
      clear hw hz
      have g9 := hbx3.lt
      have l4_9 := hr4_3.lt
      have hr4_4 := hr4_3.below hb hr4_3.lt
      have l8_9 := hr8_3.lt
      have hr8_4 := hr8_3.below hb hr8_3.lt
      have l10_9 := hr10_3.lt
      have hr10_4 := hr10_3.below hb hr10_3.lt
      have sz4 := hb.size
      have hbx4 := hbx3.below hb hbx3.lt
      have hB4 := hB3.trans (hb.mono hB3.size)
      clear hb
      refine hK.out _ _ ⟨hbx4.cell rfl, hbx4.cell rfl⟩ (fun hHeld => ?_)
      clear hK K
      try simp only [Act.put, lq1, lq2, lq3, lq4, lq5, lq6]
      refine wpAnyH_ready (rs := [11]) (by decide +kernel) (by simp) ?_
      refine (AllReadyH.cons (o := _) rfl (fun K hK => ?_) AllReadyH.nil)
      ·have yy := hr9_4.cell (i := 0) rfl
       have ff := hr9_4.frozen 0
       go_simp
       obtain ⟨w5, hw⟩ : ∃ W, W = w4.setCell ⟨w3.heap.size, 0, none⟩ (.slice (some ⟨w0.heap.size, 0, none⟩) g.nodes.length g.nodes.length) := ⟨_, rfl⟩
       rw [← hw]
       have hbx5 : Row w5 _ _ _ := hw ▸ hbx4.other (a := ⟨w3.heap.size, 0, none⟩) (by simp; omega) (.slice (some ⟨w0.heap.size, 0, none⟩) g.nodes.length g.nodes.length)
       have hr4_5 : Row w5 _ _ _ := hw ▸ hr4_4.other (a := ⟨w3.heap.size, 0, none⟩) (by simp; omega) (.slice (some ⟨w0.heap.size, 0, none⟩) g.nodes.length g.nodes.length)
       have hr8_5 : Row w5 _ _ _ := hw ▸ hr8_4.other (a := ⟨w3.heap.size, 0, none⟩) (by simp; omega) (.slice (some ⟨w0.heap.size, 0, none⟩) g.nodes.length g.nodes.length)
       have hr10_5 : Row w5 _ _ _ := hw ▸ hr10_4.other (a := ⟨w3.heap.size, 0, none⟩) (by simp; omega) (.slice (some ⟨w0.heap.size, 0, none⟩) g.nodes.length g.nodes.length)
       have hr9_5 : Row w5 _ _ _ := hw ▸ hr9_4.set 0 (.slice (some ⟨w0.heap.size, 0, none⟩) g.nodes.length g.nodes.length)
       have hB5 := hw ▸ hB4.setCell (p := ⟨w3.heap.size, 0, none⟩) (by simp; omega) (.slice (some ⟨w0.heap.size, 0, none⟩) g.nodes.length g.nodes.length)
       clear hw yy ff
       refine hK.out _ _ ⟨hbx5.cell rfl, hbx5.cell rfl⟩ (fun hHeld => ?_)
       clear hK K
       try simp only [Act.put, lq1, lq2, lq3, lq4, lq5, lq6]
       refine wpAnyH_ready (rs := [12]) (by decide +kernel) (by simp) ?_
       refine (AllReadyH.cons (o := _) rfl (fun K hK => ?_) AllReadyH.nil)
       ·have yy := hr10_5.cell (i := 0) rfl
        have ff := hr10_5.frozen 0
        go_simp
        obtain ⟨w6, hw⟩ : ∃ W, W = w5.setCell ⟨w2.heap.size, 0, none⟩ (.slice (some ⟨w1.heap.size, 0, none⟩) g.infos.length g.infos.length) := ⟨_, rfl⟩
        rw [← hw]
        have hbx6 : Row w6 _ _ _ := hw ▸ hbx5.other (a := ⟨w2.heap.size, 0, none⟩) (by simp; omega) (.slice (some ⟨w1.heap.size, 0, none⟩) g.infos.length g.infos.length)
        have hr4_6 : Row w6 _ _ _ := hw ▸ hr4_5.other (a := ⟨w2.heap.size, 0, none⟩) (by simp; omega) (.slice (some ⟨w1.heap.size, 0, none⟩) g.infos.length g.infos.length)
        have hr8_6 : Row w6 _ _ _ := hw ▸ hr8_5.other (a := ⟨w2.heap.size, 0, none⟩) (by simp; omega) (.slice (some ⟨w1.heap.size, 0, none⟩) g.infos.length g.infos.length)
        have hr10_6 : Row w6 _ _ _ := hw ▸ hr10_5.set 0 (.slice (some ⟨w1.heap.size, 0, none⟩) g.infos.length g.infos.length)
        have hr9_6 : Row w6 _ _ _ := hw ▸ hr9_5.other (a := ⟨w2.heap.size, 0, none⟩) (by simp; omega) (.slice (some ⟨w1.heap.size, 0, none⟩) g.infos.length g.infos.length)
        have hB6 := hw ▸ hB5.setCell (p := ⟨w2.heap.size, 0, none⟩) (by simp; omega) (.slice (some ⟨w1.heap.size, 0, none⟩) g.infos.length g.infos.length)
        clear hw yy ff
        refine hK.out _ _ ⟨hbx6.cell rfl, hbx6.cell rfl⟩ (fun hHeld => ?_)
        clear hK K
        try simp only [Act.put, lq1, lq2, lq3, lq4, lq5, lq6]
        refine wpAnyH_done (by kernel_rfl) ?_ _
        clear hHeld
        go_wp2_with fail
        go_meet
        exact ⟨w3.heap.size, w0.heap.size, w2.heap.size, w1.heap.size, rfl, rfl, hbx6, hr9_6, hr10_6, hr4_6, hr8_6, hB6, g9, g4, g10, g8, by omega, by omega, by omega, by omega, by omega⟩
   ·go_simp
    obtain ⟨w2, hw, hr9_2, hb, hz⟩ := row_of_alloc w1 58 #[.slice none 0 0]
    rw [← hw]
    clear hw hz
    have g9 := hbx1.lt
    have l4_9 := hr4_1.lt
    have hr4_2 := hr4_1.below hb hr4_1.lt
    have sz2 := hb.size
    have hbx2 := hbx1.below hb hbx1.lt
    have hB2 := hB1.trans (hb.mono hB1.size)
    clear hb
    refine hK.out _ _ ⟨hbx2.cell rfl, hbx2.cell rfl⟩ (fun hHeld => ?_)
    clear hK K
    try simp only [Act.put, lq1, lq2, lq3, lq4, lq5, lq6]
    refine wpAnyH_ready (rs := [8, 10]) (by decide +kernel) (by simp) ?_
    refine (AllReadyH.cons (o := _) rfl (fun K hK => ?_) (AllReadyH.cons (o := _) rfl (fun K hK => ?_) AllReadyH.nil))
    ·refine ifT rfl ?_
     refine oper_make _ _ _ 58 rfl 4 (.bool false) 1 Try.underlying58 Try.infoBool rfl g.infos.length rfl rfl (by omega) (by omega) ?_
     intro w3 hb hz hr8_3
     clear hz
     have g8 := hbx2.lt
     have l4_8 := hr4_2.lt
     have hr4_3 := hr4_2.below hb hr4_2.lt
     have l9_8 := hr9_2.lt
     have hr9_3 := hr9_2.below hb hr9_2.lt
     have sz3 := hb.size
     have hbx3 := hbx2.below hb hbx2.lt
     have hB3 := hB2.trans (hb.mono hB2.size)
     clear hb
     refine hK.out _ _ ⟨hbx3.cell rfl, hbx3.cell rfl⟩ (fun hHeld => ?_)
     clear hK K
     try simp only [Act.put, lq1, lq2, lq3, lq4, lq5, lq6]
     refine wpAnyH_ready (rs := [10]) (by decide +kernel) (by simp) ?_
     refine (AllReadyH.cons (o := _) rfl (fun K hK => ?_) AllReadyH.nil)
     ·go_simp
      obtain ⟨w4, hw, hr10_4, hb, hz⟩ := row_of_alloc w3 58 #[.slice none 0 0]
      rw [← hw]
      clear hw hz
      have g10 := hbx3.lt
      have l4_10 := hr4_3.lt
      have hr4_4 := hr4_3.below hb hr4_3.lt
      have l9_10 := hr9_3.lt
      have hr9_4 := hr9_3.below hb hr9_3.lt
      have l8_10 := hr8_3.lt
      have hr8_4 := hr8_3.below hb hr8_3.lt
      have sz4 := hb.size
      have hbx4 := hbx3.below hb hbx3.lt
      have hB4 := hB3.trans (hb.mono hB3.size)
      clear hb
      refine hK.out _ _ ⟨hbx4.cell rfl, hbx4.cell rfl⟩ (fun hHeld => ?_)
      clear hK K
      try simp only [Act.put, lq1, lq2, lq3, lq4, lq5, lq6]
      refine wpAnyH_ready (rs := [11]) (by decide +kernel) (by simp) ?_
      refine (AllReadyH.cons (o := _) rfl (fun K hK => ?_) AllReadyH.nil)
      ·have yy := hr9_4.cell (i := 0) rfl
       have ff := hr9_4.frozen 0
       go_simp
       obtain ⟨w5, hw⟩ : ∃ W, W = w4.setCell ⟨w1.heap.size, 0, none⟩ (.slice (some ⟨w0.heap.size, 0, none⟩) g.nodes.length g.nodes.length) := ⟨_, rfl⟩
       rw [← hw]
       have hbx5 : Row w5 _ _ _ := hw ▸ hbx4.other (a := ⟨w1.heap.size, 0, none⟩) (by simp; omega) (.slice (some ⟨w0.heap.size, 0, none⟩) g.nodes.length g.nodes.length)
       have hr4_5 : Row w5 _ _ _ := hw ▸ hr4_4.other (a := ⟨w1.heap.size, 0, none⟩) (by simp; omega) (.slice (some ⟨w0.heap.size, 0, none⟩) g.nodes.length g.nodes.length)
       have hr9_5 : Row w5 _ _ _ := hw ▸ hr9_4.set 0 (.slice (some ⟨w0.heap.size, 0, none⟩) g.nodes.length g.nodes.length)
       have hr8_5 : Row w5 _ _ _ := hw ▸ hr8_4.other (a := ⟨w1.heap.size, 0, none⟩) (by simp; omega) (.slice (some ⟨w0.heap.size, 0, none⟩) g.nodes.length g.nodes.length)
       have hr10_5 : Row w5 _ _ _ := hw ▸ hr10_4.other (a := ⟨w1.heap.size, 0, none⟩) (by simp; omega) (.slice (some ⟨w0.heap.size, 0, none⟩) g.nodes.length g.nodes.length)
       have hB5 := hw ▸ hB4.setCell (p := ⟨w1.heap.size, 0, none⟩) (by simp; omega) (.slice (some ⟨w0.heap.size, 0, none⟩) g.nodes.length g.nodes.length)
       clear hw yy ff
       refine hK.out _ _ ⟨hbx5.cell rfl, hbx5.cell rfl⟩ (fun hHeld => ?_)
       clear hK K
       try simp only [Act.put, lq1, lq2, lq3, lq4, lq5, lq6]
       refine wpAnyH_ready (rs := [12]) (by decide +kernel) (by simp) ?_
       refine (AllReadyH.cons (o := _) rfl (fun K hK => ?_) AllReadyH.nil)
       ·have yy := hr10_5.cell (i := 0) rfl
        have ff := hr10_5.frozen 0
        go_simp
        obtain ⟨w6, hw⟩ : ∃ W, W = w5.setCell ⟨w3.heap.size, 0, none⟩ (.slice (some ⟨w2.heap.size, 0, none⟩) g.infos.length g.infos.length) := ⟨_, rfl⟩
        rw [← hw]
        have hbx6 : Row w6 _ _ _ := hw ▸ hbx5.other (a := ⟨w3.heap.size, 0, none⟩) (by simp; omega) (.slice (some ⟨w2.heap.size, 0, none⟩) g.infos.length g.infos.length)
        have hr4_6 : Row w6 _ _ _ := hw ▸ hr4_5.other (a := ⟨w3.heap.size, 0, none⟩) (by simp; omega) (.slice (some ⟨w2.heap.size, 0, none⟩) g.infos.length g.infos.length)
        have hr9_6 : Row w6 _ _ _ := hw ▸ hr9_5.other (a := ⟨w3.heap.size, 0, none⟩) (by simp; omega) (.slice (some ⟨w2.heap.size, 0, none⟩) g.infos.length g.infos.length)
        have hr8_6 : Row w6 _ _ _ := hw ▸ hr8_5.other (a := ⟨w3.heap.size, 0, none⟩) (by simp; omega) (.slice (some ⟨w2.heap.size, 0, none⟩) g.infos.length g.infos.length)
        have hr10_6 : Row w6 _ _ _ := hw ▸ hr10_5.set 0 (.slice (some ⟨w2.heap.size, 0, none⟩) g.infos.length g.infos.length)
        have hB6 := hw ▸ hB5.setCell (p := ⟨w3.heap.size, 0, none⟩) (by simp; omega) (.slice (some ⟨w2.heap.size, 0, none⟩) g.infos.length g.infos.length)
        clear hw yy ff
        refine hK.out _ _ ⟨hbx6.cell rfl, hbx6.cell rfl⟩ (fun hHeld => ?_)
        clear hK K
        try simp only [Act.put, lq1, lq2, lq3, lq4, lq5, lq6]
        refine wpAnyH_done (by kernel_rfl) ?_ _
        clear hHeld
        go_wp2_with fail
        go_meet
        exact ⟨w1.heap.size, w0.heap.size, w3.heap.size, w2.heap.size, rfl, rfl, hbx6, hr9_6, hr10_6, hr4_6, hr8_6, hB6, g9, g4, g10, g8, by omega, by omega, by omega, by omega, by omega⟩
    ·go_simp
     obtain ⟨w3, hw, hr10_3, hb, hz⟩ := row_of_alloc w2 58 #[.slice none 0 0]
     rw [← hw]
     clear hw hz
     have g10 := hbx2.lt
     have l4_10 := hr4_2.lt
     have hr4_3 := hr4_2.below hb hr4_2.lt
     have l9_10 := hr9_2.lt
     have hr9_3 := hr9_2.below hb hr9_2.lt
     have sz3 := hb.size
     have hbx3 := hbx2.below hb hbx2.lt
     have hB3 := hB2.trans (hb.mono hB2.size)
     clear hb
     refine hK.out _ _ ⟨hbx3.cell rfl, hbx3.cell rfl⟩ (fun hHeld => ?_)
     clear hK K
     try simp only [Act.put, lq1, lq2, lq3, lq4, lq5, lq6]
     refine wpAnyH_ready (rs := [8, 11]) (by decide +kernel) (by simp) ?_
     refine (AllReadyH.cons (o := _) rfl (fun K hK => ?_) (AllReadyH.cons (o := _) rfl (fun K hK => ?_) AllReadyH.nil))
     ·refine ifT rfl ?_
      refine oper_make _ _ _ 58 rfl 4 (.bool false) 1 Try.underlying58 Try.infoBool rfl g.infos.length rfl rfl (by omega) (by omega) ?_
      intro w4 hb hz hr8_4
      clear hz
      have g8 := hbx3.lt
      have l4_8 := hr4_3.lt
      have hr4_4 := hr4_3.below hb hr4_3.lt
      have l9_8 := hr9_3.lt
      have hr9_4 := hr9_3.below hb hr9_3.lt
      have l10_8 := hr10_3.lt
      have hr10_4 := hr10_3.below hb hr10_3.lt
      have sz4 := hb.size
      have hbx4 := hbx3.below hb hbx3.lt
      have hB4 := hB3.trans (hb.mono hB3.size)
      clear hb
      refine hK.out _ _ ⟨hbx4.cell rfl, hbx4.cell rfl⟩ (fun hHeld => ?_)
      clear hK K
      try simp only [Act.put, lq1, lq2, lq3, lq4, lq5, lq6]
      refine wpAnyH_ready (rs := [11]) (by decide +kernel) (by simp) ?_
      refine (AllReadyH.cons (o := _) rfl (fun K hK => ?_) AllReadyH.nil)
      ·have yy := hr9_4.cell (i := 0) rfl
       have ff := hr9_4.frozen 0
       go_simp
       obtain ⟨w5, hw⟩ : ∃ W, W = w4.setCell ⟨w1.heap.size, 0, none⟩ (.slice (some ⟨w0.heap.size, 0, none⟩) g.nodes.length g.nodes.length) := ⟨_, rfl⟩
       rw [← hw]
       have hbx5 : Row w5 _ _ _ := hw ▸ hbx4.other (a := ⟨w1.heap.size, 0, none⟩) (by simp; omega) (.slice (some ⟨w0.heap.size, 0, none⟩) g.nodes.length g.nodes.length)
       have hr4_5 : Row w5 _ _ _ := hw ▸ hr4_4.other (a := ⟨w1.heap.size, 0, none⟩) (by simp; omega) (.slice (some ⟨w0.heap.size, 0, none⟩) g.nodes.length g.nodes.length)
       have hr9_5 : Row w5 _ _ _ := hw ▸ hr9_4.set 0 (.slice (some ⟨w0.heap.size, 0, none⟩) g.nodes.length g.nodes.length)
       have hr10_5 : Row w5 _ _ _ := hw ▸ hr10_4.other (a := ⟨w1.heap.size, 0, none⟩) (by simp; omega) (.slice (some ⟨w0.heap.size, 0, none⟩) g.nodes.length g.nodes.length)
       have hr8_5 : Row w5 _ _ _ := hw ▸ hr8_4.other (a := ⟨w1.heap.size, 0, none⟩) (by simp; omega) (.slice (some ⟨w0.heap.size, 0, none⟩) g.nodes.length g.nodes.length)
       have hB5 := hw ▸ hB4.setCell (p := ⟨w1.heap.size, 0, none⟩) (by simp; omega) (.slice (some ⟨w0.heap.size, 0, none⟩) g.nodes.length g.nodes.length)
       clear hw yy ff
       refine hK.out _ _ ⟨hbx5.cell rfl, hbx5.cell rfl⟩ (fun hHeld => ?_)
       clear hK K
       try simp only [Act.put, lq1, lq2, lq3, lq4, lq5, lq6]
       refine wpAnyH_ready (rs := [12]) (by decide +kernel) (by simp) ?_
       refine (AllReadyH.cons (o := _) rfl (fun K hK => ?_) AllReadyH.nil)
       ·have yy := hr10_5.cell (i := 0) rfl
        have ff := hr10_5.frozen 0
        go_simp
        obtain ⟨w6, hw⟩ : ∃ W, W = w5.setCell ⟨w2.heap.size, 0, none⟩ (.slice (some ⟨w3.heap.size, 0, none⟩) g.infos.length g.infos.length) := ⟨_, rfl⟩
        rw [← hw]
        have hbx6 : Row w6 _ _ _ := hw ▸ hbx5.other (a := ⟨w2.heap.size, 0, none⟩) (by simp; omega) (.slice (some ⟨w3.heap.size, 0, none⟩) g.infos.length g.infos.length)
        have hr4_6 : Row w6 _ _ _ := hw ▸ hr4_5.other (a := ⟨w2.heap.size, 0, none⟩) (by simp; omega) (.slice (some ⟨w3.heap.size, 0, none⟩) g.infos.length g.infos.length)
        have hr9_6 : Row w6 _ _ _ := hw ▸ hr9_5.other (a := ⟨w2.heap.size, 0, none⟩) (by simp; omega) (.slice (some ⟨w3.heap.size, 0, none⟩) g.infos.length g.infos.length)
        have hr10_6 : Row w6 _ _ _ := hw ▸ hr10_5.set 0 (.slice (some ⟨w3.heap.size, 0, none⟩) g.infos.length g.infos.length)
        have hr8_6 : Row w6 _ _ _ := hw ▸ hr8_5.other (a := ⟨w2.heap.size, 0, none⟩) (by simp; omega) (.slice (some ⟨w3.heap.size, 0, none⟩) g.infos.length g.infos.length)
        have hB6 := hw ▸ hB5.setCell (p := ⟨w2.heap.size, 0, none⟩) (by simp; omega) (.slice (some ⟨w3.heap.size, 0, none⟩) g.infos.length g.infos.length)
        clear hw yy ff
        refine hK.out _ _ ⟨hbx6.cell rfl, hbx6.cell rfl⟩ (fun hHeld => ?_)
        clear hK K
        try simp only [Act.put, lq1, lq2, lq3, lq4, lq5, lq6]
        refine wpAnyH_done (by kernel_rfl) ?_ _
        clear hHeld
        go_wp2_with fail
        go_meet
        exact ⟨w1.heap.size, w0.heap.size, w2.heap.size, w3.heap.size, rfl, rfl, hbx6, hr9_6, hr10_6, hr4_6, hr8_6, hB6, g9, g4, g10, g8, by omega, by omega, by omega, by omega, by omega⟩
     ·have yy := hr9_3.cell (i := 0) rfl
      have ff := hr9_3.frozen 0
      go_simp
      obtain ⟨w4, hw⟩ : ∃ W, W = w3.setCell ⟨w1.heap.size, 0, none⟩ (.slice (some ⟨w0.heap.size, 0, none⟩) g.nodes.length g.nodes.length) := ⟨_, rfl⟩
      rw [← hw]
      have hbx4 : Row w4 _ _ _ := hw ▸ hbx3.other (a := ⟨w1.heap.size, 0, none⟩) (by simp; omega) (.slice (some ⟨w0.heap.size, 0, none⟩) g.nodes.length g.nodes.length)
      have hr4_4 : Row w4 _ _ _ := hw ▸ hr4_3.other (a := ⟨w1.heap.size, 0, none⟩) (by simp; omega) (.slice (some ⟨w0.heap.size, 0, none⟩) g.nodes.length g.nodes.length)
      have hr9_4 : Row w4 _ _ _ := hw ▸ hr9_3.set 0 (.slice (some ⟨w0.heap.size, 0, none⟩) g.nodes.length g.nodes.length)
      have hr10_4 : Row w4 _ _ _ := hw ▸ hr10_3.other (a := ⟨w1.heap.size, 0, none⟩) (by simp; omega) (.slice (some ⟨w0.heap.size, 0, none⟩) g.nodes.length g.nodes.length)
      have hB4 := hw ▸ hB3.setCell (p := ⟨w1.heap.size, 0, none⟩) (by simp; omega) (.slice (some ⟨w0.heap.size, 0, none⟩) g.nodes.length g.nodes.length)
      clear hw yy ff
      refine hK.out _ _ ⟨hbx4.cell rfl, hbx4.cell rfl⟩ (fun hHeld => ?_)
      clear hK K
      try simp only [Act.put, lq1, lq2, lq3, lq4, lq5, lq6]
      refine wpAnyH_ready (rs := [8]) (by decide +kernel) (by simp) ?_
      refine (AllReadyH.cons (o := _) rfl (fun K hK => ?_) AllReadyH.nil)
      ·refine ifT rfl ?_
       refine oper_make _ _ _ 58 rfl 4 (.bool false) 1 Try.underlying58 Try.infoBool rfl g.infos.length rfl rfl (by omega) (by omega) ?_
       intro w5 hb hz hr8_5
       clear hz
       have g8 := hbx4.lt
       have l4_8 := hr4_4.lt
       have hr4_5 := hr4_4.below hb hr4_4.lt
       have l9_8 := hr9_4.lt
       have hr9_5 := hr9_4.below hb hr9_4.lt
       have l10_8 := hr10_4.lt
       have hr10_5 := hr10_4.below hb hr10_4.lt
       have sz5 := hb.size
       have hbx5 := hbx4.below hb hbx4.lt
       have hB5 := hB4.trans (hb.mono hB4.size)
       clear hb
       refine hK.out _ _ ⟨hbx5.cell rfl, hbx5.cell rfl⟩ (fun hHeld => ?_)
       clear hK K
       try simp only [Act.put, lq1, lq2, lq3, lq4, lq5, lq6]
       refine wpAnyH_ready (rs := [12]) (by decide +kernel) (by simp) ?_
       refine (AllReadyH.cons (o := _) rfl (fun K hK => ?_) AllReadyH.nil)
       ·have yy := hr10_5.cell (i := 0) rfl
        have ff := hr10_5.frozen 0
        go_simp
        obtain ⟨w6, hw⟩ : ∃ W, W = w5.setCell ⟨w2.heap.size, 0, none⟩ (.slice (some ⟨w4.heap.size, 0, none⟩) g.infos.length g.infos.length) := ⟨_, rfl⟩
        rw [← hw]
        have hbx6 : Row w6 _ _ _ := hw ▸ hbx5.other (a := ⟨w2.heap.size, 0, none⟩) (by simp; omega) (.slice (some ⟨w4.heap.size, 0, none⟩) g.infos.length g.infos.length)
        have hr4_6 : Row w6 _ _ _ := hw ▸ hr4_5.other (a := ⟨w2.heap.size, 0, none⟩) (by simp; omega) (.slice (some ⟨w4.heap.size, 0, none⟩) g.infos.length g.infos.length)
        have hr9_6 : Row w6 _ _ _ := hw ▸ hr9_5.other (a := ⟨w2.heap.size, 0, none⟩) (by simp; omega) (.slice (some ⟨w4.heap.size, 0, none⟩) g.infos.length g.infos.length)
        have hr10_6 : Row w6 _ _ _ := hw ▸ hr10_5.set 0 (.slice (some ⟨w4.heap.size, 0, none⟩) g.infos.length g.infos.length)
        have hr8_6 : Row w6 _ _ _ := hw ▸ hr8_5.other (a := ⟨w2.heap.size, 0, none⟩) (by simp; omega) (.slice (some ⟨w4.heap.size, 0, none⟩) g.infos.length g.infos.length)
        have hB6 := hw ▸ hB5.setCell (p := ⟨w2.heap.size, 0, none⟩) (by simp; omega) (.slice (some ⟨w4.heap.size, 0, none⟩) g.infos.length g.infos.length)
        clear hw yy ff
        refine hK.out _ _ ⟨hbx6.cell rfl, hbx6.cell rfl⟩ (fun hHeld => ?_)
        clear hK K
        try simp only [Act.put, lq1, lq2, lq3, lq4, lq5, lq6]
        refine wpAnyH_done (by kernel_rfl) ?_ _
        clear hHeld
        go_wp2_with fail
        go_meet
        exact ⟨w1.heap.size, w0.heap.size, w2.heap.size, w4.heap.size, rfl, rfl, hbx6, hr9_6, hr10_6, hr4_6, hr8_6, hB6, g9, g4, g10, g8, by omega, by omega, by omega, by omega, by omega⟩
   ·go_simp
    obtain ⟨w2, hw, hr10_2, hb, hz⟩ := row_of_alloc w1 58 #[.slice none 0 0]
    rw [← hw]
    clear hw hz
    have g10 := hbx1.lt
    have l4_10 := hr4_1.lt
    have hr4_2 := hr4_1.below hb hr4_1.lt
    have sz2 := hb.size
    have hbx2 := hbx1.below hb hbx1.lt
    have hB2 := hB1.trans (hb.mono hB1.size)
    clear hb
    refine hK.out _ _ ⟨hbx2.cell rfl, hbx2.cell rfl⟩ (fun hHeld => ?_)
    clear hK K
    try simp only [Act.put, lq1, lq2, lq3, lq4, lq5, lq6]
    refine wpAnyH_ready (rs := [8, 9]) (by decide +kernel) (by simp) ?_
    refine (AllReadyH.cons (o := _) rfl (fun K hK => ?_) (AllReadyH.cons (o := _) rfl (fun K hK => ?_) AllReadyH.nil))
    ·refine ifT rfl ?_
     refine oper_make _ _ _ 58 rfl 4 (.bool false) 1 Try.underlying58 Try.infoBool rfl g.infos.length rfl rfl (by omega) (by omega) ?_
     intro w3 hb hz hr8_3
     clear hz
     have g8 := hbx2.lt
     have l4_8 := hr4_2.lt
     have hr4_3 := hr4_2.below hb hr4_2.lt
     have l10_8 := hr10_2.lt
     have hr10_3 := hr10_2.below hb hr10_2.lt
     have sz3 := hb.size
     have hbx3 := hbx2.below hb hbx2.lt
     have hB3 := hB2.trans (hb.mono hB2.size)
     clear hb
     refine hK.out _ _ ⟨hbx3.cell rfl, hbx3.cell rfl⟩ (fun hHeld => ?_)
     clear hK K
     try simp only [Act.put, lq1, lq2, lq3, lq4, lq5, lq6]
     refine wpAnyH_ready (rs := [9]) (by decide +kernel) (by simp) ?_
     refine (AllReadyH.cons (o := _) rfl (fun K hK => ?_) AllReadyH.nil)
     ·go_simp
      obtain ⟨w4, hw, hr9_4, hb, hz⟩ := row_of_alloc w3 58 #[.slice none 0 0]
      rw [← hw]
      clear hw hz
      have g9 := hbx3.lt
      have l4_9 := hr4_3.lt
      have hr4_4 := hr4_3.below hb hr4_3.lt
      have l10_9 := hr10_3.lt
      have hr10_4 := hr10_3.below hb hr10_3.lt
      have l8_9 := hr8_3.lt
      have hr8_4 := hr8_3.below hb hr8_3.lt
      have sz4 := hb.size
      have hbx4 := hbx3.below hb hbx3.lt
      have hB4 := hB3.trans (hb.mono hB3.size)
      clear hb
      refine hK.out _ _ ⟨hbx4.cell rfl, hbx4.cell rfl⟩ (fun hHeld => ?_)
      clear hK K
      try simp only [Act.put, lq1, lq2, lq3, lq4, lq5, lq6]
      refine wpAnyH_ready (rs := [11]) (by decide +kernel) (by simp) ?_
      refine (AllReadyH.cons (o := _) rfl (fun K hK => ?_) AllReadyH.nil)
      ·have yy := hr9_4.cell (i := 0) rfl
       have ff := hr9_4.frozen 0
       go_simp
       obtain ⟨w5, hw⟩ : ∃ W, W = w4.setCell ⟨w3.heap.size, 0, none⟩ (.slice (some ⟨w0.heap.size, 0, none⟩) g.nodes.length g.nodes.length) := ⟨_, rfl⟩
       rw [← hw]
       have hbx5 : Row w5 _ _ _ := hw ▸ hbx4.other (a := ⟨w3.heap.size, 0, none⟩) (by simp; omega) (.slice (some ⟨w0.heap.size, 0, none⟩) g.nodes.length g.nodes.length)
       have hr4_5 : Row w5 _ _ _ := hw ▸ hr4_4.other (a := ⟨w3.heap.size, 0, none⟩) (by simp; omega) (.slice (some ⟨w0.heap.size, 0, none⟩) g.nodes.length g.nodes.length)
       have hr10_5 : Row w5 _ _ _ := hw ▸ hr10_4.other (a := ⟨w3.heap.size, 0, none⟩) (by simp; omega) (.slice (some ⟨w0.heap.size, 0, none⟩) g.nodes.length g.nodes.length)
       have hr8_5 : Row w5 _ _ _ := hw ▸ hr8_4.other (a := ⟨w3.heap.size, 0, none⟩) (by simp; omega) (.slice (some ⟨w0.heap.size, 0, none⟩) g.nodes.length g.nodes.length)
       have hr9_5 : Row w5 _ _ _ := hw ▸ hr9_4.set 0 (.slice (some ⟨w0.heap.size, 0, none⟩) g.nodes.length g.nodes.length)
       have hB5 := hw ▸ hB4.setCell (p := ⟨w3.heap.size, 0, none⟩) (by simp; omega) (.slice (some ⟨w0.heap.size, 0, none⟩) g.nodes.length g.nodes.length)
       clear hw yy ff
       refine hK.out _ _ ⟨hbx5.cell rfl, hbx5.cell rfl⟩ (fun hHeld => ?_)
       clear hK K
       try simp only [Act.put, lq1, lq2, lq3, lq4, lq5, lq6]
       refine wpAnyH_ready (rs := [12]) (by decide +kernel) (by simp) ?_
       refine (AllReadyH.cons (o := _) rfl (fun K hK => ?_) AllReadyH.nil)
       ·have yy := hr10_5.cell (i := 0) rfl
        have ff := hr10_5.frozen 0
        go_simp
        obtain ⟨w6, hw⟩ : ∃ W, W = w5.setCell ⟨w1.heap.size, 0, none⟩ (.slice (some ⟨w2.heap.size, 0, none⟩) g.infos.length g.infos.length) := ⟨_, rfl⟩
        rw [← hw]
        have hbx6 : Row w6 _ _ _ := hw ▸ hbx5.other (a := ⟨w1.heap.size, 0, none⟩) (by simp; omega) (.slice (some ⟨w2.heap.size, 0, none⟩) g.infos.length g.infos.length)
        have hr4_6 : Row w6 _ _ _ := hw ▸ hr4_5.other (a := ⟨w1.heap.size, 0, none⟩) (by simp; omega) (.slice (some ⟨w2.heap.size, 0, none⟩) g.infos.length g.infos.length)
        have hr10_6 : Row w6 _ _ _ := hw ▸ hr10_5.set 0 (.slice (some ⟨w2.heap.size, 0, none⟩) g.infos.length g.infos.length)
        have hr8_6 : Row w6 _ _ _ := hw ▸ hr8_5.other (a := ⟨w1.heap.size, 0, none⟩) (by simp; omega) (.slice (some ⟨w2.heap.size, 0, none⟩) g.infos.length g.infos.length)
        have hr9_6 : Row w6 _ _ _ := hw ▸ hr9_5.other (a := ⟨w1.heap.size, 0, none⟩) (by simp; omega) (.slice (some ⟨w2.heap.size, 0, none⟩) g.infos.length g.infos.length)
        have hB6 := hw ▸ hB5.setCell (p := ⟨w1.heap.size, 0, none⟩) (by simp; omega) (.slice (some ⟨w2.heap.size, 0, none⟩) g.infos.length g.infos.length)
        clear hw yy ff
        refine hK.out _ _ ⟨hbx6.cell rfl, hbx6.cell rfl⟩ (fun hHeld => ?_)
        clear hK K
        try simp only [Act.put, lq1, lq2, lq3, lq4, lq5, lq6]
        refine wpAnyH_done (by kernel_rfl) ?_ _
        clear hHeld
        go_wp2_with fail
        go_meet
        exact ⟨w3.heap.size, w0.heap.size, w1.heap.size, w2.heap.size, rfl, rfl, hbx6, hr9_6, hr10_6, hr4_6, hr8_6, hB6, g9, g4, g10, g8, by omega, by omega, by omega, by omega, by omega⟩
    ·go_simp
     obtain ⟨w3, hw, hr9_3, hb, hz⟩ := row_of_alloc w2 58 #[.slice none 0 0]
     rw [← hw]
     clear hw hz
     have g9 := hbx2.lt
     have l4_9 := hr4_2.lt
     have hr4_3 := hr4_2.below hb hr4_2.lt
     have l10_9 := hr10_2.lt
     have hr10_3 := hr10_2.below hb hr10_2.lt
     have sz3 := hb.size
     have hbx3 := hbx2.below hb hbx2.lt
     have hB3 := hB2.trans (hb.mono hB2.size)
     clear hb
     refine hK.out _ _ ⟨hbx3.cell rfl, hbx3.cell rfl⟩ (fun hHeld => ?_)
     clear hK K
     try simp only [Act.put, lq1, lq2, lq3, lq4, lq5, lq6]
     refine wpAnyH_ready (rs := [8, 11]) (by decide +kernel) (by simp) ?_
     refine (AllReadyH.cons (o := _) rfl (fun K hK => ?_) (AllReadyH.cons (o := _) rfl (fun K hK => ?_) AllReadyH.nil))
     ·refine ifT rfl ?_
      refine oper_make _ _ _ 58 rfl 4 (.bool false) 1 Try.underlying58 Try.infoBool rfl g.infos.length rfl rfl (by omega) (by omega) ?_
      intro w4 hb hz hr8_4
      clear hz
      have g8 := hbx3.lt
      have l4_8 := hr4_3.lt
      have hr4_4 := hr4_3.below hb hr4_3.lt
      have l10_8 := hr10_3.lt
      have hr10_4 := hr10_3.below hb hr10_3.lt
      have l9_8 := hr9_3.lt
      have hr9_4 := hr9_3.below hb hr9_3.lt
      have sz4 := hb.size
      have hbx4 := hbx3.below hb hbx3.lt
      have hB4 := hB3.trans (hb.mono hB3.size)
      clear hb
      refine hK.out _ _ ⟨hbx4.cell rfl, hbx4.cell rfl⟩ (fun hHeld => ?_)
      clear hK K
      try simp only [Act.put, lq1, lq2, lq3, lq4, lq5, lq6]
      refine wpAnyH_ready (rs := [11]) (by decide +kernel) (by simp) ?_
      refine (AllReadyH.cons (o := _) rfl (fun K hK => ?_) AllReadyH.nil)
      ·have yy := hr9_4.cell (i := 0) rfl
       have ff := hr9_4.frozen 0
       go_simp
       obtain ⟨w5, hw⟩ : ∃ W, W = w4.setCell ⟨w2.heap.size, 0, none⟩ (.slice (some ⟨w0.heap.size, 0, none⟩) g.nodes.length g.nodes.length) := ⟨_, rfl⟩
       rw [← hw]
       have hbx5 : Row w5 _ _ _ := hw ▸ hbx4.other (a := ⟨w2.heap.size, 0, none⟩) (by simp; omega) (.slice (some ⟨w0.heap.size, 0, none⟩) g.nodes.length g.nodes.length)
       have hr4_5 : Row w5 _ _ _ := hw ▸ hr4_4.other (a := ⟨w2.heap.size, 0, none⟩) (by simp; omega) (.slice (some ⟨w0.heap.size, 0, none⟩) g.nodes.length g.nodes.length)
       have hr10_5 : Row w5 _ _ _ := hw ▸ hr10_4.other (a := ⟨w2.heap.size, 0, none⟩) (by simp; omega) (.slice (some ⟨w0.heap.size, 0, none⟩) g.nodes.length g.nodes.length)
       have hr9_5 : Row w5 _ _ _ := hw ▸ hr9_4.set 0 (.slice (some ⟨w0.heap.size, 0, none⟩) g.nodes.length g.nodes.length)
       have hr8_5 : Row w5 _ _ _ := hw ▸ hr8_4.other (a := ⟨w2.heap.size, 0, none⟩) (by simp; omega) (.slice (some ⟨w0.heap.size, 0, none⟩) g.nodes.length g.nodes.length)
       have hB5 := hw ▸ hB4.setCell (p := ⟨w2.heap.size, 0, none⟩) (by simp; omega) (.slice (some ⟨w0.heap.size, 0, none⟩) g.nodes.length g.nodes.length)
       clear hw yy ff
       refine hK.out _ _ ⟨hbx5.cell rfl, hbx5.cell rfl⟩ (fun hHeld => ?_)
       clear hK K
       try simp only [Act.put, lq1, lq2, lq3, lq4, lq5, lq6]
       refine wpAnyH_ready (rs := [12]) (by decide +kernel) (by simp) ?_
       refine (AllReadyH.cons (o := _) rfl (fun K hK => ?_) AllReadyH.nil)
       ·have yy := hr10_5.cell (i := 0) rfl
        have ff := hr10_5.frozen 0
        go_simp
        obtain ⟨w6, hw⟩ : ∃ W, W = w5.setCell ⟨w1.heap.size, 0, none⟩ (.slice (some ⟨w3.heap.size, 0, none⟩) g.infos.length g.infos.length) := ⟨_, rfl⟩
        rw [← hw]
        have hbx6 : Row w6 _ _ _ := hw ▸ hbx5.other (a := ⟨w1.heap.size, 0, none⟩) (by simp; omega) (.slice (some ⟨w3.heap.size, 0, none⟩) g.infos.length g.infos.length)
        have hr4_6 : Row w6 _ _ _ := hw ▸ hr4_5.other (a := ⟨w1.heap.size, 0, none⟩) (by simp; omega) (.slice (some ⟨w3.heap.size, 0, none⟩) g.infos.length g.infos.length)
        have hr10_6 : Row w6 _ _ _ := hw ▸ hr10_5.set 0 (.slice (some ⟨w3.heap.size, 0, none⟩) g.infos.length g.infos.length)
        have hr9_6 : Row w6 _ _ _ := hw ▸ hr9_5.other (a := ⟨w1.heap.size, 0, none⟩) (by simp; omega) (.slice (some ⟨w3.heap.size, 0, none⟩) g.infos.length g.infos.length)
        have hr8_6 : Row w6 _ _ _ := hw ▸ hr8_5.other (a := ⟨w1.heap.size, 0, none⟩) (by simp; omega) (.slice (some ⟨w3.heap.size, 0, none⟩) g.infos.length g.infos.length)
        have hB6 := hw ▸ hB5.setCell (p := ⟨w1.heap.size, 0, none⟩) (by simp; omega) (.slice (some ⟨w3.heap.size, 0, none⟩) g.infos.length g.infos.length)
        clear hw yy ff
        refine hK.out _ _ ⟨hbx6.cell rfl, hbx6.cell rfl⟩ (fun hHeld => ?_)
        clear hK K
        try simp only [Act.put, lq1, lq2, lq3, lq4, lq5, lq6]
        refine wpAnyH_done (by kernel_rfl) ?_ _
        clear hHeld
        go_wp2_with fail
        go_meet
        exact ⟨w2.heap.size, w0.heap.size, w1.heap.size, w3.heap.size, rfl, rfl, hbx6, hr9_6, hr10_6, hr4_6, hr8_6, hB6, g9, g4, g10, g8, by omega, by omega, by omega, by omega, by omega⟩
     ·have yy := hr9_3.cell (i := 0) rfl
      have ff := hr9_3.frozen 0
      go_simp
      obtain ⟨w4, hw⟩ : ∃ W, W = w3.setCell ⟨w2.heap.size, 0, none⟩ (.slice (some ⟨w0.heap.size, 0, none⟩) g.nodes.length g.nodes.length) := ⟨_, rfl⟩
      rw [← hw]
      have hbx4 : Row w4 _ _ _ := hw ▸ hbx3.other (a := ⟨w2.heap.size, 0, none⟩) (by simp; omega) (.slice (some ⟨w0.heap.size, 0, none⟩) g.nodes.length g.nodes.length)
      have hr4_4 : Row w4 _ _ _ := hw ▸ hr4_3.other (a := ⟨w2.heap.size, 0, none⟩) (by simp; omega) (.slice (some ⟨w0.heap.size, 0, none⟩) g.nodes.length g.nodes.length)
      have hr10_4 : Row w4 _ _ _ := hw ▸ hr10_3.other (a := ⟨w2.heap.size, 0, none⟩) (by simp; omega) (.slice (some ⟨w0.heap.size, 0, none⟩) g.nodes.length g.nodes.length)
      have hr9_4 : Row w4 _ _ _ := hw ▸ hr9_3.set 0 (.slice (some ⟨w0.heap.size, 0, none⟩) g.nodes.length g.nodes.length)
      have hB4 := hw ▸ hB3.setCell (p := ⟨w2.heap.size, 0, none⟩) (by simp; omega) (.slice (some ⟨w0.heap.size, 0, none⟩) g.nodes.length g.nodes.length)
      clear hw yy ff
      refine hK.out _ _ ⟨hbx4.cell rfl, hbx4.cell rfl⟩ (fun hHeld => ?_)
      clear hK K
      try simp only [Act.put, lq1, lq2, lq3, lq4, lq5, lq6]
      refine wpAnyH_ready (rs := [8]) (by decide +kernel) (by simp) ?_
      refine (AllReadyH.cons (o := _) rfl (fun K hK => ?_) AllReadyH.nil)
      ·refine ifT rfl ?_
       refine oper_make _ _ _ 58 rfl 4 (.bool false) 1 Try.underlying58 Try.infoBool rfl g.infos.length rfl rfl (by omega) (by omega) ?_
       intro w5 hb hz hr8_5
       clear hz
       have g8 := hbx4.lt
       have l4_8 := hr4_4.lt
       have hr4_5 := hr4_4.below hb hr4_4.lt
       have l10_8 := hr10_4.lt
       have hr10_5 := hr10_4.below hb hr10_4.lt
       have l9_8 := hr9_4.lt
       have hr9_5 := hr9_4.below hb hr9_4.lt
       have sz5 := hb.size
       have hbx5 := hbx4.below hb hbx4.lt
       have hB5 := hB4.trans (hb.mono hB4.size)
       clear hb
       refine hK.out _ _ ⟨hbx5.cell rfl, hbx5.cell rfl⟩ (fun hHeld => ?_)
       clear hK K
       try simp only [Act.put, lq1, lq2, lq3, lq4, lq5, lq6]
       refine wpAnyH_ready (rs := [12]) (by decide +kernel) (by simp) ?_
       refine (AllReadyH.cons (o := _) rfl (fun K hK => ?_) AllReadyH.nil)
       ·have yy := hr10_5.cell (i := 0) rfl
        have ff := hr10_5.frozen 0
        go_simp
        obtain ⟨w6, hw⟩ : ∃ W, W = w5.setCell ⟨w1.heap.size, 0, none⟩ (.slice (some ⟨w4.heap.size, 0, none⟩) g.infos.length g.infos.length) := ⟨_, rfl⟩
        rw [← hw]
        have hbx6 : Row w6 _ _ _ := hw ▸ hbx5.other (a := ⟨w1.heap.size, 0, none⟩) (by simp; omega) (.slice (some ⟨w4.heap.size, 0, none⟩) g.infos.length g.infos.length)
        have hr4_6 : Row w6 _ _ _ := hw ▸ hr4_5.other (a := ⟨w1.heap.size, 0, none⟩) (by simp; omega) (.slice (some ⟨w4.heap.size, 0, none⟩) g.infos.length g.infos.length)
        have hr10_6 : Row w6 _ _ _ := hw ▸ hr10_5.set 0 (.slice (some ⟨w4.heap.size, 0, none⟩) g.infos.length g.infos.length)
        have hr9_6 : Row w6 _ _ _ := hw ▸ hr9_5.other (a := ⟨w1.heap.size, 0, none⟩) (by simp; omega) (.slice (some ⟨w4.heap.size, 0, none⟩) g.infos.length g.infos.length)
        have hr8_6 : Row w6 _ _ _ := hw ▸ hr8_5.other (a := ⟨w1.heap.size, 0, none⟩) (by simp; omega) (.slice (some ⟨w4.heap.size, 0, none⟩) g.infos.length g.infos.length)
        have hB6 := hw ▸ hB5.setCell (p := ⟨w1.heap.size, 0, none⟩) (by simp; omega) (.slice (some ⟨w4.heap.size, 0, none⟩) g.infos.length g.infos.length)
        clear hw yy ff
        refine hK.out _ _ ⟨hbx6.cell rfl, hbx6.cell rfl⟩ (fun hHeld => ?_)
        clear hK K
        try simp only [Act.put, lq1, lq2, lq3, lq4, lq5, lq6]
        refine wpAnyH_done (by kernel_rfl) ?_ _
        clear hHeld
        go_wp2_with fail
        go_meet
        exact ⟨w2.heap.size, w0.heap.size, w1.heap.size, w4.heap.size, rfl, rfl, hbx6, hr9_6, hr10_6, hr4_6, hr8_6, hB6, g9, g4, g10, g8, by omega, by omega, by omega, by omega, by omega⟩
  ·refine ifT rfl ?_
   refine oper_make _ _ _ 58 rfl 4 (.bool false) 1 Try.underlying58 Try.infoBool rfl g.infos.length rfl rfl (by omega) (by omega) ?_
   intro w1 hb hz hr8_1
   clear hz
   have g8 := hbx0.lt
   have sz1 := hb.size
   have hbx1 := hbx0.below hb hbx0.lt
   have hB1 := hB0.trans (hb.mono hB0.size)
   clear hb
   refine hK.out _ _ ⟨hbx1.cell rfl, hbx1.cell rfl⟩ (fun hHeld => ?_)
   clear hK K
   try simp only [Act.put, lq1, lq2, lq3, lq4, lq5, lq6]
   refine wpAnyH_ready (rs := [4, 9, 10]) (by decide +kernel) (by simp) ?_
   refine (AllReadyH.cons (o := _) rfl (fun K hK => ?_) (AllReadyH.cons (o := _) rfl (fun K hK => ?_) (AllReadyH.cons (o := _) rfl (fun K hK => ?_) AllReadyH.nil)))
   ·refine ifT rfl ?_
    refine oper_make _ _ _ 58 rfl 4 (.bool false) 1 Try.underlying58 Try.infoBool rfl g.nodes.length rfl rfl (by omega) (by omega) ?_
    intro w2 hb hz hr4_2
    clear hz
    have g4 := hbx1.lt
    have l8_4 := hr8_1.lt
    have hr8_2 := hr8_1.below hb hr8_1.lt
    have sz2 := hb.size
    have hbx2 := hbx1.below hb hbx1.lt
    have hB2 := hB1.trans (hb.mono hB1.size)
    clear hb
    refine hK.out _ _ ⟨hbx2.cell rfl, hbx2.cell rfl⟩ (fun hHeld => ?_)
    clear hK K
    try simp only [Act.put, lq1, lq2, lq3, lq4, lq5, lq6]
    refine wpAnyH_ready (rs := [9, 10]) (by decide +kernel) (by simp) ?_
    refine (AllReadyH.cons (o := _) rfl (fun K hK => ?_) (AllReadyH.cons (o := _) rfl (fun K hK => ?_) AllReadyH.nil))
    ·go_simp
     obtain ⟨w3, hw, hr9_3, hb, hz⟩ := row_of_alloc w2 58 #[.slice none 0 0]
     rw [← hw]
     clear hw hz
     have g9 := hbx2.lt
     have l8_9 := hr8_2.lt
     have hr8_3 := hr8_2.below hb hr8_2.lt
     have l4_9 := hr4_2.lt
     have hr4_3 := hr4_2.below hb hr4_2.lt
     have sz3 := hb.size
     have hbx3 := hbx2.below hb hbx2.lt
     have hB3 := hB2.trans (hb.mono hB2.size)
     clear hb
     refine hK.out _ _ ⟨hbx3.cell rfl, hbx3.cell rfl⟩ (fun hHeld => ?_)
     clear hK K
     try simp only [Act.put, lq1, lq2, lq3, lq4, lq5, lq6]
     refine wpAnyH_ready (rs := [10]) (by decide +kernel) (by simp) ?_
     refine (AllReadyH.cons (o := _) rfl (fun K hK => ?_) AllReadyH.nil)
     ·go_simp
      obtain ⟨w4, hw, hr10_4, hb, hz⟩ := row_of_alloc w3 58 #[.slice none 0 0]
      rw [← hw]
      clear hw hz
      have g10 := hbx3.lt
      have l8_10 := hr8_3.lt
      have hr8_4 := hr8_3.below hb hr8_3.lt
      have l4_10 := hr4_3.lt
      have hr4_4 := hr4_3.below hb hr4_3.lt
      have l9_10 := hr9_3.lt
      have hr9_4 := hr9_3.below hb hr9_3.lt
      have sz4 := hb.size
      have hbx4 := hbx3.below hb hbx3.lt
      have hB4 := hB3.trans (hb.mono hB3.size)
      clear hb
      refine hK.out _ _ ⟨hbx4.cell rfl, hbx4.cell rfl⟩ (fun hHeld => ?_)
      clear hK K
      try simp only [Act.put, lq1, lq2, lq3, lq4, lq5, lq6]
      refine wpAnyH_ready (rs := [11]) (by decide +kernel) (by simp) ?_
      refine (AllReadyH.cons (o := _) rfl (fun K hK => ?_) AllReadyH.nil)
      ·have yy := hr9_4.cell (i := 0) rfl
       have ff := hr9_4.frozen 0
       go_simp
       obtain ⟨w5, hw⟩ : ∃ W, W = w4.setCell ⟨w2.heap.size, 0, none⟩ (.slice (some ⟨w1.heap.size, 0, none⟩) g.nodes.length g.nodes.length) := ⟨_, rfl⟩
       rw [← hw]
       have hbx5 : Row w5 _ _ _ := hw ▸ hbx4.other (a := ⟨w2.heap.size, 0, none⟩) (by simp; omega) (.slice (some ⟨w1.heap.size, 0, none⟩) g.nodes.length g.nodes.length)
       have hr8_5 : Row w5 _ _ _ := hw ▸ hr8_4.other (a := ⟨w2.heap.size, 0, none⟩) (by simp; omega) (.slice (some ⟨w1.heap.size, 0, none⟩) g.nodes.length g.nodes.length)
       have hr4_5 : Row w5 _ _ _ := hw ▸ hr4_4.other (a := ⟨w2.heap.size, 0, none⟩) (by simp; omega) (.slice (some ⟨w1.heap.size, 0, none⟩) g.nodes.length g.nodes.length)
       have hr9_5 : Row w5 _ _ _ := hw ▸ hr9_4.set 0 (.slice (some ⟨w1.heap.size, 0, none⟩) g.nodes.length g.nodes.length)
       have hr10_5 : Row w5 _ _ _ := hw ▸ hr10_4.other (a := ⟨w2.heap.size, 0, none⟩) (by simp; omega) (.slice (some ⟨w1.heap.size, 0, none⟩) g.nodes.length g.nodes.length)
       have hB5 := hw ▸ hB4.setCell (p := ⟨w2.heap.size, 0, none⟩) (by simp; omega) (.slice (some ⟨w1.heap.size, 0, none⟩) g.nodes.length g.nodes.length)
       clear hw yy ff
       refine hK.out _ _ ⟨hbx5.cell rfl, hbx5.cell rfl⟩ (fun hHeld => ?_)
       clear hK K
       try simp only [Act.put, lq1, lq2, lq3, lq4, lq5, lq6]
       refine wpAnyH_ready (rs := [12]) (by decide +kernel) (by simp) ?_
       refine (AllReadyH.cons (o := _) rfl (fun K hK => ?_) AllReadyH.nil)
       ·have yy := hr10_5.cell (i := 0) rfl
        have ff := hr10_5.frozen 0
        go_simp
        obtain ⟨w6, hw⟩ : ∃ W, W = w5.setCell ⟨w3.heap.size, 0, none⟩ (.slice (some ⟨w0.heap.size, 0, none⟩) g.infos.length g.infos.length) := ⟨_, rfl⟩
        rw [← hw]
        have hbx6 : Row w6 _ _ _ := hw ▸ hbx5.other (a := ⟨w3.heap.size, 0, none⟩) (by simp; omega) (.slice (some ⟨w0.heap.size, 0, none⟩) g.infos.length g.infos.length)
        have hr8_6 : Row w6 _ _ _ := hw ▸ hr8_5.other (a := ⟨w3.heap.size, 0, none⟩) (by simp; omega) (.slice (some ⟨w0.heap.size, 0, none⟩) g.infos.length g.infos.length)
        have hr4_6 : Row w6 _ _ _ := hw ▸ hr4_5.other (a := ⟨w3.heap.size, 0, none⟩) (by simp; omega) (.slice (some ⟨w0.heap.size, 0, none⟩) g.infos.length g.infos.length)
        have hr9_6 : Row w6 _ _ _ := hw ▸ hr9_5.other (a := ⟨w3.heap.size, 0, none⟩) (by simp; omega) (.slice (some ⟨w0.heap.size, 0, none⟩) g.infos.length g.infos.length)
        have hr10_6 : Row w6 _ _ _ := hw ▸ hr10_5.set 0 (.slice (some ⟨w0.heap.size, 0, none⟩) g.infos.length g.infos.length)
        have hB6 := hw ▸ hB5.setCell (p := ⟨w3.heap.size, 0, none⟩) (by simp; omega) (.slice (some ⟨w0.heap.size, 0, none⟩) g.infos.length g.infos.length)
        clear hw yy ff
        refine hK.out _ _ ⟨hbx6.cell rfl, hbx6.cell rfl⟩ (fun hHeld => ?_)
        clear hK K
        try simp only [Act.put, lq1, lq2, lq3, lq4, lq5, lq6]
        refine wpAnyH_done (by kernel_rfl) ?_ _
        clear hHeld
        go_wp2_with fail
        go_meet
        exact ⟨w2.heap.size, w1.heap.size, w3.heap.size, w0.heap.size, rfl, rfl, hbx6, hr9_6, hr10_6, hr4_6, hr8_6, hB6, g9, g4, g10, g8, by omega, by omega, by omega, by omega, by omega⟩
    ·go_simp
     obtain ⟨w3, hw, hr10_3, hb, hz⟩ := row_of_alloc w2 58 #[.slice none 0 0]
     rw [← hw]
     clear hw hz
     have g10 := hbx2.lt
     have l8_10 := hr8_2.lt
     have hr8_3 := hr8_2.below hb hr8_2.lt
     have l4_10 := hr4_2.lt
     have hr4_3 := hr4_2.below hb hr4_2.lt
     have sz3 := hb.size
     have hbx3 := hbx2.below hb hbx2.lt
     have hB3 := hB2.trans (hb.mono hB2.size)
     clear hb
     refine hK.out _ _ ⟨hbx3.cell rfl, hbx3.cell rfl⟩ (fun hHeld => ?_)
     clear hK K
     try simp only [Act.put, lq1, lq2, lq3, lq4, lq5, lq6]
     refine wpAnyH_ready (rs := [9]) (by decide +kernel) (by simp) ?_
     refine (AllReadyH.cons (o := _) rfl (fun K hK => ?_) AllReadyH.nil)
     ·go_simp
      obtain ⟨w4, hw, hr9_4, hb, hz⟩ := row_of_alloc w3 58 #[.slice none 0 0]
      rw [← hw]
      clear hw hz
      have g9 := hbx3.lt
      have l8_9 := hr8_3.lt
      have hr8_4 := hr8_3.below hb hr8_3.lt
      have l4_9 := hr4_3.lt
      have hr4_4 := hr4_3.below hb hr4_3.lt
      have l10_9 := hr10_3.lt
      have hr10_4 := hr10_3.below hb hr10_3.lt
      have sz4 := hb.size
      have hbx4 := hbx3.below hb hbx3.lt
      have hB4 := hB3.trans (hb.mono hB3.size)
      clear hb
      refine hK.out _ _ ⟨hbx4.cell rfl, hbx4.cell rfl⟩ (fun hHeld => ?_)
      clear hK K
      try simp only [Act.put, lq1, lq2, lq3, lq4, lq5, lq6]
      refine wpAnyH_ready (rs := [11]) (by decide +kernel) (by simp) ?_
      refine (AllReadyH.cons (o := _) rfl (fun K hK => ?_) AllReadyH.nil)
      ·have yy := hr9_4.cell (i := 0) rfl
       have ff := hr9_4.frozen 0
       go_simp
       obtain ⟨w5, hw⟩ : ∃ W, W = w4.setCell ⟨w3.heap.size, 0, none⟩ (.slice (some ⟨w1.heap.size, 0, none⟩) g.nodes.length g.nodes.length) := ⟨_, rfl⟩
       rw [← hw]
       have hbx5 : Row w5 _ _ _ := hw ▸ hbx4.other (a := ⟨w3.heap.size, 0, none⟩) (by simp; omega) (.slice (some ⟨w1.heap.size, 0, none⟩) g.nodes.length g.nodes.length)
       have hr8_5 : Row w5 _ _ _ := hw ▸ hr8_4.other (a := ⟨w3.heap.size, 0, none⟩) (by simp; omega) (.slice (some ⟨w1.heap.size, 0, none⟩) g.nodes.length g.nodes.length)
       have hr4_5 : Row w5 _ _ _ := hw ▸ hr4_4.other (a := ⟨w3.heap.size, 0, none⟩) (by simp; omega) (.slice (some ⟨w1.heap.size, 0, none⟩) g.nodes.length g.nodes.length)
       have hr10_5 : Row w5 _ _ _ := hw ▸ hr10_4.other (a := ⟨w3.heap.size, 0, none⟩) (by simp; omega) (.slice (some ⟨w1.heap.size, 0, none⟩) g.nodes.length g.nodes.length)
       have hr9_5 : Row w5 _ _ _ := hw ▸ hr9_4.set 0 (.slice (some ⟨w1.heap.size, 0, none⟩) g.nodes.length g.nodes.length)
       have hB5 := hw ▸ hB4.setCell (p := ⟨w3.heap.size, 0, none⟩) (by simp; omega) (.slice (some ⟨w1.heap.size, 0, none⟩) g.nodes.length g.nodes.length)
       clear hw yy ff
       refine hK.out _ _ ⟨hbx5.cell rfl, hbx5.cell rfl⟩ (fun hHeld => ?_)
       clear hK K
       try simp only [Act.put, lq1, lq2, lq3, lq4, lq5, lq6]
       refine wpAnyH_ready (rs := [12]) (by decide +kernel) (by simp) ?_
       refine (AllReadyH.cons (o := _) rfl (fun K hK => ?_) AllReadyH.nil)
       ·have yy := hr10_5.cell (i := 0) rfl
        have ff := hr10_5.frozen 0
        go_simp
        obtain ⟨w6, hw⟩ : ∃ W, W = w5.setCell ⟨w2.heap.size, 0, none⟩ (.slice (some ⟨w0.heap.size, 0, none⟩) g.infos.length g.infos.length) := ⟨_, rfl⟩
        rw [← hw]
        have hbx6 : Row w6 _ _ _ := hw ▸ hbx5.other (a := ⟨w2.heap.size, 0, none⟩) (by simp; omega) (.slice (some ⟨w0.heap.size, 0, none⟩) g.infos.length g.infos.length)
        have hr8_6 : Row w6 _ _ _ := hw ▸ hr8_5.other (a := ⟨w2.heap.size, 0, none⟩) (by simp; omega) (.slice (some ⟨w0.heap.size, 0, none⟩) g.infos.length g.infos.length)
        have hr4_6 : Row w6 _ _ _ := hw ▸ hr4_5.other (a := ⟨w2.heap.size, 0, none⟩) (by simp; omega) (.slice (some ⟨w0.heap.size, 0, none⟩) g.infos.length g.infos.length)
        have hr10_6 : Row w6 _ _ _ := hw ▸ hr10_5.set 0 (.slice (some ⟨w0.heap.size, 0, none⟩) g.infos.length g.infos.length)
        have hr9_6 : Row w6 _ _ _ := hw ▸ hr9_5.other (a := ⟨w2.heap.size, 0, none⟩) (by simp; omega) (.slice (some ⟨w0.heap.size, 0, none⟩) g.infos.length g.infos.length)
        have hB6 := hw ▸ hB5.setCell (p := ⟨w2.heap.size, 0, none⟩) (by simp; omega) (.slice (some ⟨w0.heap.size, 0, none⟩) g.infos.length g.infos.length)
        clear hw yy ff
        refine hK.out _ _ ⟨hbx6.cell rfl, hbx6.cell rfl⟩ (fun hHeld => ?_)
        clear hK K
        try simp only [Act.put, lq1, lq2, lq3, lq4, lq5, lq6]
        refine wpAnyH_done (by kernel_rfl) ?_ _
        clear hHeld
        go_wp2_with fail
        go_meet
        exact ⟨w3.heap.size, w1.heap.size, w2.heap.size, w0.heap.size, rfl, rfl, hbx6, hr9_6, hr10_6, hr4_6, hr8_6, hB6, g9, g4, g10, g8, by omega, by omega, by omega, by omega, by omega⟩
   ·go_simp
    obtain ⟨w2, hw, hr9_2, hb, hz⟩ := row_of_alloc w1 58 #[.slice none 0 0]
    rw [← hw]
    clear hw hz
    have g9 := hbx1.lt
    have l8_9 := hr8_1.lt
    have hr8_2 := hr8_1.below hb hr8_1.lt
    have sz2 := hb.size
    have hbx2 := hbx1.below hb hbx1.lt
    have hB2 := hB1.trans (hb.mono hB1.size)
    clear hb
    refine hK.out _ _ ⟨hbx2.cell rfl, hbx2.cell rfl⟩ (fun hHeld => ?_)
    clear hK K
    try simp only [Act.put, lq1, lq2, lq3, lq4, lq5, lq6]
    refine wpAnyH_ready (rs := [4, 10]) (by decide +kernel) (by simp) ?_
    refine (AllReadyH.cons (o := _) rfl (fun K hK => ?_) (AllReadyH.cons (o := _) rfl (fun K hK => ?_) AllReadyH.nil))
    ·refine ifT rfl ?_
     refine oper_make _ _ _ 58 rfl 4 (.bool false) 1 Try.underlying58 Try.infoBool rfl g.nodes.length rfl rfl (by omega) (by omega) ?_
     intro w3 hb hz hr4_3
     clear hz
     have g4 := hbx2.lt
     have l8_4 := hr8_2.lt
     have hr8_3 := hr8_2.below hb hr8_2.lt
     have l9_4 := hr9_2.lt
     have hr9_3 := hr9_2.below hb hr9_2.lt
     have sz3 := hb.size
     have hbx3 := hbx2.below hb hbx2.lt
     have hB3 := hB2.trans (hb.mono hB2.size)
     clear hb
     refine hK.out _ _ ⟨hbx3.cell rfl, hbx3.cell rfl⟩ (fun hHeld => ?_)
     clear hK K
     try simp only [Act.put, lq1, lq2, lq3, lq4, lq5, lq6]
     refine wpAnyH_ready (rs := [10]) (by decide +kernel) (by simp) ?_
     refine (AllReadyH.cons (o := _) rfl (fun K hK => ?_) AllReadyH.nil)
     ·go_simp
      obtain ⟨w4, hw, hr10_4, hb, hz⟩ := row_of_alloc w3 58 #[.slice none 0 0]
      rw [← hw]
      clear hw hz
      have g10 := hbx3.lt
      have l8_10 := hr8_3.lt
      have hr8_4 := hr8_3.below hb hr8_3.lt
      have l9_10 := hr9_3.lt
      have hr9_4 := hr9_3.below hb hr9_3.lt
      have l4_10 := hr4_3.lt
      have hr4_4 := hr4_3.below hb hr4_3.lt
      have sz4 := hb.size
      have hbx4 := hbx3.below hb hbx3.lt
      have hB4 := hB3.trans (hb.mono hB3.size)
      clear hb
      refine hK.out _ _ ⟨hbx4.cell rfl, hbx4.cell rfl⟩ (fun hHeld => ?_)
      clear hK K
      try simp only [Act.put, lq1, lq2, lq3, lq4, lq5, lq6]
      refine wpAnyH_ready (rs := [11]) (by decide +kernel) (by simp) ?_
      refine (AllReadyH.cons (o := _) rfl (fun K hK => ?_) AllReadyH.nil)
      ·have yy := hr9_4.cell (i := 0) rfl
       have ff := hr9_4.frozen 0
       go_simp
       obtain ⟨w5, hw⟩ : ∃ W, W = w4.setCell ⟨w1.heap.size, 0, none⟩ (.slice (some ⟨w2.heap.size, 0, none⟩) g.nodes.length g.nodes.length) := ⟨_, rfl⟩
       rw [← hw]
       have hbx5 : Row w5 _ _ _ := hw ▸ hbx4.other (a := ⟨w1.heap.size, 0, none⟩) (by simp; omega) (.slice (some ⟨w2.heap.size, 0, none⟩) g.nodes.length g.nodes.length)
       have hr8_5 : Row w5 _ _ _ := hw ▸ hr8_4.other (a := ⟨w1.heap.size, 0, none⟩) (by simp; omega) (.slice (some ⟨w2.heap.size, 0, none⟩) g.nodes.length g.nodes.length)
       have hr9_5 : Row w5 _ _ _ := hw ▸ hr9_4.set 0 (.slice (some ⟨w2.heap.size, 0, none⟩) g.nodes.length g.nodes.length)
       have hr4_5 : Row w5 _ _ _ := hw ▸ hr4_4.other (a := ⟨w1.heap.size, 0, none⟩) (by simp; omega) (.slice (some ⟨w2.heap.size, 0, none⟩) g.nodes.length g.nodes.length)
       have hr10_5 : Row w5 _ _ _ := hw ▸ hr10_4.other (a := ⟨w1.heap.size, 0, none⟩) (by simp; omega) (.slice (some ⟨w2.heap.size, 0, none⟩) g.nodes.length g.nodes.length)
       have hB5 := hw ▸ hB4.setCell (p := ⟨w1.heap.size, 0, none⟩) (by simp; omega) (.slice (some ⟨w2.heap.size, 0, none⟩) g.nodes.length g.nodes.length)
       clear hw yy ff
       refine hK.out _ _ ⟨hbx5.cell rfl, hbx5.cell rfl⟩ (fun hHeld => ?_)
       clear hK K
       try simp only [Act.put, lq1, lq2, lq3, lq4, lq5, lq6]
       refine wpAnyH_ready (rs := [12]) (by decide +kernel) (by simp) ?_
       refine (AllReadyH.cons (o := _) rfl (fun K hK => ?_) AllReadyH.nil)
       ·have yy := hr10_5.cell (i := 0) rfl
        have ff := hr10_5.frozen 0
        go_simp
        obtain ⟨w6, hw⟩ : ∃ W, W = w5.setCell ⟨w3.heap.size, 0, none⟩ (.slice (some ⟨w0.heap.size, 0, none⟩) g.infos.length g.infos.length) := ⟨_, rfl⟩
        rw [← hw]
        have hbx6 : Row w6 _ _ _ := hw ▸ hbx5.other (a := ⟨w3.heap.size, 0, none⟩) (by simp; omega) (.slice (some ⟨w0.heap.size, 0, none⟩) g.infos.length g.infos.length)
        have hr8_6 : Row w6 _ _ _ := hw ▸ hr8_5.other (a := ⟨w3.heap.size, 0, none⟩) (by simp; omega) (.slice (some ⟨w0.heap.size, 0, none⟩) g.infos.length g.infos.length)
        have hr9_6 : Row w6 _ _ _ := hw ▸ hr9_5.other (a := ⟨w3.heap.size, 0, none⟩) (by simp; omega) (.slice (some ⟨w0.heap.size, 0, none⟩) g.infos.length g.infos.length)
        have hr4_6 : Row w6 _ _ _ := hw ▸ hr4_5.other (a := ⟨w3.heap.size, 0, none⟩) (by simp; omega) (.slice (some ⟨w0.heap.size, 0, none⟩) g.infos.length g.infos.length)
        have hr10_6 : Row w6 _ _ _ := hw ▸ hr10_5.set 0 (.slice (some ⟨w0.heap.size, 0, none⟩) g.infos.length g.infos.length)
        have hB6 := hw ▸ hB5.setCell (p := ⟨w3.heap.size, 0, none⟩) (by simp; omega) (.slice (some ⟨w0.heap.size, 0, none⟩) g.infos.length g.infos.length)
        clear hw yy ff
        refine hK.out _ _ ⟨hbx6.cell rfl, hbx6.cell rfl⟩ (fun hHeld => ?_)
        clear hK K
        try simp only [Act.put, lq1, lq2, lq3, lq4, lq5, lq6]
        refine wpAnyH_done (by kernel_rfl) ?_ _
        clear hHeld
        go_wp2_with fail
        go_meet
        exact ⟨w1.heap.size, w2.heap.size, w3.heap.size, w0.heap.size, rfl, rfl, hbx6, hr9_6, hr10_6, hr4_6, hr8_6, hB6, g9, g4, g10, g8, by omega, by omega, by omega, by omega, by omega⟩
    ·go_simp
     obtain ⟨w3, hw, hr10_3, hb, hz⟩ := row_of_alloc w2 58 #[.slice none 0 0]
     rw [← hw]
     clear hw hz
     have g10 := hbx2.lt
     have l8_10 := hr8_2.lt
     have hr8_3 := hr8_2.below hb hr8_2.lt
     have l9_10 := hr9_2.lt
     have hr9_3 := hr9_2.below hb hr9_2.lt
     have sz3 := hb.size
     have hbx3 := hbx2.below hb hbx2.lt
     have hB3 := hB2.trans (hb.mono hB2.size)
     clear hb
     refine hK.out _ _ ⟨hbx3.cell rfl, hbx3.cell rfl⟩ (fun hHeld => ?_)
     clear hK K
     try simp only [Act.put, lq1, lq2, lq3, lq4, lq5, lq6]
     refine wpAnyH_ready (rs := [4]) (by decide +kernel) (by simp) ?_
     refine (AllReadyH.cons (o := _) rfl (fun K hK => ?_) AllReadyH.nil)
     ·refine ifT rfl ?_
      refine oper_make _ _ _ 58 rfl 4 (.bool false) 1 Try.underlying58 Try.infoBool rfl g.nodes.length rfl rfl (by omega) (by omega) ?_
      intro w4 hb hz hr4_4
      clear hz
      have g4 := hbx3.lt
      have l8_4 := hr8_3.lt
      have hr8_4 := hr8_3.below hb hr8_3.lt
      have l9_4 := hr9_3.lt
      have hr9_4 := hr9_3.below hb hr9_3.lt
      have l10_4 := hr10_3.lt
      have hr10_4 := hr10_3.below hb hr10_3.lt
      have sz4 := hb.size
      have hbx4 := hbx3.below hb hbx3.lt
      have hB4 := hB3.trans (hb.mono hB3.size)
      clear hb
      refine hK.out _ _ ⟨hbx4.cell rfl, hbx4.cell rfl⟩ (fun hHeld => ?_)
      clear hK K
      try simp only [Act.put, lq1, lq2, lq3, lq4, lq5, lq6]
      refine wpAnyH_ready (rs := [11]) (by decide +kernel) (by simp) ?_
      refine (AllReadyH.cons (o := _) rfl (fun K hK => ?_) AllReadyH.nil)
      ·have yy := hr9_4.cell (i := 0) rfl
       have ff := hr9_4.frozen 0
       go_simp
       obtain ⟨w5, hw⟩ : ∃ W, W = w4.setCell ⟨w1.heap.size, 0, none⟩ (.slice (some ⟨w3.heap.size, 0, none⟩) g.nodes.length g.nodes.length) := ⟨_, rfl⟩
       rw [← hw]
       have hbx5 : Row w5 _ _ _ := hw ▸ hbx4.other (a := ⟨w1.heap.size, 0, none⟩) (by simp; omega) (.slice (some ⟨w3.heap.size, 0, none⟩) g.nodes.length g.nodes.length)
       have hr8_5 : Row w5 _ _ _ := hw ▸ hr8_4.other (a := ⟨w1.heap.size, 0, none⟩) (by simp; omega) (.slice (some ⟨w3.heap.size, 0, none⟩) g.nodes.length g.nodes.length)
       have hr9_5 : Row w5 _ _ _ := hw ▸ hr9_4.set 0 (.slice (some ⟨w3.heap.size, 0, none⟩) g.nodes.length g.nodes.length)
       have hr10_5 : Row w5 _ _ _ := hw ▸ hr10_4.other (a := ⟨w1.heap.size, 0, none⟩) (by simp; omega) (.slice (some ⟨w3.heap.size, 0, none⟩) g.nodes.length g.nodes.length)
       have hr4_5 : Row w5 _ _ _ := hw ▸ hr4_4.other (a := ⟨w1.heap.size, 0, none⟩) (by simp; omega) (.slice (some ⟨w3.heap.size, 0, none⟩) g.nodes.length g.nodes.length)
       have hB5 := hw ▸ hB4.setCell (p := ⟨w1.heap.size, 0, none⟩) (by simp; omega) (.slice (some ⟨w3.heap.size, 0, none⟩) g.nodes.length g.nodes.length)
       clear hw yy ff
       refine hK.out _ _ ⟨hbx5.cell rfl, hbx5.cell rfl⟩ (fun hHeld => ?_)
       clear hK K
       try simp only [Act.put, lq1, lq2, lq3, lq4, lq5, lq6]
       refine wpAnyH_ready (rs := [12]) (by decide +kernel) (by simp) ?_
       refine (AllReadyH.cons (o := _) rfl (fun K hK => ?_) AllReadyH.nil)
       ·have yy := hr10_5.cell (i := 0) rfl
        have ff := hr10_5.frozen 0
        go_simp
        obtain ⟨w6, hw⟩ : ∃ W, W = w5.setCell ⟨w2.heap.size, 0, none⟩ (.slice (some ⟨w0.heap.size, 0, none⟩) g.infos.length g.infos.length) := ⟨_, rfl⟩
        rw [← hw]
        have hbx6 : Row w6 _ _ _ := hw ▸ hbx5.other (a := ⟨w2.heap.size, 0, none⟩) (by simp; omega) (.slice (some ⟨w0.heap.size, 0, none⟩) g.infos.length g.infos.length)
        have hr8_6 : Row w6 _ _ _ := hw ▸ hr8_5.other (a := ⟨w2.heap.size, 0, none⟩) (by simp; omega) (.slice (some ⟨w0.heap.size, 0, none⟩) g.infos.length g.infos.length)
        have hr9_6 : Row w6 _ _ _ := hw ▸ hr9_5.other (a := ⟨w2.heap.size, 0, none⟩) (by simp; omega) (.slice (some ⟨w0.heap.size, 0, none⟩) g.infos.length g.infos.length)
        have hr10_6 : Row w6 _ _ _ := hw ▸ hr10_5.set 0 (.slice (some ⟨w0.heap.size, 0, none⟩) g.infos.length g.infos.length)
        have hr4_6 : Row w6 _ _ _ := hw ▸ hr4_5.other (a := ⟨w2.heap.size, 0, none⟩) (by simp; omega) (.slice (some ⟨w0.heap.size, 0, none⟩) g.infos.length g.infos.length)
        have hB6 := hw ▸ hB5.setCell (p := ⟨w2.heap.size, 0, none⟩) (by simp; omega) (.slice (some ⟨w0.heap.size, 0, none⟩) g.infos.length g.infos.length)
        clear hw yy ff
        refine hK.out _ _ ⟨hbx6.cell rfl, hbx6.cell rfl⟩ (fun hHeld => ?_)
        clear hK K
        try simp only [Act.put, lq1, lq2, lq3, lq4, lq5, lq6]
        refine wpAnyH_done (by kernel_rfl) ?_ _
        clear hHeld
        go_wp2_with fail
        go_meet
        exact ⟨w1.heap.size, w3.heap.size, w2.heap.size, w0.heap.size, rfl, rfl, hbx6, hr9_6, hr10_6, hr4_6, hr8_6, hB6, g9, g4, g10, g8, by omega, by omega, by omega, by omega, by omega⟩
   ·go_simp
    obtain ⟨w2, hw, hr10_2, hb, hz⟩ := row_of_alloc w1 58 #[.slice none 0 0]
    rw [← hw]
    clear hw hz
    have g10 := hbx1.lt
    have l8_10 := hr8_1.lt
    have hr8_2 := hr8_1.below hb hr8_1.lt
    have sz2 := hb.size
    have hbx2 := hbx1.below hb hbx1.lt
    have hB2 := hB1.trans (hb.mono hB1.size)
    clear hb
    refine hK.out _ _ ⟨hbx2.cell rfl, hbx2.cell rfl⟩ (fun hHeld => ?_)
    clear hK K
    try simp only [Act.put, lq1, lq2, lq3, lq4, lq5, lq6]
    refine wpAnyH_ready (rs := [4, 9]) (by decide +kernel) (by simp) ?_
    refine (AllReadyH.cons (o := _) rfl (fun K hK => ?_) (AllReadyH.cons (o := _) rfl (fun K hK => ?_) AllReadyH.nil))
    ·refine ifT rfl ?_
     refine oper_make _ _ _ 58 rfl 4 (.bool false) 1 Try.underlying58 Try.infoBool rfl g.nodes.length rfl rfl (by omega) (by omega) ?_
     intro w3 hb hz hr4_3
     clear hz
     have g4 := hbx2.lt
     have l8_4 := hr8_2.lt
     have hr8_3 := hr8_2.below hb hr8_2.lt
     have l10_4 := hr10_2.lt
     have hr10_3 := hr10_2.below hb hr10_2.lt
     have sz3 := hb.size
     have hbx3 := hbx2.below hb hbx2.lt
     have hB3 := hB2.trans (hb.mono hB2.size)
     clear hb
     refine hK.out _ _ ⟨hbx3.cell rfl, hbx3.cell rfl⟩ (fun hHeld => ?_)
     clear hK K
     try simp only [Act.put, lq1, lq2, lq3, lq4, lq5, lq6]
     refine wpAnyH_ready (rs := [9]) (by decide +kernel) (by simp) ?_
     refine (AllReadyH.cons (o := _) rfl (fun K hK => ?_) AllReadyH.nil)
     ·go_simp
      obtain ⟨w4, hw, hr9_4, hb, hz⟩ := row_of_alloc w3 58 #[.slice none 0 0]
      rw [← hw]
      clear hw hz
      have g9 := hbx3.lt
      have l8_9 := hr8_3.lt
      have hr8_4 := hr8_3.below hb hr8_3.lt
      have l10_9 := hr10_3.lt
      have hr10_4 := hr10_3.below hb hr10_3.lt
      have l4_9 := hr4_3.lt
      have hr4_4 := hr4_3.below hb hr4_3.lt
      have sz4 := hb.size
      have hbx4 := hbx3.below hb hbx3.lt
      have hB4 := hB3.trans (hb.mono hB3.size)
      clear hb
      refine hK.out _ _ ⟨hbx4.cell rfl, hbx4.cell rfl⟩ (fun hHeld => ?_)
      clear hK K
      try simp only [Act.put, lq1, lq2, lq3, lq4, lq5, lq6]
      refine wpAnyH_ready (rs := [11]) (by decide +kernel) (by simp) ?_
      refine (AllReadyH.cons (o := _) rfl (fun K hK => ?_) AllReadyH.nil)
      ·have yy := hr9_4.cell (i := 0) rfl
       have ff := hr9_4.frozen 0
       go_simp
       obtain ⟨w5, hw⟩ : ∃ W, W = w4.setCell ⟨w3.heap.size, 0, none⟩ (.slice (some ⟨w2.heap.size, 0, none⟩) g.nodes.length g.nodes.length) := ⟨_, rfl⟩
       rw [← hw]
       have hbx5 : Row w5 _ _ _ := hw ▸ hbx4.other (a := ⟨w3.heap.size, 0, none⟩) (by simp; omega) (.slice (some ⟨w2.heap.size, 0, none⟩) g.nodes.length g.nodes.length)
       have hr8_5 : Row w5 _ _ _ := hw ▸ hr8_4.other (a := ⟨w3.heap.size, 0, none⟩) (by simp; omega) (.slice (some ⟨w2.heap.size, 0, none⟩) g.nodes.length g.nodes.length)
       have hr10_5 : Row w5 _ _ _ := hw ▸ hr10_4.other (a := ⟨w3.heap.size, 0, none⟩) (by simp; omega) (.slice (some ⟨w2.heap.size, 0, none⟩) g.nodes.length g.nodes.length)
       have hr4_5 : Row w5 _ _ _ := hw ▸ hr4_4.other (a := ⟨w3.heap.size, 0, none⟩) (by simp; omega) (.slice (some ⟨w2.heap.size, 0, none⟩) g.nodes.length g.nodes.length)
       have hr9_5 : Row w5 _ _ _ := hw ▸ hr9_4.set 0 (.slice (some ⟨w2.heap.size, 0, none⟩) g.nodes.length g.nodes.length)
       have hB5 := hw ▸ hB4.setCell (p := ⟨w3.heap.size, 0, none⟩) (by simp; omega) (.slice (some ⟨w2.heap.size, 0, none⟩) g.nodes.length g.nodes.length)
       clear hw yy ff
       refine hK.out _ _ ⟨hbx5.cell rfl, hbx5.cell rfl⟩ (fun hHeld => ?_)
       clear hK K
       try simp only [Act.put, lq1, lq2, lq3, lq4, lq5, lq6]
       refine wpAnyH_ready (rs := [12]) (by decide +kernel) (by simp) ?_
       refine (AllReadyH.cons (o := _) rfl (fun K hK => ?_) AllReadyH.nil)
       ·have yy := hr10_5.cell (i := 0) rfl
        have ff := hr10_5.frozen 0
        go_simp
        obtain ⟨w6, hw⟩ : ∃ W, W = w5.setCell ⟨w1.heap.size, 0, none⟩ (.slice (some ⟨w0.heap.size, 0, none⟩) g.infos.length g.infos.length) := ⟨_, rfl⟩
        rw [← hw]
        have hbx6 : Row w6 _ _ _ := hw ▸ hbx5.other (a := ⟨w1.heap.size, 0, none⟩) (by simp; omega) (.slice (some ⟨w0.heap.size, 0, none⟩) g.infos.length g.infos.length)
        have hr8_6 : Row w6 _ _ _ := hw ▸ hr8_5.other (a := ⟨w1.heap.size, 0, none⟩) (by simp; omega) (.slice (some ⟨w0.heap.size, 0, none⟩) g.infos.length g.infos.length)
        have hr10_6 : Row w6 _ _ _ := hw ▸ hr10_5.set 0 (.slice (some ⟨w0.heap.size, 0, none⟩) g.infos.length g.infos.length)
        have hr4_6 : Row w6 _ _ _ := hw ▸ hr4_5.other (a := ⟨w1.heap.size, 0, none⟩) (by simp; omega) (.slice (some ⟨w0.heap.size, 0, none⟩) g.infos.length g.infos.length)
        have hr9_6 : Row w6 _ _ _ := hw ▸ hr9_5.other (a := ⟨w1.heap.size, 0, none⟩) (by simp; omega) (.slice (some ⟨w0.heap.size, 0, none⟩) g.infos.length g.infos.length)
        have hB6 := hw ▸ hB5.setCell (p := ⟨w1.heap.size, 0, none⟩) (by simp; omega) (.slice (some ⟨w0.heap.size, 0, none⟩) g.infos.length g.infos.length)
        clear hw yy ff
        refine hK.out _ _ ⟨hbx6.cell rfl, hbx6.cell rfl⟩ (fun hHeld => ?_)
        clear hK K
        try simp only [Act.put, lq1, lq2, lq3, lq4, lq5, lq6]
        refine wpAnyH_done (by kernel_rfl) ?_ _
        clear hHeld
        go_wp2_with fail
        go_meet
        exact ⟨w3.heap.size, w2.heap.size, w1.heap.size, w0.heap.size, rfl, rfl, hbx6, hr9_6, hr10_6, hr4_6, hr8_6, hB6, g9, g4, g10, g8, by omega, by omega, by omega, by omega, by omega⟩
    ·go_simp
     obtain ⟨w3, hw, hr9_3, hb, hz⟩ := row_of_alloc w2 58 #[.slice none 0 0]
     rw [← hw]
     clear hw hz
     have g9 := hbx2.lt
     have l8_9 := hr8_2.lt
     have hr8_3 := hr8_2.below hb hr8_2.lt
     have l10_9 := hr10_2.lt
     have hr10_3 := hr10_2.below hb hr10_2.lt
     have sz3 := hb.size
     have hbx3 := hbx2.below hb hbx2.lt
     have hB3 := hB2.trans (hb.mono hB2.size)
     clear hb
     refine hK.out _ _ ⟨hbx3.cell rfl, hbx3.cell rfl⟩ (fun hHeld => ?_)
     clear hK K
     try simp only [Act.put, lq1, lq2, lq3, lq4, lq5, lq6]
     refine wpAnyH_ready (rs := [4]) (by decide +kernel) (by simp) ?_
     refine (AllReadyH.cons (o := _) rfl (fun K hK => ?_) AllReadyH.nil)
     ·refine ifT rfl ?_
      refine oper_make _ _ _ 58 rfl 4 (.bool false) 1 Try.underlying58 Try.infoBool rfl g.nodes.length rfl rfl (by omega) (by omega) ?_
      intro w4 hb hz hr4_4
      clear hz
      have g4 := hbx3.lt
      have l8_4 := hr8_3.lt
      have hr8_4 := hr8_3.below hb hr8_3.lt
      have l10_4 := hr10_3.lt
      have hr10_4 := hr10_3.below hb hr10_3.lt
      have l9_4 := hr9_3.lt
      have hr9_4 := hr9_3.below hb hr9_3.lt
      have sz4 := hb.size
      have hbx4 := hbx3.below hb hbx3.lt
      have hB4 := hB3.trans (hb.mono hB3.size)
      clear hb
      refine hK.out _ _ ⟨hbx4.cell rfl, hbx4.cell rfl⟩ (fun hHeld => ?_)
      clear hK K
      try simp only [Act.put, lq1, lq2, lq3, lq4, lq5, lq6]
      refine wpAnyH_ready (rs := [11]) (by decide +kernel) (by simp) ?_
      refine (AllReadyH.cons (o := _) rfl (fun K hK => ?_) AllReadyH.nil)
      ·have yy := hr9_4.cell (i := 0) rfl
       have ff := hr9_4.frozen 0
       go_simp
       obtain ⟨w5, hw⟩ : ∃ W, W = w4.setCell ⟨w2.heap.size, 0, none⟩ (.slice (some ⟨w3.heap.size, 0, none⟩) g.nodes.length g.nodes.length) := ⟨_, rfl⟩
       rw [← hw]
       have hbx5 : Row w5 _ _ _ := hw ▸ hbx4.other (a := ⟨w2.heap.size, 0, none⟩) (by simp; omega) (.slice (some ⟨w3.heap.size, 0, none⟩) g.nodes.length g.nodes.length)
       have hr8_5 : Row w5 _ _ _ := hw ▸ hr8_4.other (a := ⟨w2.heap.size, 0, none⟩) (by simp; omega) (.slice (some ⟨w3.heap.size, 0, none⟩) g.nodes.length g.nodes.length)
       have hr10_5 : Row w5 _ _ _ := hw ▸ hr10_4.other (a := ⟨w2.heap.size, 0, none⟩) (by simp; omega) (.slice (some ⟨w3.heap.size, 0, none⟩) g.nodes.length g.nodes.length)
       have hr9_5 : Row w5 _ _ _ := hw ▸ hr9_4.set 0 (.slice (some ⟨w3.heap.size, 0, none⟩) g.nodes.length g.nodes.length)
       have hr4_5 : Row w5 _ _ _ := hw ▸ hr4_4.other (a := ⟨w2.heap.size, 0, none⟩) (by simp; omega) (.slice (some ⟨w3.heap.size, 0, none⟩) g.nodes.length g.nodes.length)
       have hB5 := hw ▸ hB4.setCell (p := ⟨w2.heap.size, 0, none⟩) (by simp; omega) (.slice (some ⟨w3.heap.size, 0, none⟩) g.nodes.length g.nodes.length)
       clear hw yy ff
       refine hK.out _ _ ⟨hbx5.cell rfl, hbx5.cell rfl⟩ (fun hHeld => ?_)
       clear hK K
       try simp only [Act.put, lq1, lq2, lq3, lq4, lq5, lq6]
       refine wpAnyH_ready (rs := [12]) (by decide +kernel) (by simp) ?_
       refine (AllReadyH.cons (o := _) rfl (fun K hK => ?_) AllReadyH.nil)
       ·have yy := hr10_5.cell (i := 0) rfl
        have ff := hr10_5.frozen 0
        go_simp
        obtain ⟨w6, hw⟩ : ∃ W, W = w5.setCell ⟨w1.heap.size, 0, none⟩ (.slice (some ⟨w0.heap.size, 0, none⟩) g.infos.length g.infos.length) := ⟨_, rfl⟩
        rw [← hw]
        have hbx6 : Row w6 _ _ _ := hw ▸ hbx5.other (a := ⟨w1.heap.size, 0, none⟩) (by simp; omega) (.slice (some ⟨w0.heap.size, 0, none⟩) g.infos.length g.infos.length)
        have hr8_6 : Row w6 _ _ _ := hw ▸ hr8_5.other (a := ⟨w1.heap.size, 0, none⟩) (by simp; omega) (.slice (some ⟨w0.heap.size, 0, none⟩) g.infos.length g.infos.length)
        have hr10_6 : Row w6 _ _ _ := hw ▸ hr10_5.set 0 (.slice (some ⟨w0.heap.size, 0, none⟩) g.infos.length g.infos.length)
        have hr9_6 : Row w6 _ _ _ := hw ▸ hr9_5.other (a := ⟨w1.heap.size, 0, none⟩) (by simp; omega) (.slice (some ⟨w0.heap.size, 0, none⟩) g.infos.length g.infos.length)
        have hr4_6 : Row w6 _ _ _ := hw ▸ hr4_5.other (a := ⟨w1.heap.size, 0, none⟩) (by simp; omega) (.slice (some ⟨w0.heap.size, 0, none⟩) g.infos.length g.infos.length)
        have hB6 := hw ▸ hB5.setCell (p := ⟨w1.heap.size, 0, none⟩) (by simp; omega) (.slice (some ⟨w0.heap.size, 0, none⟩) g.infos.length g.infos.length)
        clear hw yy ff
        refine hK.out _ _ ⟨hbx6.cell rfl, hbx6.cell rfl⟩ (fun hHeld => ?_)
        clear hK K
        try simp only [Act.put, lq1, lq2, lq3, lq4, lq5, lq6]
        refine wpAnyH_done (by kernel_rfl) ?_ _
        clear hHeld
        go_wp2_with fail
        go_meet
        exact ⟨w2.heap.size, w3.heap.size, w1.heap.size, w0.heap.size, rfl, rfl, hbx6, hr9_6, hr10_6, hr4_6, hr8_6, hB6, g9, g4, g10, g8, by omega, by omega, by omega, by omega, by omega⟩
  ·go_simp
   obtain ⟨w1, hw, hr9_1, hb, hz⟩ := row_of_alloc w0 58 #[.slice none 0 0]
   rw [← hw]
   clear hw hz
   have g9 := hbx0.lt
   have sz1 := hb.size
   have hbx1 := hbx0.below hb hbx0.lt
   have hB1 := hB0.trans (hb.mono hB0.size)
   clear hb
   refine hK.out _ _ ⟨hbx1.cell rfl, hbx1.cell rfl⟩ (fun hHeld => ?_)
   clear hK K
   try simp only [Act.put, lq1, lq2, lq3, lq4, lq5, lq6]
   refine wpAnyH_ready (rs := [4, 8, 10]) (by decide +kernel) (by simp) ?_
   refine (AllReadyH.cons (o := _) rfl (fun K hK => ?_) (AllReadyH.cons (o := _) rfl (fun K hK => ?_) (AllReadyH.cons (o := _) rfl (fun K hK => ?_) AllReadyH.nil)))
   ·refine ifT rfl ?_
    refine oper_make _ _ _ 58 rfl 4 (.bool false) 1 Try.underlying58 Try.infoBool rfl g.nodes.length rfl rfl (by omega) (by omega) ?_
    intro w2 hb hz hr4_2
    clear hz
    have g4 := hbx1.lt
    have l9_4 := hr9_1.lt
    have hr9_2 := hr9_1.below hb hr9_1.lt
    have sz2 := hb.size
    have hbx2 := hbx1.below hb hbx1.lt
    have hB2 := hB1.trans (hb.mono hB1.size)
    clear hb
    refine hK.out _ _ ⟨hbx2.cell rfl, hbx2.cell rfl⟩ (fun hHeld => ?_)
    clear hK K
    try simp only [Act.put, lq1, lq2, lq3, lq4, lq5, lq6]
    refine wpAnyH_ready (rs := [8, 10]) (by decide +kernel) (by simp) ?_
    refine (AllReadyH.cons (o := _) rfl (fun K hK => ?_) (AllReadyH.cons (o := _) rfl (fun K hK => ?_) AllReadyH.nil))
    ·refine ifT rfl ?_
     refine oper_make _ _ _ 58 rfl 4 (.bool false) 1 Try.underlying58 Try.infoBool rfl g.infos.length rfl rfl (by omega) (by omega) ?_
     intro w3 hb hz hr8_3
     clear hz
     have g8 := hbx2.lt
     have l9_8 := hr9_2.lt
     have hr9_3 := hr9_2.below hb hr9_2.lt
     have l4_8 := hr4_2.lt
     have hr4_3 := hr4_2.below hb hr4_2.lt
     have sz3 := hb.size
     have hbx3 := hbx2.below hb hbx2.lt
     have hB3 := hB2.trans (hb.mono hB2.size)
     clear hb
     refine hK.out _ _ ⟨hbx3.cell rfl, hbx3.cell rfl⟩ (fun hHeld => ?_)
     clear hK K
     try simp only [Act.put, lq1, lq2, lq3, lq4, lq5, lq6]
     refine wpAnyH_ready (rs := [10]) (by decide +kernel) (by simp) ?_
     refine (AllReadyH.cons (o := _) rfl (fun K hK => ?_) AllReadyH.nil)
     ·go_simp
      obtain ⟨w4, hw, hr10_4, hb, hz⟩ := row_of_alloc w3 58 #[.slice none 0 0]
      rw [← hw]
      clear hw hz
      have g10 := hbx3.lt
      have l9_10 := hr9_3.lt
      have hr9_4 := hr9_3.below hb hr9_3.lt
      have l4_10 := hr4_3.lt
      have hr4_4 := hr4_3.below hb hr4_3.lt
      have l8_10 := hr8_3.lt
      have hr8_4 := hr8_3.below hb hr8_3.lt
      have sz4 := hb.size
      have hbx4 := hbx3.below hb hbx3.lt
      have hB4 := hB3.trans (hb.mono hB3.size)
      clear hb
      refine hK.out _ _ ⟨hbx4.cell rfl, hbx4.cell rfl⟩ (fun hHeld => ?_)
      clear hK K
      try simp only [Act.put, lq1, lq2, lq3, lq4, lq5, lq6]
      refine wpAnyH_ready (rs := [11]) (by decide +kernel) (by simp) ?_
      refine (AllReadyH.cons (o := _) rfl (fun K hK => ?_) AllReadyH.nil)
      ·have yy := hr9_4.cell (i := 0) rfl
       have ff := hr9_4.frozen 0
       go_simp
       obtain ⟨w5, hw⟩ : ∃ W, W = w4.setCell ⟨w0.heap.size, 0, none⟩ (.slice (some ⟨w1.heap.size, 0, none⟩) g.nodes.length g.nodes.length) := ⟨_, rfl⟩
       rw [← hw]
       have hbx5 : Row w5 _ _ _ := hw ▸ hbx4.other (a := ⟨w0.heap.size, 0, none⟩) (by simp; omega) (.slice (some ⟨w1.heap.size, 0, none⟩) g.nodes.length g.nodes.length)
       have hr9_5 : Row w5 _ _ _ := hw ▸ hr9_4.set 0 (.slice (some ⟨w1.heap.size, 0, none⟩) g.nodes.length g.nodes.length)
       have hr4_5 : Row w5 _ _ _ := hw ▸ hr4_4.other (a := ⟨w0.heap.size, 0, none⟩) (by simp; omega) (.slice (some ⟨w1.heap.size, 0, none⟩) g.nodes.length g.nodes.length)
       have hr8_5 : Row w5 _ _ _ := hw ▸ hr8_4.other (a := ⟨w0.heap.size, 0, none⟩) (by simp; omega) (.slice (some ⟨w1.heap.size, 0, none⟩) g.nodes.length g.nodes.length)
       have hr10_5 : Row w5 _ _ _ := hw ▸ hr10_4.other (a := ⟨w0.heap.size, 0, none⟩) (by simp; omega) (.slice (some ⟨w1.heap.size, 0, none⟩) g.nodes.length g.nodes.length)
       have hB5 := hw ▸ hB4.setCell (p := ⟨w0.heap.size, 0, none⟩) (by simp; omega) (.slice (some ⟨w1.heap.size, 0, none⟩) g.nodes.length g.nodes.length)
       clear hw yy ff
       refine hK.out _ _ ⟨hbx5.cell rfl, hbx5.cell rfl⟩ (fun hHeld => ?_)
       clear hK K
       try simp only [Act.put, lq1, lq2, lq3, lq4, lq5, lq6]
       refine wpAnyH_ready (rs := [12]) (by decide +kernel) (by simp) ?_
       refine (AllReadyH.cons (o := _) rfl (fun K hK => ?_) AllReadyH.nil)
       ·have yy := hr10_5.cell (i := 0) rfl
        have ff := hr10_5.frozen 0
        go_simp
        obtain ⟨w6, hw⟩ : ∃ W, W = w5.setCell ⟨w3.heap.size, 0, none⟩ (.slice (some ⟨w2.heap.size, 0, none⟩) g.infos.length g.infos.length) := ⟨_, rfl⟩
        rw [← hw]
        have hbx6 : Row w6 _ _ _ := hw ▸ hbx5.other (a := ⟨w3.heap.size, 0, none⟩) (by simp; omega) (.slice (some ⟨w2.heap.size, 0, none⟩) g.infos.length g.infos.length)
        have hr9_6 : Row w6 _ _ _ := hw ▸ hr9_5.other (a := ⟨w3.heap.size, 0, none⟩) (by simp; omega) (.slice (some ⟨w2.heap.size, 0, none⟩) g.infos.length g.infos.length)
        have hr4_6 : Row w6 _ _ _ := hw ▸ hr4_5.other (a := ⟨w3.heap.size, 0, none⟩) (by simp; omega) (.slice (some ⟨w2.heap.size, 0, none⟩) g.infos.length g.infos.length)
        have hr8_6 : Row w6 _ _ _ := hw ▸ hr8_5.other (a := ⟨w3.heap.size, 0, none⟩) (by simp; omega) (.slice (some ⟨w2.heap.size, 0, none⟩) g.infos.length g.infos.length)
        have hr10_6 : Row w6 _ _ _ := hw ▸ hr10_5.set 0 (.slice (some ⟨w2.heap.size, 0, none⟩) g.infos.length g.infos.length)
        have hB6 := hw ▸ hB5.setCell (p := ⟨w3.heap.size, 0, none⟩) (by simp; omega) (.slice (some ⟨w2.heap.size, 0, none⟩) g.infos.length g.infos.length)
        clear hw yy ff
        refine hK.out _ _ ⟨hbx6.cell rfl, hbx6.cell rfl⟩ (fun hHeld => ?_)
        clear hK K
        try simp only [Act.put, lq1, lq2, lq3, lq4, lq5, lq6]
        refine wpAnyH_done (by kernel_rfl) ?_ _
        clear hHeld
        go_wp2_with fail
        go_meet
        exact ⟨w0.heap.size, w1.heap.size, w3.heap.size, w2.heap.size, rfl, rfl, hbx6, hr9_6, hr10_6, hr4_6, hr8_6, hB6, g9, g4, g10, g8, by omega, by omega, by omega, by omega, by omega⟩
    ·go_simp
     obtain ⟨w3, hw, hr10_3, hb, hz⟩ := row_of_alloc w2 58 #[.slice none 0 0]
     rw [← hw]
     clear hw hz
     have g10 := hbx2.lt
     have l9_10 := hr9_2.lt
     have hr9_3 := hr9_2.below hb hr9_2.lt
     have l4_10 := hr4_2.lt
     have hr4_3 := hr4_2.below hb hr4_2.lt
     have sz3 := hb.size
     have hbx3 := hbx2.below hb hbx2.lt
     have hB3 := hB2.trans (hb.mono hB2.size)
     clear hb
     refine hK.out _ _ ⟨hbx3.cell rfl, hbx3.cell rfl⟩ (fun hHeld => ?_)
     clear hK K
     try simp only [Act.put, lq1, lq2, lq3, lq4, lq5, lq6]
     refine wpAnyH_ready (rs := [8, 11]) (by decide +kernel) (by simp) ?_
     refine (AllReadyH.cons (o := _) rfl (fun K hK => ?_) (AllReadyH.cons (o := _) rfl (fun K hK => ?_) AllReadyH.nil))
     ·refine ifT rfl ?_
      refine oper_make _ _ _ 58 rfl 4 (.bool false) 1 Try.underlying58 Try.infoBool rfl g.infos.length rfl rfl (by omega) (by omega) ?_
      intro w4 hb hz hr8_4
      clear hz
      have g8 := hbx3.lt
      have l9_8 := hr9_3.lt
      have hr9_4 := hr9_3.below hb hr9_3.lt
      have l4_8 := hr4_3.lt
      have hr4_4 := hr4_3.below hb hr4_3.lt
      have l10_8 := hr10_3.lt
      have hr10_4 := hr10_3.below hb hr10_3.lt
      have sz4 := hb.size
      have hbx4 := hbx3.below hb hbx3.lt
      have hB4 := hB3.trans (hb.mono hB3.size)
      clear hb
      refine hK.out _ _ ⟨hbx4.cell rfl, hbx4.cell rfl⟩ (fun hHeld => ?_)
      clear hK K
      try simp only [Act.put, lq1, lq2, lq3, lq4, lq5, lq6]
      refine wpAnyH_ready (rs := [11]) (by decide +kernel) (by simp) ?_
      refine (AllReadyH.cons (o := _) rfl (fun K hK => ?_) AllReadyH.nil)
      ·have yy := hr9_4.cell (i := 0) rfl
       have ff := hr9_4.frozen 0
       go_simp
       obtain ⟨w5, hw⟩ : ∃ W, W = w4.setCell ⟨w0.heap.size, 0, none⟩ (.slice (some ⟨w1.heap.size, 0, none⟩) g.nodes.length g.nodes.length) := ⟨_, rfl⟩
       rw [← hw]
       have hbx5 : Row w5 _ _ _ := hw ▸ hbx4.other (a := ⟨w0.heap.size, 0, none⟩) (by simp; omega) (.slice (some ⟨w1.heap.size, 0, none⟩) g.nodes.length g.nodes.length)
       have hr9_5 : Row w5 _ _ _ := hw ▸ hr9_4.set 0 (.slice (some ⟨w1.heap.size, 0, none⟩) g.nodes.length g.nodes.length)
       have hr4_5 : Row w5 _ _ _ := hw ▸ hr4_4.other (a := ⟨w0.heap.size, 0, none⟩) (by simp; omega) (.slice (some ⟨w1.heap.size, 0, none⟩) g.nodes.length g.nodes.length)
       have hr10_5 : Row w5 _ _ _ := hw ▸ hr10_4.other (a := ⟨w0.heap.size, 0, none⟩) (by simp; omega) (.slice (some ⟨w1.heap.size, 0, none⟩) g.nodes.length g.nodes.length)
       have hr8_5 : Row w5 _ _ _ := hw ▸ hr8_4.other (a := ⟨w0.heap.size, 0, none⟩) (by simp; omega) (.slice (some ⟨w1.heap.size, 0, none⟩) g.nodes.length g.nodes.length)
       have hB5 := hw ▸ hB4.setCell (p := ⟨w0.heap.size, 0, none⟩) (by simp; omega) (.slice (some ⟨w1.heap.size, 0, none⟩) g.nodes.length g.nodes.length)
       clear hw yy ff
       refine hK.out _ _ ⟨hbx5.cell rfl, hbx5.cell rfl⟩ (fun hHeld => ?_)
       clear hK K
       try simp only [Act.put, lq1, lq2, lq3, lq4, lq5, lq6]
       refine wpAnyH_ready (rs := [12]) (by decide +kernel) (by simp) ?_
       refine (AllReadyH.cons (o := _) rfl (fun K hK => ?_) AllReadyH.nil)
       ·have yy := hr10_5.cell (i := 0) rfl
        have ff := hr10_5.frozen 0
        go_simp
        obtain ⟨w6, hw⟩ : ∃ W, W = w5.setCell ⟨w2.heap.size, 0, none⟩ (.slice (some ⟨w3.heap.size, 0, none⟩) g.infos.length g.infos.length) := ⟨_, rfl⟩
        rw [← hw]
        have hbx6 : Row w6 _ _ _ := hw ▸ hbx5.other (a := ⟨w2.heap.size, 0, none⟩) (by simp; omega) (.slice (some ⟨w3.heap.size, 0, none⟩) g.infos.length g.infos.length)
        have hr9_6 : Row w6 _ _ _ := hw ▸ hr9_5.other (a := ⟨w2.heap.size, 0, none⟩) (by simp; omega) (.slice (some ⟨w3.heap.size, 0, none⟩) g.infos.length g.infos.length)
        have hr4_6 : Row w6 _ _ _ := hw ▸ hr4_5.other (a := ⟨w2.heap.size, 0, none⟩) (by simp; omega) (.slice (some ⟨w3.heap.size, 0, none⟩) g.infos.length g.infos.length)
        have hr10_6 : Row w6 _ _ _ := hw ▸ hr10_5.set 0 (.slice (some ⟨w3.heap.size, 0, none⟩) g.infos.length g.infos.length)
        have hr8_6 : Row w6 _ _ _ := hw ▸ hr8_5.other (a := ⟨w2.heap.size, 0, none⟩) (by simp; omega) (.slice (some ⟨w3.heap.size, 0, none⟩) g.infos.length g.infos.length)
        have hB6 := hw ▸ hB5.setCell (p := ⟨w2.heap.size, 0, none⟩) (by simp; omega) (.slice (some ⟨w3.heap.size, 0, none⟩) g.infos.length g.infos.length)
        clear hw yy ff
        refine hK.out _ _ ⟨hbx6.cell rfl, hbx6.cell rfl⟩ (fun hHeld => ?_)
        clear hK K
        try simp only [Act.put, lq1, lq2, lq3, lq4, lq5, lq6]
        refine wpAnyH_done (by kernel_rfl) ?_ _
        clear hHeld
        go_wp2_with fail
        go_meet
        exact ⟨w0.heap.size, w1.heap.size, w2.heap.size, w3.heap.size, rfl, rfl, hbx6, hr9_6, hr10_6, hr4_6, hr8_6, hB6, g9, g4, g10, g8, by omega, by omega, by omega, by omega, by omega⟩
     ·have yy := hr9_3.cell (i := 0) rfl
      have ff := hr9_3.frozen 0
      go_simp
      obtain ⟨w4, hw⟩ : ∃ W, W = w3.setCell ⟨w0.heap.size, 0, none⟩ (.slice (some ⟨w1.heap.size, 0, none⟩) g.nodes.length g.nodes.length) := ⟨_, rfl⟩
      rw [← hw]
      have hbx4 : Row w4 _ _ _ := hw ▸ hbx3.other (a := ⟨w0.heap.size, 0, none⟩) (by simp; omega) (.slice (some ⟨w1.heap.size, 0, none⟩) g.nodes.length g.nodes.length)
      have hr9_4 : Row w4 _ _ _ := hw ▸ hr9_3.set 0 (.slice (some ⟨w1.heap.size, 0, none⟩) g.nodes.length g.nodes.length)
      have hr4_4 : Row w4 _ _ _ := hw ▸ hr4_3.other (a := ⟨w0.heap.size, 0, none⟩) (by simp; omega) (.slice (some ⟨w1.heap.size, 0, none⟩) g.nodes.length g.nodes.length)
      have hr10_4 : Row w4 _ _ _ := hw ▸ hr10_3.other (a := ⟨w0.heap.size, 0, none⟩) (by simp; omega) (.slice (some ⟨w1.heap.size, 0, none⟩) g.nodes.length g.nodes.length)
      have hB4 := hw ▸ hB3.setCell (p := ⟨w0.heap.size, 0, none⟩) (by simp; omega) (.slice (some ⟨w1.heap.size, 0, none⟩) g.nodes.length g.nodes.length)
      clear hw yy ff
      refine hK.out _ _ ⟨hbx4.cell rfl, hbx4.cell rfl⟩ (fun hHeld => ?_)
      clear hK K
      try simp only [Act.put, lq1, lq2, lq3, lq4, lq5, lq6]
      refine wpAnyH_ready (rs := [8]) (by decide +kernel) (by simp) ?_
      refine (AllReadyH.cons (o := _) rfl (fun K hK => ?_) AllReadyH.nil)
      ·refine ifT rfl ?_
       refine oper_make _ _ _ 58 rfl 4 (.bool false) 1 Try.underlying58 Try.infoBool rfl g.infos.length rfl rfl (by omega) (by omega) ?_
       intro w5 hb hz hr8_5
       clear hz
       have g8 := hbx4.lt
       have l9_8 := hr9_4.lt
       have hr9_5 := hr9_4.below hb hr9_4.lt
       have l4_8 := hr4_4.lt
       have hr4_5 := hr4_4.below hb hr4_4.lt
       have l10_8 := hr10_4.lt
       have hr10_5 := hr10_4.below hb hr10_4.lt
       have sz5 := hb.size
       have hbx5 := hbx4.below hb hbx4.lt
       have hB5 := hB4.trans (hb.mono hB4.size)
       clear hb
       refine hK.out _ _ ⟨hbx5.cell rfl, hbx5.cell rfl⟩ (fun hHeld => ?_)
       clear hK K
       try simp only [Act.put, lq1, lq2, lq3, lq4, lq5, lq6]
       refine wpAnyH_ready (rs := [12]) (by decide +kernel) (by simp) ?_
       refine (AllReadyH.cons (o := _) rfl (fun K hK => ?_) AllReadyH.nil)
       ·have yy := hr10_5.cell (i := 0) rfl
        have ff := hr10_5.frozen 0
        go_simp
        obtain ⟨w6, hw⟩ : ∃ W, W = w5.setCell ⟨w2.heap.size, 0, none⟩ (.slice (some ⟨w4.heap.size, 0, none⟩) g.infos.length g.infos.length) := ⟨_, rfl⟩
        rw [← hw]
        have hbx6 : Row w6 _ _ _ := hw ▸ hbx5.other (a := ⟨w2.heap.size, 0, none⟩) (by simp; omega) (.slice (some ⟨w4.heap.size, 0, none⟩) g.infos.length g.infos.length)
        have hr9_6 : Row w6 _ _ _ := hw ▸ hr9_5.other (a := ⟨w2.heap.size, 0, none⟩) (by simp; omega) (.slice (some ⟨w4.heap.size, 0, none⟩) g.infos.length g.infos.length)
        have hr4_6 : Row w6 _ _ _ := hw ▸ hr4_5.other (a := ⟨w2.heap.size, 0, none⟩) (by simp; omega) (.slice (some ⟨w4.heap.size, 0, none⟩) g.infos.length g.infos.length)
        have hr10_6 : Row w6 _ _ _ := hw ▸ hr10_5.set 0 (.slice (some ⟨w4.heap.size, 0, none⟩) g.infos.length g.infos.length)
        have hr8_6 : Row w6 _ _ _ := hw ▸ hr8_5.other (a := ⟨w2.heap.size, 0, none⟩) (by simp; omega) (.slice (some ⟨w4.heap.size, 0, none⟩) g.infos.length g.infos.length)
        have hB6 := hw ▸ hB5.setCell (p := ⟨w2.heap.size, 0, none⟩) (by simp; omega) (.slice (some ⟨w4.heap.size, 0, none⟩) g.infos.length g.infos.length)
        clear hw yy ff
        refine hK.out _ _ ⟨hbx6.cell rfl, hbx6.cell rfl⟩ (fun hHeld => ?_)
        clear hK K
        try simp only [Act.put, lq1, lq2, lq3, lq4, lq5, lq6]
        refine wpAnyH_done (by kernel_rfl) ?_ _
        clear hHeld
        go_wp2_with fail
        go_meet
        exact ⟨w0.heap.size, w1.heap.size, w2.heap.size, w4.heap.size, rfl, rfl, hbx6, hr9_6, hr10_6, hr4_6, hr8_6, hB6, g9, g4, g10, g8, by omega, by omega, by omega, by omega, by omega⟩
   ·refine ifT rfl ?_
    refine oper_make _ _ _ 58 rfl 4 (.bool false) 1 Try.underlying58 Try.infoBool rfl g.infos.length rfl rfl (by omega) (by omega) ?_
    intro w2 hb hz hr8_2
    clear hz
    have g8 := hbx1.lt
    have l9_8 := hr9_1.lt
    have hr9_2 := hr9_1.below hb hr9_1.lt
    have sz2 := hb.size
    have hbx2 := hbx1.below hb hbx1.lt
    have hB2 := hB1.trans (hb.mono hB1.size)
    clear hb
    refine hK.out _ _ ⟨hbx2.cell rfl, hbx2.cell rfl⟩ (fun hHeld => ?_)
    clear hK K
    try simp only [Act.put, lq1, lq2, lq3, lq4, lq5, lq6]
    refine wpAnyH_ready (rs := [4, 10]) (by decide +kernel) (by simp) ?_
    refine (AllReadyH.cons (o := _) rfl (fun K hK => ?_) (AllReadyH.cons (o := _) rfl (fun K hK => ?_) AllReadyH.nil))
    ·refine ifT rfl ?_
     refine oper_make _ _ _ 58 rfl 4 (.bool false) 1 Try.underlying58 Try.infoBool rfl g.nodes.length rfl rfl (by omega) (by omega) ?_
     intro w3 hb hz hr4_3
     clear hz
     have g4 := hbx2.lt
     have l9_4 := hr9_2.lt
     have hr9_3 := hr9_2.below hb hr9_2.lt
     have l8_4 := hr8_2.lt
     have hr8_3 := hr8_2.below hb hr8_2.lt
     have sz3 := hb.size
     have hbx3 := hbx2.below hb hbx2.lt
     have hB3 := hB2.trans (hb.mono hB2.size)
     clear hb
     refine hK.out _ _ ⟨hbx3.cell rfl, hbx3.cell rfl⟩ (fun hHeld => ?_)
     clear hK K
     try simp only [Act.put, lq1, lq2, lq3, lq4, lq5, lq6]
     refine wpAnyH_ready (rs := [10]) (by decide +kernel) (by simp) ?_
     refine (AllReadyH.cons (o := _) rfl (fun K hK => ?_) AllReadyH.nil)
     ·go_simp
      obtain ⟨w4, hw, hr10_4, hb, hz⟩ := row_of_alloc w3 58 #[.slice none 0 0]
      rw [← hw]
      clear hw hz
      have g10 := hbx3.lt
      have l9_10 := hr9_3.lt
      have hr9_4 := hr9_3.below hb hr9_3.lt
      have l8_10 := hr8_3.lt
      have hr8_4 := hr8_3.below hb hr8_3.lt
      have l4_10 := hr4_3.lt
      have hr4_4 := hr4_3.below hb hr4_3.lt
      have sz4 := hb.size
      have hbx4 := hbx3.below hb hbx3.lt
      have hB4 := hB3.trans (hb.mono hB3.size)
      clear hb
      refine hK.out _ _ ⟨hbx4.cell rfl, hbx4.cell rfl⟩ (fun hHeld => ?_)
      clear hK K
      try simp only [Act.put, lq1, lq2, lq3, lq4, lq5, lq6]
      refine wpAnyH_ready (rs := [11]) (by decide +kernel) (by simp) ?_
      refine (AllReadyH.cons (o := _) rfl (fun K hK => ?_) AllReadyH.nil)
      ·have yy := hr9_4.cell (i := 0) rfl
       have ff := hr9_4.frozen 0
       go_simp
       obtain ⟨w5, hw⟩ : ∃ W, W = w4.setCell ⟨w0.heap.size, 0, none⟩ (.slice (some ⟨w2.heap.size, 0, none⟩) g.nodes.length g.nodes.length) := ⟨_, rfl⟩
       rw [← hw]
       have hbx5 : Row w5 _ _ _ := hw ▸ hbx4.other (a := ⟨w0.heap.size, 0, none⟩) (by simp; omega) (.slice (some ⟨w2.heap.size, 0, none⟩) g.nodes.length g.nodes.length)
       have hr9_5 : Row w5 _ _ _ := hw ▸ hr9_4.set 0 (.slice (some ⟨w2.heap.size, 0, none⟩) g.nodes.length g.nodes.length)
       have hr8_5 : Row w5 _ _ _ := hw ▸ hr8_4.other (a := ⟨w0.heap.size, 0, none⟩) (by simp; omega) (.slice (some ⟨w2.heap.size, 0, none⟩) g.nodes.length g.nodes.length)
       have hr4_5 : Row w5 _ _ _ := hw ▸ hr4_4.other (a := ⟨w0.heap.size, 0, none⟩) (by simp; omega) (.slice (some ⟨w2.heap.size, 0, none⟩) g.nodes.length g.nodes.length)
       have hr10_5 : Row w5 _ _ _ := hw ▸ hr10_4.other (a := ⟨w0.heap.size, 0, none⟩) (by simp; omega) (.slice (some ⟨w2.heap.size, 0, none⟩) g.nodes.length g.nodes.length)
       have hB5 := hw ▸ hB4.setCell (p := ⟨w0.heap.size, 0, none⟩) (by simp; omega) (.slice (some ⟨w2.heap.size, 0, none⟩) g.nodes.length g.nodes.length)
       clear hw yy ff
       refine hK.out _ _ ⟨hbx5.cell rfl, hbx5.cell rfl⟩ (fun hHeld => ?_)
       clear hK K
       try simp only [Act.put, lq1, lq2, lq3, lq4, lq5, lq6]
       refine wpAnyH_ready (rs := [12]) (by decide +kernel) (by simp) ?_
       refine (AllReadyH.cons (o := _) rfl (fun K hK => ?_) AllReadyH.nil)
       ·have yy := hr10_5.cell (i := 0) rfl
        have ff := hr10_5.frozen 0
        go_simp
        obtain ⟨w6, hw⟩ : ∃ W, W = w5.setCell ⟨w3.heap.size, 0, none⟩ (.slice (some ⟨w1.heap.size, 0, none⟩) g.infos.length g.infos.length) := ⟨_, rfl⟩
        rw [← hw]
        have hbx6 : Row w6 _ _ _ := hw ▸ hbx5.other (a := ⟨w3.heap.size, 0, none⟩) (by simp; omega) (.slice (some ⟨w1.heap.size, 0, none⟩) g.infos.length g.infos.length)
        have hr9_6 : Row w6 _ _ _ := hw ▸ hr9_5.other (a := ⟨w3.heap.size, 0, none⟩) (by simp; omega) (.slice (some ⟨w1.heap.size, 0, none⟩) g.infos.length g.infos.length)
        have hr8_6 : Row w6 _ _ _ := hw ▸ hr8_5.other (a := ⟨w3.heap.size, 0, none⟩) (by simp; omega) (.slice (some ⟨w1.heap.size, 0, none⟩) g.infos.length g.infos.length)
        have hr4_6 : Row w6 _ _ _ := hw ▸ hr4_5.other (a := ⟨w3.heap.size, 0, none⟩) (by simp; omega) (.slice (some ⟨w1.heap.size, 0, none⟩) g.infos.length g.infos.length)
        have hr10_6 : Row w6 _ _ _ := hw ▸ hr10_5.set 0 (.slice (some ⟨w1.heap.size, 0, none⟩) g.infos.length g.infos.length)
        have hB6 := hw ▸ hB5.setCell (p := ⟨w3.heap.size, 0, none⟩) (by simp; omega) (.slice (some ⟨w1.heap.size, 0, none⟩) g.infos.length g.infos.length)
        clear hw yy ff
        refine hK.out _ _ ⟨hbx6.cell rfl, hbx6.cell rfl⟩ (fun hHeld => ?_)
        clear hK K
        try simp only [Act.put, lq1, lq2, lq3, lq4, lq5, lq6]
        refine wpAnyH_done (by kernel_rfl) ?_ _
        clear hHeld
        go_wp2_with fail
        go_meet
        exact ⟨w0.heap.size, w2.heap.size, w3.heap.size, w1.heap.size, rfl, rfl, hbx6, hr9_6, hr10_6, hr4_6, hr8_6, hB6, g9, g4, g10, g8, by omega, by omega, by omega, by omega, by omega⟩
    ·go_simp
     obtain ⟨w3, hw, hr10_3, hb, hz⟩ := row_of_alloc w2 58 #[.slice none 0 0]
     rw [← hw]
     clear hw hz
     have g10 := hbx2.lt
     have l9_10 := hr9_2.lt
     have hr9_3 := hr9_2.below hb hr9_2.lt
     have l8_10 := hr8_2.lt
     have hr8_3 := hr8_2.below hb hr8_2.lt
     have sz3 := hb.size
     have hbx3 := hbx2.below hb hbx2.lt
     have hB3 := hB2.trans (hb.mono hB2.size)
     clear hb
     refine hK.out _ _ ⟨hbx3.cell rfl, hbx3.cell rfl⟩ (fun hHeld => ?_)
     clear hK K
     try simp only [Act.put, lq1, lq2, lq3, lq4, lq5, lq6]
     refine wpAnyH_ready (rs := [4]) (by decide +kernel) (by simp) ?_
     refine (AllReadyH.cons (o := _) rfl (fun K hK => ?_) AllReadyH.nil)
     ·refine ifT rfl ?_
      refine oper_make _ _ _ 58 rfl 4 (.bool false) 1 Try.underlying58 Try.infoBool rfl g.nodes.length rfl rfl (by omega) (by omega) ?_
      intro w4 hb hz hr4_4
      clear hz
      have g4 := hbx3.lt
      have l9_4 := hr9_3.lt
      have hr9_4 := hr9_3.below hb hr9_3.lt
      have l8_4 := hr8_3.lt
      have hr8_4 := hr8_3.below hb hr8_3.lt
      have l10_4 := hr10_3.lt
      have hr10_4 := hr10_3.below hb hr10_3.lt
      have sz4 := hb.size
      have hbx4 := hbx3.below hb hbx3.lt
      have hB4 := hB3.trans (hb.mono hB3.size)
      clear hb
      refine hK.out _ _ ⟨hbx4.cell rfl, hbx4.cell rfl⟩ (fun hHeld => ?_)
      clear hK K
      try simp only [Act.put, lq1, lq2, lq3, lq4, lq5, lq6]
      refine wpAnyH_ready (rs := [11]) (by decide +kernel) (by simp) ?_
      refine (AllReadyH.cons (o := _) rfl (fun K hK => ?_) AllReadyH.nil)
      ·have yy := hr9_4.cell (i := 0) rfl
       have ff := hr9_4.frozen 0
       go_simp
       obtain ⟨w5, hw⟩ : ∃ W, W = w4.setCell ⟨w0.heap.size, 0, none⟩ (.slice (some ⟨w3.heap.size, 0, none⟩) g.nodes.length g.nodes.length) := ⟨_, rfl⟩
       rw [← hw]
       have hbx5 : Row w5 _ _ _ := hw ▸ hbx4.other (a := ⟨w0.heap.size, 0, none⟩) (by simp; omega) (.slice (some ⟨w3.heap.size, 0, none⟩) g.nodes.length g.nodes.length)
       have hr9_5 : Row w5 _ _ _ := hw ▸ hr9_4.set 0 (.slice (some ⟨w3.heap.size, 0, none⟩) g.nodes.length g.nodes.length)
       have hr8_5 : Row w5 _ _ _ := hw ▸ hr8_4.other (a := ⟨w0.heap.size, 0, none⟩) (by simp; omega) (.slice (some ⟨w3.heap.size, 0, none⟩) g.nodes.length g.nodes.length)
       have hr10_5 : Row w5 _ _ _ := hw ▸ hr10_4.other (a := ⟨w0.heap.size, 0, none⟩) (by simp; omega) (.slice (some ⟨w3.heap.size, 0, none⟩) g.nodes.length g.nodes.length)
       have hr4_5 : Row w5 _ _ _ := hw ▸ hr4_4.other (a := ⟨w0.heap.size, 0, none⟩) (by simp; omega) (.slice (some ⟨w3.heap.size, 0, none⟩) g.nodes.length g.nodes.length)
       have hB5 := hw ▸ hB4.setCell (p := ⟨w0.heap.size, 0, none⟩) (by simp; omega) (.slice (some ⟨w3.heap.size, 0, none⟩) g.nodes.length g.nodes.length)
       clear hw yy ff
       refine hK.out _ _ ⟨hbx5.cell rfl, hbx5.cell rfl⟩ (fun hHeld => ?_)
       clear hK K
       try simp only [Act.put, lq1, lq2, lq3, lq4, lq5, lq6]
       refine wpAnyH_ready (rs := [12]) (by decide +kernel) (by simp) ?_
       refine (AllReadyH.cons (o := _) rfl (fun K hK => ?_) AllReadyH.nil)
       ·have yy := hr10_5.cell (i := 0) rfl
        have ff := hr10_5.frozen 0
        go_simp
        obtain ⟨w6, hw⟩ : ∃ W, W = w5.setCell ⟨w2.heap.size, 0, none⟩ (.slice (some ⟨w1.heap.size, 0, none⟩) g.infos.length g.infos.length) := ⟨_, rfl⟩
        rw [← hw]
        have hbx6 : Row w6 _ _ _ := hw ▸ hbx5.other (a := ⟨w2.heap.size, 0, none⟩) (by simp; omega) (.slice (some ⟨w1.heap.size, 0, none⟩) g.infos.length g.infos.length)
        have hr9_6 : Row w6 _ _ _ := hw ▸ hr9_5.other (a := ⟨w2.heap.size, 0, none⟩) (by simp; omega) (.slice (some ⟨w1.heap.size, 0, none⟩) g.infos.length g.infos.length)
        have hr8_6 : Row w6 _ _ _ := hw ▸ hr8_5.other (a := ⟨w2.heap.size, 0, none⟩) (by simp; omega) (.slice (some ⟨w1.heap.size, 0, none⟩) g.infos.length g.infos.length)
        have hr10_6 : Row w6 _ _ _ := hw ▸ hr10_5.set 0 (.slice (some ⟨w1.heap.size, 0, none⟩) g.infos.length g.infos.length)
        have hr4_6 : Row w6 _ _ _ := hw ▸ hr4_5.other (a := ⟨w2.heap.size, 0, none⟩) (by simp; omega) (.slice (some ⟨w1.heap.size, 0, none⟩) g.infos.length g.infos.length)
        have hB6 := hw ▸ hB5.setCell (p := ⟨w2.heap.size, 0, none⟩) (by simp; omega) (.slice (some ⟨w1.heap.size, 0, none⟩) g.infos.length g.infos.length)
        clear hw yy ff
        refine hK.out _ _ ⟨hbx6.cell rfl, hbx6.cell rfl⟩ (fun hHeld => ?_)
        clear hK K
        try simp only [Act.put, lq1, lq2, lq3, lq4, lq5, lq6]
        refine wpAnyH_done (by kernel_rfl) ?_ _
        clear hHeld
        go_wp2_with fail
        go_meet
        exact ⟨w0.heap.size, w3.heap.size, w2.heap.size, w1.heap.size, rfl, rfl, hbx6, hr9_6, hr10_6, hr4_6, hr8_6, hB6, g9, g4, g10, g8, by omega, by omega, by omega, by omega, by omega⟩
   ·go_simp
    obtain ⟨w2, hw, hr10_2, hb, hz⟩ := row_of_alloc w1 58 #[.slice none 0 0]
    rw [← hw]
    clear hw hz
    have g10 := hbx1.lt
    have l9_10 := hr9_1.lt
    have hr9_2 := hr9_1.below hb hr9_1.lt
    have sz2 := hb.size
    have hbx2 := hbx1.below hb hbx1.lt
    have hB2 := hB1.trans (hb.mono hB1.size)
    clear hb
    refine hK.out _ _ ⟨hbx2.cell rfl, hbx2.cell rfl⟩ (fun hHeld => ?_)
    clear hK K
    try simp only [Act.put, lq1, lq2, lq3, lq4, lq5, lq6]
    refine wpAnyH_ready (rs := [4, 8]) (by decide +kernel) (by simp) ?_
    refine (AllReadyH.cons (o := _) rfl (fun K hK => ?_) (AllReadyH.cons (o := _) rfl (fun K hK => ?_) AllReadyH.nil))
    ·refine ifT rfl ?_
     refine oper_make _ _ _ 58 rfl 4 (.bool false) 1 Try.underlying58 Try.infoBool rfl g.nodes.length rfl rfl (by omega) (by omega) ?_
     intro w3 hb hz hr4_3
     clear hz
     have g4 := hbx2.lt
     have l9_4 := hr9_2.lt
     have hr9_3 := hr9_2.below hb hr9_2.lt
     have l10_4 := hr10_2.lt
     have hr10_3 := hr10_2.below hb hr10_2.lt
     have sz3 := hb.size
     have hbx3 := hbx2.below hb hbx2.lt
     have hB3 := hB2.trans (hb.mono hB2.size)
     clear hb
     refine hK.out _ _ ⟨hbx3.cell rfl, hbx3.cell rfl⟩ (fun hHeld => ?_)
     clear hK K
     try simp only [Act.put, lq1, lq2, lq3, lq4, lq5, lq6]
     refine wpAnyH_ready (rs := [8, 11]) (by decide +kernel) (by simp) ?_
     refine (AllReadyH.cons (o := _) rfl (fun K hK => ?_) (AllReadyH.cons (o := _) rfl (fun K hK => ?_) AllReadyH.nil))
     ·refine ifT rfl ?_
      refine oper_make _ _ _ 58 rfl 4 (.bool false) 1 Try.underlying58 Try.infoBool rfl g.infos.length rfl rfl (by omega) (by omega) ?_
      intro w4 hb hz hr8_4
      clear hz
      have g8 := hbx3.lt
      have l9_8 := hr9_3.lt
      have hr9_4 := hr9_3.below hb hr9_3.lt
      have l10_8 := hr10_3.lt
      have hr10_4 := hr10_3.below hb hr10_3.lt
      have l4_8 := hr4_3.lt
      have hr4_4 := hr4_3.below hb hr4_3.lt
      have sz4 := hb.size
      have hbx4 := hbx3.below hb hbx3.lt
      have hB4 := hB3.trans (hb.mono hB3.size)
      clear hb
      refine hK.out _ _ ⟨hbx4.cell rfl, hbx4.cell rfl⟩ (fun hHeld => ?_)
      clear hK K
      try simp only [Act.put, lq1, lq2, lq3, lq4, lq5, lq6]
      refine wpAnyH_ready (rs := [11]) (by decide +kernel) (by simp) ?_
      refine (AllReadyH.cons (o := _) rfl (fun K hK => ?_) AllReadyH.nil)
      ·have yy := hr9_4.cell (i := 0) rfl
       have ff := hr9_4.frozen 0
       go_simp
       obtain ⟨w5, hw⟩ : ∃ W, W = w4.setCell ⟨w0.heap.size, 0, none⟩ (.slice (some ⟨w2.heap.size, 0, none⟩) g.nodes.length g.nodes.length) := ⟨_, rfl⟩
       rw [← hw]
       have hbx5 : Row w5 _ _ _ := hw ▸ hbx4.other (a := ⟨w0.heap.size, 0, none⟩) (by simp; omega) (.slice (some ⟨w2.heap.size, 0, none⟩) g.nodes.length g.nodes.length)
       have hr9_5 : Row w5 _ _ _ := hw ▸ hr9_4.set 0 (.slice (some ⟨w2.heap.size, 0, none⟩) g.nodes.length g.nodes.length)
       have hr10_5 : Row w5 _ _ _ := hw ▸ hr10_4.other (a := ⟨w0.heap.size, 0, none⟩) (by simp; omega) (.slice (some ⟨w2.heap.size, 0, none⟩) g.nodes.length g.nodes.length)
       have hr4_5 : Row w5 _ _ _ := hw ▸ hr4_4.other (a := ⟨w0.heap.size, 0, none⟩) (by simp; omega) (.slice (some ⟨w2.heap.size, 0, none⟩) g.nodes.length g.nodes.length)
       have hr8_5 : Row w5 _ _ _ := hw ▸ hr8_4.other (a := ⟨w0.heap.size, 0, none⟩) (by simp; omega) (.slice (some ⟨w2.heap.size, 0, none⟩) g.nodes.length g.nodes.length)
       have hB5 := hw ▸ hB4.setCell (p := ⟨w0.heap.size, 0, none⟩) (by simp; omega) (.slice (some ⟨w2.heap.size, 0, none⟩) g.nodes.length g.nodes.length)
       clear hw yy ff
       refine hK.out _ _ ⟨hbx5.cell rfl, hbx5.cell rfl⟩ (fun hHeld => ?_)
       clear hK K
       try simp only [Act.put, lq1, lq2, lq3, lq4, lq5, lq6]
       refine wpAnyH_ready (rs := [12]) (by decide +kernel) (by simp) ?_
       refine (AllReadyH.cons (o := _) rfl (fun K hK => ?_) AllReadyH.nil)
       ·have yy := hr10_5.cell (i := 0) rfl
        have ff := hr10_5.frozen 0
        go_simp
        obtain ⟨w6, hw⟩ : ∃ W, W = w5.setCell ⟨w1.heap.size, 0, none⟩ (.slice (some ⟨w3.heap.size, 0, none⟩) g.infos.length g.infos.length) := ⟨_, rfl⟩
        rw [← hw]
        have hbx6 : Row w6 _ _ _ := hw ▸ hbx5.other (a := ⟨w1.heap.size, 0, none⟩) (by simp; omega) (.slice (some ⟨w3.heap.size, 0, none⟩) g.infos.length g.infos.length)
        have hr9_6 : Row w6 _ _ _ := hw ▸ hr9_5.other (a := ⟨w1.heap.size, 0, none⟩) (by simp; omega) (.slice (some ⟨w3.heap.size, 0, none⟩) g.infos.length g.infos.length)
        have hr10_6 : Row w6 _ _ _ := hw ▸ hr10_5.set 0 (.slice (some ⟨w3.heap.size, 0, none⟩) g.infos.length g.infos.length)
        have hr4_6 : Row w6 _ _ _ := hw ▸ hr4_5.other (a := ⟨w1.heap.size, 0, none⟩) (by simp; omega) (.slice (some ⟨w3.heap.size, 0, none⟩) g.infos.length g.infos.length)
        have hr8_6 : Row w6 _ _ _ := hw ▸ hr8_5.other (a := ⟨w1.heap.size, 0, none⟩) (by simp; omega) (.slice (some ⟨w3.heap.size, 0, none⟩) g.infos.length g.infos.length)
        have hB6 := hw ▸ hB5.setCell (p := ⟨w1.heap.size, 0, none⟩) (by simp; omega) (.slice (some ⟨w3.heap.size, 0, none⟩) g.infos.length g.infos.length)
        clear hw yy ff
        refine hK.out _ _ ⟨hbx6.cell rfl, hbx6.cell rfl⟩ (fun hHeld => ?_)
        clear hK K
        try simp only [Act.put, lq1, lq2, lq3, lq4, lq5, lq6]
        refine wpAnyH_done (by kernel_rfl) ?_ _
        clear hHeld
        go_wp2_with fail
        go_meet
        exact ⟨w0.heap.size, w2.heap.size, w1.heap.size, w3.heap.size, rfl, rfl, hbx6, hr9_6, hr10_6, hr4_6, hr8_6, hB6, g9, g4, g10, g8, by omega, by omega, by omega, by omega, by omega⟩
     ·have yy := hr9_3.cell (i := 0) rfl
      have ff := hr9_3.frozen 0
      go_simp
      obtain ⟨w4, hw⟩ : ∃ W, W = w3.setCell ⟨w0.heap.size, 0, none⟩ (.slice (some ⟨w2.heap.size, 0, none⟩) g.nodes.length g.nodes.length) := ⟨_, rfl⟩
      rw [← hw]
      have hbx4 : Row w4 _ _ _ := hw ▸ hbx3.other (a := ⟨w0.heap.size, 0, none⟩) (by simp; omega) (.slice (some ⟨w2.heap.size, 0, none⟩) g.nodes.length g.nodes.length)
      have hr9_4 : Row w4 _ _ _ := hw ▸ hr9_3.set 0 (.slice (some ⟨w2.heap.size, 0, none⟩) g.nodes.length g.nodes.length)
      have hr10_4 : Row w4 _ _ _ := hw ▸ hr10_3.other (a := ⟨w0.heap.size, 0, none⟩) (by simp; omega) (.slice (some ⟨w2.heap.size, 0, none⟩) g.nodes.length g.nodes.length)
      have hr4_4 : Row w4 _ _ _ := hw ▸ hr4_3.other (a := ⟨w0.heap.size, 0, none⟩) (by simp; omega) (.slice (some ⟨w2.heap.size, 0, none⟩) g.nodes.length g.nodes.length)
      have hB4 := hw ▸ hB3.setCell (p := ⟨w0.heap.size, 0, none⟩) (by simp; omega) (.slice (some ⟨w2.heap.size, 0, none⟩) g.nodes.length g.nodes.length)
      clear hw yy ff
      refine hK.out _ _ ⟨hbx4.cell rfl, hbx4.cell rfl⟩ (fun hHeld => ?_)
      clear hK K
      try simp only [Act.put, lq1, lq2, lq3, lq4, lq5, lq6]
      refine wpAnyH_ready (rs := [8]) (by decide +kernel) (by simp) ?_
      refine (AllReadyH.cons (o := _) rfl (fun K hK => ?_) AllReadyH.nil)
      ·refine ifT rfl ?_
       refine oper_make _ _ _ 58 rfl 4 (.bool false) 1 Try.underlying58 Try.infoBool rfl g.infos.length rfl rfl (by omega) (by omega) ?_
       intro w5 hb hz hr8_5
       clear hz
       have g8 := hbx4.lt
       have l9_8 := hr9_4.lt
       have hr9_5 := hr9_4.below hb hr9_4.lt
       have l10_8 := hr10_4.lt
       have hr10_5 := hr10_4.below hb hr10_4.lt
       have l4_8 := hr4_4.lt
       have hr4_5 := hr4_4.below hb hr4_4.lt
       have sz5 := hb.size
       have hbx5 := hbx4.below hb hbx4.lt
       have hB5 := hB4.trans (hb.mono hB4.size)
       clear hb
       refine hK.out _ _ ⟨hbx5.cell rfl, hbx5.cell rfl⟩ (fun hHeld => ?_)
       clear hK K
       try simp only [Act.put, lq1, lq2, lq3, lq4, lq5, lq6]
       refine wpAnyH_ready (rs := [12]) (by decide +kernel) (by simp) ?_
       refine (AllReadyH.cons (o := _) rfl (fun K hK => ?_) AllReadyH.nil)
       ·have yy := hr10_5.cell (i := 0) rfl
        have ff := hr10_5.frozen 0
        go_simp
        obtain ⟨w6, hw⟩ : ∃ W, W = w5.setCell ⟨w1.heap.size, 0, none⟩ (.slice (some ⟨w4.heap.size, 0, none⟩) g.infos.length g.infos.length) := ⟨_, rfl⟩
        rw [← hw]
        have hbx6 : Row w6 _ _ _ := hw ▸ hbx5.other (a := ⟨w1.heap.size, 0, none⟩) (by simp; omega) (.slice (some ⟨w4.heap.size, 0, none⟩) g.infos.length g.infos.length)
        have hr9_6 : Row w6 _ _ _ := hw ▸ hr9_5.other (a := ⟨w1.heap.size, 0, none⟩) (by simp; omega) (.slice (some ⟨w4.heap.size, 0, none⟩) g.infos.length g.infos.length)
        have hr10_6 : Row w6 _ _ _ := hw ▸ hr10_5.set 0 (.slice (some ⟨w4.heap.size, 0, none⟩) g.infos.length g.infos.length)
        have hr4_6 : Row w6 _ _ _ := hw ▸ hr4_5.other (a := ⟨w1.heap.size, 0, none⟩) (by simp; omega) (.slice (some ⟨w4.heap.size, 0, none⟩) g.infos.length g.infos.length)
        have hr8_6 : Row w6 _ _ _ := hw ▸ hr8_5.other (a := ⟨w1.heap.size, 0, none⟩) (by simp; omega) (.slice (some ⟨w4.heap.size, 0, none⟩) g.infos.length g.infos.length)
        have hB6 := hw ▸ hB5.setCell (p := ⟨w1.heap.size, 0, none⟩) (by simp; omega) (.slice (some ⟨w4.heap.size, 0, none⟩) g.infos.length g.infos.length)
        clear hw yy ff
        refine hK.out _ _ ⟨hbx6.cell rfl, hbx6.cell rfl⟩ (fun hHeld => ?_)
        clear hK K
        try simp only [Act.put, lq1, lq2, lq3, lq4, lq5, lq6]
        refine wpAnyH_done (by kernel_rfl) ?_ _
        clear hHeld
        go_wp2_with fail
        go_meet
        exact ⟨w0.heap.size, w2.heap.size, w1.heap.size, w4.heap.size, rfl, rfl, hbx6, hr9_6, hr10_6, hr4_6, hr8_6, hB6, g9, g4, g10, g8, by omega, by omega, by omega, by omega, by omega⟩
    ·refine ifT rfl ?_
     refine oper_make _ _ _ 58 rfl 4 (.bool false) 1 Try.underlying58 Try.infoBool rfl g.infos.length rfl rfl (by omega) (by omega) ?_
     intro w3 hb hz hr8_3
     clear hz
     have g8 := hbx2.lt
     have l9_8 := hr9_2.lt
     have hr9_3 := hr9_2.below hb hr9_2.lt
     have l10_8 := hr10_2.lt
     have hr10_3 := hr10_2.below hb hr10_2.lt
     have sz3 := hb.size
     have hbx3 := hbx2.below hb hbx2.lt
     have hB3 := hB2.trans (hb.mono hB2.size)
     clear hb
     refine hK.out _ _ ⟨hbx3.cell rfl, hbx3.cell rfl⟩ (fun hHeld => ?_)
     clear hK K
     try simp only [Act.put, lq1, lq2, lq3, lq4, lq5, lq6]
     refine wpAnyH_ready (rs := [4]) (by decide +kernel) (by simp) ?_
     refine (AllReadyH.cons (o := _) rfl (fun K hK => ?_) AllReadyH.nil)
     ·refine ifT rfl ?_
      refine oper_make _ _ _ 58 rfl 4 (.bool false) 1 Try.underlying58 Try.infoBool rfl g.nodes.length rfl rfl (by omega) (by omega) ?_
      intro w4 hb hz hr4_4
      clear hz
      have g4 := hbx3.lt
      have l9_4 := hr9_3.lt
      have hr9_4 := hr9_3.below hb hr9_3.lt
      have l10_4 := hr10_3.lt
      have hr10_4 := hr10_3.below hb hr10_3.lt
      have l8_4 := hr8_3.lt
      have hr8_4 := hr8_3.below hb hr8_3.lt
      have sz4 := hb.size
      have hbx4 := hbx3.below hb hbx3.lt
      have hB4 := hB3.trans (hb.mono hB3.size)
      clear hb
      refine hK.out _ _ ⟨hbx4.cell rfl, hbx4.cell rfl⟩ (fun hHeld => ?_)
      clear hK K
      try simp only [Act.put, lq1, lq2, lq3, lq4, lq5, lq6]
      refine wpAnyH_ready (rs := [11]) (by decide +kernel) (by simp) ?_
      refine (AllReadyH.cons (o := _) rfl (fun K hK => ?_) AllReadyH.nil)
      ·have yy := hr9_4.cell (i := 0) rfl
       have ff := hr9_4.frozen 0
       go_simp
       obtain ⟨w5, hw⟩ : ∃ W, W = w4.setCell ⟨w0.heap.size, 0, none⟩ (.slice (some ⟨w3.heap.size, 0, none⟩) g.nodes.length g.nodes.length) := ⟨_, rfl⟩
       rw [← hw]
       have hbx5 : Row w5 _ _ _ := hw ▸ hbx4.other (a := ⟨w0.heap.size, 0, none⟩) (by simp; omega) (.slice (some ⟨w3.heap.size, 0, none⟩) g.nodes.length g.nodes.length)
       have hr9_5 : Row w5 _ _ _ := hw ▸ hr9_4.set 0 (.slice (some ⟨w3.heap.size, 0, none⟩) g.nodes.length g.nodes.length)
       have hr10_5 : Row w5 _ _ _ := hw ▸ hr10_4.other (a := ⟨w0.heap.size, 0, none⟩) (by simp; omega) (.slice (some ⟨w3.heap.size, 0, none⟩) g.nodes.length g.nodes.length)
       have hr8_5 : Row w5 _ _ _ := hw ▸ hr8_4.other (a := ⟨w0.heap.size, 0, none⟩) (by simp; omega) (.slice (some ⟨w3.heap.size, 0, none⟩) g.nodes.length g.nodes.length)
       have hr4_5 : Row w5 _ _ _ := hw ▸ hr4_4.other (a := ⟨w0.heap.size, 0, none⟩) (by simp; omega) (.slice (some ⟨w3.heap.size, 0, none⟩) g.nodes.length g.nodes.length)
       have hB5 := hw ▸ hB4.setCell (p := ⟨w0.heap.size, 0, none⟩) (by simp; omega) (.slice (some ⟨w3.heap.size, 0, none⟩) g.nodes.length g.nodes.length)
       clear hw yy ff
       refine hK.out _ _ ⟨hbx5.cell rfl, hbx5.cell rfl⟩ (fun hHeld => ?_)
       clear hK K
       try simp only [Act.put, lq1, lq2, lq3, lq4, lq5, lq6]
       refine wpAnyH_ready (rs := [12]) (by decide +kernel) (by simp) ?_
       refine (AllReadyH.cons (o := _) rfl (fun K hK => ?_) AllReadyH.nil)
       ·have yy := hr10_5.cell (i := 0) rfl
        have ff := hr10_5.frozen 0
        go_simp
        obtain ⟨w6, hw⟩ : ∃ W, W = w5.setCell ⟨w1.heap.size, 0, none⟩ (.slice (some ⟨w2.heap.size, 0, none⟩) g.infos.length g.infos.length) := ⟨_, rfl⟩
        rw [← hw]
        have hbx6 : Row w6 _ _ _ := hw ▸ hbx5.other (a := ⟨w1.heap.size, 0, none⟩) (by simp; omega) (.slice (some ⟨w2.heap.size, 0, none⟩) g.infos.length g.infos.length)
        have hr9_6 : Row w6 _ _ _ := hw ▸ hr9_5.other (a := ⟨w1.heap.size, 0, none⟩) (by simp; omega) (.slice (some ⟨w2.heap.size, 0, none⟩) g.infos.length g.infos.length)
        have hr10_6 : Row w6 _ _ _ := hw ▸ hr10_5.set 0 (.slice (some ⟨w2.heap.size, 0, none⟩) g.infos.length g.infos.length)
        have hr8_6 : Row w6 _ _ _ := hw ▸ hr8_5.other (a := ⟨w1.heap.size, 0, none⟩) (by simp; omega) (.slice (some ⟨w2.heap.size, 0, none⟩) g.infos.length g.infos.length)
        have hr4_6 : Row w6 _ _ _ := hw ▸ hr4_5.other (a := ⟨w1.heap.size, 0, none⟩) (by simp; omega) (.slice (some ⟨w2.heap.size, 0, none⟩) g.infos.length g.infos.length)
        have hB6 := hw ▸ hB5.setCell (p := ⟨w1.heap.size, 0, none⟩) (by simp; omega) (.slice (some ⟨w2.heap.size, 0, none⟩) g.infos.length g.infos.length)
        clear hw yy ff
        refine hK.out _ _ ⟨hbx6.cell rfl, hbx6.cell rfl⟩ (fun hHeld => ?_)
        clear hK K
        try simp only [Act.put, lq1, lq2, lq3, lq4, lq5, lq6]
        refine wpAnyH_done (by kernel_rfl) ?_ _
        clear hHeld
        go_wp2_with fail
        go_meet
        exact ⟨w0.heap.size, w3.heap.size, w1.heap.size, w2.heap.size, rfl, rfl, hbx6, hr9_6, hr10_6, hr4_6, hr8_6, hB6, g9, g4, g10, g8, by omega, by omega, by omega, by omega, by omega⟩
  ·go_simp
   obtain ⟨w1, hw, hr10_1, hb, hz⟩ := row_of_alloc w0 58 #[.slice none 0 0]
   rw [← hw]
   clear hw hz
   have g10 := hbx0.lt
   have sz1 := hb.size
   have hbx1 := hbx0.below hb hbx0.lt
   have hB1 := hB0.trans (hb.mono hB0.size)
   clear hb
   refine hK.out _ _ ⟨hbx1.cell rfl, hbx1.cell rfl⟩ (fun hHeld => ?_)
   clear hK K
   try simp only [Act.put, lq1, lq2, lq3, lq4, lq5, lq6]
   refine wpAnyH_ready (rs := [4, 8, 9]) (by decide +kernel) (by simp) ?_
   refine (AllReadyH.cons (o := _) rfl (fun K hK => ?_) (AllReadyH.cons (o := _) rfl (fun K hK => ?_) (AllReadyH.cons (o := _) rfl (fun K hK => ?_) AllReadyH.nil)))
   ·refine ifT rfl ?_
    refine oper_make _ _ _ 58 rfl 4 (.bool false) 1 Try.underlying58 Try.infoBool rfl g.nodes.length rfl rfl (by omega) (by omega) ?_
    intro w2 hb hz hr4_2
    clear hz
    have g4 := hbx1.lt
    have l10_4 := hr10_1.lt
    have hr10_2 := hr10_1.below hb hr10_1.lt
    have sz2 := hb.size
    have hbx2 := hbx1.below hb hbx1.lt
    have hB2 := hB1.trans (hb.mono hB1.size)
    clear hb
    refine hK.out _ _ ⟨hbx2.cell rfl, hbx2.cell rfl⟩ (fun hHeld => ?_)
    clear hK K
    try simp only [Act.put, lq1, lq2, lq3, lq4, lq5, lq6]
    refine wpAnyH_ready (rs := [8, 9]) (by decide +kernel) (by simp) ?_
    refine (AllReadyH.cons (o := _) rfl (fun K hK => ?_) (AllReadyH.cons (o := _) rfl (fun K hK => ?_) AllReadyH.nil))
    ·refine ifT rfl ?_
     refine oper_make _ _ _ 58 rfl 4 (.bool false) 1 Try.underlying58 Try.infoBool rfl g.infos.length rfl rfl (by omega) (by omega) ?_
     intro w3 hb hz hr8_3
     clear hz
     have g8 := hbx2.lt
     have l10_8 := hr10_2.lt
     have hr10_3 := hr10_2.below hb hr10_2.lt
     have l4_8 := hr4_2.lt
     have hr4_3 := hr4_2.below hb hr4_2.lt
     have sz3 := hb.size
     have hbx3 := hbx2.below hb hbx2.lt
     have hB3 := hB2.trans (hb.mono hB2.size)
     clear hb
     refine hK.out _ _ ⟨hbx3.cell rfl, hbx3.cell rfl⟩ (fun hHeld => ?_)
     clear hK K
     try simp only [Act.put, lq1, lq2, lq3, lq4, lq5, lq6]
     refine wpAnyH_ready (rs := [9]) (by decide +kernel) (by simp) ?_
     refine (AllReadyH.cons (o := _) rfl (fun K hK => ?_) AllReadyH.nil)
     ·go_simp
      obtain ⟨w4, hw, hr9_4, hb, hz⟩ := row_of_alloc w3 58 #[.slice none 0 0]
      rw [← hw]
      clear hw hz
      have g9 := hbx3.lt
      have l10_9 := hr10_3.lt
      have hr10_4 := hr10_3.below hb hr10_3.lt
      have l4_9 := hr4_3.lt
      have hr4_4 := hr4_3.below hb hr4_3.lt
      have l8_9 := hr8_3.lt
      have hr8_4 := hr8_3.below hb hr8_3.lt
      have sz4 := hb.size
      have hbx4 := hbx3.below hb hbx3.lt
      have hB4 := hB3.trans (hb.mono hB3.size)
      clear hb
      refine hK.out _ _ ⟨hbx4.cell rfl, hbx4.cell rfl⟩ (fun hHeld => ?_)
      clear hK K
      try simp only [Act.put, lq1, lq2, lq3, lq4, lq5, lq6]
      refine wpAnyH_ready (rs := [11]) (by decide +kernel) (by simp) ?_
      refine (AllReadyH.cons (o := _) rfl (fun K hK => ?_) AllReadyH.nil)
      ·have yy := hr9_4.cell (i := 0) rfl
       have ff := hr9_4.frozen 0
       go_simp
       obtain ⟨w5, hw⟩ : ∃ W, W = w4.setCell ⟨w3.heap.size, 0, none⟩ (.slice (some ⟨w1.heap.size, 0, none⟩) g.nodes.length g.nodes.length) := ⟨_, rfl⟩
       rw [← hw]
       have hbx5 : Row w5 _ _ _ := hw ▸ hbx4.other (a := ⟨w3.heap.size, 0, none⟩) (by simp; omega) (.slice (some ⟨w1.heap.size, 0, none⟩) g.nodes.length g.nodes.length)
       have hr10_5 : Row w5 _ _ _ := hw ▸ hr10_4.other (a := ⟨w3.heap.size, 0, none⟩) (by simp; omega) (.slice (some ⟨w1.heap.size, 0, none⟩) g.nodes.length g.nodes.length)
       have hr4_5 : Row w5 _ _ _ := hw ▸ hr4_4.other (a := ⟨w3.heap.size, 0, none⟩) (by simp; omega) (.slice (some ⟨w1.heap.size, 0, none⟩) g.nodes.length g.nodes.length)
       have hr8_5 : Row w5 _ _ _ := hw ▸ hr8_4.other (a := ⟨w3.heap.size, 0, none⟩) (by simp; omega) (.slice (some ⟨w1.heap.size, 0, none⟩) g.nodes.length g.nodes.length)
       have hr9_5 : Row w5 _ _ _ := hw ▸ hr9_4.set 0 (.slice (some ⟨w1.heap.size, 0, none⟩) g.nodes.length g.nodes.length)
       have hB5 := hw ▸ hB4.setCell (p := ⟨w3.heap.size, 0, none⟩) (by simp; omega) (.slice (some ⟨w1.heap.size, 0, none⟩) g.nodes.length g.nodes.length)
       clear hw yy ff
       refine hK.out _ _ ⟨hbx5.cell rfl, hbx5.cell rfl⟩ (fun hHeld => ?_)
       clear hK K
       try simp only [Act.put, lq1, lq2, lq3, lq4, lq5, lq6]
       refine wpAnyH_ready (rs := [12]) (by decide +kernel) (by simp) ?_
       refine (AllReadyH.cons (o := _) rfl (fun K hK => ?_) AllReadyH.nil)
       ·have yy := hr10_5.cell (i := 0) rfl
        have ff := hr10_5.frozen 0
        go_simp
        obtain ⟨w6, hw⟩ : ∃ W, W = w5.setCell ⟨w0.heap.size, 0, none⟩ (.slice (some ⟨w2.heap.size, 0, none⟩) g.infos.length g.infos.length) := ⟨_, rfl⟩
        rw [← hw]
        have hbx6 : Row w6 _ _ _ := hw ▸ hbx5.other (a := ⟨w0.heap.size, 0, none⟩) (by simp; omega) (.slice (some ⟨w2.heap.size, 0, none⟩) g.infos.length g.infos.length)
        have hr10_6 : Row w6 _ _ _ := hw ▸ hr10_5.set 0 (.slice (some ⟨w2.heap.size, 0, none⟩) g.infos.length g.infos.length)
        have hr4_6 : Row w6 _ _ _ := hw ▸ hr4_5.other (a := ⟨w0.heap.size, 0, none⟩) (by simp; omega) (.slice (some ⟨w2.heap.size, 0, none⟩) g.infos.length g.infos.length)
        have hr8_6 : Row w6 _ _ _ := hw ▸ hr8_5.other (a := ⟨w0.heap.size, 0, none⟩) (by simp; omega) (.slice (some ⟨w2.heap.size, 0, none⟩) g.infos.length g.infos.length)
        have hr9_6 : Row w6 _ _ _ := hw ▸ hr9_5.other (a := ⟨w0.heap.size, 0, none⟩) (by simp; omega) (.slice (some ⟨w2.heap.size, 0, none⟩) g.infos.length g.infos.length)
        have hB6 := hw ▸ hB5.setCell (p := ⟨w0.heap.size, 0, none⟩) (by simp; omega) (.slice (some ⟨w2.heap.size, 0, none⟩) g.infos.length g.infos.length)
        clear hw yy ff
        refine hK.out _ _ ⟨hbx6.cell rfl, hbx6.cell rfl⟩ (fun hHeld => ?_)
        clear hK K
        try simp only [Act.put, lq1, lq2, lq3, lq4, lq5, lq6]
        refine wpAnyH_done (by kernel_rfl) ?_ _
        clear hHeld
        go_wp2_with fail
        go_meet
        exact ⟨w3.heap.size, w1.heap.size, w0.heap.size, w2.heap.size, rfl, rfl, hbx6, hr9_6, hr10_6, hr4_6, hr8_6, hB6, g9, g4, g10, g8, by omega, by omega, by omega, by omega, by omega⟩
    ·go_simp
     obtain ⟨w3, hw, hr9_3, hb, hz⟩ := row_of_alloc w2 58 #[.slice none 0 0]
     rw [← hw]
     clear hw hz
     have g9 := hbx2.lt
     have l10_9 := hr10_2.lt
     have hr10_3 := hr10_2.below hb hr10_2.lt
     have l4_9 := hr4_2.lt
     have hr4_3 := hr4_2.below hb hr4_2.lt
     have sz3 := hb.size
     have hbx3 := hbx2.below hb hbx2.lt
     have hB3 := hB2.trans (hb.mono hB2.size)
     clear hb
     refine hK.out _ _ ⟨hbx3.cell rfl, hbx3.cell rfl⟩ (fun hHeld => ?_)
     clear hK K
     try simp only [Act.put, lq1, lq2, lq3, lq4, lq5, lq6]
     refine wpAnyH_ready (rs := [8, 11]) (by decide +kernel) (by simp) ?_
     refine (AllReadyH.cons (o := _) rfl (fun K hK => ?_) (AllReadyH.cons (o := _) rfl (fun K hK => ?_) AllReadyH.nil))
     ·refine ifT rfl ?_
      refine oper_make _ _ _ 58 rfl 4 (.bool false) 1 Try.underlying58 Try.infoBool rfl g.infos.length rfl rfl (by omega) (by omega) ?_
      intro w4 hb hz hr8_4
      clear hz
      have g8 := hbx3.lt
      have l10_8 := hr10_3.lt
      have hr10_4 := hr10_3.below hb hr10_3.lt
      have l4_8 := hr4_3.lt
      have hr4_4 := hr4_3.below hb hr4_3.lt
      have l9_8 := hr9_3.lt
      have hr9_4 := hr9_3.below hb hr9_3.lt
      have sz4 := hb.size
      have hbx4 := hbx3.below hb hbx3.lt
      have hB4 := hB3.trans (hb.mono hB3.size)
      clear hb
      refine hK.out _ _ ⟨hbx4.cell rfl, hbx4.cell rfl⟩ (fun hHeld => ?_)
      clear hK K
      try simp only [Act.put, lq1, lq2, lq3, lq4, lq5, lq6]
      refine wpAnyH_ready (rs := [11]) (by decide +kernel) (by simp) ?_
      refine (AllReadyH.cons (o := _) rfl (fun K hK => ?_) AllReadyH.nil)
      ·have yy := hr9_4.cell (i := 0) rfl
       have ff := hr9_4.frozen 0
       go_simp
       obtain ⟨w5, hw⟩ : ∃ W, W = w4.setCell ⟨w2.heap.size, 0, none⟩ (.slice (some ⟨w1.heap.size, 0, none⟩) g.nodes.length g.nodes.length) := ⟨_, rfl⟩
       rw [← hw]
       have hbx5 : Row w5 _ _ _ := hw ▸ hbx4.other (a := ⟨w2.heap.size, 0, none⟩) (by simp; omega) (.slice (some ⟨w1.heap.size, 0, none⟩) g.nodes.length g.nodes.length)
       have hr10_5 : Row w5 _ _ _ := hw ▸ hr10_4.other (a := ⟨w2.heap.size, 0, none⟩) (by simp; omega) (.slice (some ⟨w1.heap.size, 0, none⟩) g.nodes.length g.nodes.length)
       have hr4_5 : Row w5 _ _ _ := hw ▸ hr4_4.other (a := ⟨w2.heap.size, 0, none⟩) (by simp; omega) (.slice (some ⟨w1.heap.size, 0, none⟩) g.nodes.length g.nodes.length)
       have hr9_5 : Row w5 _ _ _ := hw ▸ hr9_4.set 0 (.slice (some ⟨w1.heap.size, 0, none⟩) g.nodes.length g.nodes.length)
       have hr8_5 : Row w5 _ _ _ := hw ▸ hr8_4.other (a := ⟨w2.heap.size, 0, none⟩) (by simp; omega) (.slice (some ⟨w1.heap.size, 0, none⟩) g.nodes.length g.nodes.length)
       have hB5 := hw ▸ hB4.setCell (p := ⟨w2.heap.size, 0, none⟩) (by simp; omega) (.slice (some ⟨w1.heap.size, 0, none⟩) g.nodes.length g.nodes.length)
       clear hw yy ff
       refine hK.out _ _ ⟨hbx5.cell rfl, hbx5.cell rfl⟩ (fun hHeld => ?_)
       clear hK K
       try simp only [Act.put, lq1, lq2, lq3, lq4, lq5, lq6]
       refine wpAnyH_ready (rs := [12]) (by decide +kernel) (by simp) ?_
       refine (AllReadyH.cons (o := _) rfl (fun K hK => ?_) AllReadyH.nil)
       ·have yy := hr10_5.cell (i := 0) rfl
        have ff := hr10_5.frozen 0
        go_simp
        obtain ⟨w6, hw⟩ : ∃ W, W = w5.setCell ⟨w0.heap.size, 0, none⟩ (.slice (some ⟨w3.heap.size, 0, none⟩) g.infos.length g.infos.length) := ⟨_, rfl⟩
        rw [← hw]
        have hbx6 : Row w6 _ _ _ := hw ▸ hbx5.other (a := ⟨w0.heap.size, 0, none⟩) (by simp; omega) (.slice (some ⟨w3.heap.size, 0, none⟩) g.infos.length g.infos.length)
        have hr10_6 : Row w6 _ _ _ := hw ▸ hr10_5.set 0 (.slice (some ⟨w3.heap.size, 0, none⟩) g.infos.length g.infos.length)
        have hr4_6 : Row w6 _ _ _ := hw ▸ hr4_5.other (a := ⟨w0.heap.size, 0, none⟩) (by simp; omega) (.slice (some ⟨w3.heap.size, 0, none⟩) g.infos.length g.infos.length)
        have hr9_6 : Row w6 _ _ _ := hw ▸ hr9_5.other (a := ⟨w0.heap.size, 0, none⟩) (by simp; omega) (.slice (some ⟨w3.heap.size, 0, none⟩) g.infos.length g.infos.length)
        have hr8_6 : Row w6 _ _ _ := hw ▸ hr8_5.other (a := ⟨w0.heap.size, 0, none⟩) (by simp; omega) (.slice (some ⟨w3.heap.size, 0, none⟩) g.infos.length g.infos.length)
        have hB6 := hw ▸ hB5.setCell (p := ⟨w0.heap.size, 0, none⟩) (by simp; omega) (.slice (some ⟨w3.heap.size, 0, none⟩) g.infos.length g.infos.length)
        clear hw yy ff
        refine hK.out _ _ ⟨hbx6.cell rfl, hbx6.cell rfl⟩ (fun hHeld => ?_)
        clear hK K
        try simp only [Act.put, lq1, lq2, lq3, lq4, lq5, lq6]
        refine wpAnyH_done (by kernel_rfl) ?_ _
        clear hHeld
        go_wp2_with fail
        go_meet
        exact ⟨w2.heap.size, w1.heap.size, w0.heap.size, w3.heap.size, rfl, rfl, hbx6, hr9_6, hr10_6, hr4_6, hr8_6, hB6, g9, g4, g10, g8, by omega, by omega, by omega, by omega, by omega⟩
     ·have yy := hr9_3.cell (i := 0) rfl
      have ff := hr9_3.frozen 0
      go_simp
      obtain ⟨w4, hw⟩ : ∃ W, W = w3.setCell ⟨w2.heap.size, 0, none⟩ (.slice (some ⟨w1.heap.size, 0, none⟩) g.nodes.length g.nodes.length) := ⟨_, rfl⟩
      rw [← hw]
      have hbx4 : Row w4 _ _ _ := hw ▸ hbx3.other (a := ⟨w2.heap.size, 0, none⟩) (by simp; omega) (.slice (some ⟨w1.heap.size, 0, none⟩) g.nodes.length g.nodes.length)
      have hr10_4 : Row w4 _ _ _ := hw ▸ hr10_3.other (a := ⟨w2.heap.size, 0, none⟩) (by simp; omega) (.slice (some ⟨w1.heap.size, 0, none⟩) g.nodes.length g.nodes.length)
      have hr4_4 : Row w4 _ _ _ := hw ▸ hr4_3.other (a := ⟨w2.heap.size, 0, none⟩) (by simp; omega) (.slice (some ⟨w1.heap.size, 0, none⟩) g.nodes.length g.nodes.length)
      have hr9_4 : Row w4 _ _ _ := hw ▸ hr9_3.set 0 (.slice (some ⟨w1.heap.size, 0, none⟩) g.nodes.length g.nodes.length)
      have hB4 := hw ▸ hB3.setCell (p := ⟨w2.heap.size, 0, none⟩) (by simp; omega) (.slice (some ⟨w1.heap.size, 0, none⟩) g.nodes.length g.nodes.length)
      clear hw yy ff
      refine hK.out _ _ ⟨hbx4.cell rfl, hbx4.cell rfl⟩ (fun hHeld => ?_)
      clear hK K
      try simp only [Act.put, lq1, lq2, lq3, lq4, lq5, lq6]
      refine wpAnyH_ready (rs := [8]) (by decide +kernel) (by simp) ?_
      refine (AllReadyH.cons (o := _) rfl (fun K hK => ?_) AllReadyH.nil)
      ·refine ifT rfl ?_
       refine oper_make _ _ _ 58 rfl 4 (.bool false) 1 Try.underlying58 Try.infoBool rfl g.infos.length rfl rfl (by omega) (by omega) ?_
       intro w5 hb hz hr8_5
       clear hz
       have g8 := hbx4.lt
       have l10_8 := hr10_4.lt
       have hr10_5 := hr10_4.below hb hr10_4.lt
       have l4_8 := hr4_4.lt
       have hr4_5 := hr4_4.below hb hr4_4.lt
       have l9_8 := hr9_4.lt
       have hr9_5 := hr9_4.below hb hr9_4.lt
       have sz5 := hb.size
       have hbx5 := hbx4.below hb hbx4.lt
       have hB5 := hB4.trans (hb.mono hB4.size)
       clear hb
       refine hK.out _ _ ⟨hbx5.cell rfl, hbx5.cell rfl⟩ (fun hHeld => ?_)
       clear hK K
       try simp only [Act.put, lq1, lq2, lq3, lq4, lq5, lq6]
       refine wpAnyH_ready (rs := [12]) (by decide +kernel) (by simp) ?_
       refine (AllReadyH.cons (o := _) rfl (fun K hK => ?_) AllReadyH.nil)
       ·have yy := hr10_5.cell (i := 0) rfl
        have ff := hr10_5.frozen 0
        go_simp
        obtain ⟨w6, hw⟩ : ∃ W, W = w5.setCell ⟨w0.heap.size, 0, none⟩ (.slice (some ⟨w4.heap.size, 0, none⟩) g.infos.length g.infos.length) := ⟨_, rfl⟩
        rw [← hw]
        have hbx6 : Row w6 _ _ _ := hw ▸ hbx5.other (a := ⟨w0.heap.size, 0, none⟩) (by simp; omega) (.slice (some ⟨w4.heap.size, 0, none⟩) g.infos.length g.infos.length)
        have hr10_6 : Row w6 _ _ _ := hw ▸ hr10_5.set 0 (.slice (some ⟨w4.heap.size, 0, none⟩) g.infos.length g.infos.length)
        have hr4_6 : Row w6 _ _ _ := hw ▸ hr4_5.other (a := ⟨w0.heap.size, 0, none⟩) (by simp; omega) (.slice (some ⟨w4.heap.size, 0, none⟩) g.infos.length g.infos.length)
        have hr9_6 : Row w6 _ _ _ := hw ▸ hr9_5.other (a := ⟨w0.heap.size, 0, none⟩) (by simp; omega) (.slice (some ⟨w4.heap.size, 0, none⟩) g.infos.length g.infos.length)
        have hr8_6 : Row w6 _ _ _ := hw ▸ hr8_5.other (a := ⟨w0.heap.size, 0, none⟩) (by simp; omega) (.slice (some ⟨w4.heap.size, 0, none⟩) g.infos.length g.infos.length)
        have hB6 := hw ▸ hB5.setCell (p := ⟨w0.heap.size, 0, none⟩) (by simp; omega) (.slice (some ⟨w4.heap.size, 0, none⟩) g.infos.length g.infos.length)
        clear hw yy ff
        refine hK.out _ _ ⟨hbx6.cell rfl, hbx6.cell rfl⟩ (fun hHeld => ?_)
        clear hK K
        try simp only [Act.put, lq1, lq2, lq3, lq4, lq5, lq6]
        refine wpAnyH_done (by kernel_rfl) ?_ _
        clear hHeld
        go_wp2_with fail
        go_meet
        exact ⟨w2.heap.size, w1.heap.size, w0.heap.size, w4.heap.size, rfl, rfl, hbx6, hr9_6, hr10_6, hr4_6, hr8_6, hB6, g9, g4, g10, g8, by omega, by omega, by omega, by omega, by omega⟩
   ·refine ifT rfl ?_
    refine oper_make _ _ _ 58 rfl 4 (.bool false) 1 Try.underlying58 Try.infoBool rfl g.infos.length rfl rfl (by omega) (by omega) ?_
    intro w2 hb hz hr8_2
    clear hz
    have g8 := hbx1.lt
    have l10_8 := hr10_1.lt
    have hr10_2 := hr10_1.below hb hr10_1.lt
    have sz2 := hb.size
    have hbx2 := hbx1.below hb hbx1.lt
    have hB2 := hB1.trans (hb.mono hB1.size)
    clear hb
    refine hK.out _ _ ⟨hbx2.cell rfl, hbx2.cell rfl⟩ (fun hHeld => ?_)
    clear hK K
    try simp only [Act.put, lq1, lq2, lq3, lq4, lq5, lq6]
    refine wpAnyH_ready (rs := [4, 9]) (by decide +kernel) (by simp) ?_
    refine (AllReadyH.cons (o := _) rfl (fun K hK => ?_) (AllReadyH.cons (o := _) rfl (fun K hK => ?_) AllReadyH.nil))
    ·refine ifT rfl ?_
     refine oper_make _ _ _ 58 rfl 4 (.bool false) 1 Try.underlying58 Try.infoBool rfl g.nodes.length rfl rfl (by omega) (by omega) ?_
     intro w3 hb hz hr4_3
     clear hz
     have g4 := hbx2.lt
     have l10_4 := hr10_2.lt
     have hr10_3 := hr10_2.below hb hr10_2.lt
     have l8_4 := hr8_2.lt
     have hr8_3 := hr8_2.below hb hr8_2.lt
     have sz3 := hb.size
     have hbx3 := hbx2.below hb hbx2.lt
     have hB3 := hB2.trans (hb.mono hB2.size)
     clear hb
     refine hK.out _ _ ⟨hbx3.cell rfl, hbx3.cell rfl⟩ (fun hHeld => ?_)
     clear hK K
     try simp only [Act.put, lq1, lq2, lq3, lq4, lq5, lq6]
     refine wpAnyH_ready (rs := [9]) (by decide +kernel) (by simp) ?_
     refine (AllReadyH.cons (o := _) rfl (fun K hK => ?_) AllReadyH.nil)
     ·go_simp
      obtain ⟨w4, hw, hr9_4, hb, hz⟩ := row_of_alloc w3 58 #[.slice none 0 0]
      rw [← hw]
      clear hw hz
      have g9 := hbx3.lt
      have l10_9 := hr10_3.lt
      have hr10_4 := hr10_3.below hb hr10_3.lt
      have l8_9 := hr8_3.lt
      have hr8_4 := hr8_3.below hb hr8_3.lt
      have l4_9 := hr4_3.lt
      have hr4_4 := hr4_3.below hb hr4_3.lt
      have sz4 := hb.size
      have hbx4 := hbx3.below hb hbx3.lt
      have hB4 := hB3.trans (hb.mono hB3.size)
      clear hb
      refine hK.out _ _ ⟨hbx4.cell rfl, hbx4.cell rfl⟩ (fun hHeld => ?_)
      clear hK K
      try simp only [Act.put, lq1, lq2, lq3, lq4, lq5, lq6]
      refine wpAnyH_ready (rs := [11]) (by decide +kernel) (by simp) ?_
      refine (AllReadyH.cons (o := _) rfl (fun K hK => ?_) AllReadyH.nil)
      ·have yy := hr9_4.cell (i := 0) rfl
       have ff := hr9_4.frozen 0
       go_simp
       obtain ⟨w5, hw⟩ : ∃ W, W = w4.setCell ⟨w3.heap.size, 0, none⟩ (.slice (some ⟨w2.heap.size, 0, none⟩) g.nodes.length g.nodes.length) := ⟨_, rfl⟩
       rw [← hw]
       have hbx5 : Row w5 _ _ _ := hw ▸ hbx4.other (a := ⟨w3.heap.size, 0, none⟩) (by simp; omega) (.slice (some ⟨w2.heap.size, 0, none⟩) g.nodes.length g.nodes.length)
       have hr10_5 : Row w5 _ _ _ := hw ▸ hr10_4.other (a := ⟨w3.heap.size, 0, none⟩) (by simp; omega) (.slice (some ⟨w2.heap.size, 0, none⟩) g.nodes.length g.nodes.length)
       have hr8_5 : Row w5 _ _ _ := hw ▸ hr8_4.other (a := ⟨w3.heap.size, 0, none⟩) (by simp; omega) (.slice (some ⟨w2.heap.size, 0, none⟩) g.nodes.length g.nodes.length)
       have hr4_5 : Row w5 _ _ _ := hw ▸ hr4_4.other (a := ⟨w3.heap.size, 0, none⟩) (by simp; omega) (.slice (some ⟨w2.heap.size, 0, none⟩) g.nodes.length g.nodes.length)
       have hr9_5 : Row w5 _ _ _ := hw ▸ hr9_4.set 0 (.slice (some ⟨w2.heap.size, 0, none⟩) g.nodes.length g.nodes.length)
       have hB5 := hw ▸ hB4.setCell (p := ⟨w3.heap.size, 0, none⟩) (by simp; omega) (.slice (some ⟨w2.heap.size, 0, none⟩) g.nodes.length g.nodes.length)
       clear hw yy ff
       refine hK.out _ _ ⟨hbx5.cell rfl, hbx5.cell rfl⟩ (fun hHeld => ?_)
       clear hK K
       try simp only [Act.put, lq1, lq2, lq3, lq4, lq5, lq6]
       refine wpAnyH_ready (rs := [12]) (by decide +kernel) (by simp) ?_
       refine (AllReadyH.cons (o := _) rfl (fun K hK => ?_) AllReadyH.nil)
       ·have yy := hr10_5.cell (i := 0) rfl
        have ff := hr10_5.frozen 0
        go_simp
        obtain ⟨w6, hw⟩ : ∃ W, W = w5.setCell ⟨w0.heap.size, 0, none⟩ (.slice (some ⟨w1.heap.size, 0, none⟩) g.infos.length g.infos.length) := ⟨_, rfl⟩
        rw [← hw]
        have hbx6 : Row w6 _ _ _ := hw ▸ hbx5.other (a := ⟨w0.heap.size, 0, none⟩) (by simp; omega) (.slice (some ⟨w1.heap.size, 0, none⟩) g.infos.length g.infos.length)
        have hr10_6 : Row w6 _ _ _ := hw ▸ hr10_5.set 0 (.slice (some ⟨w1.heap.size, 0, none⟩) g.infos.length g.infos.length)
        have hr8_6 : Row w6 _ _ _ := hw ▸ hr8_5.other (a := ⟨w0.heap.size, 0, none⟩) (by simp; omega) (.slice (some ⟨w1.heap.size, 0, none⟩) g.infos.length g.infos.length)
        have hr4_6 : Row w6 _ _ _ := hw ▸ hr4_5.other (a := ⟨w0.heap.size, 0, none⟩) (by simp; omega) (.slice (some ⟨w1.heap.size, 0, none⟩) g.infos.length g.infos.length)
        have hr9_6 : Row w6 _ _ _ := hw ▸ hr9_5.other (a := ⟨w0.heap.size, 0, none⟩) (by simp; omega) (.slice (some ⟨w1.heap.size, 0, none⟩) g.infos.length g.infos.length)
        have hB6 := hw ▸ hB5.setCell (p := ⟨w0.heap.size, 0, none⟩) (by simp; omega) (.slice (some ⟨w1.heap.size, 0, none⟩) g.infos.length g.infos.length)
        clear hw yy ff
        refine hK.out _ _ ⟨hbx6.cell rfl, hbx6.cell rfl⟩ (fun hHeld => ?_)
        clear hK K
        try simp only [Act.put, lq1, lq2, lq3, lq4, lq5, lq6]
        refine wpAnyH_done (by kernel_rfl) ?_ _
        clear hHeld
        go_wp2_with fail
        go_meet
        exact ⟨w3.heap.size, w2.heap.size, w0.heap.size, w1.heap.size, rfl, rfl, hbx6, hr9_6, hr10_6, hr4_6, hr8_6, hB6, g9, g4, g10, g8, by omega, by omega, by omega, by omega, by omega⟩
    ·go_simp
     obtain ⟨w3, hw, hr9_3, hb, hz⟩ := row_of_alloc w2 58 #[.slice none 0 0]
     rw [← hw]
     clear hw hz
     have g9 := hbx2.lt
     have l10_9 := hr10_2.lt
     have hr10_3 := hr10_2.below hb hr10_2.lt
     have l8_9 := hr8_2.lt
     have hr8_3 := hr8_2.below hb hr8_2.lt
     have sz3 := hb.size
     have hbx3 := hbx2.below hb hbx2.lt
     have hB3 := hB2.trans (hb.mono hB2.size)
     clear hb
     refine hK.out _ _ ⟨hbx3.cell rfl, hbx3.cell rfl⟩ (fun hHeld => ?_)
     clear hK K
     try simp only [Act.put, lq1, lq2, lq3, lq4, lq5, lq6]
     refine wpAnyH_ready (rs := [4]) (by decide +kernel) (by simp) ?_
     refine (AllReadyH.cons (o := _) rfl (fun K hK => ?_) AllReadyH.nil)
     ·refine ifT rfl ?_
      refine oper_make _ _ _ 58 rfl 4 (.bool false) 1 Try.underlying58 Try.infoBool rfl g.nodes.length rfl rfl (by omega) (by omega) ?_
      intro w4 hb hz hr4_4
      clear hz
      have g4 := hbx3.lt
      have l10_4 := hr10_3.lt
      have hr10_4 := hr10_3.below hb hr10_3.lt
      have l8_4 := hr8_3.lt
      have hr8_4 := hr8_3.below hb hr8_3.lt
      have l9_4 := hr9_3.lt
      have hr9_4 := hr9_3.below hb hr9_3.lt
      have sz4 := hb.size
      have hbx4 := hbx3.below hb hbx3.lt
      have hB4 := hB3.trans (hb.mono hB3.size)
      clear hb
      refine hK.out _ _ ⟨hbx4.cell rfl, hbx4.cell rfl⟩ (fun hHeld => ?_)
      clear hK K
      try simp only [Act.put, lq1, lq2, lq3, lq4, lq5, lq6]
      refine wpAnyH_ready (rs := [11]) (by decide +kernel) (by simp) ?_
      refine (AllReadyH.cons (o := _) rfl (fun K hK => ?_) AllReadyH.nil)
      ·have yy := hr9_4.cell (i := 0) rfl
       have ff := hr9_4.frozen 0
       go_simp
       obtain ⟨w5, hw⟩ : ∃ W, W = w4.setCell ⟨w2.heap.size, 0, none⟩ (.slice (some ⟨w3.heap.size, 0, none⟩) g.nodes.length g.nodes.length) := ⟨_, rfl⟩
       rw [← hw]
       have hbx5 : Row w5 _ _ _ := hw ▸ hbx4.other (a := ⟨w2.heap.size, 0, none⟩) (by simp; omega) (.slice (some ⟨w3.heap.size, 0, none⟩) g.nodes.length g.nodes.length)
       have hr10_5 : Row w5 _ _ _ := hw ▸ hr10_4.other (a := ⟨w2.heap.size, 0, none⟩) (by simp; omega) (.slice (some ⟨w3.heap.size, 0, none⟩) g.nodes.length g.nodes.length)
       have hr8_5 : Row w5 _ _ _ := hw ▸ hr8_4.other (a := ⟨w2.heap.size, 0, none⟩) (by simp; omega) (.slice (some ⟨w3.heap.size, 0, none⟩) g.nodes.length g.nodes.length)
       have hr9_5 : Row w5 _ _ _ := hw ▸ hr9_4.set 0 (.slice (some ⟨w3.heap.size, 0, none⟩) g.nodes.length g.nodes.length)
       have hr4_5 : Row w5 _ _ _ := hw ▸ hr4_4.other (a := ⟨w2.heap.size, 0, none⟩) (by simp; omega) (.slice (some ⟨w3.heap.size, 0, none⟩) g.nodes.length g.nodes.length)
       have hB5 := hw ▸ hB4.setCell (p := ⟨w2.heap.size, 0, none⟩) (by simp; omega) (.slice (some ⟨w3.heap.size, 0, none⟩) g.nodes.length g.nodes.length)
       clear hw yy ff
       refine hK.out _ _ ⟨hbx5.cell rfl, hbx5.cell rfl⟩ (fun hHeld => ?_)
       clear hK K
       try simp only [Act.put, lq1, lq2, lq3, lq4, lq5, lq6]
       refine wpAnyH_ready (rs := [12]) (by decide +kernel) (by simp) ?_
       refine (AllReadyH.cons (o := _) rfl (fun K hK => ?_) AllReadyH.nil)
       ·have yy := hr10_5.cell (i := 0) rfl
        have ff := hr10_5.frozen 0
        go_simp
        obtain ⟨w6, hw⟩ : ∃ W, W = w5.setCell ⟨w0.heap.size, 0, none⟩ (.slice (some ⟨w1.heap.size, 0, none⟩) g.infos.length g.infos.length) := ⟨_, rfl⟩
        rw [← hw]
        have hbx6 : Row w6 _ _ _ := hw ▸ hbx5.other (a := ⟨w0.heap.size, 0, none⟩) (by simp; omega) (.slice (some ⟨w1.heap.size, 0, none⟩) g.infos.length g.infos.length)
        have hr10_6 : Row w6 _ _ _ := hw ▸ hr10_5.set 0 (.slice (some ⟨w1.heap.size, 0, none⟩) g.infos.length g.infos.length)
        have hr8_6 : Row w6 _ _ _ := hw ▸ hr8_5.other (a := ⟨w0.heap.size, 0, none⟩) (by simp; omega) (.slice (some ⟨w1.heap.size, 0, none⟩) g.infos.length g.infos.length)
        have hr9_6 : Row w6 _ _ _ := hw ▸ hr9_5.other (a := ⟨w0.heap.size, 0, none⟩) (by simp; omega) (.slice (some ⟨w1.heap.size, 0, none⟩) g.infos.length g.infos.length)
        have hr4_6 : Row w6 _ _ _ := hw ▸ hr4_5.other (a := ⟨w0.heap.size, 0, none⟩) (by simp; omega) (.slice (some ⟨w1.heap.size, 0, none⟩) g.infos.length g.infos.length)
        have hB6 := hw ▸ hB5.setCell (p := ⟨w0.heap.size, 0, none⟩) (by simp; omega) (.slice (some ⟨w1.heap.size, 0, none⟩) g.infos.length g.infos.length)
        clear hw yy ff
        refine hK.out _ _ ⟨hbx6.cell rfl, hbx6.cell rfl⟩ (fun hHeld => ?_)
        clear hK K
        try simp only [Act.put, lq1, lq2, lq3, lq4, lq5, lq6]
        refine wpAnyH_done (by kernel_rfl) ?_ _
        clear hHeld
        go_wp2_with fail
        go_meet
        exact ⟨w2.heap.size, w3.heap.size, w0.heap.size, w1.heap.size, rfl, rfl, hbx6, hr9_6, hr10_6, hr4_6, hr8_6, hB6, g9, g4, g10, g8, by omega, by omega, by omega, by omega, by omega⟩
   ·go_simp
    obtain ⟨w2, hw, hr9_2, hb, hz⟩ := row_of_alloc w1 58 #[.slice none 0 0]
    rw [← hw]
    clear hw hz
    have g9 := hbx1.lt
    have l10_9 := hr10_1.lt
    have hr10_2 := hr10_1.below hb hr10_1.lt
    have sz2 := hb.size
    have hbx2 := hbx1.below hb hbx1.lt
    have hB2 := hB1.trans (hb.mono hB1.size)
    clear hb
    refine hK.out _ _ ⟨hbx2.cell rfl, hbx2.cell rfl⟩ (fun hHeld => ?_)
    clear hK K
    try simp only [Act.put, lq1, lq2, lq3, lq4, lq5, lq6]
    refine wpAnyH_ready (rs := [4, 8]) (by decide +kernel) (by simp) ?_
    refine (AllReadyH.cons (o := _) rfl (fun K hK => ?_) (AllReadyH.cons (o := _) rfl (fun K hK => ?_) AllReadyH.nil))
    ·refine ifT rfl ?_
     refine oper_make _ _ _ 58 rfl 4 (.bool false) 1 Try.underlying58 Try.infoBool rfl g.nodes.length rfl rfl (by omega) (by omega) ?_
     intro w3 hb hz hr4_3
     clear hz
     have g4 := hbx2.lt
     have l10_4 := hr10_2.lt
     have hr10_3 := hr10_2.below hb hr10_2.lt
     have l9_4 := hr9_2.lt
     have hr9_3 := hr9_2.below hb hr9_2.lt
     have sz3 := hb.size
     have hbx3 := hbx2.below hb hbx2.lt
     have hB3 := hB2.trans (hb.mono hB2.size)
     clear hb
     refine hK.out _ _ ⟨hbx3.cell rfl, hbx3.cell rfl⟩ (fun hHeld => ?_)
     clear hK K
     try simp only [Act.put, lq1, lq2, lq3, lq4, lq5, lq6]
     refine wpAnyH_ready (rs := [8, 11]) (by decide +kernel) (by simp) ?_
     refine (AllReadyH.cons (o := _) rfl (fun K hK => ?_) (AllReadyH.cons (o := _) rfl (fun K hK => ?_) AllReadyH.nil))
     ·refine ifT rfl ?_
      refine oper_make _ _ _ 58 rfl 4 (.bool false) 1 Try.underlying58 Try.infoBool rfl g.infos.length rfl rfl (by omega) (by omega) ?_
      intro w4 hb hz hr8_4
      clear hz
      have g8 := hbx3.lt
      have l10_8 := hr10_3.lt
      have hr10_4 := hr10_3.below hb hr10_3.lt
      have l9_8 := hr9_3.lt
      have hr9_4 := hr9_3.below hb hr9_3.lt
      have l4_8 := hr4_3.lt
      have hr4_4 := hr4_3.below hb hr4_3.lt
      have sz4 := hb.size
      have hbx4 := hbx3.below hb hbx3.lt
      have hB4 := hB3.trans (hb.mono hB3.size)
      clear hb
      refine hK.out _ _ ⟨hbx4.cell rfl, hbx4.cell rfl⟩ (fun hHeld => ?_)
      clear hK K
      try simp only [Act.put, lq1, lq2, lq3, lq4, lq5, lq6]
      refine wpAnyH_ready (rs := [11]) (by decide +kernel) (by simp) ?_
      refine (AllReadyH.cons (o := _) rfl (fun K hK => ?_) AllReadyH.nil)
      ·have yy := hr9_4.cell (i := 0) rfl
       have ff := hr9_4.frozen 0
       go_simp
       obtain ⟨w5, hw⟩ : ∃ W, W = w4.setCell ⟨w1.heap.size, 0, none⟩ (.slice (some ⟨w2.heap.size, 0, none⟩) g.nodes.length g.nodes.length) := ⟨_, rfl⟩
       rw [← hw]
       have hbx5 : Row w5 _ _ _ := hw ▸ hbx4.other (a := ⟨w1.heap.size, 0, none⟩) (by simp; omega) (.slice (some ⟨w2.heap.size, 0, none⟩) g.nodes.length g.nodes.length)
       have hr10_5 : Row w5 _ _ _ := hw ▸ hr10_4.other (a := ⟨w1.heap.size, 0, none⟩) (by simp; omega) (.slice (some ⟨w2.heap.size, 0, none⟩) g.nodes.length g.nodes.length)
       have hr9_5 : Row w5 _ _ _ := hw ▸ hr9_4.set 0 (.slice (some ⟨w2.heap.size, 0, none⟩) g.nodes.length g.nodes.length)
       have hr4_5 : Row w5 _ _ _ := hw ▸ hr4_4.other (a := ⟨w1.heap.size, 0, none⟩) (by simp; omega) (.slice (some ⟨w2.heap.size, 0, none⟩) g.nodes.length g.nodes.length)
       have hr8_5 : Row w5 _ _ _ := hw ▸ hr8_4.other (a := ⟨w1.heap.size, 0, none⟩) (by simp; omega) (.slice (some ⟨w2.heap.size, 0, none⟩) g.nodes.length g.nodes.length)
       have hB5 := hw ▸ hB4.setCell (p := ⟨w1.heap.size, 0, none⟩) (by simp; omega) (.slice (some ⟨w2.heap.size, 0, none⟩) g.nodes.length g.nodes.length)
       clear hw yy ff
       refine hK.out _ _ ⟨hbx5.cell rfl, hbx5.cell rfl⟩ (fun hHeld => ?_)
       clear hK K
       try simp only [Act.put, lq1, lq2, lq3, lq4, lq5, lq6]
       refine wpAnyH_ready (rs := [12]) (by decide +kernel) (by simp) ?_
       refine (AllReadyH.cons (o := _) rfl (fun K hK => ?_) AllReadyH.nil)
       ·have yy := hr10_5.cell (i := 0) rfl
        have ff := hr10_5.frozen 0
        go_simp
        obtain ⟨w6, hw⟩ : ∃ W, W = w5.setCell ⟨w0.heap.size, 0, none⟩ (.slice (some ⟨w3.heap.size, 0, none⟩) g.infos.length g.infos.length) := ⟨_, rfl⟩
        rw [← hw]
        have hbx6 : Row w6 _ _ _ := hw ▸ hbx5.other (a := ⟨w0.heap.size, 0, none⟩) (by simp; omega) (.slice (some ⟨w3.heap.size, 0, none⟩) g.infos.length g.infos.length)
        have hr10_6 : Row w6 _ _ _ := hw ▸ hr10_5.set 0 (.slice (some ⟨w3.heap.size, 0, none⟩) g.infos.length g.infos.length)
        have hr9_6 : Row w6 _ _ _ := hw ▸ hr9_5.other (a := ⟨w0.heap.size, 0, none⟩) (by simp; omega) (.slice (some ⟨w3.heap.size, 0, none⟩) g.infos.length g.infos.length)
        have hr4_6 : Row w6 _ _ _ := hw ▸ hr4_5.other (a := ⟨w0.heap.size, 0, none⟩) (by simp; omega) (.slice (some ⟨w3.heap.size, 0, none⟩) g.infos.length g.infos.length)
        have hr8_6 : Row w6 _ _ _ := hw ▸ hr8_5.other (a := ⟨w0.heap.size, 0, none⟩) (by simp; omega) (.slice (some ⟨w3.heap.size, 0, none⟩) g.infos.length g.infos.length)
        have hB6 := hw ▸ hB5.setCell (p := ⟨w0.heap.size, 0, none⟩) (by simp; omega) (.slice (some ⟨w3.heap.size, 0, none⟩) g.infos.length g.infos.length)
        clear hw yy ff
        refine hK.out _ _ ⟨hbx6.cell rfl, hbx6.cell rfl⟩ (fun hHeld => ?_)
        clear hK K
        try simp only [Act.put, lq1, lq2, lq3, lq4, lq5, lq6]
        refine wpAnyH_done (by kernel_rfl) ?_ _
        clear hHeld
        go_wp2_with fail
        go_meet
        exact ⟨w1.heap.size, w2.heap.size, w0.heap.size, w3.heap.size, rfl, rfl, hbx6, hr9_6, hr10_6, hr4_6, hr8_6, hB6, g9, g4, g10, g8, by omega, by omega, by omega, by omega, by omega⟩
     ·have yy := hr9_3.cell (i := 0) rfl
      have ff := hr9_3.frozen 0
      go_simp
      obtain ⟨w4, hw⟩ : ∃ W, W = w3.setCell ⟨w1.heap.size, 0, none⟩ (.slice (some ⟨w2.heap.size, 0, none⟩) g.nodes.length g.nodes.length) := ⟨_, rfl⟩
      rw [← hw]
      have hbx4 : Row w4 _ _ _ := hw ▸ hbx3.other (a := ⟨w1.heap.size, 0, none⟩) (by simp; omega) (.slice (some ⟨w2.heap.size, 0, none⟩) g.nodes.length g.nodes.length)
      have hr10_4 : Row w4 _ _ _ := hw ▸ hr10_3.other (a := ⟨w1.heap.size, 0, none⟩) (by simp; omega) (.slice (some ⟨w2.heap.size, 0, none⟩) g.nodes.length g.nodes.length)
      have hr9_4 : Row w4 _ _ _ := hw ▸ hr9_3.set 0 (.slice (some ⟨w2.heap.size, 0, none⟩) g.nodes.length g.nodes.length)
      have hr4_4 : Row w4 _ _ _ := hw ▸ hr4_3.other (a := ⟨w1.heap.size, 0, none⟩) (by simp; omega) (.slice (some ⟨w2.heap.size, 0, none⟩) g.nodes.length g.nodes.length)
      have hB4 := hw ▸ hB3.setCell (p := ⟨w1.heap.size, 0, none⟩) (by simp; omega) (.slice (some ⟨w2.heap.size, 0, none⟩) g.nodes.length g.nodes.length)
      clear hw yy ff
      refine hK.out _ _ ⟨hbx4.cell rfl, hbx4.cell rfl⟩ (fun hHeld => ?_)
      clear hK K
      try simp only [Act.put, lq1, lq2, lq3, lq4, lq5, lq6]
      refine wpAnyH_ready (rs := [8]) (by decide +kernel) (by simp) ?_
      refine (AllReadyH.cons (o := _) rfl (fun K hK => ?_) AllReadyH.nil)
      ·refine ifT rfl ?_
       refine oper_make _ _ _ 58 rfl 4 (.bool false) 1 Try.underlying58 Try.infoBool rfl g.infos.length rfl rfl (by omega) (by omega) ?_
       intro w5 hb hz hr8_5
       clear hz
       have g8 := hbx4.lt
       have l10_8 := hr10_4.lt
       have hr10_5 := hr10_4.below hb hr10_4.lt
       have l9_8 := hr9_4.lt
       have hr9_5 := hr9_4.below hb hr9_4.lt
       have l4_8 := hr4_4.lt
       have hr4_5 := hr4_4.below hb hr4_4.lt
       have sz5 := hb.size
       have hbx5 := hbx4.below hb hbx4.lt
       have hB5 := hB4.trans (hb.mono hB4.size)
       clear hb
       refine hK.out _ _ ⟨hbx5.cell rfl, hbx5.cell rfl⟩ (fun hHeld => ?_)
       clear hK K
       try simp only [Act.put, lq1, lq2, lq3, lq4, lq5, lq6]
       refine wpAnyH_ready (rs := [12]) (by decide +kernel) (by simp) ?_
       refine (AllReadyH.cons (o := _) rfl (fun K hK => ?_) AllReadyH.nil)
       ·have yy := hr10_5.cell (i := 0) rfl
        have ff := hr10_5.frozen 0
        go_simp
        obtain ⟨w6, hw⟩ : ∃ W, W = w5.setCell ⟨w0.heap.size, 0, none⟩ (.slice (some ⟨w4.heap.size, 0, none⟩) g.infos.length g.infos.length) := ⟨_, rfl⟩
        rw [← hw]
        have hbx6 : Row w6 _ _ _ := hw ▸ hbx5.other (a := ⟨w0.heap.size, 0, none⟩) (by simp; omega) (.slice (some ⟨w4.heap.size, 0, none⟩) g.infos.length g.infos.length)
        have hr10_6 : Row w6 _ _ _ := hw ▸ hr10_5.set 0 (.slice (some ⟨w4.heap.size, 0, none⟩) g.infos.length g.infos.length)
        have hr9_6 : Row w6 _ _ _ := hw ▸ hr9_5.other (a := ⟨w0.heap.size, 0, none⟩) (by simp; omega) (.slice (some ⟨w4.heap.size, 0, none⟩) g.infos.length g.infos.length)
        have hr4_6 : Row w6 _ _ _ := hw ▸ hr4_5.other (a := ⟨w0.heap.size, 0, none⟩) (by simp; omega) (.slice (some ⟨w4.heap.size, 0, none⟩) g.infos.length g.infos.length)
        have hr8_6 : Row w6 _ _ _ := hw ▸ hr8_5.other (a := ⟨w0.heap.size, 0, none⟩) (by simp; omega) (.slice (some ⟨w4.heap.size, 0, none⟩) g.infos.length g.infos.length)
        have hB6 := hw ▸ hB5.setCell (p := ⟨w0.heap.size, 0, none⟩) (by simp; omega) (.slice (some ⟨w4.heap.size, 0, none⟩) g.infos.length g.infos.length)
        clear hw yy ff
        refine hK.out _ _ ⟨hbx6.cell rfl, hbx6.cell rfl⟩ (fun hHeld => ?_)
        clear hK K
        try simp only [Act.put, lq1, lq2, lq3, lq4, lq5, lq6]
        refine wpAnyH_done (by kernel_rfl) ?_ _
        clear hHeld
        go_wp2_with fail
        go_meet
        exact ⟨w1.heap.size, w2.heap.size, w0.heap.size, w4.heap.size, rfl, rfl, hbx6, hr9_6, hr10_6, hr4_6, hr8_6, hB6, g9, g4, g10, g8, by omega, by omega, by omega, by omega, by omega⟩
    ·refine ifT rfl ?_
     refine oper_make _ _ _ 58 rfl 4 (.bool false) 1 Try.underlying58 Try.infoBool rfl g.infos.length rfl rfl (by omega) (by omega) ?_
     intro w3 hb hz hr8_3
     clear hz
     have g8 := hbx2.lt
     have l10_8 := hr10_2.lt
     have hr10_3 := hr10_2.below hb hr10_2.lt
     have l9_8 := hr9_2.lt
     have hr9_3 := hr9_2.below hb hr9_2.lt
     have sz3 := hb.size
     have hbx3 := hbx2.below hb hbx2.lt
     have hB3 := hB2.trans (hb.mono hB2.size)
     clear hb
     refine hK.out _ _ ⟨hbx3.cell rfl, hbx3.cell rfl⟩ (fun hHeld => ?_)
     clear hK K
     try simp only [Act.put, lq1, lq2, lq3, lq4, lq5, lq6]
     refine wpAnyH_ready (rs := [4]) (by decide +kernel) (by simp) ?_
     refine (AllReadyH.cons (o := _) rfl (fun K hK => ?_) AllReadyH.nil)
     ·refine ifT rfl ?_
      refine oper_make _ _ _ 58 rfl 4 (.bool false) 1 Try.underlying58 Try.infoBool rfl g.nodes.length rfl rfl (by omega) (by omega) ?_
      intro w4 hb hz hr4_4
      clear hz
      have g4 := hbx3.lt
      have l10_4 := hr10_3.lt
      have hr10_4 := hr10_3.below hb hr10_3.lt
      have l9_4 := hr9_3.lt
      have hr9_4 := hr9_3.below hb hr9_3.lt
      have l8_4 := hr8_3.lt
      have hr8_4 := hr8_3.below hb hr8_3.lt
      have sz4 := hb.size
      have hbx4 := hbx3.below hb hbx3.lt
      have hB4 := hB3.trans (hb.mono hB3.size)
      clear hb
      refine hK.out _ _ ⟨hbx4.cell rfl, hbx4.cell rfl⟩ (fun hHeld => ?_)
      clear hK K
      try simp only [Act.put, lq1, lq2, lq3, lq4, lq5, lq6]
      refine wpAnyH_ready (rs := [11]) (by decide +kernel) (by simp) ?_
      refine (AllReadyH.cons (o := _) rfl (fun K hK => ?_) AllReadyH.nil)
      ·have yy := hr9_4.cell (i := 0) rfl
       have ff := hr9_4.frozen 0
       go_simp
       obtain ⟨w5, hw⟩ : ∃ W, W = w4.setCell ⟨w1.heap.size, 0, none⟩ (.slice (some ⟨w3.heap.size, 0, none⟩) g.nodes.length g.nodes.length) := ⟨_, rfl⟩
       rw [← hw]
       have hbx5 : Row w5 _ _ _ := hw ▸ hbx4.other (a := ⟨w1.heap.size, 0, none⟩) (by simp; omega) (.slice (some ⟨w3.heap.size, 0, none⟩) g.nodes.length g.nodes.length)
       have hr10_5 : Row w5 _ _ _ := hw ▸ hr10_4.other (a := ⟨w1.heap.size, 0, none⟩) (by simp; omega) (.slice (some ⟨w3.heap.size, 0, none⟩) g.nodes.length g.nodes.length)
       have hr9_5 : Row w5 _ _ _ := hw ▸ hr9_4.set 0 (.slice (some ⟨w3.heap.size, 0, none⟩) g.nodes.length g.nodes.length)
       have hr8_5 : Row w5 _ _ _ := hw ▸ hr8_4.other (a := ⟨w1.heap.size, 0, none⟩) (by simp; omega) (.slice (some ⟨w3.heap.size, 0, none⟩) g.nodes.length g.nodes.length)
       have hr4_5 : Row w5 _ _ _ := hw ▸ hr4_4.other (a := ⟨w1.heap.size, 0, none⟩) (by simp; omega) (.slice (some ⟨w3.heap.size, 0, none⟩) g.nodes.length g.nodes.length)
       have hB5 := hw ▸ hB4.setCell (p := ⟨w1.heap.size, 0, none⟩) (by simp; omega) (.slice (some ⟨w3.heap.size, 0, none⟩) g.nodes.length g.nodes.length)
       clear hw yy ff
       refine hK.out _ _ ⟨hbx5.cell rfl, hbx5.cell rfl⟩ (fun hHeld => ?_)
       clear hK K
       try simp only [Act.put, lq1, lq2, lq3, lq4, lq5, lq6]
       refine wpAnyH_ready (rs := [12]) (by decide +kernel) (by simp) ?_
       refine (AllReadyH.cons (o := _) rfl (fun K hK => ?_) AllReadyH.nil)
       ·have yy := hr10_5.cell (i := 0) rfl
        have ff := hr10_5.frozen 0
        go_simp
        obtain ⟨w6, hw⟩ : ∃ W, W = w5.setCell ⟨w0.heap.size, 0, none⟩ (.slice (some ⟨w2.heap.size, 0, none⟩) g.infos.length g.infos.length) := ⟨_, rfl⟩
        rw [← hw]
        have hbx6 : Row w6 _ _ _ := hw ▸ hbx5.other (a := ⟨w0.heap.size, 0, none⟩) (by simp; omega) (.slice (some ⟨w2.heap.size, 0, none⟩) g.infos.length g.infos.length)
        have hr10_6 : Row w6 _ _ _ := hw ▸ hr10_5.set 0 (.slice (some ⟨w2.heap.size, 0, none⟩) g.infos.length g.infos.length)
        have hr9_6 : Row w6 _ _ _ := hw ▸ hr9_5.other (a := ⟨w0.heap.size, 0, none⟩) (by simp; omega) (.slice (some ⟨w2.heap.size, 0, none⟩) g.infos.length g.infos.length)
        have hr8_6 : Row w6 _ _ _ := hw ▸ hr8_5.other (a := ⟨w0.heap.size, 0, none⟩) (by simp; omega) (.slice (some ⟨w2.heap.size, 0, none⟩) g.infos.length g.infos.length)
        have hr4_6 : Row w6 _ _ _ := hw ▸ hr4_5.other (a := ⟨w0.heap.size, 0, none⟩) (by simp; omega) (.slice (some ⟨w2.heap.size, 0, none⟩) g.infos.length g.infos.length)
        have hB6 := hw ▸ hB5.setCell (p := ⟨w0.heap.size, 0, none⟩) (by simp; omega) (.slice (some ⟨w2.heap.size, 0, none⟩) g.infos.length g.infos.length)
        clear hw yy ff
        refine hK.out _ _ ⟨hbx6.cell rfl, hbx6.cell rfl⟩ (fun hHeld => ?_)
        clear hK K
        try simp only [Act.put, lq1, lq2, lq3, lq4, lq5, lq6]
        refine wpAnyH_done (by kernel_rfl) ?_ _
        clear hHeld
        go_wp2_with fail
        go_meet
        exact ⟨w1.heap.size, w3.heap.size, w0.heap.size, w2.heap.size, rfl, rfl, hbx6, hr9_6, hr10_6, hr4_6, hr8_6, hB6, g9, g4, g10, g8, by omega, by omega, by omega, by omega, by omega⟩
 case rest =>
  obtain ⟨bi, di, bf, df, rfl, rfl, hbx', hci', hcf', hri, hrf, hB, g1, g2, g3, g4, g5, g6, g7, g8, g9⟩ := hcut
  clear hbx hb1
  have x5 := hbx'.cell (i := 5) rfl
  have hlt := hbx'.lt
  go_wp2_with fail
  have hW1 : Below wc.heap.size wc ((wc.alloc (.chan g.infos.length #[] false 0 0 false)).alloc (.cells #[.chan (some wc.heap.size)] 79)) := below_two wc _ _ 0
  have hbw : Row ((wc.alloc (.chan g.infos.length #[] false 0 0 false)).alloc (.cells #[.chan (some wc.heap.size)] 79)) (wc.heap.size + 1) 79 [.chan (some wc.heap.size)] := by
   have := Row.new (wc.alloc (.chan g.infos.length #[] false 0 0 false)) 79 #[.chan (some wc.heap.size)]
   simpa using this
  have hchn : ((wc.alloc (.chan g.infos.length #[] false 0 0 false)).alloc (.cells #[.chan (some wc.heap.size)] 79)).heap[wc.heap.size]? = some (.chan g.infos.length #[] false 0 0 false) := by
   rw [Below.heap_alloc _ _ _ (by simp)]; exact heap_alloc_new _ _
  generalize (wc.alloc (.chan g.infos.length #[] false 0 0 false)).alloc (.cells #[.chan (some wc.heap.size)] 79) = W at *
  have hcl0 : ClAt W bi di bf df (wc.heap.size + 1) wc.heap.size g.nodes.length g.infos.length ⟨List.replicate g.nodes.length false, List.replicate g.infos.length false, []⟩ :=
   ⟨hci'.below hW1 hci'.lt, hcf'.below hW1 hcf'.lt, hbw, by simpa [boolsV] using hri.below hW1 hri.lt, by simpa [boolsV] using hrf.below hW1 hrf.lt, 0, 0, by simpa [intsV] using hchn⟩
  have l1 := hci'.lt
  have l2 := hcf'.lt
  have l3 := hri.lt
  have l4 := hrf.lt
  have hap : ClApart bi di bf df (wc.heap.size + 1) wc.heap.size w.heap.size := ⟨g5, g6, by omega, g7, g8, by omega, by omega, by omega, by omega, g9, by omega, by omega, by omega, by omega, by omega⟩
  have HAP := Lib.hid hap; clear hap
  have HFF := Lib.hid (show ∀ k, (F k ∧ k < w.heap.size) → k ≠ di ∧ k ≠ df ∧ k ≠ wc.heap.size from fun k hk => by omega)
  have hbx1 := hbx'.below hW1 hbx'.lt
  have hBW := hB.trans (hW1.mono hB.size)
  have hws : w.heap.size < wc.heap.size := hlt
  clear hci' hcf' hri hrf hbw hchn hW1 hbx' hB x5 hlt
  generalize wc.heap.size = ch at *
  refine (put_call g last bi di bf df (ch + 1) ch w.heap.size HAP.out _ HFF.out HIN.out hN hni HLL.out HLA.out W _ r _ _ _ _ _ hbx1 (HNO.out.on (Below.same' hBW _)) (HLO.out.on (Below.same' hBW _)) hcl0 (Cl.Ok.start _ _) hr).mono ?_
  rintro e w2 ⟨rfl, hcl2, hwr2⟩
  have HOK := Lib.hid ((Cl.Ok.start g.nodes.length g.infos.length).putL HIN.out last r)
  have HLF := Lib.hid (putL_left (Cl.Ok.start g.nodes.length g.infos.length) HIN.out last r)
  have HCL := Lib.hid (show closureL g.nodes last sets g.infos.length r = (closeGo g.nodes last sets g.infos.length (putL g.nodes last ⟨List.replicate g.nodes.length false, List.replicate g.infos.length false, []⟩ r)).inn from rfl)
  generalize putL g.nodes last ⟨List.replicate g.nodes.length false, List.replicate g.infos.length false, []⟩ r = s1 at *
  have hbx2 := hbx1.wrote hwr2 (by rintro (h | h | h) <;> omega)
  have hB2 : Below w.heap.size w w2 := Wrote.below hBW hwr2 (fun k hk => by omega) hBW.size
  clear hcl0 hwr2 hbx1 hBW
  dsimp only
  go_wp2_with fail
  go_loopg [10] g.infos.length (fun f _ wr => ∃ s : Cl, s.left g.infos.length ≤ f ∧ Cl.Ok g.nodes.length g.infos.length s ∧ closureL g.nodes last sets g.infos.length r = (closeGo g.nodes last sets f s).inn ∧ ClAt wr bi di bf df (ch + 1) ch g.nodes.length g.infos.length s ∧ Row wr w.heap.size 51 [.int .i64 g.players, .slice A g.nodes.length c, .slice Ai g.infos.length ci, .slice Ap par.length cp, .slice Al last.length cl, .slice As g.infos.length cs] ∧ Below w.heap.size w wr)
  case atStart => exact ⟨s1, by rw [HLF.out]; unfold Cl.left; simp, HOK.out, HCL.out, hcl2, hbx2, hB2⟩
  case round =>
   clear hcl2 hbx2 hB2
   obtain ⟨s, hleft, hok, hval, hcl, hbx, hB⟩ := hrel
   have HV2 := Lib.hid hval; clear hval
   have HO := Lib.hid hok; clear hok
   have HC := Lib.hid hcl
   have cw0 := hcl.cw.cell (i := 0) rfl
   obtain ⟨sn, rc, hch⟩ := hcl.chn
   have HCH := Lib.hid hch
   have hlen := fun ty => Go.Conc.run_len_chan (P := Try.prog) (w := wr) 79 ty Try.underlying79 hch
   clear hch
   simp only [List.size_toArray, intsV, List.length_map] at hlen
   cases hq : s.q with
   | nil =>
    rw [hq] at hlen
    have HQ := Lib.hid hq; clear hq
    have ci0 := hcl.ci.cell (i := 0) rfl
    go_wp2
    go_ret
    have h1 := Row.bools (F := fun b => w.heap.size ≤ b) HC.out.ri (by omega) (c := g.nodes.length) (by rw [HO.out.inn]; omega)
    rw [HO.out.inn] at h1
    refine ⟨_, rfl, hB, ?_⟩
    rw [HV2.out, closeGo_nil HQ.out]
    exact h1
   | cons x q =>
    rw [hq] at hlen
    obtain ⟨hok2, hx0, hx1, hlf⟩ := HO.out.pop hq
    have HQ := Lib.hid hq; clear hq
    have HOK2 := Lib.hid hok2; clear hok2
    obtain ⟨z, rfl⟩ := Int.eq_ofNat_of_zero_le hx0
    have hz : z < g.infos.length := by omega
    have x5 := hbx.cell (i := 5) rfl
    obtain ⟨f, rfl⟩ : ∃ f, gk = f + 1 := ⟨gk - 1, by omega⟩
    have HV3 := Lib.hid (show closureL g.nodes last sets g.infos.length r = (closeGo g.nodes last sets f ((sets.getD z []).foldl (putL g.nodes last) ⟨s.inn, s.fnd, q⟩)).inn by
     rw [HV2.out, closeGo_cons HQ.out]; simp)
    obtain ⟨l, hl'⟩ := getSome (l := sets) (k := z) (by rw [HSL.out]; exact hz)
    have hs0 := HSL.out
    obtain ⟨bs, os, hAs, _, hbs, hxs⟩ := HS.out (by omega)
    subst hAs
    obtain ⟨vl', el, Av, cv, rfl, hcv, hAv⟩ := hxs z l hl'
    rw [Nat.mul_one, ← below_old hB _ _ hbs] at el
    have hl1 := HSM.out l (List.mem_of_getElem? hl')
    have HLX := Lib.hid (HSX.out l (List.mem_of_getElem? hl'))
    have HGD := Lib.hid (show sets.getD z [] = l by simp [List.getD_eq_getElem?_getD, hl'])
    have HAV := Lib.hid hAv
    have HLF2 := Lib.hid hlf
    clear hl' hxs hAv hs0 hlf
    go_upto_region 6 with fail
    go_cut [36, 37, 38] from 28 to 45 (fun v36 v37 v38 wx => v36 = .slice Av l.length cv ∧ v37 = .int .i64 l.length ∧ v38 = .int .i64 0 ∧ ClAt wx bi di bf df (ch + 1) ch g.nodes.length g.infos.length ⟨s.inn, s.fnd, q⟩ ∧ Row wx w.heap.size 51 [.int .i64 g.players, .slice A g.nodes.length c, .slice Ai g.infos.length ci, .slice Ap par.length cp, .slice Al last.length cl, .slice (some ⟨bs, os, none⟩) g.infos.length cs] ∧ Below w.heap.size w wx)
    case first =>
     have hch0 : wr.drew.heap[ch]? = some (.chan g.infos.length (Value.int .i64 (z : Int) :: intsV q).toArray false sn rc false) := by
      have := HCH.out; rw [HQ.out] at this; exact this
     have hcl0 : ClAt wr.drew bi di bf df (ch + 1) ch g.nodes.length g.infos.length s := hcl.drew
     have hbx0 : Row wr.drew w.heap.size _ _ := hbx.drew
     have hB0 : Below w.heap.size w wr.drew := hB.drew
     have el0 : wr.drew.cell? ⟨bs, os + z, none⟩ = some (.slice Av l.length cv) := el
     clear el x5 hlen cw0 HC HCH hbx hB hcl
     refine wp_region_goAny (by kernel_rfl) ?_
     generalize wr.drew = W0 at *
     have hcl1 := hcl0.setC HAP.out q (buf := (intsV q).toArray) rfl sn (rc + 1)
     have hbx1 : Row (W0.setChan ch g.infos.length (intsV q).toArray false sn (rc + 1) false) w.heap.size _ _ := hbx0.of_block (heap_setChan_ne _ _ _ _ _ _ _ _ (by omega))
     have hB1 : Below w.heap.size w (W0.setChan ch g.infos.length (intsV q).toArray false sn (rc + 1) false) := Go.Conc.below_setChan hB0 (by omega) _ _ _ _ _ _
     have el1 : (W0.setChan ch g.infos.length (intsV q).toArray false sn (rc + 1) false).cell? ⟨bs, os + z, none⟩ = some (.slice Av l.length cv) := by
      rw [World.cell?_of_block (w := W0) (heap_setChan_ne _ _ _ _ _ _ _ _ (show bs ≠ ch by omega))]; exact el0
     obtain ⟨W1, hW1⟩ : ∃ W1, W1 = W0.setChan ch g.infos.length (intsV q).toArray false sn (rc + 1) false := ⟨_, rfl⟩
     rw [← hW1] at hcl1 hbx1 hB1 el1
     have HW1 := Lib.hid hW1; clear hW1
     have HCH0 := Lib.hid hch0; clear hch0
     have x5 := hbx0.cell (i := 5) rfl
     have x51 := hbx1.cell (i := 5) rfl
     have cw0 := hcl0.cw.cell (i := 0) rfl
     have HHH := Lib.hid (And.intro hcl1 (And.intro hbx1 hB1))
     clear hcl0 hcl1 hbx0 hbx1 hB0 hB1
     refine goAny_ready (rs := [0, 2, 7]) (by decide +kernel) (by simp) ?_
     refine (AllGo.cons ?_ (AllGo.cons ?_ (AllGo.cons ?_ AllGo.nil)))
     ·refine opGo_value (w' := W0) rfl (by rfl) (by go_simp; try (with_reducible rfl)) ?_
      try simp only [Act.put, lq1, lq2, lq3, lq4, lq5, lq6]
      refine goAny_ready (rs := [1, 2, 7]) (by decide +kernel) (by simp) ?_
      refine (AllGo.cons ?_ (AllGo.cons ?_ (AllGo.cons ?_ AllGo.nil)))
      ·refine opGo_value (w' := W0) rfl (by rfl) (by go_simp; try (with_reducible rfl)) ?_
       try simp only [Act.put, lq1, lq2, lq3, lq4, lq5, lq6]
       refine goAny_ready (rs := [2, 7]) (by decide +kernel) (by simp) ?_
       refine (AllGo.cons ?_ (AllGo.cons ?_ AllGo.nil))
       ·refine opGo_value (w' := W0) rfl (by rfl) (by go_simp; try (with_reducible rfl)) ?_
        try simp only [Act.put, lq1, lq2, lq3, lq4, lq5, lq6]
        refine goAny_ready (rs := [3, 7]) (by decide +kernel) (by simp) ?_
        refine (AllGo.cons ?_ (AllGo.cons ?_ AllGo.nil))
        ·refine opGo_recv_cons (z := .int .i64 0) rfl (by rfl) (by simp [go_sem, Go.Conc.rcase]) HCH0.out ?_
         rw [← HW1.out]
         try simp only [Act.put, lq1, lq2, lq3, lq4, lq5, lq6]
         refine goAny_ready (rs := [4, 7]) (by decide +kernel) (by simp) ?_
         refine (AllGo.cons ?_ (AllGo.cons ?_ AllGo.nil))
         ·refine opGo_value (w' := W1) rfl (by rfl) (by go_simp; try (with_reducible rfl)) ?_
          try simp only [Act.put, lq1, lq2, lq3, lq4, lq5, lq6]
          refine goAny_ready (rs := [5, 7]) (by decide +kernel) (by simp) ?_
          refine (AllGo.cons ?_ (AllGo.cons ?_ AllGo.nil))
          ·refine opGo_value (w' := W1) rfl (by rfl) (by go_simp; try (with_reducible rfl)) ?_
           try simp only [Act.put, lq1, lq2, lq3, lq4, lq5, lq6]
           refine goAny_ready (rs := [6, 7]) (by decide +kernel) (by simp) ?_
           refine (AllGo.cons ?_ (AllGo.cons ?_ AllGo.nil))
           ·refine opGo_value (w' := W1) rfl (by rfl) (by go_simp; try (with_reducible rfl)) ?_
            try simp only [Act.put, lq1, lq2, lq3, lq4, lq5, lq6]
            refine goAny_ready (rs := [7]) (by decide +kernel) (by simp) ?_
            refine (AllGo.cons ?_ AllGo.nil)
            ·refine opGo_value (w' := W1) rfl (by rfl) (by go_simp; try (with_reducible rfl)) ?_
             try simp only [Act.put, lq1, lq2, lq3, lq4, lq5, lq6]
             refine goAny_done (by decide +kernel) ?_ _
             go_wp2_with fail
             go_meet
             exact ⟨rfl, rfl, rfl, HHH.out.1, HHH.out.2.1, HHH.out.2.2⟩
           ·refine opGo_value (w' := W1) rfl (by rfl) (by go_simp; try (with_reducible rfl)) ?_
            try simp only [Act.put, lq1, lq2, lq3, lq4, lq5, lq6]
            refine goAny_ready (rs := [6]) (by decide +kernel) (by simp) ?_
            refine (AllGo.cons ?_ AllGo.nil)
            ·refine opGo_value (w' := W1) rfl (by rfl) (by go_simp; try (with_reducible rfl)) ?_
             try simp only [Act.put, lq1, lq2, lq3, lq4, lq5, lq6]
             refine goAny_done (by decide +kernel) ?_ _
             go_wp2_with fail
             go_meet
             exact ⟨rfl, rfl, rfl, HHH.out.1, HHH.out.2.1, HHH.out.2.2⟩
          ·refine opGo_value (w' := W1) rfl (by rfl) (by go_simp; try (with_reducible rfl)) ?_
           try simp only [Act.put, lq1, lq2, lq3, lq4, lq5, lq6]
           refine goAny_ready (rs := [5]) (by decide +kernel) (by simp) ?_
           refine (AllGo.cons ?_ AllGo.nil)
           ·refine opGo_value (w' := W1) rfl (by rfl) (by go_simp; try (with_reducible rfl)) ?_
            try simp only [Act.put, lq1, lq2, lq3, lq4, lq5, lq6]
            refine goAny_ready (rs := [6]) (by decide +kernel) (by simp) ?_
            refine (AllGo.cons ?_ AllGo.nil)
            ·refine opGo_value (w' := W1) rfl (by rfl) (by go_simp; try (with_reducible rfl)) ?_
             try simp only [Act.put, lq1, lq2, lq3, lq4, lq5, lq6]
             refine goAny_done (by decide +kernel) ?_ _
             go_wp2_with fail
             go_meet
             exact ⟨rfl, rfl, rfl, HHH.out.1, HHH.out.2.1, HHH.out.2.2⟩
         ·refine opGo_value (w' := W1) rfl (by rfl) (by go_simp; try (with_reducible rfl)) ?_
          try simp only [Act.put, lq1, lq2, lq3, lq4, lq5, lq6]
          refine goAny_ready (rs := [4]) (by decide +kernel) (by simp) ?_
          refine (AllGo.cons ?_ AllGo.nil)
          ·refine opGo_value (w' := W1) rfl (by rfl) (by go_simp; try (with_reducible rfl)) ?_
           try simp only [Act.put, lq1, lq2, lq3, lq4, lq5, lq6]
           refine goAny_ready (rs := [5]) (by decide +kernel) (by simp) ?_
           refine (AllGo.cons ?_ AllGo.nil)
           ·refine opGo_value (w' := W1) rfl (by rfl) (by go_simp; try (with_reducible rfl)) ?_
            try simp only [Act.put, lq1, lq2, lq3, lq4, lq5, lq6]
            refine goAny_ready (rs := [6]) (by decide +kernel) (by simp) ?_
            refine (AllGo.cons ?_ AllGo.nil)
            ·refine opGo_value (w' := W1) rfl (by rfl) (by go_simp; try (with_reducible rfl)) ?_
             try simp only [Act.put, lq1, lq2, lq3, lq4, lq5, lq6]
             refine goAny_done (by decide +kernel) ?_ _
             go_wp2_with fail
             go_meet
             exact ⟨rfl, rfl, rfl, HHH.out.1, HHH.out.2.1, HHH.out.2.2⟩
        ·refine opGo_value (w' := W0) rfl (by rfl) (by go_simp; try (with_reducible rfl)) ?_
         try simp only [Act.put, lq1, lq2, lq3, lq4, lq5, lq6]
         refine goAny_ready (rs := [3]) (by decide +kernel) (by simp) ?_
         refine (AllGo.cons ?_ AllGo.nil)
         ·refine opGo_recv_cons (z := .int .i64 0) rfl (by rfl) (by simp [go_sem, Go.Conc.rcase]) HCH0.out ?_
          rw [← HW1.out]
          try simp only [Act.put, lq1, lq2, lq3, lq4, lq5, lq6]
          refine goAny_ready (rs := [4]) (by decide +kernel) (by simp) ?_
          refine (AllGo.cons ?_ AllGo.nil)
          ·refine opGo_value (w' := W1) rfl (by rfl) (by go_simp; try (with_reducible rfl)) ?_
           try simp only [Act.put, lq1, lq2, lq3, lq4, lq5, lq6]
           refine goAny_ready (rs := [5]) (by decide +kernel) (by simp) ?_
           refine (AllGo.cons ?_ AllGo.nil)
           ·refine opGo_value (w' := W1) rfl (by rfl) (by go_simp; try (with_reducible rfl)) ?_
            try simp only [Act.put, lq1, lq2, lq3, lq4, lq5, lq6]
            refine goAny_ready (rs := [6]) (by decide +kernel) (by simp) ?_
            refine (AllGo.cons ?_ AllGo.nil)
            ·refine opGo_value (w' := W1) rfl (by rfl) (by go_simp; try (with_reducible rfl)) ?_
             try simp only [Act.put, lq1, lq2, lq3, lq4, lq5, lq6]
             refine goAny_done (by decide +kernel) ?_ _
             go_wp2_with fail
             go_meet
             exact ⟨rfl, rfl, rfl, HHH.out.1, HHH.out.2.1, HHH.out.2.2⟩
       ·refine opGo_value (w' := W0) rfl (by rfl) (by go_simp; try (with_reducible rfl)) ?_
        try simp only [Act.put, lq1, lq2, lq3, lq4, lq5, lq6]
        refine goAny_ready (rs := [2]) (by decide +kernel) (by simp) ?_
        refine (AllGo.cons ?_ AllGo.nil)
        ·refine opGo_value (w' := W0) rfl (by rfl) (by go_simp; try (with_reducible rfl)) ?_
         try simp only [Act.put, lq1, lq2, lq3, lq4, lq5, lq6]
         refine goAny_ready (rs := [3]) (by decide +kernel) (by simp) ?_
         refine (AllGo.cons ?_ AllGo.nil)
         ·refine opGo_recv_cons (z := .int .i64 0) rfl (by rfl) (by simp [go_sem, Go.Conc.rcase]) HCH0.out ?_
          rw [← HW1.out]
          try simp only [Act.put, lq1, lq2, lq3, lq4, lq5, lq6]
          refine goAny_ready (rs := [4]) (by decide +kernel) (by simp) ?_
          refine (AllGo.cons ?_ AllGo.nil)
          ·refine opGo_value (w' := W1) rfl (by rfl) (by go_simp; try (with_reducible rfl)) ?_
           try simp only [Act.put, lq1, lq2, lq3, lq4, lq5, lq6]
           refine goAny_ready (rs := [5]) (by decide +kernel) (by simp) ?_
           refine (AllGo.cons ?_ AllGo.nil)
           ·refine opGo_value (w' := W1) rfl (by rfl) (by go_simp; try (with_reducible rfl)) ?_
            try simp only [Act.put, lq1, lq2, lq3, lq4, lq5, lq6]
            refine goAny_ready (rs := [6]) (by decide +kernel) (by simp) ?_
            refine (AllGo.cons ?_ AllGo.nil)
            ·refine opGo_value (w' := W1) rfl (by rfl) (by go_simp; try (with_reducible rfl)) ?_
             try simp only [Act.put, lq1, lq2, lq3, lq4, lq5, lq6]
             refine goAny_done (by decide +kernel) ?_ _
             go_wp2_with fail
             go_meet
             exact ⟨rfl, rfl, rfl, HHH.out.1, HHH.out.2.1, HHH.out.2.2⟩
      ·refine opGo_value (w' := W0) rfl (by rfl) (by go_simp; try (with_reducible rfl)) ?_
       try simp only [Act.put, lq1, lq2, lq3, lq4, lq5, lq6]
       refine goAny_ready (rs := [1, 3, 7]) (by decide +kernel) (by simp) ?_
       refine (AllGo.cons ?_ (AllGo.cons ?_ (AllGo.cons ?_ AllGo.nil)))
       ·refine opGo_value (w' := W0) rfl (by rfl) (by go_simp; try (with_reducible rfl)) ?_
        try simp only [Act.put, lq1, lq2, lq3, lq4, lq5, lq6]
        refine goAny_ready (rs := [3, 7]) (by decide +kernel) (by simp) ?_
        refine (AllGo.cons ?_ (AllGo.cons ?_ AllGo.nil))
        ·refine opGo_recv_cons (z := .int .i64 0) rfl (by rfl) (by simp [go_sem, Go.Conc.rcase]) HCH0.out ?_
         rw [← HW1.out]
         try simp only [Act.put, lq1, lq2, lq3, lq4, lq5, lq6]
         refine goAny_ready (rs := [4, 7]) (by decide +kernel) (by simp) ?_
         refine (AllGo.cons ?_ (AllGo.cons ?_ AllGo.nil))
         ·refine opGo_value (w' := W1) rfl (by rfl) (by go_simp; try (with_reducible rfl)) ?_
          try simp only [Act.put, lq1, lq2, lq3, lq4, lq5, lq6]
          refine goAny_ready (rs := [5, 7]) (by decide +kernel) (by simp) ?_
          refine (AllGo.cons ?_ (AllGo.cons ?_ AllGo.nil))
          ·refine opGo_value (w' := W1) rfl (by rfl) (by go_simp; try (with_reducible rfl)) ?_
           try simp only [Act.put, lq1, lq2, lq3, lq4, lq5, lq6]
           refine goAny_ready (rs := [6, 7]) (by decide +kernel) (by simp) ?_
           refine (AllGo.cons ?_ (AllGo.cons ?_ AllGo.nil))
           ·refine opGo_value (w' := W1) rfl (by rfl) (by go_simp; try (with_reducible rfl)) ?_
            try simp only [Act.put, lq1, lq2, lq3, lq4, lq5, lq6]
            refine goAny_ready (rs := [7]) (by decide +kernel) (by simp) ?_
            refine (AllGo.cons ?_ AllGo.nil)
            ·refine opGo_value (w' := W1) rfl (by rfl) (by go_simp; try (with_reducible rfl)) ?_
             try simp only [Act.put, lq1, lq2, lq3, lq4, lq5, lq6]
             refine goAny_done (by decide +kernel) ?_ _
             go_wp2_with fail
             go_meet
             exact ⟨rfl, rfl, rfl, HHH.out.1, HHH.out.2.1, HHH.out.2.2⟩
           ·refine opGo_value (w' := W1) rfl (by rfl) (by go_simp; try (with_reducible rfl)) ?_
            try simp only [Act.put, lq1, lq2, lq3, lq4, lq5, lq6]
            refine goAny_ready (rs := [6]) (by decide +kernel) (by simp) ?_
            refine (AllGo.cons ?_ AllGo.nil)
            ·refine opGo_value (w' := W1) rfl (by rfl) (by go_simp; try (with_reducible rfl)) ?_
             try simp only [Act.put, lq1, lq2, lq3, lq4, lq5, lq6]
             refine goAny_done (by decide +kernel) ?_ _
             go_wp2_with fail
             go_meet
             exact ⟨rfl, rfl, rfl, HHH.out.1, HHH.out.2.1, HHH.out.2.2⟩
          ·refine opGo_value (w' := W1) rfl (by rfl) (by go_simp; try (with_reducible rfl)) ?_
           try simp only [Act.put, lq1, lq2, lq3, lq4, lq5, lq6]
           refine goAny_ready (rs := [5]) (by decide +kernel) (by simp) ?_
           refine (AllGo.cons ?_ AllGo.nil)
           ·refine opGo_value (w' := W1) rfl (by rfl) (by go_simp; try (with_reducible rfl)) ?_
            try simp only [Act.put, lq1, lq2, lq3, lq4, lq5, lq6]
            refine goAny_ready (rs := [6]) (by decide +kernel) (by simp) ?_
            refine (AllGo.cons ?_ AllGo.nil)
            ·refine opGo_value (w' := W1) rfl (by rfl) (by go_simp; try (with_reducible rfl)) ?_
             try simp only [Act.put, lq1, lq2, lq3, lq4, lq5, lq6]
             refine goAny_done (by decide +kernel) ?_ _
             go_wp2_with fail
             go_meet
             exact ⟨rfl, rfl, rfl, HHH.out.1, HHH.out.2.1, HHH.out.2.2⟩
         ·refine opGo_value (w' := W1) rfl (by rfl) (by go_simp; try (with_reducible rfl)) ?_
          try simp only [Act.put, lq1, lq2, lq3, lq4, lq5, lq6]
          refine goAny_ready (rs := [4]) (by decide +kernel) (by simp) ?_
          refine (AllGo.cons ?_ AllGo.nil)
          ·refine opGo_value (w' := W1) rfl (by rfl) (by go_simp; try (with_reducible rfl)) ?_
           try simp only [Act.put, lq1, lq2, lq3, lq4, lq5, lq6]
           refine goAny_ready (rs := [5]) (by decide +kernel) (by simp) ?_
           refine (AllGo.cons ?_ AllGo.nil)
           ·refine opGo_value (w' := W1) rfl (by rfl) (by go_simp; try (with_reducible rfl)) ?_
            try simp only [Act.put, lq1, lq2, lq3, lq4, lq5, lq6]
            refine goAny_ready (rs := [6]) (by decide +kernel) (by simp) ?_
            refine (AllGo.cons ?_ AllGo.nil)
            ·refine opGo_value (w' := W1) rfl (by rfl) (by go_simp; try (with_reducible rfl)) ?_
             try simp only [Act.put, lq1, lq2, lq3, lq4, lq5, lq6]
             refine goAny_done (by decide +kernel) ?_ _
             go_wp2_with fail
             go_meet
             exact ⟨rfl, rfl, rfl, HHH.out.1, HHH.out.2.1, HHH.out.2.2⟩
        ·refine opGo_value (w' := W0) rfl (by rfl) (by go_simp; try (with_reducible rfl)) ?_
         try simp only [Act.put, lq1, lq2, lq3, lq4, lq5, lq6]
         refine goAny_ready (rs := [3]) (by decide +kernel) (by simp) ?_
         refine (AllGo.cons ?_ AllGo.nil)
         ·refine opGo_recv_cons (z := .int .i64 0) rfl (by rfl) (by simp [go_sem, Go.Conc.rcase]) HCH0.out ?_
          rw [← HW1.out]
          try simp only [Act.put, lq1, lq2, lq3, lq4, lq5, lq6]
          refine goAny_ready (rs := [4]) (by decide +kernel) (by simp) ?_
          refine (AllGo.cons ?_ AllGo.nil)
          ·refine opGo_value (w' := W1) rfl (by rfl) (by go_simp; try (with_reducible rfl)) ?_
           try simp only [Act.put, lq1, lq2, lq3, lq4, lq5, lq6]
           refine goAny_ready (rs := [5]) (by decide +kernel) (by simp) ?_
           refine (AllGo.cons ?_ AllGo.nil)
           ·refine opGo_value (w' := W1) rfl (by rfl) (by go_simp; try (with_reducible rfl)) ?_
            try simp only [Act.put, lq1, lq2, lq3, lq4, lq5, lq6]
            refine goAny_ready (rs := [6]) (by decide +kernel) (by simp) ?_
            refine (AllGo.cons ?_ AllGo.nil)
            ·refine opGo_value (w' := W1) rfl (by rfl) (by go_simp; try (with_reducible rfl)) ?_
             try simp only [Act.put, lq1, lq2, lq3, lq4, lq5, lq6]
             refine goAny_done (by decide +kernel) ?_ _
             go_wp2_with fail
             go_meet
             exact ⟨rfl, rfl, rfl, HHH.out.1, HHH.out.2.1, HHH.out.2.2⟩
       ·refine opGo_recv_cons (z := .int .i64 0) rfl (by rfl) (by simp [go_sem, Go.Conc.rcase]) HCH0.out ?_
        rw [← HW1.out]
        try simp only [Act.put, lq1, lq2, lq3, lq4, lq5, lq6]
        refine goAny_ready (rs := [1, 7]) (by decide +kernel) (by simp) ?_
        refine (AllGo.cons ?_ (AllGo.cons ?_ AllGo.nil))
        ·refine opGo_value (w' := W1) rfl (by rfl) (by go_simp; try (with_reducible rfl)) ?_
         try simp only [Act.put, lq1, lq2, lq3, lq4, lq5, lq6]
         refine goAny_ready (rs := [4, 7]) (by decide +kernel) (by simp) ?_
         refine (AllGo.cons ?_ (AllGo.cons ?_ AllGo.nil))
         ·refine opGo_value (w' := W1) rfl (by rfl) (by go_simp; try (with_reducible rfl)) ?_
          try simp only [Act.put, lq1, lq2, lq3, lq4, lq5, lq6]
          refine goAny_ready (rs := [5, 7]) (by decide +kernel) (by simp) ?_
          refine (AllGo.cons ?_ (AllGo.cons ?_ AllGo.nil))
          ·refine opGo_value (w' := W1) rfl (by rfl) (by go_simp; try (with_reducible rfl)) ?_
           try simp only [Act.put, lq1, lq2, lq3, lq4, lq5, lq6]
           refine goAny_ready (rs := [6, 7]) (by decide +kernel) (by simp) ?_
           refine (AllGo.cons ?_ (AllGo.cons ?_ AllGo.nil))
           ·refine opGo_value (w' := W1) rfl (by rfl) (by go_simp; try (with_reducible rfl)) ?_
            try simp only [Act.put, lq1, lq2, lq3, lq4, lq5, lq6]
            refine goAny_ready (rs := [7]) (by decide +kernel) (by simp) ?_
            refine (AllGo.cons ?_ AllGo.nil)
            ·refine opGo_value (w' := W1) rfl (by rfl) (by go_simp; try (with_reducible rfl)) ?_
             try simp only [Act.put, lq1, lq2, lq3, lq4, lq5, lq6]
             refine goAny_done (by decide +kernel) ?_ _
             go_wp2_with fail
             go_meet
             exact ⟨rfl, rfl, rfl, HHH.out.1, HHH.out.2.1, HHH.out.2.2⟩
           ·refine opGo_value (w' := W1) rfl (by rfl) (by go_simp; try (with_reducible rfl)) ?_
            try simp only [Act.put, lq1, lq2, lq3, lq4, lq5, lq6]
            refine goAny_ready (rs := [6]) (by decide +kernel) (by simp) ?_
            refine (AllGo.cons ?_ AllGo.nil)
            ·refine opGo_value (w' := W1) rfl (by rfl) (by go_simp; try (with_reducible rfl)) ?_
             try simp only [Act.put, lq1, lq2, lq3, lq4, lq5, lq6]
             refine goAny_done (by decide +kernel) ?_ _
             go_wp2_with fail
             go_meet
             exact ⟨rfl, rfl, rfl, HHH.out.1, HHH.out.2.1, HHH.out.2.2⟩
          ·refine opGo_value (w' := W1) rfl (by rfl) (by go_simp; try (with_reducible rfl)) ?_
           try simp only [Act.put, lq1, lq2, lq3, lq4, lq5, lq6]
           refine goAny_ready (rs := [5]) (by decide +kernel) (by simp) ?_
           refine (AllGo.cons ?_ AllGo.nil)
           ·refine opGo_value (w' := W1) rfl (by rfl) (by go_simp; try (with_reducible rfl)) ?_
            try simp only [Act.put, lq1, lq2, lq3, lq4, lq5, lq6]
            refine goAny_ready (rs := [6]) (by decide +kernel) (by simp) ?_
            refine (AllGo.cons ?_ AllGo.nil)
            ·refine opGo_value (w' := W1) rfl (by rfl) (by go_simp; try (with_reducible rfl)) ?_
             try simp only [Act.put, lq1, lq2, lq3, lq4, lq5, lq6]
             refine goAny_done (by decide +kernel) ?_ _
             go_wp2_with fail
             go_meet
             exact ⟨rfl, rfl, rfl, HHH.out.1, HHH.out.2.1, HHH.out.2.2⟩
         ·refine opGo_value (w' := W1) rfl (by rfl) (by go_simp; try (with_reducible rfl)) ?_
          try simp only [Act.put, lq1, lq2, lq3, lq4, lq5, lq6]
          refine goAny_ready (rs := [4]) (by decide +kernel) (by simp) ?_
          refine (AllGo.cons ?_ AllGo.nil)
          ·refine opGo_value (w' := W1) rfl (by rfl) (by go_simp; try (with_reducible rfl)) ?_
           try simp only [Act.put, lq1, lq2, lq3, lq4, lq5, lq6]
           refine goAny_ready (rs := [5]) (by decide +kernel) (by simp) ?_
           refine (AllGo.cons ?_ AllGo.nil)
           ·refine opGo_value (w' := W1) rfl (by rfl) (by go_simp; try (with_reducible rfl)) ?_
            try simp only [Act.put, lq1, lq2, lq3, lq4, lq5, lq6]
            refine goAny_ready (rs := [6]) (by decide +kernel) (by simp) ?_
            refine (AllGo.cons ?_ AllGo.nil)
            ·refine opGo_value (w' := W1) rfl (by rfl) (by go_simp; try (with_reducible rfl)) ?_
             try simp only [Act.put, lq1, lq2, lq3, lq4, lq5, lq6]
             refine goAny_done (by decide +kernel) ?_ _
             go_wp2_with fail
             go_meet
             exact ⟨rfl, rfl, rfl, HHH.out.1, HHH.out.2.1, HHH.out.2.2⟩
        ·refine opGo_value (w' := W1) rfl (by rfl) (by go_simp; try (with_reducible rfl)) ?_
         try simp only [Act.put, lq1, lq2, lq3, lq4, lq5, lq6]
         refine goAny_ready (rs := [1]) (by decide +kernel) (by simp) ?_
         refine (AllGo.cons ?_ AllGo.nil)
         ·refine opGo_value (w' := W1) rfl (by rfl) (by go_simp; try (with_reducible rfl)) ?_
          try simp only [Act.put, lq1, lq2, lq3, lq4, lq5, lq6]
          refine goAny_ready (rs := [4]) (by decide +kernel) (by simp) ?_
          refine (AllGo.cons ?_ AllGo.nil)
          ·refine opGo_value (w' := W1) rfl (by rfl) (by go_simp; try (with_reducible rfl)) ?_
           try simp only [Act.put, lq1, lq2, lq3, lq4, lq5, lq6]
           refine goAny_ready (rs := [5]) (by decide +kernel) (by simp) ?_
           refine (AllGo.cons ?_ AllGo.nil)
           ·refine opGo_value (w' := W1) rfl (by rfl) (by go_simp; try (with_reducible rfl)) ?_
            try simp only [Act.put, lq1, lq2, lq3, lq4, lq5, lq6]
            refine goAny_ready (rs := [6]) (by decide +kernel) (by simp) ?_
            refine (AllGo.cons ?_ AllGo.nil)
            ·refine opGo_value (w' := W1) rfl (by rfl) (by go_simp; try (with_reducible rfl)) ?_
             try simp only [Act.put, lq1, lq2, lq3, lq4, lq5, lq6]
             refine goAny_done (by decide +kernel) ?_ _
             go_wp2_with fail
             go_meet
             exact ⟨rfl, rfl, rfl, HHH.out.1, HHH.out.2.1, HHH.out.2.2⟩
       ·refine opGo_value (w' := W0) rfl (by rfl) (by go_simp; try (with_reducible rfl)) ?_
        try simp only [Act.put, lq1, lq2, lq3, lq4, lq5, lq6]
        refine goAny_ready (rs := [1, 3]) (by decide +kernel) (by simp) ?_
        refine (AllGo.cons ?_ (AllGo.cons ?_ AllGo.nil))
        ·refine opGo_value (w' := W0) rfl (by rfl) (by go_simp; try (with_reducible rfl)) ?_
         try simp only [Act.put, lq1, lq2, lq3, lq4, lq5, lq6]
         refine goAny_ready (rs := [3]) (by decide +kernel) (by simp) ?_
         refine (AllGo.cons ?_ AllGo.nil)
         ·refine opGo_recv_cons (z := .int .i64 0) rfl (by rfl) (by simp [go_sem, Go.Conc.rcase]) HCH0.out ?_
          rw [← HW1.out]
          try simp only [Act.put, lq1, lq2, lq3, lq4, lq5, lq6]
          refine goAny_ready (rs := [4]) (by decide +kernel) (by simp) ?_
          refine (AllGo.cons ?_ AllGo.nil)
          ·refine opGo_value (w' := W1) rfl (by rfl) (by go_simp; try (with_reducible rfl)) ?_
           try simp only [Act.put, lq1, lq2, lq3, lq4, lq5, lq6]
           refine goAny_ready (rs := [5]) (by decide +kernel) (by simp) ?_
           refine (AllGo.cons ?_ AllGo.nil)
           ·refine opGo_value (w' := W1) rfl (by rfl) (by go_simp; try (with_reducible rfl)) ?_
            try simp only [Act.put, lq1, lq2, lq3, lq4, lq5, lq6]
            refine goAny_ready (rs := [6]) (by decide +kernel) (by simp) ?_
            refine (AllGo.cons ?_ AllGo.nil)
            ·refine opGo_value (w' := W1) rfl (by rfl) (by go_simp; try (with_reducible rfl)) ?_
             try simp only [Act.put, lq1, lq2, lq3, lq4, lq5, lq6]
             refine goAny_done (by decide +kernel) ?_ _
             go_wp2_with fail
             go_meet
             exact ⟨rfl, rfl, rfl, HHH.out.1, HHH.out.2.1, HHH.out.2.2⟩
        ·refine opGo_recv_cons (z := .int .i64 0) rfl (by rfl) (by simp [go_sem, Go.Conc.rcase]) HCH0.out ?_
         rw [← HW1.out]
         try simp only [Act.put, lq1, lq2, lq3, lq4, lq5, lq6]
         refine goAny_ready (rs := [1]) (by decide +kernel) (by simp) ?_
         refine (AllGo.cons ?_ AllGo.nil)
         ·refine opGo_value (w' := W1) rfl (by rfl) (by go_simp; try (with_reducible rfl)) ?_
          try simp only [Act.put, lq1, lq2, lq3, lq4, lq5, lq6]
          refine goAny_ready (rs := [4]) (by decide +kernel) (by simp) ?_
          refine (AllGo.cons ?_ AllGo.nil)
          ·refine opGo_value (w' := W1) rfl (by rfl) (by go_simp; try (with_reducible rfl)) ?_
           try simp only [Act.put, lq1, lq2, lq3, lq4, lq5, lq6]
           refine goAny_ready (rs := [5]) (by decide +kernel) (by simp) ?_
           refine (AllGo.cons ?_ AllGo.nil)
           ·refine opGo_value (w' := W1) rfl (by rfl) (by go_simp; try (with_reducible rfl)) ?_
            try simp only [Act.put, lq1, lq2, lq3, lq4, lq5, lq6]
            refine goAny_ready (rs := [6]) (by decide +kernel) (by simp) ?_
            refine (AllGo.cons ?_ AllGo.nil)
            ·refine opGo_value (w' := W1) rfl (by rfl) (by go_simp; try (with_reducible rfl)) ?_
             try simp only [Act.put, lq1, lq2, lq3, lq4, lq5, lq6]
             refine goAny_done (by decide +kernel) ?_ _
             go_wp2_with fail
             go_meet
             exact ⟨rfl, rfl, rfl, HHH.out.1, HHH.out.2.1, HHH.out.2.2⟩
      ·refine opGo_value (w' := W0) rfl (by rfl) (by go_simp; try (with_reducible rfl)) ?_
       try simp only [Act.put, lq1, lq2, lq3, lq4, lq5, lq6]
       refine goAny_ready (rs := [1, 2]) (by decide +kernel) (by simp) ?_
       refine (AllGo.cons ?_ (AllGo.cons ?_ AllGo.nil))
       ·refine opGo_value (w' := W0) rfl (by rfl) (by go_simp; try (with_reducible rfl)) ?_
        try simp only [Act.put, lq1, lq2, lq3, lq4, lq5, lq6]
        refine goAny_ready (rs := [2]) (by decide +kernel) (by simp) ?_
        refine (AllGo.cons ?_ AllGo.nil)
        ·refine opGo_value (w' := W0) rfl (by rfl) (by go_simp; try (with_reducible rfl)) ?_
         try simp only [Act.put, lq1, lq2, lq3, lq4, lq5, lq6]
         refine goAny_ready (rs := [3]) (by decide +kernel) (by simp) ?_
         refine (AllGo.cons ?_ AllGo.nil)
         ·refine opGo_recv_cons (z := .int .i64 0) rfl (by rfl) (by simp [go_sem, Go.Conc.rcase]) HCH0.out ?_
          rw [← HW1.out]
          try simp only [Act.put, lq1, lq2, lq3, lq4, lq5, lq6]
          refine goAny_ready (rs := [4]) (by decide +kernel) (by simp) ?_
          refine (AllGo.cons ?_ AllGo.nil)
          ·refine opGo_value (w' := W1) rfl (by rfl) (by go_simp; try (with_reducible rfl)) ?_
           try simp only [Act.put, lq1, lq2, lq3, lq4, lq5, lq6]
           refine goAny_ready (rs := [5]) (by decide +kernel) (by simp) ?_
           refine (AllGo.cons ?_ AllGo.nil)
           ·refine opGo_value (w' := W1) rfl (by rfl) (by go_simp; try (with_reducible rfl)) ?_
            try simp only [Act.put, lq1, lq2, lq3, lq4, lq5, lq6]
            refine goAny_ready (rs := [6]) (by decide +kernel) (by simp) ?_
            refine (AllGo.cons ?_ AllGo.nil)
            ·refine opGo_value (w' := W1) rfl (by rfl) (by go_simp; try (with_reducible rfl)) ?_
             try simp only [Act.put, lq1, lq2, lq3, lq4, lq5, lq6]
             refine goAny_done (by decide +kernel) ?_ _
             go_wp2_with fail
             go_meet
             exact ⟨rfl, rfl, rfl, HHH.out.1, HHH.out.2.1, HHH.out.2.2⟩
       ·refine opGo_value (w' := W0) rfl (by rfl) (by go_simp; try (with_reducible rfl)) ?_
        try simp only [Act.put, lq1, lq2, lq3, lq4, lq5, lq6]
        refine goAny_ready (rs := [1, 3]) (by decide +kernel) (by simp) ?_
        refine (AllGo.cons ?_ (AllGo.cons ?_ AllGo.nil))
        ·refine opGo_value (w' := W0) rfl (by rfl) (by go_simp; try (with_reducible rfl)) ?_
         try simp only [Act.put, lq1, lq2, lq3, lq4, lq5, lq6]
         refine goAny_ready (rs := [3]) (by decide +kernel) (by simp) ?_
         refine (AllGo.cons ?_ AllGo.nil)
         ·refine opGo_recv_cons (z := .int .i64 0) rfl (by rfl) (by simp [go_sem, Go.Conc.rcase]) HCH0.out ?_
          rw [← HW1.out]
          try simp only [Act.put, lq1, lq2, lq3, lq4, lq5, lq6]
          refine goAny_ready (rs := [4]) (by decide +kernel) (by simp) ?_
          refine (AllGo.cons ?_ AllGo.nil)
          ·refine opGo_value (w' := W1) rfl (by rfl) (by go_simp; try (with_reducible rfl)) ?_
           try simp only [Act.put, lq1, lq2, lq3, lq4, lq5, lq6]
           refine goAny_ready (rs := [5]) (by decide +kernel) (by simp) ?_
           refine (AllGo.cons ?_ AllGo.nil)
           ·refine opGo_value (w' := W1) rfl (by rfl) (by go_simp; try (with_reducible rfl)) ?_
            try simp only [Act.put, lq1, lq2, lq3, lq4, lq5, lq6]
            refine goAny_ready (rs := [6]) (by decide +kernel) (by simp) ?_
            refine (AllGo.cons ?_ AllGo.nil)
            ·refine opGo_value (w' := W1) rfl (by rfl) (by go_simp; try (with_reducible rfl)) ?_
             try simp only [Act.put, lq1, lq2, lq3, lq4, lq5, lq6]
             refine goAny_done (by decide +kernel) ?_ _
             go_wp2_with fail
             go_meet
             exact ⟨rfl, rfl, rfl, HHH.out.1, HHH.out.2.1, HHH.out.2.2⟩
        ·refine opGo_recv_cons (z := .int .i64 0) rfl (by rfl) (by simp [go_sem, Go.Conc.rcase]) HCH0.out ?_
         rw [← HW1.out]
         try simp only [Act.put, lq1, lq2, lq3, lq4, lq5, lq6]
         refine goAny_ready (rs := [1]) (by decide +kernel) (by simp) ?_
         refine (AllGo.cons ?_ AllGo.nil)
         ·refine opGo_value (w' := W1) rfl (by rfl) (by go_simp; try (with_reducible rfl)) ?_
          try simp only [Act.put, lq1, lq2, lq3, lq4, lq5, lq6]
          refine goAny_ready (rs := [4]) (by decide +kernel) (by simp) ?_
          refine (AllGo.cons ?_ AllGo.nil)
          ·refine opGo_value (w' := W1) rfl (by rfl) (by go_simp; try (with_reducible rfl)) ?_
           try simp only [Act.put, lq1, lq2, lq3, lq4, lq5, lq6]
           refine goAny_ready (rs := [5]) (by decide +kernel) (by simp) ?_
           refine (AllGo.cons ?_ AllGo.nil)
           ·refine opGo_value (w' := W1) rfl (by rfl) (by go_simp; try (with_reducible rfl)) ?_
            try simp only [Act.put, lq1, lq2, lq3, lq4, lq5, lq6]
            refine goAny_ready (rs := [6]) (by decide +kernel) (by simp) ?_
            refine (AllGo.cons ?_ AllGo.nil)
            ·refine opGo_value (w' := W1) rfl (by rfl) (by go_simp; try (with_reducible rfl)) ?_
             try simp only [Act.put, lq1, lq2, lq3, lq4, lq5, lq6]
             refine goAny_done (by decide +kernel) ?_ _
             go_wp2_with fail
             go_meet
             exact ⟨rfl, rfl, rfl, HHH.out.1, HHH.out.2.1, HHH.out.2.2⟩
     ·refine opGo_value (w' := W0) rfl (by rfl) (by go_simp; try (with_reducible rfl)) ?_
      try simp only [Act.put, lq1, lq2, lq3, lq4, lq5, lq6]
      refine goAny_ready (rs := [0, 3, 7]) (by decide +kernel) (by simp) ?_
      refine (AllGo.cons ?_ (AllGo.cons ?_ (AllGo.cons ?_ AllGo.nil)))
      ·refine opGo_value (w' := W0) rfl (by rfl) (by go_simp; try (with_reducible rfl)) ?_
       try simp only [Act.put, lq1, lq2, lq3, lq4, lq5, lq6]
       refine goAny_ready (rs := [1, 3, 7]) (by decide +kernel) (by simp) ?_
       refine (AllGo.cons ?_ (AllGo.cons ?_ (AllGo.cons ?_ AllGo.nil)))
       ·refine opGo_value (w' := W0) rfl (by rfl) (by go_simp; try (with_reducible rfl)) ?_
        try simp only [Act.put, lq1, lq2, lq3, lq4, lq5, lq6]
        refine goAny_ready (rs := [3, 7]) (by decide +kernel) (by simp) ?_
        refine (AllGo.cons ?_ (AllGo.cons ?_ AllGo.nil))
        ·refine opGo_recv_cons (z := .int .i64 0) rfl (by rfl) (by simp [go_sem, Go.Conc.rcase]) HCH0.out ?_
         rw [← HW1.out]
         try simp only [Act.put, lq1, lq2, lq3, lq4, lq5, lq6]
         refine goAny_ready (rs := [4, 7]) (by decide +kernel) (by simp) ?_
         refine (AllGo.cons ?_ (AllGo.cons ?_ AllGo.nil))
         ·refine opGo_value (w' := W1) rfl (by rfl) (by go_simp; try (with_reducible rfl)) ?_
          try simp only [Act.put, lq1, lq2, lq3, lq4, lq5, lq6]
          refine goAny_ready (rs := [5, 7]) (by decide +kernel) (by simp) ?_
          refine (AllGo.cons ?_ (AllGo.cons ?_ AllGo.nil))
          ·refine opGo_value (w' := W1) rfl (by rfl) (by go_simp; try (with_reducible rfl)) ?_
           try simp only [Act.put, lq1, lq2, lq3, lq4, lq5, lq6]
           refine goAny_ready (rs := [6, 7]) (by decide +kernel) (by simp) ?_
           refine (AllGo.cons ?_ (AllGo.cons ?_ AllGo.nil))
           ·refine opGo_value (w' := W1) rfl (by rfl) (by go_simp; try (with_reducible rfl)) ?_
            try simp only [Act.put, lq1, lq2, lq3, lq4, lq5, lq6]
            refine goAny_ready (rs := [7]) (by decide +kernel) (by simp) ?_
            refine (AllGo.cons ?_ AllGo.nil)
            ·refine opGo_value (w' := W1) rfl (by rfl) (by go_simp; try (with_reducible rfl)) ?_
             try simp only [Act.put, lq1, lq2, lq3, lq4, lq5, lq6]
             refine goAny_done (by decide +kernel) ?_ _
             go_wp2_with fail
             go_meet
             exact ⟨rfl, rfl, rfl, HHH.out.1, HHH.out.2.1, HHH.out.2.2⟩
           ·refine opGo_value (w' := W1) rfl (by rfl) (by go_simp; try (with_reducible rfl)) ?_
            try simp only [Act.put, lq1, lq2, lq3, lq4, lq5, lq6]
            refine goAny_ready (rs := [6]) (by decide +kernel) (by simp) ?_
            refine (AllGo.cons ?_ AllGo.nil)
            ·refine opGo_value (w' := W1) rfl (by rfl) (by go_simp; try (with_reducible rfl)) ?_
             try simp only [Act.put, lq1, lq2, lq3, lq4, lq5, lq6]
             refine goAny_done (by decide +kernel) ?_ _
             go_wp2_with fail
             go_meet
             exact ⟨rfl, rfl, rfl, HHH.out.1, HHH.out.2.1, HHH.out.2.2⟩
          ·refine opGo_value (w' := W1) rfl (by rfl) (by go_simp; try (with_reducible rfl)) ?_
           try simp only [Act.put, lq1, lq2, lq3, lq4, lq5, lq6]
           refine goAny_ready (rs := [5]) (by decide +kernel) (by simp) ?_
           refine (AllGo.cons ?_ AllGo.nil)
           ·refine opGo_value (w' := W1) rfl (by rfl) (by go_simp; try (with_reducible rfl)) ?_
            try simp only [Act.put, lq1, lq2, lq3, lq4, lq5, lq6]
            refine goAny_ready (rs := [6]) (by decide +kernel) (by simp) ?_
            refine (AllGo.cons ?_ AllGo.nil)
            ·refine opGo_value (w' := W1) rfl (by rfl) (by go_simp; try (with_reducible rfl)) ?_
             try simp only [Act.put, lq1, lq2, lq3, lq4, lq5, lq6]
             refine goAny_done (by decide +kernel) ?_ _
             go_wp2_with fail
             go_meet
             exact ⟨rfl, rfl, rfl, HHH.out.1, HHH.out.2.1, HHH.out.2.2⟩
         ·refine opGo_value (w' := W1) rfl (by rfl) (by go_simp; try (with_reducible rfl)) ?_
          try simp only [Act.put, lq1, lq2, lq3, lq4, lq5, lq6]
          refine goAny_ready (rs := [4]) (by decide +kernel) (by simp) ?_
          refine (AllGo.cons ?_ AllGo.nil)
          ·refine opGo_value (w' := W1) rfl (by rfl) (by go_simp; try (with_reducible rfl)) ?_
           try simp only [Act.put, lq1, lq2, lq3, lq4, lq5, lq6]
           refine goAny_ready (rs := [5]) (by decide +kernel) (by simp) ?_
           refine (AllGo.cons ?_ AllGo.nil)
           ·refine opGo_value (w' := W1) rfl (by rfl) (by go_simp; try (with_reducible rfl)) ?_
            try simp only [Act.put, lq1, lq2, lq3, lq4, lq5, lq6]
            refine goAny_ready (rs := [6]) (by decide +kernel) (by simp) ?_
            refine (AllGo.cons ?_ AllGo.nil)
            ·refine opGo_value (w' := W1) rfl (by rfl) (by go_simp; try (with_reducible rfl)) ?_
             try simp only [Act.put, lq1, lq2, lq3, lq4, lq5, lq6]
             refine goAny_done (by decide +kernel) ?_ _
             go_wp2_with fail
             go_meet
             exact ⟨rfl, rfl, rfl, HHH.out.1, HHH.out.2.1, HHH.out.2.2⟩
        ·refine opGo_value (w' := W0) rfl (by rfl) (by go_simp; try (with_reducible rfl)) ?_
         try simp only [Act.put, lq1, lq2, lq3, lq4, lq5, lq6]
         refine goAny_ready (rs := [3]) (by decide +kernel) (by simp) ?_
         refine (AllGo.cons ?_ AllGo.nil)
         ·refine opGo_recv_cons (z := .int .i64 0) rfl (by rfl) (by simp [go_sem, Go.Conc.rcase]) HCH0.out ?_
          rw [← HW1.out]
          try simp only [Act.put, lq1, lq2, lq3, lq4, lq5, lq6]
          refine goAny_ready (rs := [4]) (by decide +kernel) (by simp) ?_
          refine (AllGo.cons ?_ AllGo.nil)
          ·refine opGo_value (w' := W1) rfl (by rfl) (by go_simp; try (with_reducible rfl)) ?_
           try simp only [Act.put, lq1, lq2, lq3, lq4, lq5, lq6]
           refine goAny_ready (rs := [5]) (by decide +kernel) (by simp) ?_
           refine (AllGo.cons ?_ AllGo.nil)
           ·refine opGo_value (w' := W1) rfl (by rfl) (by go_simp; try (with_reducible rfl)) ?_
            try simp only [Act.put, lq1, lq2, lq3, lq4, lq5, lq6]
            refine goAny_ready (rs := [6]) (by decide +kernel) (by simp) ?_
            refine (AllGo.cons ?_ AllGo.nil)
            ·refine opGo_value (w' := W1) rfl (by rfl) (by go_simp; try (with_reducible rfl)) ?_
             try simp only [Act.put, lq1, lq2, lq3, lq4, lq5, lq6]
             refine goAny_done (by decide +kernel) ?_ _
             go_wp2_with fail
             go_meet
             exact ⟨rfl, rfl, rfl, HHH.out.1, HHH.out.2.1, HHH.out.2.2⟩
       ·refine opGo_recv_cons (z := .int .i64 0) rfl (by rfl) (by simp [go_sem, Go.Conc.rcase]) HCH0.out ?_
        rw [← HW1.out]
        try simp only [Act.put, lq1, lq2, lq3, lq4, lq5, lq6]
        refine goAny_ready (rs := [1, 7]) (by decide +kernel) (by simp) ?_
        refine (AllGo.cons ?_ (AllGo.cons ?_ AllGo.nil))
        ·refine opGo_value (w' := W1) rfl (by rfl) (by go_simp; try (with_reducible rfl)) ?_
         try simp only [Act.put, lq1, lq2, lq3, lq4, lq5, lq6]
         refine goAny_ready (rs := [4, 7]) (by decide +kernel) (by simp) ?_
         refine (AllGo.cons ?_ (AllGo.cons ?_ AllGo.nil))
         ·refine opGo_value (w' := W1) rfl (by rfl) (by go_simp; try (with_reducible rfl)) ?_
          try simp only [Act.put, lq1, lq2, lq3, lq4, lq5, lq6]
          refine goAny_ready (rs := [5, 7]) (by decide +kernel) (by simp) ?_
          refine (AllGo.cons ?_ (AllGo.cons ?_ AllGo.nil))
          ·refine opGo_value (w' := W1) rfl (by rfl) (by go_simp; try (with_reducible rfl)) ?_
           try simp only [Act.put, lq1, lq2, lq3, lq4, lq5, lq6]
           refine goAny_ready (rs := [6, 7]) (by decide +kernel) (by simp) ?_
           refine (AllGo.cons ?_ (AllGo.cons ?_ AllGo.nil))
           ·refine opGo_value (w' := W1) rfl (by rfl) (by go_simp; try (with_reducible rfl)) ?_
            try simp only [Act.put, lq1, lq2, lq3, lq4, lq5, lq6]
            refine goAny_ready (rs := [7]) (by decide +kernel) (by simp) ?_
            refine (AllGo.cons ?_ AllGo.nil)
            ·refine opGo_value (w' := W1) rfl (by rfl) (by go_simp; try (with_reducible rfl)) ?_
             try simp only [Act.put, lq1, lq2, lq3, lq4, lq5, lq6]
             refine goAny_done (by decide +kernel) ?_ _
             go_wp2_with fail
             go_meet
             exact ⟨rfl, rfl, rfl, HHH.out.1, HHH.out.2.1, HHH.out.2.2⟩
           ·refine opGo_value (w' := W1) rfl (by rfl) (by go_simp; try (with_reducible rfl)) ?_
            try simp only [Act.put, lq1, lq2, lq3, lq4, lq5, lq6]
            refine goAny_ready (rs := [6]) (by decide +kernel) (by simp) ?_
            refine (AllGo.cons ?_ AllGo.nil)
            ·refine opGo_value (w' := W1) rfl (by rfl) (by go_simp; try (with_reducible rfl)) ?_
             try simp only [Act.put, lq1, lq2, lq3, lq4, lq5, lq6]
             refine goAny_done (by decide +kernel) ?_ _
             go_wp2_with fail
             go_meet
             exact ⟨rfl, rfl, rfl, HHH.out.1, HHH.out.2.1, HHH.out.2.2⟩
          ·refine opGo_value (w' := W1) rfl (by rfl) (by go_simp; try (with_reducible rfl)) ?_
           try simp only [Act.put, lq1, lq2, lq3, lq4, lq5, lq6]
           refine goAny_ready (rs := [5]) (by decide +kernel) (by simp) ?_
           refine (AllGo.cons ?_ AllGo.nil)
           ·refine opGo_value (w' := W1) rfl (by rfl) (by go_simp; try (with_reducible rfl)) ?_
            try simp only [Act.put, lq1, lq2, lq3, lq4, lq5, lq6]
            refine goAny_ready (rs := [6]) (by decide +kernel) (by simp) ?_
            refine (AllGo.cons ?_ AllGo.nil)
            ·refine opGo_value (w' := W1) rfl (by rfl) (by go_simp; try (with_reducible rfl)) ?_
             try simp only [Act.put, lq1, lq2, lq3, lq4, lq5, lq6]
             refine goAny_done (by decide +kernel) ?_ _
             go_wp2_with fail
             go_meet
             exact ⟨rfl, rfl, rfl, HHH.out.1, HHH.out.2.1, HHH.out.2.2⟩
         ·refine opGo_value (w' := W1) rfl (by rfl) (by go_simp; try (with_reducible rfl)) ?_
          try simp only [Act.put, lq1, lq2, lq3, lq4, lq5, lq6]
          refine goAny_ready (rs := [4]) (by decide +kernel) (by simp) ?_
          refine (AllGo.cons ?_ AllGo.nil)
          ·refine opGo_value (w' := W1) rfl (by rfl) (by go_simp; try (with_reducible rfl)) ?_
           try simp only [Act.put, lq1, lq2, lq3, lq4, lq5, lq6]
           refine goAny_ready (rs := [5]) (by decide +kernel) (by simp) ?_
           refine (AllGo.cons ?_ AllGo.nil)
           ·refine opGo_value (w' := W1) rfl (by rfl) (by go_simp; try (with_reducible rfl)) ?_
            try simp only [Act.put, lq1, lq2, lq3, lq4, lq5, lq6]
            refine goAny_ready (rs := [6]) (by decide +kernel) (by simp) ?_
            refine (AllGo.cons ?_ AllGo.nil)
            ·refine opGo_value (w' := W1) rfl (by rfl) (by go_simp; try (with_reducible rfl)) ?_
             try simp only [Act.put, lq1, lq2, lq3, lq4, lq5, lq6]
             refine goAny_done (by decide +kernel) ?_ _
             go_wp2_with fail
             go_meet
             exact ⟨rfl, rfl, rfl, HHH.out.1, HHH.out.2.1, HHH.out.2.2⟩
        ·refine opGo_value (w' := W1) rfl (by rfl) (by go_simp; try (with_reducible rfl)) ?_
         try simp only [Act.put, lq1, lq2, lq3, lq4, lq5, lq6]
         refine goAny_ready (rs := [1]) (by decide +kernel) (by simp) ?_
         refine (AllGo.cons ?_ AllGo.nil)
         ·refine opGo_value (w' := W1) rfl (by rfl) (by go_simp; try (with_reducible rfl)) ?_
          try simp only [Act.put, lq1, lq2, lq3, lq4, lq5, lq6]
          refine goAny_ready (rs := [4]) (by decide +kernel) (by simp) ?_
          refine (AllGo.cons ?_ AllGo.nil)
          ·refine opGo_value (w' := W1) rfl (by rfl) (by go_simp; try (with_reducible rfl)) ?_
           try simp only [Act.put, lq1, lq2, lq3, lq4, lq5, lq6]
           refine goAny_ready (rs := [5]) (by decide +kernel) (by simp) ?_
           refine (AllGo.cons ?_ AllGo.nil)
           ·refine opGo_value (w' := W1) rfl (by rfl) (by go_simp; try (with_reducible rfl)) ?_
            try simp only [Act.put, lq1, lq2, lq3, lq4, lq5, lq6]
            refine goAny_ready (rs := [6]) (by decide +kernel) (by simp) ?_
            refine (AllGo.cons ?_ AllGo.nil)
            ·refine opGo_value (w' := W1) rfl (by rfl) (by go_simp; try (with_reducible rfl)) ?_
             try simp only [Act.put, lq1, lq2, lq3, lq4, lq5, lq6]
             refine goAny_done (by decide +kernel) ?_ _
             go_wp2_with fail
             go_meet
             exact ⟨rfl, rfl, rfl, HHH.out.1, HHH.out.2.1, HHH.out.2.2⟩
       ·refine opGo_value (w' := W0) rfl (by rfl) (by go_simp; try (with_reducible rfl)) ?_
        try simp only [Act.put, lq1, lq2, lq3, lq4, lq5, lq6]
        refine goAny_ready (rs := [1, 3]) (by decide +kernel) (by simp) ?_
        refine (AllGo.cons ?_ (AllGo.cons ?_ AllGo.nil))
        ·refine opGo_value (w' := W0) rfl (by rfl) (by go_simp; try (with_reducible rfl)) ?_
         try simp only [Act.put, lq1, lq2, lq3, lq4, lq5, lq6]
         refine goAny_ready (rs := [3]) (by decide +kernel) (by simp) ?_
         refine (AllGo.cons ?_ AllGo.nil)
         ·refine opGo_recv_cons (z := .int .i64 0) rfl (by rfl) (by simp [go_sem, Go.Conc.rcase]) HCH0.out ?_
          rw [← HW1.out]
          try simp only [Act.put, lq1, lq2, lq3, lq4, lq5, lq6]
          refine goAny_ready (rs := [4]) (by decide +kernel) (by simp) ?_
          refine (AllGo.cons ?_ AllGo.nil)
          ·refine opGo_value (w' := W1) rfl (by rfl) (by go_simp; try (with_reducible rfl)) ?_
           try simp only [Act.put, lq1, lq2, lq3, lq4, lq5, lq6]
           refine goAny_ready (rs := [5]) (by decide +kernel) (by simp) ?_
           refine (AllGo.cons ?_ AllGo.nil)
           ·refine opGo_value (w' := W1) rfl (by rfl) (by go_simp; try (with_reducible rfl)) ?_
            try simp only [Act.put, lq1, lq2, lq3, lq4, lq5, lq6]
            refine goAny_ready (rs := [6]) (by decide +kernel) (by simp) ?_
            refine (AllGo.cons ?_ AllGo.nil)
            ·refine opGo_value (w' := W1) rfl (by rfl) (by go_simp; try (with_reducible rfl)) ?_
             try simp only [Act.put, lq1, lq2, lq3, lq4, lq5, lq6]
             refine goAny_done (by decide +kernel) ?_ _
             go_wp2_with fail
             go_meet
             exact ⟨rfl, rfl, rfl, HHH.out.1, HHH.out.2.1, HHH.out.2.2⟩
        ·refine opGo_recv_cons (z := .int .i64 0) rfl (by rfl) (by simp [go_sem, Go.Conc.rcase]) HCH0.out ?_
         rw [← HW1.out]
         try simp only [Act.put, lq1, lq2, lq3, lq4, lq5, lq6]
         refine goAny_ready (rs := [1]) (by decide +kernel) (by simp) ?_
         refine (AllGo.cons ?_ AllGo.nil)
         ·refine opGo_value (w' := W1) rfl (by rfl) (by go_simp; try (with_reducible rfl)) ?_
          try simp only [Act.put, lq1, lq2, lq3, lq4, lq5, lq6]
          refine goAny_ready (rs := [4]) (by decide +kernel) (by simp) ?_
          refine (AllGo.cons ?_ AllGo.nil)
          ·refine opGo_value (w' := W1) rfl (by rfl) (by go_simp; try (with_reducible rfl)) ?_
           try simp only [Act.put, lq1, lq2, lq3, lq4, lq5, lq6]
           refine goAny_ready (rs := [5]) (by decide +kernel) (by simp) ?_
           refine (AllGo.cons ?_ AllGo.nil)
           ·refine opGo_value (w' := W1) rfl (by rfl) (by go_simp; try (with_reducible rfl)) ?_
            try simp only [Act.put, lq1, lq2, lq3, lq4, lq5, lq6]
            refine goAny_ready (rs := [6]) (by decide +kernel) (by simp) ?_
            refine (AllGo.cons ?_ AllGo.nil)
            ·refine opGo_value (w' := W1) rfl (by rfl) (by go_simp; try (with_reducible rfl)) ?_
             try simp only [Act.put, lq1, lq2, lq3, lq4, lq5, lq6]
             refine goAny_done (by decide +kernel) ?_ _
             go_wp2_with fail
             go_meet
             exact ⟨rfl, rfl, rfl, HHH.out.1, HHH.out.2.1, HHH.out.2.2⟩
      ·refine opGo_recv_cons (z := .int .i64 0) rfl (by rfl) (by simp [go_sem, Go.Conc.rcase]) HCH0.out ?_
       rw [← HW1.out]
       try simp only [Act.put, lq1, lq2, lq3, lq4, lq5, lq6]
       refine goAny_ready (rs := [0, 7]) (by decide +kernel) (by simp) ?_
       refine (AllGo.cons ?_ (AllGo.cons ?_ AllGo.nil))
       ·refine opGo_value (w' := W1) rfl (by rfl) (by go_simp; try (with_reducible rfl)) ?_
        try simp only [Act.put, lq1, lq2, lq3, lq4, lq5, lq6]
        refine goAny_ready (rs := [1, 7]) (by decide +kernel) (by simp) ?_
        refine (AllGo.cons ?_ (AllGo.cons ?_ AllGo.nil))
        ·refine opGo_value (w' := W1) rfl (by rfl) (by go_simp; try (with_reducible rfl)) ?_
         try simp only [Act.put, lq1, lq2, lq3, lq4, lq5, lq6]
         refine goAny_ready (rs := [4, 7]) (by decide +kernel) (by simp) ?_
         refine (AllGo.cons ?_ (AllGo.cons ?_ AllGo.nil))
         ·refine opGo_value (w' := W1) rfl (by rfl) (by go_simp; try (with_reducible rfl)) ?_
          try simp only [Act.put, lq1, lq2, lq3, lq4, lq5, lq6]
          refine goAny_ready (rs := [5, 7]) (by decide +kernel) (by simp) ?_
          refine (AllGo.cons ?_ (AllGo.cons ?_ AllGo.nil))
          ·refine opGo_value (w' := W1) rfl (by rfl) (by go_simp; try (with_reducible rfl)) ?_
           try simp only [Act.put, lq1, lq2, lq3, lq4, lq5, lq6]
           refine goAny_ready (rs := [6, 7]) (by decide +kernel) (by simp) ?_
           refine (AllGo.cons ?_ (AllGo.cons ?_ AllGo.nil))
           ·refine opGo_value (w' := W1) rfl (by rfl) (by go_simp; try (with_reducible rfl)) ?_
            try simp only [Act.put, lq1, lq2, lq3, lq4, lq5, lq6]
            refine goAny_ready (rs := [7]) (by decide +kernel) (by simp) ?_
            refine (AllGo.cons ?_ AllGo.nil)
            ·refine opGo_value (w' := W1) rfl (by rfl) (by go_simp; try (with_reducible rfl)) ?_
             try simp only [Act.put, lq1, lq2, lq3, lq4, lq5, lq6]
             refine goAny_done (by decide +kernel) ?_ _
             go_wp2_with fail
             go_meet
             exact ⟨rfl, rfl, rfl, HHH.out.1, HHH.out.2.1, HHH.out.2.2⟩
           ·refine opGo_value (w' := W1) rfl (by rfl) (by go_simp; try (with_reducible rfl)) ?_
            try simp only [Act.put, lq1, lq2, lq3, lq4, lq5, lq6]
            refine goAny_ready (rs := [6]) (by decide +kernel) (by simp) ?_
            refine (AllGo.cons ?_ AllGo.nil)
            ·refine opGo_value (w' := W1) rfl (by rfl) (by go_simp; try (with_reducible rfl)) ?_
             try simp only [Act.put, lq1, lq2, lq3, lq4, lq5, lq6]
             refine goAny_done (by decide +kernel) ?_ _
             go_wp2_with fail
             go_meet
             exact ⟨rfl, rfl, rfl, HHH.out.1, HHH.out.2.1, HHH.out.2.2⟩
          ·refine opGo_value (w' := W1) rfl (by rfl) (by go_simp; try (with_reducible rfl)) ?_
           try simp only [Act.put, lq1, lq2, lq3, lq4, lq5, lq6]
           refine goAny_ready (rs := [5]) (by decide +kernel) (by simp) ?_
           refine (AllGo.cons ?_ AllGo.nil)
           ·refine opGo_value (w' := W1) rfl (by rfl) (by go_simp; try (with_reducible rfl)) ?_
            try simp only [Act.put, lq1, lq2, lq3, lq4, lq5, lq6]
            refine goAny_ready (rs := [6]) (by decide +kernel) (by simp) ?_
            refine (AllGo.cons ?_ AllGo.nil)
            ·refine opGo_value (w' := W1) rfl (by rfl) (by go_simp; try (with_reducible rfl)) ?_
             try simp only [Act.put, lq1, lq2, lq3, lq4, lq5, lq6]
             refine goAny_done (by decide +kernel) ?_ _
             go_wp2_with fail
             go_meet
             exact ⟨rfl, rfl, rfl, HHH.out.1, HHH.out.2.1, HHH.out.2.2⟩
         ·refine opGo_value (w' := W1) rfl (by rfl) (by go_simp; try (with_reducible rfl)) ?_
          try simp only [Act.put, lq1, lq2, lq3, lq4, lq5, lq6]
          refine goAny_ready (rs := [4]) (by decide +kernel) (by simp) ?_
          refine (AllGo.cons ?_ AllGo.nil)
          ·refine opGo_value (w' := W1) rfl (by rfl) (by go_simp; try (with_reducible rfl)) ?_
           try simp only [Act.put, lq1, lq2, lq3, lq4, lq5, lq6]
           refine goAny_ready (rs := [5]) (by decide +kernel) (by simp) ?_
           refine (AllGo.cons ?_ AllGo.nil)
           ·refine opGo_value (w' := W1) rfl (by rfl) (by go_simp; try (with_reducible rfl)) ?_
            try simp only [Act.put, lq1, lq2, lq3, lq4, lq5, lq6]
            refine goAny_ready (rs := [6]) (by decide +kernel) (by simp) ?_
            refine (AllGo.cons ?_ AllGo.nil)
            ·refine opGo_value (w' := W1) rfl (by rfl) (by go_simp; try (with_reducible rfl)) ?_
             try simp only [Act.put, lq1, lq2, lq3, lq4, lq5, lq6]
             refine goAny_done (by decide +kernel) ?_ _
             go_wp2_with fail
             go_meet
             exact ⟨rfl, rfl, rfl, HHH.out.1, HHH.out.2.1, HHH.out.2.2⟩
        ·refine opGo_value (w' := W1) rfl (by rfl) (by go_simp; try (with_reducible rfl)) ?_
         try simp only [Act.put, lq1, lq2, lq3, lq4, lq5, lq6]
         refine goAny_ready (rs := [1]) (by decide +kernel) (by simp) ?_
         refine (AllGo.cons ?_ AllGo.nil)
         ·refine opGo_value (w' := W1) rfl (by rfl) (by go_simp; try (with_reducible rfl)) ?_
          try simp only [Act.put, lq1, lq2, lq3, lq4, lq5, lq6]
          refine goAny_ready (rs := [4]) (by decide +kernel) (by simp) ?_
          refine (AllGo.cons ?_ AllGo.nil)
          ·refine opGo_value (w' := W1) rfl (by rfl) (by go_simp; try (with_reducible rfl)) ?_
           try simp only [Act.put, lq1, lq2, lq3, lq4, lq5, lq6]
           refine goAny_ready (rs := [5]) (by decide +kernel) (by simp) ?_
           refine (AllGo.cons ?_ AllGo.nil)
           ·refine opGo_value (w' := W1) rfl (by rfl) (by go_simp; try (with_reducible rfl)) ?_
            try simp only [Act.put, lq1, lq2, lq3, lq4, lq5, lq6]
            refine goAny_ready (rs := [6]) (by decide +kernel) (by simp) ?_
            refine (AllGo.cons ?_ AllGo.nil)
            ·refine opGo_value (w' := W1) rfl (by rfl) (by go_simp; try (with_reducible rfl)) ?_
             try simp only [Act.put, lq1, lq2, lq3, lq4, lq5, lq6]
             refine goAny_done (by decide +kernel) ?_ _
             go_wp2_with fail
             go_meet
             exact ⟨rfl, rfl, rfl, HHH.out.1, HHH.out.2.1, HHH.out.2.2⟩
       ·refine opGo_value (w' := W1) rfl (by rfl) (by go_simp; try (with_reducible rfl)) ?_
        try simp only [Act.put, lq1, lq2, lq3, lq4, lq5, lq6]
        refine goAny_ready (rs := [0]) (by decide +kernel) (by simp) ?_
        refine (AllGo.cons ?_ AllGo.nil)
        ·refine opGo_value (w' := W1) rfl (by rfl) (by go_simp; try (with_reducible rfl)) ?_
         try simp only [Act.put, lq1, lq2, lq3, lq4, lq5, lq6]
         refine goAny_ready (rs := [1]) (by decide +kernel) (by simp) ?_
         refine (AllGo.cons ?_ AllGo.nil)
         ·refine opGo_value (w' := W1) rfl (by rfl) (by go_simp; try (with_reducible rfl)) ?_
          try simp only [Act.put, lq1, lq2, lq3, lq4, lq5, lq6]
          refine goAny_ready (rs := [4]) (by decide +kernel) (by simp) ?_
          refine (AllGo.cons ?_ AllGo.nil)
          ·refine opGo_value (w' := W1) rfl (by rfl) (by go_simp; try (with_reducible rfl)) ?_
           try simp only [Act.put, lq1, lq2, lq3, lq4, lq5, lq6]
           refine goAny_ready (rs := [5]) (by decide +kernel) (by simp) ?_
           refine (AllGo.cons ?_ AllGo.nil)
           ·refine opGo_value (w' := W1) rfl (by rfl) (by go_simp; try (with_reducible rfl)) ?_
            try simp only [Act.put, lq1, lq2, lq3, lq4, lq5, lq6]
            refine goAny_ready (rs := [6]) (by decide +kernel) (by simp) ?_
            refine (AllGo.cons ?_ AllGo.nil)
            ·refine opGo_value (w' := W1) rfl (by rfl) (by go_simp; try (with_reducible rfl)) ?_
             try simp only [Act.put, lq1, lq2, lq3, lq4, lq5, lq6]
             refine goAny_done (by decide +kernel) ?_ _
             go_wp2_with fail
             go_meet
             exact ⟨rfl, rfl, rfl, HHH.out.1, HHH.out.2.1, HHH.out.2.2⟩
      ·refine opGo_value (w' := W0) rfl (by rfl) (by go_simp; try (with_reducible rfl)) ?_
       try simp only [Act.put, lq1, lq2, lq3, lq4, lq5, lq6]
       refine goAny_ready (rs := [0, 3]) (by decide +kernel) (by simp) ?_
       refine (AllGo.cons ?_ (AllGo.cons ?_ AllGo.nil))
       ·refine opGo_value (w' := W0) rfl (by rfl) (by go_simp; try (with_reducible rfl)) ?_
        try simp only [Act.put, lq1, lq2, lq3, lq4, lq5, lq6]
        refine goAny_ready (rs := [1, 3]) (by decide +kernel) (by simp) ?_
        refine (AllGo.cons ?_ (AllGo.cons ?_ AllGo.nil))
        ·refine opGo_value (w' := W0) rfl (by rfl) (by go_simp; try (with_reducible rfl)) ?_
         try simp only [Act.put, lq1, lq2, lq3, lq4, lq5, lq6]
         refine goAny_ready (rs := [3]) (by decide +kernel) (by simp) ?_
         refine (AllGo.cons ?_ AllGo.nil)
         ·refine opGo_recv_cons (z := .int .i64 0) rfl (by rfl) (by simp [go_sem, Go.Conc.rcase]) HCH0.out ?_
          rw [← HW1.out]
          try simp only [Act.put, lq1, lq2, lq3, lq4, lq5, lq6]
          refine goAny_ready (rs := [4]) (by decide +kernel) (by simp) ?_
          refine (AllGo.cons ?_ AllGo.nil)
          ·refine opGo_value (w' := W1) rfl (by rfl) (by go_simp; try (with_reducible rfl)) ?_
           try simp only [Act.put, lq1, lq2, lq3, lq4, lq5, lq6]
           refine goAny_ready (rs := [5]) (by decide +kernel) (by simp) ?_
           refine (AllGo.cons ?_ AllGo.nil)
           ·refine opGo_value (w' := W1) rfl (by rfl) (by go_simp; try (with_reducible rfl)) ?_
            try simp only [Act.put, lq1, lq2, lq3, lq4, lq5, lq6]
            refine goAny_ready (rs := [6]) (by decide +kernel) (by simp) ?_
            refine (AllGo.cons ?_ AllGo.nil)
            ·refine opGo_value (w' := W1) rfl (by rfl) (by go_simp; try (with_reducible rfl)) ?_
             try simp only [Act.put, lq1, lq2, lq3, lq4, lq5, lq6]
             refine goAny_done (by decide +kernel) ?_ _
             go_wp2_with fail
             go_meet
             exact ⟨rfl, rfl, rfl, HHH.out.1, HHH.out.2.1, HHH.out.2.2⟩
        ·refine opGo_recv_cons (z := .int .i64 0) rfl (by rfl) (by simp [go_sem, Go.Conc.rcase]) HCH0.out ?_
         rw [← HW1.out]
         try simp only [Act.put, lq1, lq2, lq3, lq4, lq5, lq6]
         refine goAny_ready (rs := [1]) (by decide +kernel) (by simp) ?_
         refine (AllGo.cons ?_ AllGo.nil)
         ·refine opGo_value (w' := W1) rfl (by rfl) (by go_simp; try (with_reducible rfl)) ?_
          try simp only [Act.put, lq1, lq2, lq3, lq4, lq5, lq6]
          refine goAny_ready (rs := [4]) (by decide +kernel) (by simp) ?_
          refine (AllGo.cons ?_ AllGo.nil)
          ·refine opGo_value (w' := W1) rfl (by rfl) (by go_simp; try (with_reducible rfl)) ?_
           try simp only [Act.put, lq1, lq2, lq3, lq4, lq5, lq6]
           refine goAny_ready (rs := [5]) (by decide +kernel) (by simp) ?_
           refine (AllGo.cons ?_ AllGo.nil)
           ·refine opGo_value (w' := W1) rfl (by rfl) (by go_simp; try (with_reducible rfl)) ?_
            try simp only [Act.put, lq1, lq2, lq3, lq4, lq5, lq6]
            refine goAny_ready (rs := [6]) (by decide +kernel) (by simp) ?_
            refine (AllGo.cons ?_ AllGo.nil)
            ·refine opGo_value (w' := W1) rfl (by rfl) (by go_simp; try (with_reducible rfl)) ?_
             try simp only [Act.put, lq1, lq2, lq3, lq4, lq5, lq6]
             refine goAny_done (by decide +kernel) ?_ _
             go_wp2_with fail
             go_meet
             exact ⟨rfl, rfl, rfl, HHH.out.1, HHH.out.2.1, HHH.out.2.2⟩
       ·refine opGo_recv_cons (z := .int .i64 0) rfl (by rfl) (by simp [go_sem, Go.Conc.rcase]) HCH0.out ?_
        rw [← HW1.out]
        try simp only [Act.put, lq1, lq2, lq3, lq4, lq5, lq6]
        refine goAny_ready (rs := [0]) (by decide +kernel) (by simp) ?_
        refine (AllGo.cons ?_ AllGo.nil)
        ·refine opGo_value (w' := W1) rfl (by rfl) (by go_simp; try (with_reducible rfl)) ?_
         try simp only [Act.put, lq1, lq2, lq3, lq4, lq5, lq6]
         refine goAny_ready (rs := [1]) (by decide +kernel) (by simp) ?_
         refine (AllGo.cons ?_ AllGo.nil)
         ·refine opGo_value (w' := W1) rfl (by rfl) (by go_simp; try (with_reducible rfl)) ?_
          try simp only [Act.put, lq1, lq2, lq3, lq4, lq5, lq6]
          refine goAny_ready (rs := [4]) (by decide +kernel) (by simp) ?_
          refine (AllGo.cons ?_ AllGo.nil)
          ·refine opGo_value (w' := W1) rfl (by rfl) (by go_simp; try (with_reducible rfl)) ?_
           try simp only [Act.put, lq1, lq2, lq3, lq4, lq5, lq6]
           refine goAny_ready (rs := [5]) (by decide +kernel) (by simp) ?_
           refine (AllGo.cons ?_ AllGo.nil)
           ·refine opGo_value (w' := W1) rfl (by rfl) (by go_simp; try (with_reducible rfl)) ?_
            try simp only [Act.put, lq1, lq2, lq3, lq4, lq5, lq6]
            refine goAny_ready (rs := [6]) (by decide +kernel) (by simp) ?_
            refine (AllGo.cons ?_ AllGo.nil)
            ·refine opGo_value (w' := W1) rfl (by rfl) (by go_simp; try (with_reducible rfl)) ?_
             try simp only [Act.put, lq1, lq2, lq3, lq4, lq5, lq6]
             refine goAny_done (by decide +kernel) ?_ _
             go_wp2_with fail
             go_meet
             exact ⟨rfl, rfl, rfl, HHH.out.1, HHH.out.2.1, HHH.out.2.2⟩
     ·refine opGo_value (w' := W0) rfl (by rfl) (by go_simp; try (with_reducible rfl)) ?_
      try simp only [Act.put, lq1, lq2, lq3, lq4, lq5, lq6]
      refine goAny_ready (rs := [0, 2]) (by decide +kernel) (by simp) ?_
      refine (AllGo.cons ?_ (AllGo.cons ?_ AllGo.nil))
      ·refine opGo_value (w' := W0) rfl (by rfl) (by go_simp; try (with_reducible rfl)) ?_
       try simp only [Act.put, lq1, lq2, lq3, lq4, lq5, lq6]
       refine goAny_ready (rs := [1, 2]) (by decide +kernel) (by simp) ?_
       refine (AllGo.cons ?_ (AllGo.cons ?_ AllGo.nil))
       ·refine opGo_value (w' := W0) rfl (by rfl) (by go_simp; try (with_reducible rfl)) ?_
        try simp only [Act.put, lq1, lq2, lq3, lq4, lq5, lq6]
        refine goAny_ready (rs := [2]) (by decide +kernel) (by simp) ?_
        refine (AllGo.cons ?_ AllGo.nil)
        ·refine opGo_value (w' := W0) rfl (by rfl) (by go_simp; try (with_reducible rfl)) ?_
         try simp only [Act.put, lq1, lq2, lq3, lq4, lq5, lq6]
         refine goAny_ready (rs := [3]) (by decide +kernel) (by simp) ?_
         refine (AllGo.cons ?_ AllGo.nil)
         ·refine opGo_recv_cons (z := .int .i64 0) rfl (by rfl) (by simp [go_sem, Go.Conc.rcase]) HCH0.out ?_
          rw [← HW1.out]
          try simp only [Act.put, lq1, lq2, lq3, lq4, lq5, lq6]
          refine goAny_ready (rs := [4]) (by decide +kernel) (by simp) ?_
          refine (AllGo.cons ?_ AllGo.nil)
          ·refine opGo_value (w' := W1) rfl (by rfl) (by go_simp; try (with_reducible rfl)) ?_
           try simp only [Act.put, lq1, lq2, lq3, lq4, lq5, lq6]
           refine goAny_ready (rs := [5]) (by decide +kernel) (by simp) ?_
           refine (AllGo.cons ?_ AllGo.nil)
           ·refine opGo_value (w' := W1) rfl (by rfl) (by go_simp; try (with_reducible rfl)) ?_
            try simp only [Act.put, lq1, lq2, lq3, lq4, lq5, lq6]
            refine goAny_ready (rs := [6]) (by decide +kernel) (by simp) ?_
            refine (AllGo.cons ?_ AllGo.nil)
            ·refine opGo_value (w' := W1) rfl (by rfl) (by go_simp; try (with_reducible rfl)) ?_
             try simp only [Act.put, lq1, lq2, lq3, lq4, lq5, lq6]
             refine goAny_done (by decide +kernel) ?_ _
             go_wp2_with fail
             go_meet
             exact ⟨rfl, rfl, rfl, HHH.out.1, HHH.out.2.1, HHH.out.2.2⟩
       ·refine opGo_value (w' := W0) rfl (by rfl) (by go_simp; try (with_reducible rfl)) ?_
        try simp only [Act.put, lq1, lq2, lq3, lq4, lq5, lq6]
        refine goAny_ready (rs := [1, 3]) (by decide +kernel) (by simp) ?_
        refine (AllGo.cons ?_ (AllGo.cons ?_ AllGo.nil))
        ·refine opGo_value (w' := W0) rfl (by rfl) (by go_simp; try (with_reducible rfl)) ?_
         try simp only [Act.put, lq1, lq2, lq3, lq4, lq5, lq6]
         refine goAny_ready (rs := [3]) (by decide +kernel) (by simp) ?_
         refine (AllGo.cons ?_ AllGo.nil)
         ·refine opGo_recv_cons (z := .int .i64 0) rfl (by rfl) (by simp [go_sem, Go.Conc.rcase]) HCH0.out ?_
          rw [← HW1.out]
          try simp only [Act.put, lq1, lq2, lq3, lq4, lq5, lq6]
          refine goAny_ready (rs := [4]) (by decide +kernel) (by simp) ?_
          refine (AllGo.cons ?_ AllGo.nil)
          ·refine opGo_value (w' := W1) rfl (by rfl) (by go_simp; try (with_reducible rfl)) ?_
           try simp only [Act.put, lq1, lq2, lq3, lq4, lq5, lq6]
           refine goAny_ready (rs := [5]) (by decide +kernel) (by simp) ?_
           refine (AllGo.cons ?_ AllGo.nil)
           ·refine opGo_value (w' := W1) rfl (by rfl) (by go_simp; try (with_reducible rfl)) ?_
            try simp only [Act.put, lq1, lq2, lq3, lq4, lq5, lq6]
            refine goAny_ready (rs := [6]) (by decide +kernel) (by simp) ?_
            refine (AllGo.cons ?_ AllGo.nil)
            ·refine opGo_value (w' := W1) rfl (by rfl) (by go_simp; try (with_reducible rfl)) ?_
             try simp only [Act.put, lq1, lq2, lq3, lq4, lq5, lq6]
             refine goAny_done (by decide +kernel) ?_ _
             go_wp2_with fail
             go_meet
             exact ⟨rfl, rfl, rfl, HHH.out.1, HHH.out.2.1, HHH.out.2.2⟩
        ·refine opGo_recv_cons (z := .int .i64 0) rfl (by rfl) (by simp [go_sem, Go.Conc.rcase]) HCH0.out ?_
         rw [← HW1.out]
         try simp only [Act.put, lq1, lq2, lq3, lq4, lq5, lq6]
         refine goAny_ready (rs := [1]) (by decide +kernel) (by simp) ?_
         refine (AllGo.cons ?_ AllGo.nil)
         ·refine opGo_value (w' := W1) rfl (by rfl) (by go_simp; try (with_reducible rfl)) ?_
          try simp only [Act.put, lq1, lq2, lq3, lq4, lq5, lq6]
          refine goAny_ready (rs := [4]) (by decide +kernel) (by simp) ?_
          refine (AllGo.cons ?_ AllGo.nil)
          ·refine opGo_value (w' := W1) rfl (by rfl) (by go_simp; try (with_reducible rfl)) ?_
           try simp only [Act.put, lq1, lq2, lq3, lq4, lq5, lq6]
           refine goAny_ready (rs := [5]) (by decide +kernel) (by simp) ?_
           refine (AllGo.cons ?_ AllGo.nil)
           ·refine opGo_value (w' := W1) rfl (by rfl) (by go_simp; try (with_reducible rfl)) ?_
            try simp only [Act.put, lq1, lq2, lq3, lq4, lq5, lq6]
            refine goAny_ready (rs := [6]) (by decide +kernel) (by simp) ?_
            refine (AllGo.cons ?_ AllGo.nil)
            ·refine opGo_value (w' := W1) rfl (by rfl) (by go_simp; try (with_reducible rfl)) ?_
             try simp only [Act.put, lq1, lq2, lq3, lq4, lq5, lq6]
             refine goAny_done (by decide +kernel) ?_ _
             go_wp2_with fail
             go_meet
             exact ⟨rfl, rfl, rfl, HHH.out.1, HHH.out.2.1, HHH.out.2.2⟩
      ·refine opGo_value (w' := W0) rfl (by rfl) (by go_simp; try (with_reducible rfl)) ?_
       try simp only [Act.put, lq1, lq2, lq3, lq4, lq5, lq6]
       refine goAny_ready (rs := [0, 3]) (by decide +kernel) (by simp) ?_
       refine (AllGo.cons ?_ (AllGo.cons ?_ AllGo.nil))
       ·refine opGo_value (w' := W0) rfl (by rfl) (by go_simp; try (with_reducible rfl)) ?_
        try simp only [Act.put, lq1, lq2, lq3, lq4, lq5, lq6]
        refine goAny_ready (rs := [1, 3]) (by decide +kernel) (by simp) ?_
        refine (AllGo.cons ?_ (AllGo.cons ?_ AllGo.nil))
        ·refine opGo_value (w' := W0) rfl (by rfl) (by go_simp; try (with_reducible rfl)) ?_
         try simp only [Act.put, lq1, lq2, lq3, lq4, lq5, lq6]
         refine goAny_ready (rs := [3]) (by decide +kernel) (by simp) ?_
         refine (AllGo.cons ?_ AllGo.nil)
         ·refine opGo_recv_cons (z := .int .i64 0) rfl (by rfl) (by simp [go_sem, Go.Conc.rcase]) HCH0.out ?_
          rw [← HW1.out]
          try simp only [Act.put, lq1, lq2, lq3, lq4, lq5, lq6]
          refine goAny_ready (rs := [4]) (by decide +kernel) (by simp) ?_
          refine (AllGo.cons ?_ AllGo.nil)
          ·refine opGo_value (w' := W1) rfl (by rfl) (by go_simp; try (with_reducible rfl)) ?_
           try simp only [Act.put, lq1, lq2, lq3, lq4, lq5, lq6]
           refine goAny_ready (rs := [5]) (by decide +kernel) (by simp) ?_
           refine (AllGo.cons ?_ AllGo.nil)
           ·refine opGo_value (w' := W1) rfl (by rfl) (by go_simp; try (with_reducible rfl)) ?_
            try simp only [Act.put, lq1, lq2, lq3, lq4, lq5, lq6]
            refine goAny_ready (rs := [6]) (by decide +kernel) (by simp) ?_
            refine (AllGo.cons ?_ AllGo.nil)
            ·refine opGo_value (w' := W1) rfl (by rfl) (by go_simp; try (with_reducible rfl)) ?_
             try simp only [Act.put, lq1, lq2, lq3, lq4, lq5, lq6]
             refine goAny_done (by decide +kernel) ?_ _
             go_wp2_with fail
             go_meet
             exact ⟨rfl, rfl, rfl, HHH.out.1, HHH.out.2.1, HHH.out.2.2⟩
        ·refine opGo_recv_cons (z := .int .i64 0) rfl (by rfl) (by simp [go_sem, Go.Conc.rcase]) HCH0.out ?_
         rw [← HW1.out]
         try simp only [Act.put, lq1, lq2, lq3, lq4, lq5, lq6]
         refine goAny_ready (rs := [1]) (by decide +kernel) (by simp) ?_
         refine (AllGo.cons ?_ AllGo.nil)
         ·refine opGo_value (w' := W1) rfl (by rfl) (by go_simp; try (with_reducible rfl)) ?_
          try simp only [Act.put, lq1, lq2, lq3, lq4, lq5, lq6]
          refine goAny_ready (rs := [4]) (by decide +kernel) (by simp) ?_
          refine (AllGo.cons ?_ AllGo.nil)
          ·refine opGo_value (w' := W1) rfl (by rfl) (by go_simp; try (with_reducible rfl)) ?_
           try simp only [Act.put, lq1, lq2, lq3, lq4, lq5, lq6]
           refine goAny_ready (rs := [5]) (by decide +kernel) (by simp) ?_
           refine (AllGo.cons ?_ AllGo.nil)
           ·refine opGo_value (w' := W1) rfl (by rfl) (by go_simp; try (with_reducible rfl)) ?_
            try simp only [Act.put, lq1, lq2, lq3, lq4, lq5, lq6]
            refine goAny_ready (rs := [6]) (by decide +kernel) (by simp) ?_
            refine (AllGo.cons ?_ AllGo.nil)
            ·refine opGo_value (w' := W1) rfl (by rfl) (by go_simp; try (with_reducible rfl)) ?_
             try simp only [Act.put, lq1, lq2, lq3, lq4, lq5, lq6]
             refine goAny_done (by decide +kernel) ?_ _
             go_wp2_with fail
             go_meet
             exact ⟨rfl, rfl, rfl, HHH.out.1, HHH.out.2.1, HHH.out.2.2⟩
       ·refine opGo_recv_cons (z := .int .i64 0) rfl (by rfl) (by simp [go_sem, Go.Conc.rcase]) HCH0.out ?_
        rw [← HW1.out]
        try simp only [Act.put, lq1, lq2, lq3, lq4, lq5, lq6]
        refine goAny_ready (rs := [0]) (by decide +kernel) (by simp) ?_
        refine (AllGo.cons ?_ AllGo.nil)
        ·refine opGo_value (w' := W1) rfl (by rfl) (by go_simp; try (with_reducible rfl)) ?_
         try simp only [Act.put, lq1, lq2, lq3, lq4, lq5, lq6]
         refine goAny_ready (rs := [1]) (by decide +kernel) (by simp) ?_
         refine (AllGo.cons ?_ AllGo.nil)
         ·refine opGo_value (w' := W1) rfl (by rfl) (by go_simp; try (with_reducible rfl)) ?_
          try simp only [Act.put, lq1, lq2, lq3, lq4, lq5, lq6]
          refine goAny_ready (rs := [4]) (by decide +kernel) (by simp) ?_
          refine (AllGo.cons ?_ AllGo.nil)
          ·refine opGo_value (w' := W1) rfl (by rfl) (by go_simp; try (with_reducible rfl)) ?_
           try simp only [Act.put, lq1, lq2, lq3, lq4, lq5, lq6]
           refine goAny_ready (rs := [5]) (by decide +kernel) (by simp) ?_
           refine (AllGo.cons ?_ AllGo.nil)
           ·refine opGo_value (w' := W1) rfl (by rfl) (by go_simp; try (with_reducible rfl)) ?_
            try simp only [Act.put, lq1, lq2, lq3, lq4, lq5, lq6]
            refine goAny_ready (rs := [6]) (by decide +kernel) (by simp) ?_
            refine (AllGo.cons ?_ AllGo.nil)
            ·refine opGo_value (w' := W1) rfl (by rfl) (by go_simp; try (with_reducible rfl)) ?_
             try simp only [Act.put, lq1, lq2, lq3, lq4, lq5, lq6]
             refine goAny_done (by decide +kernel) ?_ _
             go_wp2_with fail
             go_meet
             exact ⟨rfl, rfl, rfl, HHH.out.1, HHH.out.2.1, HHH.out.2.2⟩
    case rest =>
     obtain ⟨rfl, rfl, rfl, hcl3, hbx3, hB3⟩ := hcut
     clear el x5 hlen cw0 HC HCH hbx hB hcl
     go_wp2
     go_loopg [10, 38] l.length (fun k _ i wi => ∃ j : Nat, j ≤ l.length ∧ k = l.length - j ∧ i = .int .i64 j ∧ ClAt wi bi di bf df (ch + 1) ch g.nodes.length g.infos.length ((l.take j).foldl (putL g.nodes last) ⟨s.inn, s.fnd, q⟩) ∧ Row wi w.heap.size 51 [.int .i64 g.players, .slice A g.nodes.length c, .slice Ai g.infos.length ci, .slice Ap par.length cp, .slice Al last.length cl, .slice (some ⟨bs, os, none⟩) g.infos.length cs] ∧ Below w.heap.size w wi)
     case atStart => exact ⟨0, by omega, by omega, rfl, hcl3, hbx3, hB3⟩
     case round =>
      clear hcl3 hbx3 hB3
      obtain ⟨j, hj, hgk, rfl, hcl, hbx, hB⟩ := hrel
      have HGK := Lib.hid hgk; clear hgk
      have HOJ := Lib.hid (putAll_ok HIN.out last (l.take j) _ HOK2.out).1
      by_cases hjt : j < l.length
      ·obtain ⟨bv, ov, rfl, _, hbv, hxv⟩ := HAV.out (by omega)
       obtain ⟨h, hh⟩ := getSome hjt
       have eh := hxv j h hh
       unfold intE at eh
       rw [Nat.mul_one, ← below_old hB _ _ hbv] at eh
       have hhr := HLX.out h (List.mem_of_getElem? hh)
       have HTK := Lib.hid (show (l.take (j + 1)).foldl (putL g.nodes last) ⟨s.inn, s.fnd, q⟩ = putL g.nodes last ((l.take j).foldl (putL g.nodes last) ⟨s.inn, s.fnd, q⟩) h by rw [take_snoc hh]; simp [List.foldl_append])
       clear hh hxv
       generalize (l.take j).foldl (putL g.nodes last) ⟨s.inn, s.fnd, q⟩ = t at *
       go_wp2_with fail
       refine (put_call g last bi di bf df (ch + 1) ch w.heap.size HAP.out _ HFF.out HIN.out hN hni HLL.out HLA.out _ _ h _ _ _ _ _ hbx (HNO.out.on (Below.same' hB _)) (HLO.out.on (Below.same' hB _)) hcl HOJ.out hhr).mono ?_
       rintro e w5 ⟨rfl, hcl5, hwr5⟩
       have hbx5 := hbx.wrote hwr5 (by rintro (h | h | h) <;> omega)
       have hB5 : Below w.heap.size w w5 := Wrote.below hB hwr5 (fun k hk => by omega) hB.size
       clear hcl hbx hB hwr5 eh
       dsimp only
       go_wp2
       go_roundg (l.length - (j + 1))
       case measure => rw [HGK.out]; omega
       case rel => exact ⟨j + 1, by omega, rfl, by go_num, by rw [HTK.out]; exact hcl5, hbx5, hB5⟩
      ·have HTK := Lib.hid (show l.take j = l from List.take_of_length_le (by omega))
       rw [HTK.out] at HOJ hcl
       go_wp2
       go_roundg f
       case measure => omega
       case rel =>
        refine ⟨_, ?_, HOJ.out, by rw [HV3.out, HGD.out], hcl, hbx, hB⟩
        rw [(putAll_ok HIN.out last l _ HOK2.out).2]
        have := HLF2.out
        omega
end Go.Proofs.Ytafjdoedallnbaa
