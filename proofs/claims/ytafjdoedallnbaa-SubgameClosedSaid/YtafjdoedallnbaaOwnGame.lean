/- parlourkit.OwnGame: a copy of a game in new memory. -/
import Derived.Test.YtafjdoedallnbaaAppCopy
import Derived.Test.YtafjdoedallnbaaPeelMany
import Derived.Test.YtafjdoedallnbaaLookP
import Derived.Deep.LoopGhost
namespace Go.Proofs.Ytafjdoedallnbaa
open Go.RowKit

theorem set3 {w : World} {b : Nat} {t : TypeId} {a0 a1 a2 : Value} (h : Row w b t [a0, a1, a2]) (v0 v1 v2 : Value) : ∃ W, W = (((w.setCell ⟨b, 0, none⟩ v0).setCell ⟨b, 1, none⟩ v1).setCell ⟨b, 2, none⟩ v2) ∧
    Row W b t [v0, v1, v2] ∧ Wrote (fun k => k = b) w W := by
  refine ⟨_, rfl, ((h.set 0 v0).set 1 v1).set 2 v2, ?_⟩
  have h0 : Wrote (fun k => k = b) w w := Wrote.refl _ _
  exact ((h0.setCell (p := ⟨b, 0, none⟩) (.inl rfl) v0).setCell (p := ⟨b, 1, none⟩) (.inl rfl) v1).setCell (p := ⟨b, 2, none⟩) (.inl rfl) v2

theorem set345 {w : World} {b : Nat} {t : TypeId} {a0 a1 a2 a3 a4 a5 : Value} (h : Row w b t [a0, a1, a2, a3, a4, a5]) (v3 v4 v5 : Value) : ∃ W, W = (((w.setCell ⟨b, 3, none⟩ v3).setCell ⟨b, 4, none⟩ v4).setCell ⟨b, 5, none⟩ v5) ∧
    Row W b t [a0, a1, a2, v3, v4, v5] ∧ Wrote (fun k => k = b) w W := by
  refine ⟨_, rfl, ((h.set 3 v3).set 4 v4).set 5 v5, ?_⟩
  have h0 : Wrote (fun k => k = b) w w := Wrote.refl _ _
  exact ((h0.setCell (p := ⟨b, 3, none⟩) (.inl rfl) v3).setCell (p := ⟨b, 4, none⟩) (.inl rfl) v4).setCell (p := ⟨b, 5, none⟩) (.inl rfl) v5
theorem Below.wrote {w w' : World} (h : Below w.heap.size w w') (K : Foot) : Wrote K w w' := ⟨h.os, h.tape, h.output, h.size, fun i hi _ => h.block i hi⟩

theorem Try.infoNode : (Try.prog.info? 45).map (fun i => (i.zero, i.size, i.bytes)) = some (some (.agg #[.int .i64 0, .int .i64 0, .int .i64 0, .slice none 0 0, .slice none 0 0, .slice none 0 0]), 6, 96) := by kernel_rfl
theorem flat_len (L : List NV) : (L.flatMap NV.cells).length = L.length * 6 := by
  induction L with
  | nil => rfl
  | cons q L ih => rw [List.flatMap_cons, List.length_append, ih]; simp [NV.cells]; omega

/-- append of one node, in a plain region -/
theorem wpl_app_node {w : World} {ops : Array Oper} {rest : List Oper} {o : Oper} {a : Act} {Q : Exit → Act → World → Prop} (hgd : o.guard = none) (s x : Operand)
    (ho : o.op = .call { callee := .builtin .append, args := #[s, x], argTypes := #[22, 22] })
    (base : Nat) (v : Value) (L : List NV) (hs : a.eval s = v) (hown : w.ownsRow base 45 6 v L.length (L.flatMap NV.cells))
    (B : Nat) (q : NV) (hx : a.eval x = .slice (some ⟨B, 0, none⟩) 1 1) (hB : w.heap[B]? = some (.cells q.cells.toArray 45 (0, 0))) (hone : q.v3.oneCell' = true ∧ q.v4.oneCell' = true ∧ q.v5.oneCell' = true) (hlen : L.length ≤ 1000000) (hbase : base ≤ w.heap.size)
    (h : ∀ g cap w', w'.ownsRow base 45 6 (.slice (some ⟨g, 0, none⟩) (L.length + 1) cap) (L ++ [q]).length ((L ++ [q]).flatMap NV.cells) → w.grownBy w' v.ownBlock → (v.ownBlock = some g ∨ w.heap.size ≤ g) → g < w'.heap.size →
      wpList Try.prog ops Q rest (a.put o.dst (.slice (some ⟨g, 0, none⟩) (L.length + 1) cap)) w') :
    wpList Try.prog ops Q (o :: rest) a w := by
  obtain ⟨i0, hi, hz0, hz1, hz2⟩ := info_parts Try.infoNode
  refine wpList_append_lies w hgd s x _ ho base _ i0 _ 6 96 Try.underlying22 hi hz0 hz1 hz2 rfl (by omega) v L.length _ hs hown ⟨B, 0, none⟩ 1 1 q.cells hx rfl (World.news_of_block hB) ?_ (by omega) (by unfold maxLen; omega) (by omega) hbase w.heap.size rfl ?_
  · intro u hu
    simp only [NV.cells, List.mem_cons, List.not_mem_nil, or_false] at hu
    rcases hu with rfl | rfl | rfl | rfl | rfl | rfl
    · rfl
    · rfl
    · rfl
    · exact hone.1
    · exact hone.2.1
    · exact hone.2.2
  · intro g cap w' h1 h2 h3 h4
    refine h g cap w' ?_ h2 (h3.imp id fun e => by omega) h4
    have e1 : (L ++ [q]).length = L.length + 1 := by simp
    have e2 : (L ++ [q]).flatMap NV.cells = L.flatMap NV.cells ++ q.cells := by simp [List.flatMap_append]
    rw [e1, e2]
    exact h1

theorem owns_nodes {w : World} {base : Nat} {t : TypeId} {v : Value} {L : List NV} (h : w.ownsRow base t 6 v L.length (L.flatMap NV.cells)) {F : Foot} (hF : ∀ b, v.ownBlock = some b → F b) (hL : ∀ q ∈ L, q.fine w F) : NodesAt w F v (L.map NV.n) := by
  rcases h.2 with ⟨rfl, h0⟩ | ⟨g, cap, cur, rfl, hb, hg, hnc, _, hsz, htake⟩
  · have : L = [] := List.eq_nil_of_length_eq_zero h0
    subst this
    exact ⟨none, 0, rfl, Nat.le_refl _, fun h => absurd h (by simp)⟩
  · refine Lies.nodes ⟨(Array.getElem?_eq_some_iff.1 hg).1, fun i u hi => ?_⟩ (hF g rfl) hL hnc
    rw [← htake, List.getElem?_take] at hi
    split at hi
    · simp [World.cell?, hg]; simpa using hi
    · cases hi

set_option maxRecDepth 100000 in
set_option maxHeartbeats 6400000 in
theorem ownGame_any (w : World) (F : Foot) (u : Value) (g : Gm) (hg : GameAt w F u g) (hsm : Small g) :
    Calls Try.prog 7 #[u] w (Ret w fun v w' => GameAt w' (fun b => w.heap.size ≤ b) v g) := by
  obtain ⟨vn, vi, rfl, ⟨A, c, rfl, hc, hN⟩, ⟨Ai, ci, rfl, hci, hI⟩⟩ := hg
  have HN := Lib.hid hN; clear hN
  have HI := Lib.hid (show InfosAt w F (.slice Ai g.infos.length ci) g.infos from ⟨_, _, rfl, hci, hI⟩); clear hI
  have hn := hsm.nodes
  have hni := hsm.infos
  have HS := Lib.hid hsm; clear hsm
  go_enter Try.func7, Try.ntmps7
  go_upto_region 1 with fail
  obtain ⟨w1, hw1, hbx, hrs, hB⟩ : ∃ W, W = (w.alloc (.cells #[.int .i64 g.players, .slice A g.nodes.length c, .slice Ai g.infos.length ci] 25)).alloc (.cells #[.int .i64 0, .slice none 0 0, .slice none 0 0] 25) ∧ Row W w.heap.size 25 [.int .i64 g.players, .slice A g.nodes.length c, .slice Ai g.infos.length ci] ∧ Row W (w.heap.size + 1) 25 [.int .i64 0, .slice none 0 0, .slice none 0 0] ∧ Below w.heap.size w W := by
    refine ⟨_, rfl, (Row.new w _ _).alloc _, ?_, below_two _ _ _ 0⟩
    have := Row.new (w.alloc (.cells #[.int .i64 g.players, .slice A g.nodes.length c, .slice Ai g.infos.length ci] 25)) 25 #[.int .i64 0, .slice none 0 0, .slice none 0 0]
    simpa using this
  rw [← hw1]
  clear hw1
  go_cut [3] from 6 to 12 (fun v3 wx => ∃ bo Ai' ci', v3 = .pointer (some ⟨bo, 0, none⟩) ∧ Row wx bo 25 [.int .i64 g.players, .slice none 0 0, .slice Ai' g.infos.length ci'] ∧ InfosAt wx (fun b => w.heap.size + 1 < b ∧ b ≠ bo ∧ b < wx.heap.size) (.slice Ai' g.infos.length ci') g.infos ∧ Row wx w.heap.size 25 [.int .i64 g.players, .slice A g.nodes.length c, .slice Ai g.infos.length ci] ∧ Row wx (w.heap.size + 1) 25 [.int .i64 0, .slice none 0 0, .slice none 0 0] ∧ Below w.heap.size w wx ∧ w.heap.size + 1 < bo)
  case first =>
    refine wp_peelMany (fun w' => w'.cell? ⟨w.heap.size, 0, none⟩ = some (.int .i64 g.players) ∧ w'.cell? ⟨w.heap.size, 2, none⟩ = some (.slice Ai g.infos.length ci)) 8 1 (by kernel_rfl) rfl (by kernel_rfl) ?_
    have hHeld : (fun w' : World => w'.cell? ⟨w.heap.size, 0, none⟩ = some (.int .i64 g.players) ∧ w'.cell? ⟨w.heap.size, 2, none⟩ = some (.slice Ai g.infos.length ci)) w1.drew := ⟨hbx.cell rfl, hbx.cell rfl⟩
    simp only [List.take_succ_cons, List.take_zero]
    refine wpAnyH_take (i := 0) (v := ?_) rfl (by kernel_rfl) (by kernel_rfl) (by kernel_rfl) (fun _ _ _ h => h) (Or.inl ⟨by rfl, ?_⟩) hHeld ?_
    rotate_left
    · intro wx hSx; (try dsimp only at hSx); go_split_ands; go_simp; try (with_reducible rfl)
    try simp only [Act.put, List.getElem_toArray, List.getElem_cons_zero, List.getElem_cons_succ, List.setIfInBounds_toArray, List.set_cons_zero, List.set_cons_succ]
    refine wpAnyH_take (i := 1) (v := ?_) rfl (by kernel_rfl) (by kernel_rfl) (by kernel_rfl) (fun _ _ _ h => h) (Or.inl ⟨by rfl, ?_⟩) hHeld ?_
    rotate_left
    · intro wx hSx; (try dsimp only at hSx); go_split_ands; go_simp; try (with_reducible rfl)
    try simp only [Act.put, List.getElem_toArray, List.getElem_cons_zero, List.getElem_cons_succ, List.setIfInBounds_toArray, List.set_cons_zero, List.set_cons_succ]
    refine wpAnyH_take (i := 3) (v := ?_) rfl (by kernel_rfl) (by kernel_rfl) (by kernel_rfl) (fun _ _ _ h => h) (Or.inl ⟨by rfl, ?_⟩) hHeld ?_
    rotate_left
    · intro wx hSx; (try dsimp only at hSx); go_split_ands; go_simp; try (with_reducible rfl)
    try simp only [Act.put, List.getElem_toArray, List.getElem_cons_zero, List.getElem_cons_succ, List.setIfInBounds_toArray, List.set_cons_zero, List.set_cons_succ]
    refine wpAnyH_take (i := 4) (v := ?_) rfl (by kernel_rfl) (by kernel_rfl) (by kernel_rfl) (fun _ _ _ h => h) (Or.inl ⟨by rfl, ?_⟩) hHeld ?_
    rotate_left
    · intro wx hSx; (try dsimp only at hSx); go_split_ands; go_simp; try (with_reducible rfl)
    try simp only [Act.put, List.getElem_toArray, List.getElem_cons_zero, List.getElem_cons_succ, List.setIfInBounds_toArray, List.set_cons_zero, List.set_cons_succ]
    obtain ⟨w0, hw0⟩ : ∃ W, W = w1.drew := ⟨_, rfl⟩
    have hbx0 : Row w0 _ _ _ := hw0 ▸ hbx.drew
    have hrs0 : Row w0 _ _ _ := hw0 ▸ hrs.drew
    have hB0 : Below w.heap.size w w0 := hw0 ▸ hB.drew
    rw [← hw0] at hHeld ⊢
    clear hw0 hbx hrs hB
    refine wpAnyH_ready (rs := [2, 7]) (by decide +kernel) (by simp) ?_
    refine (AllReadyH.cons (o := _) rfl (fun K hK => ?_) (AllReadyH.cons (o := _) rfl (fun K hK => ?_) AllReadyH.nil))
    · go_simp
      obtain ⟨w1, hw, hr2_1, hb, hz⟩ := row_of_alloc w0 65 #[]
      rw [← hw]
      clear hw hz
      have g2 := hrs0.lt
      have sz1 := hb.size
      have hbx1 := hbx0.below hb hbx0.lt
      have hrs1 := hrs0.below hb hrs0.lt
      have hB1 := hB0.trans (hb.mono hB0.size)
      clear hb
      refine hK.out _ _ ⟨hbx1.cell rfl, hbx1.cell rfl⟩ (fun hHeld => ?_)
      clear hK K
      try simp only [Act.put, List.getElem_toArray, List.getElem_cons_zero, List.getElem_cons_succ, List.setIfInBounds_toArray, List.set_cons_zero, List.set_cons_succ]
      refine wpAnyH_ready (rs := [5, 7]) (by decide +kernel) (by simp) ?_
      refine (AllReadyH.cons (o := _) rfl (fun K hK => ?_) (AllReadyH.cons (o := _) rfl (fun K hK => ?_) AllReadyH.nil))
      · refine ifT rfl ?_
        refine oper_app_infos _ _ rfl _ _ g.infos (by rfl) (by rfl) (HI.out.on (Below.same' hB1 F)) (by omega) ?_
        intro A5 c5 w2 hb hi5_2
        have g5 := hrs1.lt
        have l2_5 := hr2_1.lt
        have hr2_2 := hr2_1.below hb hr2_1.lt
        have sz2 := hb.size
        have hbx2 := hbx1.below hb hbx1.lt
        have hrs2 := hrs1.below hb hrs1.lt
        have hB2 := hB1.trans (hb.mono hB1.size)
        clear hb
        refine hK.out _ _ ⟨hbx2.cell rfl, hbx2.cell rfl⟩ (fun hHeld => ?_)
        clear hK K
        try simp only [Act.put, List.getElem_toArray, List.getElem_cons_zero, List.getElem_cons_succ, List.setIfInBounds_toArray, List.set_cons_zero, List.set_cons_succ]
        refine wpAnyH_take (i := 6) (v := ?_) rfl (by kernel_rfl) (by kernel_rfl) (by kernel_rfl) (fun _ _ _ h => h) (Or.inl ⟨by rfl, ?_⟩) hHeld ?_
        rotate_left
        · intro wx hSx; (try dsimp only at hSx); go_split_ands; go_simp; try (with_reducible rfl)
        try simp only [Act.put, List.getElem_toArray, List.getElem_cons_zero, List.getElem_cons_succ, List.setIfInBounds_toArray, List.set_cons_zero, List.set_cons_succ]
        refine wpAnyH_ready (rs := [7]) (by decide +kernel) (by simp) ?_
        refine (AllReadyH.cons (o := _) rfl (fun K hK => ?_) AllReadyH.nil)
        · go_simp
          obtain ⟨w3, hw, hr7_3, hb, hz⟩ := row_of_alloc w2 25 #[.int .i64 0, .slice none 0 0, .slice none 0 0]
          rw [← hw]
          clear hw hz
          have g7 := hrs2.lt
          have l2_7 := hr2_2.lt
          have hr2_3 := hr2_2.below hb hr2_2.lt
          have hi5_3 := hi5_2.on (Below.same' hb _)
          have sz3 := hb.size
          have hbx3 := hbx2.below hb hbx2.lt
          have hrs3 := hrs2.below hb hrs2.lt
          have hB3 := hB2.trans (hb.mono hB2.size)
          clear hb
          refine hK.out _ _ ⟨hbx3.cell rfl, hbx3.cell rfl⟩ (fun hHeld => ?_)
          clear hK K
          try simp only [Act.put, List.getElem_toArray, List.getElem_cons_zero, List.getElem_cons_succ, List.setIfInBounds_toArray, List.set_cons_zero, List.set_cons_succ]
          have r0 := hr7_3.cell (i := 0) rfl
          have f0 := hr7_3.frozen 0
          have r1 := hr7_3.cell (i := 1) rfl
          have f1 := hr7_3.frozen 1
          have r2 := hr7_3.cell (i := 2) rfl
          have f2 := hr7_3.frozen 2
          refine wpAnyH_done (by kernel_rfl) ?_ _
          clear hHeld
          show wpList _ _ _ _ _ _
          go_wp2_with fail
          obtain ⟨W, hW, hrw, hww⟩ := set3 hr7_3 (.int .i64 g.players) (.slice none 0 0) (.slice A5 g.infos.length c5)
          rw [← hW]
          clear hW
          clear r0 f0
          clear r1 f1
          clear r2 f2
          have szw := hww.size
          show Exit.then _ _ .normal _ _
          go_wp2_with fail
          go_meet
          refine ⟨w2.heap.size, A5, c5, rfl, hrw, ?_, hbx3.wrote hww (by omega), hrs3.wrote hww (by omega), Wrote.below hB3 hww (fun k hk => by omega) hB3.size, by omega⟩
          exact hi5_3.keep (fun b hb _ => by omega) (hww.same (fun b hb => by omega))
      · go_simp
        obtain ⟨w2, hw, hr7_2, hb, hz⟩ := row_of_alloc w1 25 #[.int .i64 0, .slice none 0 0, .slice none 0 0]
        rw [← hw]
        clear hw hz
        have g7 := hrs1.lt
        have l2_7 := hr2_1.lt
        have hr2_2 := hr2_1.below hb hr2_1.lt
        have sz2 := hb.size
        have hbx2 := hbx1.below hb hbx1.lt
        have hrs2 := hrs1.below hb hrs1.lt
        have hB2 := hB1.trans (hb.mono hB1.size)
        clear hb
        refine hK.out _ _ ⟨hbx2.cell rfl, hbx2.cell rfl⟩ (fun hHeld => ?_)
        clear hK K
        try simp only [Act.put, List.getElem_toArray, List.getElem_cons_zero, List.getElem_cons_succ, List.setIfInBounds_toArray, List.set_cons_zero, List.set_cons_succ]
        refine wpAnyH_ready (rs := [5]) (by decide +kernel) (by simp) ?_
        refine (AllReadyH.cons (o := _) rfl (fun K hK => ?_) AllReadyH.nil)
        · refine ifT rfl ?_
          refine oper_app_infos _ _ rfl _ _ g.infos (by rfl) (by rfl) (HI.out.on (Below.same' hB2 F)) (by omega) ?_
          intro A5 c5 w3 hb hi5_3
          have g5 := hrs2.lt
          have l2_5 := hr2_2.lt
          have hr2_3 := hr2_2.below hb hr2_2.lt
          have l7_5 := hr7_2.lt
          have hr7_3 := hr7_2.below hb hr7_2.lt
          have sz3 := hb.size
          have hbx3 := hbx2.below hb hbx2.lt
          have hrs3 := hrs2.below hb hrs2.lt
          have hB3 := hB2.trans (hb.mono hB2.size)
          clear hb
          refine hK.out _ _ ⟨hbx3.cell rfl, hbx3.cell rfl⟩ (fun hHeld => ?_)
          clear hK K
          try simp only [Act.put, List.getElem_toArray, List.getElem_cons_zero, List.getElem_cons_succ, List.setIfInBounds_toArray, List.set_cons_zero, List.set_cons_succ]
          refine wpAnyH_take (i := 6) (v := ?_) rfl (by kernel_rfl) (by kernel_rfl) (by kernel_rfl) (fun _ _ _ h => h) (Or.inl ⟨by rfl, ?_⟩) hHeld ?_
          rotate_left
          · intro wx hSx; (try dsimp only at hSx); go_split_ands; go_simp; try (with_reducible rfl)
          try simp only [Act.put, List.getElem_toArray, List.getElem_cons_zero, List.getElem_cons_succ, List.setIfInBounds_toArray, List.set_cons_zero, List.set_cons_succ]
          have r0 := hr7_3.cell (i := 0) rfl
          have f0 := hr7_3.frozen 0
          have r1 := hr7_3.cell (i := 1) rfl
          have f1 := hr7_3.frozen 1
          have r2 := hr7_3.cell (i := 2) rfl
          have f2 := hr7_3.frozen 2
          refine wpAnyH_done (by kernel_rfl) ?_ _
          clear hHeld
          show wpList _ _ _ _ _ _
          go_wp2_with fail
          obtain ⟨W, hW, hrw, hww⟩ := set3 hr7_3 (.int .i64 g.players) (.slice none 0 0) (.slice A5 g.infos.length c5)
          rw [← hW]
          clear hW
          clear r0 f0
          clear r1 f1
          clear r2 f2
          have szw := hww.size
          show Exit.then _ _ .normal _ _
          go_wp2_with fail
          go_meet
          refine ⟨w1.heap.size, A5, c5, rfl, hrw, ?_, hbx3.wrote hww (by omega), hrs3.wrote hww (by omega), Wrote.below hB3 hww (fun k hk => by omega) hB3.size, by omega⟩
          exact hi5_3.keep (fun b hb _ => by omega) (hww.same (fun b hb => by omega))
    · go_simp
      obtain ⟨w1, hw, hr7_1, hb, hz⟩ := row_of_alloc w0 25 #[.int .i64 0, .slice none 0 0, .slice none 0 0]
      rw [← hw]
      clear hw hz
      have g7 := hrs0.lt
      have sz1 := hb.size
      have hbx1 := hbx0.below hb hbx0.lt
      have hrs1 := hrs0.below hb hrs0.lt
      have hB1 := hB0.trans (hb.mono hB0.size)
      clear hb
      refine hK.out _ _ ⟨hbx1.cell rfl, hbx1.cell rfl⟩ (fun hHeld => ?_)
      clear hK K
      try simp only [Act.put, List.getElem_toArray, List.getElem_cons_zero, List.getElem_cons_succ, List.setIfInBounds_toArray, List.set_cons_zero, List.set_cons_succ]
      refine wpAnyH_ready (rs := [2]) (by decide +kernel) (by simp) ?_
      refine (AllReadyH.cons (o := _) rfl (fun K hK => ?_) AllReadyH.nil)
      · go_simp
        obtain ⟨w2, hw, hr2_2, hb, hz⟩ := row_of_alloc w1 65 #[]
        rw [← hw]
        clear hw hz
        have g2 := hrs1.lt
        have l7_2 := hr7_1.lt
        have hr7_2 := hr7_1.below hb hr7_1.lt
        have sz2 := hb.size
        have hbx2 := hbx1.below hb hbx1.lt
        have hrs2 := hrs1.below hb hrs1.lt
        have hB2 := hB1.trans (hb.mono hB1.size)
        clear hb
        refine hK.out _ _ ⟨hbx2.cell rfl, hbx2.cell rfl⟩ (fun hHeld => ?_)
        clear hK K
        try simp only [Act.put, List.getElem_toArray, List.getElem_cons_zero, List.getElem_cons_succ, List.setIfInBounds_toArray, List.set_cons_zero, List.set_cons_succ]
        refine wpAnyH_ready (rs := [5]) (by decide +kernel) (by simp) ?_
        refine (AllReadyH.cons (o := _) rfl (fun K hK => ?_) AllReadyH.nil)
        · refine ifT rfl ?_
          refine oper_app_infos _ _ rfl _ _ g.infos (by rfl) (by rfl) (HI.out.on (Below.same' hB2 F)) (by omega) ?_
          intro A5 c5 w3 hb hi5_3
          have g5 := hrs2.lt
          have l7_5 := hr7_2.lt
          have hr7_3 := hr7_2.below hb hr7_2.lt
          have l2_5 := hr2_2.lt
          have hr2_3 := hr2_2.below hb hr2_2.lt
          have sz3 := hb.size
          have hbx3 := hbx2.below hb hbx2.lt
          have hrs3 := hrs2.below hb hrs2.lt
          have hB3 := hB2.trans (hb.mono hB2.size)
          clear hb
          refine hK.out _ _ ⟨hbx3.cell rfl, hbx3.cell rfl⟩ (fun hHeld => ?_)
          clear hK K
          try simp only [Act.put, List.getElem_toArray, List.getElem_cons_zero, List.getElem_cons_succ, List.setIfInBounds_toArray, List.set_cons_zero, List.set_cons_succ]
          refine wpAnyH_take (i := 6) (v := ?_) rfl (by kernel_rfl) (by kernel_rfl) (by kernel_rfl) (fun _ _ _ h => h) (Or.inl ⟨by rfl, ?_⟩) hHeld ?_
          rotate_left
          · intro wx hSx; (try dsimp only at hSx); go_split_ands; go_simp; try (with_reducible rfl)
          try simp only [Act.put, List.getElem_toArray, List.getElem_cons_zero, List.getElem_cons_succ, List.setIfInBounds_toArray, List.set_cons_zero, List.set_cons_succ]
          have r0 := hr7_3.cell (i := 0) rfl
          have f0 := hr7_3.frozen 0
          have r1 := hr7_3.cell (i := 1) rfl
          have f1 := hr7_3.frozen 1
          have r2 := hr7_3.cell (i := 2) rfl
          have f2 := hr7_3.frozen 2
          refine wpAnyH_done (by kernel_rfl) ?_ _
          clear hHeld
          show wpList _ _ _ _ _ _
          go_wp2_with fail
          obtain ⟨W, hW, hrw, hww⟩ := set3 hr7_3 (.int .i64 g.players) (.slice none 0 0) (.slice A5 g.infos.length c5)
          rw [← hW]
          clear hW
          clear r0 f0
          clear r1 f1
          clear r2 f2
          have szw := hww.size
          show Exit.then _ _ .normal _ _
          go_wp2_with fail
          go_meet
          refine ⟨w0.heap.size, A5, c5, rfl, hrw, ?_, hbx3.wrote hww (by omega), hrs3.wrote hww (by omega), Wrote.below hB3 hww (fun k hk => by omega) hB3.size, by omega⟩
          exact hi5_3.keep (fun b hb _ => by omega) (hww.same (fun b hb => by omega))
  case rest =>
    obtain ⟨bo, Ai', ci', rfl, hbo, hio, hbx', hrs', hB', gbo⟩ := hcut
    clear hbx hrs hB
    obtain ⟨wz, rfl⟩ : ∃ wz : World, wz = wc := ⟨_, rfl⟩
    have hbol := hbo.lt
    go_wp2
    go_loopw [4, 5] (fun i _ wr => ∃ (k : Nat) (L : List NV) (vo : Value) (G : Foot), k ≤ g.nodes.length ∧ i = .int .i64 k ∧ L.map NV.n = g.nodes.take k ∧ wr.ownsRow wz.heap.size 45 6 vo L.length (L.flatMap NV.cells) ∧ (∀ q ∈ L, q.fine wr G) ∧ (∀ b, G b → wz.heap.size ≤ b ∧ vo.ownBlock ≠ some b ∧ b < wr.heap.size) ∧ Row wr bo 25 [.int .i64 g.players, vo, .slice Ai' g.infos.length ci'] ∧ InfosAt wr (fun b => w.heap.size + 1 < b ∧ b ≠ bo ∧ b < wz.heap.size) (.slice Ai' g.infos.length ci') g.infos ∧ Row wr w.heap.size 25 [.int .i64 g.players, .slice A g.nodes.length c, .slice Ai g.infos.length ci] ∧ Row wr (w.heap.size + 1) 25 [.int .i64 0, .slice none 0 0, .slice none 0 0] ∧ Below w.heap.size w wr ∧ wz.heap.size ≤ wr.heap.size) (fun i _ _ => g.nodes.length - (intOf i).toNat)
    case atStart => exact ⟨0, [], .slice none 0 0, fun _ => False, by omega, rfl, rfl, World.ownsRow_nil _ _ _ _, fun q hq => (by cases hq), fun b hb => hb.elim, hbo, hio, hbx', hrs', hB', Nat.le_refl _⟩
    case round =>
      clear hbo hio hbx' hrs' hB'
      obtain ⟨k, L, vo, G, hk, rfl, hLn, hown, hfine, hG, hbo, hio, hbx, hrs, hB, hz⟩ := hrel
      have HO := Lib.hid hown; clear hown
      have HL := Lib.hid hLn; clear hLn
      have HFN := Lib.hid hfine; clear hfine
      have HG := Lib.hid hG; clear hG
      have HIO := Lib.hid hio; clear hio
      have x1 := hbx.cell (i := 1) rfl
      have hbxl := hbx.lt
      have hbol2 := hbo.lt
      by_cases hlt : k < g.nodes.length
      · obtain ⟨b, o, rfl, _, hb, hcell⟩ := HN.out (by omega)
        obtain ⟨n, hn'⟩ := getSome hlt
        obtain ⟨e0, e1, e2, ⟨v3, e3, i3⟩, ⟨v4, e4, i4⟩, ⟨v5, e5, i5⟩⟩ := hcell k n hn'
        have hm := List.mem_of_getElem? hn'
        have s3 := HS.out.next n hm
        have s4 := HS.out.weights n hm
        have s5 := HS.out.pay n hm
        have H3 := Lib.hid i3; have H4 := Lib.hid i4; have H5 := Lib.hid i5
        obtain ⟨A3, c3, rfl, hc3, _⟩ := i3
        obtain ⟨A4, c4, rfl, hc4, _⟩ := i4
        obtain ⟨A5, c5, rfl, hc5, _⟩ := i5
        rw [← below_old hB _ _ hb] at e0 e1 e2 e3 e4 e5
        have HX := Lib.hid hn'; clear hn' hcell hm
        go_upto_region 6 with fail
        obtain ⟨w1, hw1, hnx, hb1, hz1⟩ := row_of_alloc wr 45 #[.int .i64 n.kind, .int .i64 n.player, .int .i64 n.info, .slice A3 n.next.length c3, .slice A4 n.weights.length c4, .slice A5 n.pay.length c5]
        rw [← hw1]
        have HO1 := Lib.hid (show w1.ownsRow wz.heap.size 45 6 vo L.length (L.flatMap NV.cells) by rw [hw1]; exact HO.out.alloc _)
        have HB1 := Lib.hid (hB.trans (hb1.mono hB.size))
        have hz1' : wr.heap.size < w1.heap.size := hnx.lt
        clear hw1 hz1
        go_cut [] from 13 to 45 (fun wx => ∃ A3' c3' A4' c4' A5' c5', Row wx wr.heap.size 45 [.int .i64 n.kind, .int .i64 n.player, .int .i64 n.info, .slice A3' n.next.length c3', .slice A4' n.weights.length c4', .slice A5' n.pay.length c5'] ∧ IntsAt wx (fun b => wr.heap.size < b ∧ b < wx.heap.size) (.slice A3' n.next.length c3') n.next ∧ IntsAt wx (fun b => wr.heap.size < b ∧ b < wx.heap.size) (.slice A4' n.weights.length c4') n.weights ∧ IntsAt wx (fun b => wr.heap.size < b ∧ b < wx.heap.size) (.slice A5' n.pay.length c5') n.pay ∧ Wrote (fun k => k = wr.heap.size) w1 wx)
        case first =>
          refine wp_peelMany (fun w' => w'.cell? ⟨wr.heap.size, 3, none⟩ = some (.slice A3 n.next.length c3) ∧ w'.cell? ⟨wr.heap.size, 4, none⟩ = some (.slice A4 n.weights.length c4) ∧ w'.cell? ⟨wr.heap.size, 5, none⟩ = some (.slice A5 n.pay.length c5)) 13 5 (by kernel_rfl) rfl (by kernel_rfl) ?_
          have hHeld : (fun w' : World => w'.cell? ⟨wr.heap.size, 3, none⟩ = some (.slice A3 n.next.length c3) ∧ w'.cell? ⟨wr.heap.size, 4, none⟩ = some (.slice A4 n.weights.length c4) ∧ w'.cell? ⟨wr.heap.size, 5, none⟩ = some (.slice A5 n.pay.length c5)) w1.drew := ⟨hnx.cell rfl, hnx.cell rfl, hnx.cell rfl⟩
          simp only [List.take_succ_cons, List.take_zero]
          refine wpAnyH_take (i := 1) (v := ?_) rfl (by kernel_rfl) (by kernel_rfl) (by kernel_rfl) (fun _ _ _ h => h) (Or.inl ⟨by rfl, ?_⟩) hHeld ?_
          rotate_left
          · intro wx hSx; (try dsimp only at hSx); go_split_ands; go_simp; try (with_reducible rfl)
          try simp only [Act.put, List.getElem_toArray, List.getElem_cons_zero, List.getElem_cons_succ, List.setIfInBounds_toArray, List.set_cons_zero, List.set_cons_succ]
          refine wpAnyH_take (i := 2) (v := ?_) rfl (by kernel_rfl) (by kernel_rfl) (by kernel_rfl) (fun _ _ _ h => h) (Or.inl ⟨by rfl, ?_⟩) hHeld ?_
          rotate_left
          · intro wx hSx; (try dsimp only at hSx); go_split_ands; go_simp; try (with_reducible rfl)
          try simp only [Act.put, List.getElem_toArray, List.getElem_cons_zero, List.getElem_cons_succ, List.setIfInBounds_toArray, List.set_cons_zero, List.set_cons_succ]
          refine wpAnyH_take (i := 5) (v := ?_) rfl (by kernel_rfl) (by kernel_rfl) (by kernel_rfl) (fun _ _ _ h => h) (Or.inl ⟨by rfl, ?_⟩) hHeld ?_
          rotate_left
          · intro wx hSx; (try dsimp only at hSx); go_split_ands; go_simp; try (with_reducible rfl)
          try simp only [Act.put, List.getElem_toArray, List.getElem_cons_zero, List.getElem_cons_succ, List.setIfInBounds_toArray, List.set_cons_zero, List.set_cons_succ]
          refine wpAnyH_take (i := 6) (v := ?_) rfl (by kernel_rfl) (by kernel_rfl) (by kernel_rfl) (fun _ _ _ h => h) (Or.inl ⟨by rfl, ?_⟩) hHeld ?_
          rotate_left
          · intro wx hSx; (try dsimp only at hSx); go_split_ands; go_simp; try (with_reducible rfl)
          try simp only [Act.put, List.getElem_toArray, List.getElem_cons_zero, List.getElem_cons_succ, List.setIfInBounds_toArray, List.set_cons_zero, List.set_cons_succ]
          refine wpAnyH_take (i := 9) (v := ?_) rfl (by kernel_rfl) (by kernel_rfl) (by kernel_rfl) (fun _ _ _ h => h) (Or.inl ⟨by rfl, ?_⟩) hHeld ?_
          rotate_left
          · intro wx hSx; (try dsimp only at hSx); go_split_ands; go_simp; try (with_reducible rfl)
          try simp only [Act.put, List.getElem_toArray, List.getElem_cons_zero, List.getElem_cons_succ, List.setIfInBounds_toArray, List.set_cons_zero, List.set_cons_succ]
          refine wpAnyH_take (i := 10) (v := ?_) rfl (by kernel_rfl) (by kernel_rfl) (by kernel_rfl) (fun _ _ _ h => h) (Or.inl ⟨by rfl, ?_⟩) hHeld ?_
          rotate_left
          · intro wx hSx; (try dsimp only at hSx); go_split_ands; go_simp; try (with_reducible rfl)
          try simp only [Act.put, List.getElem_toArray, List.getElem_cons_zero, List.getElem_cons_succ, List.setIfInBounds_toArray, List.set_cons_zero, List.set_cons_succ]
          obtain ⟨w0, hw0⟩ : ∃ W, W = w1.drew := ⟨_, rfl⟩
          have hnx0 : Row w0 _ _ _ := hw0 ▸ hnx.drew
          have hV0 : Below w1.heap.size w1 w0 := hw0 ▸ (Below.refl w1.heap.size w1).drew
          rw [← hw0] at hHeld ⊢
          clear hw0 hnx hb1 e0 e1 e2 e3 e4 e5 x1 hbo hbx hrs hB
          obtain ⟨wb, rfl⟩ : ∃ wb : World, wb = w1 := ⟨_, rfl⟩
          refine wpAnyH_ready (rs := [0, 4, 8]) (by decide +kernel) (by simp) ?_
          refine (AllReadyH.cons (o := _) rfl (fun K hK => ?_) (AllReadyH.cons (o := _) rfl (fun K hK => ?_) (AllReadyH.cons (o := _) rfl (fun K hK => ?_) AllReadyH.nil)))
          · go_simp
            obtain ⟨w1, hw, hr0_1, hb, hz⟩ := row_of_alloc w0 3 #[]
            rw [← hw]
            clear hw hz
            have g0 := hnx0.lt
            have sz1 := hb.size
            have hnx1 := hnx0.below hb hnx0.lt
            have hV1 := hV0.trans (hb.mono hV0.size)
            clear hb
            refine hK.out _ _ ⟨hnx1.cell rfl, hnx1.cell rfl, hnx1.cell rfl⟩ (fun hHeld => ?_)
            clear hK K
            try simp only [Act.put, List.getElem_toArray, List.getElem_cons_zero, List.getElem_cons_succ, List.setIfInBounds_toArray, List.set_cons_zero, List.set_cons_succ]
            refine wpAnyH_ready (rs := [3, 4, 8]) (by decide +kernel) (by simp) ?_
            refine (AllReadyH.cons (o := _) rfl (fun K hK => ?_) (AllReadyH.cons (o := _) rfl (fun K hK => ?_) (AllReadyH.cons (o := _) rfl (fun K hK => ?_) AllReadyH.nil)))
            · refine ifT rfl ?_
              refine oper_app_ints _ _ rfl _ _ n.next (by rfl) (by rfl) ((H3.out.on (Below.same' HB1.out F)).on (Below.same' hV1 F)) (by omega) ?_
              intro A3 c3 w2 hb hi3_2
              have g3 := hnx1.lt
              have l0_3 := hr0_1.lt
              have hr0_2 := hr0_1.below hb hr0_1.lt
              have sz2 := hb.size
              have hnx2 := hnx1.below hb hnx1.lt
              have hV2 := hV1.trans (hb.mono hV1.size)
              clear hb
              refine hK.out _ _ ⟨hnx2.cell rfl, hnx2.cell rfl, hnx2.cell rfl⟩ (fun hHeld => ?_)
              clear hK K
              try simp only [Act.put, List.getElem_toArray, List.getElem_cons_zero, List.getElem_cons_succ, List.setIfInBounds_toArray, List.set_cons_zero, List.set_cons_succ]
              refine wpAnyH_take (i := 12) (v := ?_) rfl (by kernel_rfl) (by kernel_rfl) (by kernel_rfl) (fun _ _ _ h => h) (Or.inl ⟨by rfl, ?_⟩) hHeld ?_
              rotate_left
              · intro wx hSx; (try dsimp only at hSx); go_split_ands; go_simp; try (with_reducible rfl)
              try simp only [Act.put, List.getElem_toArray, List.getElem_cons_zero, List.getElem_cons_succ, List.setIfInBounds_toArray, List.set_cons_zero, List.set_cons_succ]
              refine wpAnyH_ready (rs := [4, 8]) (by decide +kernel) (by simp) ?_
              refine (AllReadyH.cons (o := _) rfl (fun K hK => ?_) (AllReadyH.cons (o := _) rfl (fun K hK => ?_) AllReadyH.nil))
              · go_simp
                obtain ⟨w3, hw, hr4_3, hb, hz⟩ := row_of_alloc w2 3 #[]
                rw [← hw]
                clear hw hz
                have g4 := hnx2.lt
                have l0_4 := hr0_2.lt
                have hr0_3 := hr0_2.below hb hr0_2.lt
                have hi3_3 := hi3_2.on (Below.same' hb _)
                have sz3 := hb.size
                have hnx3 := hnx2.below hb hnx2.lt
                have hV3 := hV2.trans (hb.mono hV2.size)
                clear hb
                refine hK.out _ _ ⟨hnx3.cell rfl, hnx3.cell rfl, hnx3.cell rfl⟩ (fun hHeld => ?_)
                clear hK K
                try simp only [Act.put, List.getElem_toArray, List.getElem_cons_zero, List.getElem_cons_succ, List.setIfInBounds_toArray, List.set_cons_zero, List.set_cons_succ]
                refine wpAnyH_ready (rs := [7, 8]) (by decide +kernel) (by simp) ?_
                refine (AllReadyH.cons (o := _) rfl (fun K hK => ?_) (AllReadyH.cons (o := _) rfl (fun K hK => ?_) AllReadyH.nil))
                · refine ifT rfl ?_
                  refine oper_app_ints _ _ rfl _ _ n.weights (by rfl) (by rfl) ((H4.out.on (Below.same' HB1.out F)).on (Below.same' hV3 F)) (by omega) ?_
                  intro A7 c7 w4 hb hi7_4
                  have g7 := hnx3.lt
                  have l0_7 := hr0_3.lt
                  have hr0_4 := hr0_3.below hb hr0_3.lt
                  have hi3_4 := hi3_3.on (Below.same' hb _)
                  have l4_7 := hr4_3.lt
                  have hr4_4 := hr4_3.below hb hr4_3.lt
                  have sz4 := hb.size
                  have hnx4 := hnx3.below hb hnx3.lt
                  have hV4 := hV3.trans (hb.mono hV3.size)
                  clear hb
                  refine hK.out _ _ ⟨hnx4.cell rfl, hnx4.cell rfl, hnx4.cell rfl⟩ (fun hHeld => ?_)
                  clear hK K
                  try simp only [Act.put, List.getElem_toArray, List.getElem_cons_zero, List.getElem_cons_succ, List.setIfInBounds_toArray, List.set_cons_zero, List.set_cons_succ]
                  refine wpAnyH_ready (rs := [8]) (by decide +kernel) (by simp) ?_
                  refine (AllReadyH.cons (o := _) rfl (fun K hK => ?_) AllReadyH.nil)
                  · go_simp
                    obtain ⟨w5, hw, hr8_5, hb, hz⟩ := row_of_alloc w4 3 #[]
                    rw [← hw]
                    clear hw hz
                    have g8 := hnx4.lt
                    have l0_8 := hr0_4.lt
                    have hr0_5 := hr0_4.below hb hr0_4.lt
                    have hi3_5 := hi3_4.on (Below.same' hb _)
                    have l4_8 := hr4_4.lt
                    have hr4_5 := hr4_4.below hb hr4_4.lt
                    have hi7_5 := hi7_4.on (Below.same' hb _)
                    have sz5 := hb.size
                    have hnx5 := hnx4.below hb hnx4.lt
                    have hV5 := hV4.trans (hb.mono hV4.size)
                    clear hb
                    refine hK.out _ _ ⟨hnx5.cell rfl, hnx5.cell rfl, hnx5.cell rfl⟩ (fun hHeld => ?_)
                    clear hK K
                    try simp only [Act.put, List.getElem_toArray, List.getElem_cons_zero, List.getElem_cons_succ, List.setIfInBounds_toArray, List.set_cons_zero, List.set_cons_succ]
                    refine wpAnyH_ready (rs := [11]) (by decide +kernel) (by simp) ?_
                    refine (AllReadyH.cons (o := _) rfl (fun K hK => ?_) AllReadyH.nil)
                    · refine ifT rfl ?_
                      refine oper_app_ints _ _ rfl _ _ n.pay (by rfl) (by rfl) ((H5.out.on (Below.same' HB1.out F)).on (Below.same' hV5 F)) (by omega) ?_
                      intro A11 c11 w6 hb hi11_6
                      have g11 := hnx5.lt
                      have l0_11 := hr0_5.lt
                      have hr0_6 := hr0_5.below hb hr0_5.lt
                      have hi3_6 := hi3_5.on (Below.same' hb _)
                      have l4_11 := hr4_5.lt
                      have hr4_6 := hr4_5.below hb hr4_5.lt
                      have hi7_6 := hi7_5.on (Below.same' hb _)
                      have l8_11 := hr8_5.lt
                      have hr8_6 := hr8_5.below hb hr8_5.lt
                      have sz6 := hb.size
                      have hnx6 := hnx5.below hb hnx5.lt
                      have hV6 := hV5.trans (hb.mono hV5.size)
                      clear hb
                      refine hK.out _ _ ⟨hnx6.cell rfl, hnx6.cell rfl, hnx6.cell rfl⟩ (fun hHeld => ?_)
                      clear hK K
                      try simp only [Act.put, List.getElem_toArray, List.getElem_cons_zero, List.getElem_cons_succ, List.setIfInBounds_toArray, List.set_cons_zero, List.set_cons_succ]
                      have r3 := hnx6.cell (i := 3) rfl
                      have f3 := hnx6.frozen 3
                      have r4 := hnx6.cell (i := 4) rfl
                      have f4 := hnx6.frozen 4
                      have r5 := hnx6.cell (i := 5) rfl
                      have f5 := hnx6.frozen 5
                      refine wpAnyH_done (by kernel_rfl) ?_ _
                      clear hHeld
                      show wpList _ _ _ _ _ _
                      go_wp2_with fail
                      show wpList _ _ _ _ _ _
                      go_wp2_with fail
                      show wpList _ _ _ _ _ _
                      go_wp2_with fail
                      show wpList _ _ _ _ _ _
                      go_wp2_with fail
                      show wpList _ _ _ _ _ _
                      go_wp2_with fail
                      obtain ⟨W, hW, hrw, hww⟩ := set345 hnx6 (.slice A3 n.next.length c3) (.slice A7 n.weights.length c7) (.slice A11 n.pay.length c11)
                      rw [← hW]
                      clear hW
                      clear r3 f3
                      clear r4 f4
                      clear r5 f5
                      have szw := hww.size
                      show Exit.then _ _ .normal _ _
                      go_wp2_with fail
                      go_meet
                      refine ⟨A3, c3, A7, c7, A11, c11, hrw, ?_, ?_, ?_, (Below.wrote hV6 _).trans hww⟩
                      · exact hi3_6.keep (fun b hb _ => by omega) (hww.same (fun b hb => by omega))
                      · exact hi7_6.keep (fun b hb _ => by omega) (hww.same (fun b hb => by omega))
                      · exact hi11_6.keep (fun b hb _ => by omega) (hww.same (fun b hb => by omega))
                · go_simp
                  obtain ⟨w4, hw, hr8_4, hb, hz⟩ := row_of_alloc w3 3 #[]
                  rw [← hw]
                  clear hw hz
                  have g8 := hnx3.lt
                  have l0_8 := hr0_3.lt
                  have hr0_4 := hr0_3.below hb hr0_3.lt
                  have hi3_4 := hi3_3.on (Below.same' hb _)
                  have l4_8 := hr4_3.lt
                  have hr4_4 := hr4_3.below hb hr4_3.lt
                  have sz4 := hb.size
                  have hnx4 := hnx3.below hb hnx3.lt
                  have hV4 := hV3.trans (hb.mono hV3.size)
                  clear hb
                  refine hK.out _ _ ⟨hnx4.cell rfl, hnx4.cell rfl, hnx4.cell rfl⟩ (fun hHeld => ?_)
                  clear hK K
                  try simp only [Act.put, List.getElem_toArray, List.getElem_cons_zero, List.getElem_cons_succ, List.setIfInBounds_toArray, List.set_cons_zero, List.set_cons_succ]
                  refine wpAnyH_ready (rs := [7]) (by decide +kernel) (by simp) ?_
                  refine (AllReadyH.cons (o := _) rfl (fun K hK => ?_) AllReadyH.nil)
                  · refine ifT rfl ?_
                    refine oper_app_ints _ _ rfl _ _ n.weights (by rfl) (by rfl) ((H4.out.on (Below.same' HB1.out F)).on (Below.same' hV4 F)) (by omega) ?_
                    intro A7 c7 w5 hb hi7_5
                    have g7 := hnx4.lt
                    have l0_7 := hr0_4.lt
                    have hr0_5 := hr0_4.below hb hr0_4.lt
                    have hi3_5 := hi3_4.on (Below.same' hb _)
                    have l4_7 := hr4_4.lt
                    have hr4_5 := hr4_4.below hb hr4_4.lt
                    have l8_7 := hr8_4.lt
                    have hr8_5 := hr8_4.below hb hr8_4.lt
                    have sz5 := hb.size
                    have hnx5 := hnx4.below hb hnx4.lt
                    have hV5 := hV4.trans (hb.mono hV4.size)
                    clear hb
                    refine hK.out _ _ ⟨hnx5.cell rfl, hnx5.cell rfl, hnx5.cell rfl⟩ (fun hHeld => ?_)
                    clear hK K
                    try simp only [Act.put, List.getElem_toArray, List.getElem_cons_zero, List.getElem_cons_succ, List.setIfInBounds_toArray, List.set_cons_zero, List.set_cons_succ]
                    refine wpAnyH_ready (rs := [11]) (by decide +kernel) (by simp) ?_
                    refine (AllReadyH.cons (o := _) rfl (fun K hK => ?_) AllReadyH.nil)
                    · refine ifT rfl ?_
                      refine oper_app_ints _ _ rfl _ _ n.pay (by rfl) (by rfl) ((H5.out.on (Below.same' HB1.out F)).on (Below.same' hV5 F)) (by omega) ?_
                      intro A11 c11 w6 hb hi11_6
                      have g11 := hnx5.lt
                      have l0_11 := hr0_5.lt
                      have hr0_6 := hr0_5.below hb hr0_5.lt
                      have hi3_6 := hi3_5.on (Below.same' hb _)
                      have l4_11 := hr4_5.lt
                      have hr4_6 := hr4_5.below hb hr4_5.lt
                      have l8_11 := hr8_5.lt
                      have hr8_6 := hr8_5.below hb hr8_5.lt
                      have hi7_6 := hi7_5.on (Below.same' hb _)
                      have sz6 := hb.size
                      have hnx6 := hnx5.below hb hnx5.lt
                      have hV6 := hV5.trans (hb.mono hV5.size)
                      clear hb
                      refine hK.out _ _ ⟨hnx6.cell rfl, hnx6.cell rfl, hnx6.cell rfl⟩ (fun hHeld => ?_)
                      clear hK K
                      try simp only [Act.put, List.getElem_toArray, List.getElem_cons_zero, List.getElem_cons_succ, List.setIfInBounds_toArray, List.set_cons_zero, List.set_cons_succ]
                      have r3 := hnx6.cell (i := 3) rfl
                      have f3 := hnx6.frozen 3
                      have r4 := hnx6.cell (i := 4) rfl
                      have f4 := hnx6.frozen 4
                      have r5 := hnx6.cell (i := 5) rfl
                      have f5 := hnx6.frozen 5
                      refine wpAnyH_done (by kernel_rfl) ?_ _
                      clear hHeld
                      show wpList _ _ _ _ _ _
                      go_wp2_with fail
                      show wpList _ _ _ _ _ _
                      go_wp2_with fail
                      show wpList _ _ _ _ _ _
                      go_wp2_with fail
                      show wpList _ _ _ _ _ _
                      go_wp2_with fail
                      show wpList _ _ _ _ _ _
                      go_wp2_with fail
                      obtain ⟨W, hW, hrw, hww⟩ := set345 hnx6 (.slice A3 n.next.length c3) (.slice A7 n.weights.length c7) (.slice A11 n.pay.length c11)
                      rw [← hW]
                      clear hW
                      clear r3 f3
                      clear r4 f4
                      clear r5 f5
                      have szw := hww.size
                      show Exit.then _ _ .normal _ _
                      go_wp2_with fail
                      go_meet
                      refine ⟨A3, c3, A7, c7, A11, c11, hrw, ?_, ?_, ?_, (Below.wrote hV6 _).trans hww⟩
                      · exact hi3_6.keep (fun b hb _ => by omega) (hww.same (fun b hb => by omega))
                      · exact hi7_6.keep (fun b hb _ => by omega) (hww.same (fun b hb => by omega))
                      · exact hi11_6.keep (fun b hb _ => by omega) (hww.same (fun b hb => by omega))
              · go_simp
                obtain ⟨w3, hw, hr8_3, hb, hz⟩ := row_of_alloc w2 3 #[]
                rw [← hw]
                clear hw hz
                have g8 := hnx2.lt
                have l0_8 := hr0_2.lt
                have hr0_3 := hr0_2.below hb hr0_2.lt
                have hi3_3 := hi3_2.on (Below.same' hb _)
                have sz3 := hb.size
                have hnx3 := hnx2.below hb hnx2.lt
                have hV3 := hV2.trans (hb.mono hV2.size)
                clear hb
                refine hK.out _ _ ⟨hnx3.cell rfl, hnx3.cell rfl, hnx3.cell rfl⟩ (fun hHeld => ?_)
                clear hK K
                try simp only [Act.put, List.getElem_toArray, List.getElem_cons_zero, List.getElem_cons_succ, List.setIfInBounds_toArray, List.set_cons_zero, List.set_cons_succ]
                refine wpAnyH_ready (rs := [4]) (by decide +kernel) (by simp) ?_
                refine (AllReadyH.cons (o := _) rfl (fun K hK => ?_) AllReadyH.nil)
                · go_simp
                  obtain ⟨w4, hw, hr4_4, hb, hz⟩ := row_of_alloc w3 3 #[]
                  rw [← hw]
                  clear hw hz
                  have g4 := hnx3.lt
                  have l0_4 := hr0_3.lt
                  have hr0_4 := hr0_3.below hb hr0_3.lt
                  have hi3_4 := hi3_3.on (Below.same' hb _)
                  have l8_4 := hr8_3.lt
                  have hr8_4 := hr8_3.below hb hr8_3.lt
                  have sz4 := hb.size
                  have hnx4 := hnx3.below hb hnx3.lt
                  have hV4 := hV3.trans (hb.mono hV3.size)
                  clear hb
                  refine hK.out _ _ ⟨hnx4.cell rfl, hnx4.cell rfl, hnx4.cell rfl⟩ (fun hHeld => ?_)
                  clear hK K
                  try simp only [Act.put, List.getElem_toArray, List.getElem_cons_zero, List.getElem_cons_succ, List.setIfInBounds_toArray, List.set_cons_zero, List.set_cons_succ]
                  refine wpAnyH_ready (rs := [7]) (by decide +kernel) (by simp) ?_
                  refine (AllReadyH.cons (o := _) rfl (fun K hK => ?_) AllReadyH.nil)
                  · refine ifT rfl ?_
                    refine oper_app_ints _ _ rfl _ _ n.weights (by rfl) (by rfl) ((H4.out.on (Below.same' HB1.out F)).on (Below.same' hV4 F)) (by omega) ?_
                    intro A7 c7 w5 hb hi7_5
                    have g7 := hnx4.lt
                    have l0_7 := hr0_4.lt
                    have hr0_5 := hr0_4.below hb hr0_4.lt
                    have hi3_5 := hi3_4.on (Below.same' hb _)
                    have l8_7 := hr8_4.lt
                    have hr8_5 := hr8_4.below hb hr8_4.lt
                    have l4_7 := hr4_4.lt
                    have hr4_5 := hr4_4.below hb hr4_4.lt
                    have sz5 := hb.size
                    have hnx5 := hnx4.below hb hnx4.lt
                    have hV5 := hV4.trans (hb.mono hV4.size)
                    clear hb
                    refine hK.out _ _ ⟨hnx5.cell rfl, hnx5.cell rfl, hnx5.cell rfl⟩ (fun hHeld => ?_)
                    clear hK K
                    try simp only [Act.put, List.getElem_toArray, List.getElem_cons_zero, List.getElem_cons_succ, List.setIfInBounds_toArray, List.set_cons_zero, List.set_cons_succ]
                    refine wpAnyH_ready (rs := [11]) (by decide +kernel) (by simp) ?_
                    refine (AllReadyH.cons (o := _) rfl (fun K hK => ?_) AllReadyH.nil)
                    · refine ifT rfl ?_
                      refine oper_app_ints _ _ rfl _ _ n.pay (by rfl) (by rfl) ((H5.out.on (Below.same' HB1.out F)).on (Below.same' hV5 F)) (by omega) ?_
                      intro A11 c11 w6 hb hi11_6
                      have g11 := hnx5.lt
                      have l0_11 := hr0_5.lt
                      have hr0_6 := hr0_5.below hb hr0_5.lt
                      have hi3_6 := hi3_5.on (Below.same' hb _)
                      have l8_11 := hr8_5.lt
                      have hr8_6 := hr8_5.below hb hr8_5.lt
                      have l4_11 := hr4_5.lt
                      have hr4_6 := hr4_5.below hb hr4_5.lt
                      have hi7_6 := hi7_5.on (Below.same' hb _)
                      have sz6 := hb.size
                      have hnx6 := hnx5.below hb hnx5.lt
                      have hV6 := hV5.trans (hb.mono hV5.size)
                      clear hb
                      refine hK.out _ _ ⟨hnx6.cell rfl, hnx6.cell rfl, hnx6.cell rfl⟩ (fun hHeld => ?_)
                      clear hK K
                      try simp only [Act.put, List.getElem_toArray, List.getElem_cons_zero, List.getElem_cons_succ, List.setIfInBounds_toArray, List.set_cons_zero, List.set_cons_succ]
                      have r3 := hnx6.cell (i := 3) rfl
                      have f3 := hnx6.frozen 3
                      have r4 := hnx6.cell (i := 4) rfl
                      have f4 := hnx6.frozen 4
                      have r5 := hnx6.cell (i := 5) rfl
                      have f5 := hnx6.frozen 5
                      refine wpAnyH_done (by kernel_rfl) ?_ _
                      clear hHeld
                      show wpList _ _ _ _ _ _
                      go_wp2_with fail
                      show wpList _ _ _ _ _ _
                      go_wp2_with fail
                      show wpList _ _ _ _ _ _
                      go_wp2_with fail
                      show wpList _ _ _ _ _ _
                      go_wp2_with fail
                      show wpList _ _ _ _ _ _
                      go_wp2_with fail
                      obtain ⟨W, hW, hrw, hww⟩ := set345 hnx6 (.slice A3 n.next.length c3) (.slice A7 n.weights.length c7) (.slice A11 n.pay.length c11)
                      rw [← hW]
                      clear hW
                      clear r3 f3
                      clear r4 f4
                      clear r5 f5
                      have szw := hww.size
                      show Exit.then _ _ .normal _ _
                      go_wp2_with fail
                      go_meet
                      refine ⟨A3, c3, A7, c7, A11, c11, hrw, ?_, ?_, ?_, (Below.wrote hV6 _).trans hww⟩
                      · exact hi3_6.keep (fun b hb _ => by omega) (hww.same (fun b hb => by omega))
                      · exact hi7_6.keep (fun b hb _ => by omega) (hww.same (fun b hb => by omega))
                      · exact hi11_6.keep (fun b hb _ => by omega) (hww.same (fun b hb => by omega))
            · go_simp
              obtain ⟨w2, hw, hr4_2, hb, hz⟩ := row_of_alloc w1 3 #[]
              rw [← hw]
              clear hw hz
              have g4 := hnx1.lt
              have l0_4 := hr0_1.lt
              have hr0_2 := hr0_1.below hb hr0_1.lt
              have sz2 := hb.size
              have hnx2 := hnx1.below hb hnx1.lt
              have hV2 := hV1.trans (hb.mono hV1.size)
              clear hb
              refine hK.out _ _ ⟨hnx2.cell rfl, hnx2.cell rfl, hnx2.cell rfl⟩ (fun hHeld => ?_)
              clear hK K
              try simp only [Act.put, List.getElem_toArray, List.getElem_cons_zero, List.getElem_cons_succ, List.setIfInBounds_toArray, List.set_cons_zero, List.set_cons_succ]
              refine wpAnyH_ready (rs := [3, 8]) (by decide +kernel) (by simp) ?_
              refine (AllReadyH.cons (o := _) rfl (fun K hK => ?_) (AllReadyH.cons (o := _) rfl (fun K hK => ?_) AllReadyH.nil))
              · refine ifT rfl ?_
                refine oper_app_ints _ _ rfl _ _ n.next (by rfl) (by rfl) ((H3.out.on (Below.same' HB1.out F)).on (Below.same' hV2 F)) (by omega) ?_
                intro A3 c3 w3 hb hi3_3
                have g3 := hnx2.lt
                have l0_3 := hr0_2.lt
                have hr0_3 := hr0_2.below hb hr0_2.lt
                have l4_3 := hr4_2.lt
                have hr4_3 := hr4_2.below hb hr4_2.lt
                have sz3 := hb.size
                have hnx3 := hnx2.below hb hnx2.lt
                have hV3 := hV2.trans (hb.mono hV2.size)
                clear hb
                refine hK.out _ _ ⟨hnx3.cell rfl, hnx3.cell rfl, hnx3.cell rfl⟩ (fun hHeld => ?_)
                clear hK K
                try simp only [Act.put, List.getElem_toArray, List.getElem_cons_zero, List.getElem_cons_succ, List.setIfInBounds_toArray, List.set_cons_zero, List.set_cons_succ]
                refine wpAnyH_take (i := 12) (v := ?_) rfl (by kernel_rfl) (by kernel_rfl) (by kernel_rfl) (fun _ _ _ h => h) (Or.inl ⟨by rfl, ?_⟩) hHeld ?_
                rotate_left
                · intro wx hSx; (try dsimp only at hSx); go_split_ands; go_simp; try (with_reducible rfl)
                try simp only [Act.put, List.getElem_toArray, List.getElem_cons_zero, List.getElem_cons_succ, List.setIfInBounds_toArray, List.set_cons_zero, List.set_cons_succ]
                refine wpAnyH_ready (rs := [7, 8]) (by decide +kernel) (by simp) ?_
                refine (AllReadyH.cons (o := _) rfl (fun K hK => ?_) (AllReadyH.cons (o := _) rfl (fun K hK => ?_) AllReadyH.nil))
                · refine ifT rfl ?_
                  refine oper_app_ints _ _ rfl _ _ n.weights (by rfl) (by rfl) ((H4.out.on (Below.same' HB1.out F)).on (Below.same' hV3 F)) (by omega) ?_
                  intro A7 c7 w4 hb hi7_4
                  have g7 := hnx3.lt
                  have l0_7 := hr0_3.lt
                  have hr0_4 := hr0_3.below hb hr0_3.lt
                  have l4_7 := hr4_3.lt
                  have hr4_4 := hr4_3.below hb hr4_3.lt
                  have hi3_4 := hi3_3.on (Below.same' hb _)
                  have sz4 := hb.size
                  have hnx4 := hnx3.below hb hnx3.lt
                  have hV4 := hV3.trans (hb.mono hV3.size)
                  clear hb
                  refine hK.out _ _ ⟨hnx4.cell rfl, hnx4.cell rfl, hnx4.cell rfl⟩ (fun hHeld => ?_)
                  clear hK K
                  try simp only [Act.put, List.getElem_toArray, List.getElem_cons_zero, List.getElem_cons_succ, List.setIfInBounds_toArray, List.set_cons_zero, List.set_cons_succ]
                  refine wpAnyH_ready (rs := [8]) (by decide +kernel) (by simp) ?_
                  refine (AllReadyH.cons (o := _) rfl (fun K hK => ?_) AllReadyH.nil)
                  · go_simp
                    obtain ⟨w5, hw, hr8_5, hb, hz⟩ := row_of_alloc w4 3 #[]
                    rw [← hw]
                    clear hw hz
                    have g8 := hnx4.lt
                    have l0_8 := hr0_4.lt
                    have hr0_5 := hr0_4.below hb hr0_4.lt
                    have l4_8 := hr4_4.lt
                    have hr4_5 := hr4_4.below hb hr4_4.lt
                    have hi3_5 := hi3_4.on (Below.same' hb _)
                    have hi7_5 := hi7_4.on (Below.same' hb _)
                    have sz5 := hb.size
                    have hnx5 := hnx4.below hb hnx4.lt
                    have hV5 := hV4.trans (hb.mono hV4.size)
                    clear hb
                    refine hK.out _ _ ⟨hnx5.cell rfl, hnx5.cell rfl, hnx5.cell rfl⟩ (fun hHeld => ?_)
                    clear hK K
                    try simp only [Act.put, List.getElem_toArray, List.getElem_cons_zero, List.getElem_cons_succ, List.setIfInBounds_toArray, List.set_cons_zero, List.set_cons_succ]
                    refine wpAnyH_ready (rs := [11]) (by decide +kernel) (by simp) ?_
                    refine (AllReadyH.cons (o := _) rfl (fun K hK => ?_) AllReadyH.nil)
                    · refine ifT rfl ?_
                      refine oper_app_ints _ _ rfl _ _ n.pay (by rfl) (by rfl) ((H5.out.on (Below.same' HB1.out F)).on (Below.same' hV5 F)) (by omega) ?_
                      intro A11 c11 w6 hb hi11_6
                      have g11 := hnx5.lt
                      have l0_11 := hr0_5.lt
                      have hr0_6 := hr0_5.below hb hr0_5.lt
                      have l4_11 := hr4_5.lt
                      have hr4_6 := hr4_5.below hb hr4_5.lt
                      have hi3_6 := hi3_5.on (Below.same' hb _)
                      have hi7_6 := hi7_5.on (Below.same' hb _)
                      have l8_11 := hr8_5.lt
                      have hr8_6 := hr8_5.below hb hr8_5.lt
                      have sz6 := hb.size
                      have hnx6 := hnx5.below hb hnx5.lt
                      have hV6 := hV5.trans (hb.mono hV5.size)
                      clear hb
                      refine hK.out _ _ ⟨hnx6.cell rfl, hnx6.cell rfl, hnx6.cell rfl⟩ (fun hHeld => ?_)
                      clear hK K
                      try simp only [Act.put, List.getElem_toArray, List.getElem_cons_zero, List.getElem_cons_succ, List.setIfInBounds_toArray, List.set_cons_zero, List.set_cons_succ]
                      have r3 := hnx6.cell (i := 3) rfl
                      have f3 := hnx6.frozen 3
                      have r4 := hnx6.cell (i := 4) rfl
                      have f4 := hnx6.frozen 4
                      have r5 := hnx6.cell (i := 5) rfl
                      have f5 := hnx6.frozen 5
                      refine wpAnyH_done (by kernel_rfl) ?_ _
                      clear hHeld
                      show wpList _ _ _ _ _ _
                      go_wp2_with fail
                      show wpList _ _ _ _ _ _
                      go_wp2_with fail
                      show wpList _ _ _ _ _ _
                      go_wp2_with fail
                      show wpList _ _ _ _ _ _
                      go_wp2_with fail
                      show wpList _ _ _ _ _ _
                      go_wp2_with fail
                      obtain ⟨W, hW, hrw, hww⟩ := set345 hnx6 (.slice A3 n.next.length c3) (.slice A7 n.weights.length c7) (.slice A11 n.pay.length c11)
                      rw [← hW]
                      clear hW
                      clear r3 f3
                      clear r4 f4
                      clear r5 f5
                      have szw := hww.size
                      show Exit.then _ _ .normal _ _
                      go_wp2_with fail
                      go_meet
                      refine ⟨A3, c3, A7, c7, A11, c11, hrw, ?_, ?_, ?_, (Below.wrote hV6 _).trans hww⟩
                      · exact hi3_6.keep (fun b hb _ => by omega) (hww.same (fun b hb => by omega))
                      · exact hi7_6.keep (fun b hb _ => by omega) (hww.same (fun b hb => by omega))
                      · exact hi11_6.keep (fun b hb _ => by omega) (hww.same (fun b hb => by omega))
                · go_simp
                  obtain ⟨w4, hw, hr8_4, hb, hz⟩ := row_of_alloc w3 3 #[]
                  rw [← hw]
                  clear hw hz
                  have g8 := hnx3.lt
                  have l0_8 := hr0_3.lt
                  have hr0_4 := hr0_3.below hb hr0_3.lt
                  have l4_8 := hr4_3.lt
                  have hr4_4 := hr4_3.below hb hr4_3.lt
                  have hi3_4 := hi3_3.on (Below.same' hb _)
                  have sz4 := hb.size
                  have hnx4 := hnx3.below hb hnx3.lt
                  have hV4 := hV3.trans (hb.mono hV3.size)
                  clear hb
                  refine hK.out _ _ ⟨hnx4.cell rfl, hnx4.cell rfl, hnx4.cell rfl⟩ (fun hHeld => ?_)
                  clear hK K
                  try simp only [Act.put, List.getElem_toArray, List.getElem_cons_zero, List.getElem_cons_succ, List.setIfInBounds_toArray, List.set_cons_zero, List.set_cons_succ]
                  refine wpAnyH_ready (rs := [7]) (by decide +kernel) (by simp) ?_
                  refine (AllReadyH.cons (o := _) rfl (fun K hK => ?_) AllReadyH.nil)
                  · refine ifT rfl ?_
                    refine oper_app_ints _ _ rfl _ _ n.weights (by rfl) (by rfl) ((H4.out.on (Below.same' HB1.out F)).on (Below.same' hV4 F)) (by omega) ?_
                    intro A7 c7 w5 hb hi7_5
                    have g7 := hnx4.lt
                    have l0_7 := hr0_4.lt
                    have hr0_5 := hr0_4.below hb hr0_4.lt
                    have l4_7 := hr4_4.lt
                    have hr4_5 := hr4_4.below hb hr4_4.lt
                    have hi3_5 := hi3_4.on (Below.same' hb _)
                    have l8_7 := hr8_4.lt
                    have hr8_5 := hr8_4.below hb hr8_4.lt
                    have sz5 := hb.size
                    have hnx5 := hnx4.below hb hnx4.lt
                    have hV5 := hV4.trans (hb.mono hV4.size)
                    clear hb
                    refine hK.out _ _ ⟨hnx5.cell rfl, hnx5.cell rfl, hnx5.cell rfl⟩ (fun hHeld => ?_)
                    clear hK K
                    try simp only [Act.put, List.getElem_toArray, List.getElem_cons_zero, List.getElem_cons_succ, List.setIfInBounds_toArray, List.set_cons_zero, List.set_cons_succ]
                    refine wpAnyH_ready (rs := [11]) (by decide +kernel) (by simp) ?_
                    refine (AllReadyH.cons (o := _) rfl (fun K hK => ?_) AllReadyH.nil)
                    · refine ifT rfl ?_
                      refine oper_app_ints _ _ rfl _ _ n.pay (by rfl) (by rfl) ((H5.out.on (Below.same' HB1.out F)).on (Below.same' hV5 F)) (by omega) ?_
                      intro A11 c11 w6 hb hi11_6
                      have g11 := hnx5.lt
                      have l0_11 := hr0_5.lt
                      have hr0_6 := hr0_5.below hb hr0_5.lt
                      have l4_11 := hr4_5.lt
                      have hr4_6 := hr4_5.below hb hr4_5.lt
                      have hi3_6 := hi3_5.on (Below.same' hb _)
                      have l8_11 := hr8_5.lt
                      have hr8_6 := hr8_5.below hb hr8_5.lt
                      have hi7_6 := hi7_5.on (Below.same' hb _)
                      have sz6 := hb.size
                      have hnx6 := hnx5.below hb hnx5.lt
                      have hV6 := hV5.trans (hb.mono hV5.size)
                      clear hb
                      refine hK.out _ _ ⟨hnx6.cell rfl, hnx6.cell rfl, hnx6.cell rfl⟩ (fun hHeld => ?_)
                      clear hK K
                      try simp only [Act.put, List.getElem_toArray, List.getElem_cons_zero, List.getElem_cons_succ, List.setIfInBounds_toArray, List.set_cons_zero, List.set_cons_succ]
                      have r3 := hnx6.cell (i := 3) rfl
                      have f3 := hnx6.frozen 3
                      have r4 := hnx6.cell (i := 4) rfl
                      have f4 := hnx6.frozen 4
                      have r5 := hnx6.cell (i := 5) rfl
                      have f5 := hnx6.frozen 5
                      refine wpAnyH_done (by kernel_rfl) ?_ _
                      clear hHeld
                      show wpList _ _ _ _ _ _
                      go_wp2_with fail
                      show wpList _ _ _ _ _ _
                      go_wp2_with fail
                      show wpList _ _ _ _ _ _
                      go_wp2_with fail
                      show wpList _ _ _ _ _ _
                      go_wp2_with fail
                      show wpList _ _ _ _ _ _
                      go_wp2_with fail
                      obtain ⟨W, hW, hrw, hww⟩ := set345 hnx6 (.slice A3 n.next.length c3) (.slice A7 n.weights.length c7) (.slice A11 n.pay.length c11)
                      rw [← hW]
                      clear hW
                      clear r3 f3
                      clear r4 f4
                      clear r5 f5
                      have szw := hww.size
                      show Exit.then _ _ .normal _ _
                      go_wp2_with fail
                      go_meet
                      refine ⟨A3, c3, A7, c7, A11, c11, hrw, ?_, ?_, ?_, (Below.wrote hV6 _).trans hww⟩
                      · exact hi3_6.keep (fun b hb _ => by omega) (hww.same (fun b hb => by omega))
                      · exact hi7_6.keep (fun b hb _ => by omega) (hww.same (fun b hb => by omega))
                      · exact hi11_6.keep (fun b hb _ => by omega) (hww.same (fun b hb => by omega))
              · go_simp
                obtain ⟨w3, hw, hr8_3, hb, hz⟩ := row_of_alloc w2 3 #[]
                rw [← hw]
                clear hw hz
                have g8 := hnx2.lt
                have l0_8 := hr0_2.lt
                have hr0_3 := hr0_2.below hb hr0_2.lt
                have l4_8 := hr4_2.lt
                have hr4_3 := hr4_2.below hb hr4_2.lt
                have sz3 := hb.size
                have hnx3 := hnx2.below hb hnx2.lt
                have hV3 := hV2.trans (hb.mono hV2.size)
                clear hb
                refine hK.out _ _ ⟨hnx3.cell rfl, hnx3.cell rfl, hnx3.cell rfl⟩ (fun hHeld => ?_)
                clear hK K
                try simp only [Act.put, List.getElem_toArray, List.getElem_cons_zero, List.getElem_cons_succ, List.setIfInBounds_toArray, List.set_cons_zero, List.set_cons_succ]
                refine wpAnyH_ready (rs := [3]) (by decide +kernel) (by simp) ?_
                refine (AllReadyH.cons (o := _) rfl (fun K hK => ?_) AllReadyH.nil)
                · refine ifT rfl ?_
                  refine oper_app_ints _ _ rfl _ _ n.next (by rfl) (by rfl) ((H3.out.on (Below.same' HB1.out F)).on (Below.same' hV3 F)) (by omega) ?_
                  intro A3 c3 w4 hb hi3_4
                  have g3 := hnx3.lt
                  have l0_3 := hr0_3.lt
                  have hr0_4 := hr0_3.below hb hr0_3.lt
                  have l4_3 := hr4_3.lt
                  have hr4_4 := hr4_3.below hb hr4_3.lt
                  have l8_3 := hr8_3.lt
                  have hr8_4 := hr8_3.below hb hr8_3.lt
                  have sz4 := hb.size
                  have hnx4 := hnx3.below hb hnx3.lt
                  have hV4 := hV3.trans (hb.mono hV3.size)
                  clear hb
                  refine hK.out _ _ ⟨hnx4.cell rfl, hnx4.cell rfl, hnx4.cell rfl⟩ (fun hHeld => ?_)
                  clear hK K
                  try simp only [Act.put, List.getElem_toArray, List.getElem_cons_zero, List.getElem_cons_succ, List.setIfInBounds_toArray, List.set_cons_zero, List.set_cons_succ]
                  refine wpAnyH_take (i := 12) (v := ?_) rfl (by kernel_rfl) (by kernel_rfl) (by kernel_rfl) (fun _ _ _ h => h) (Or.inl ⟨by rfl, ?_⟩) hHeld ?_
                  rotate_left
                  · intro wx hSx; (try dsimp only at hSx); go_split_ands; go_simp; try (with_reducible rfl)
                  try simp only [Act.put, List.getElem_toArray, List.getElem_cons_zero, List.getElem_cons_succ, List.setIfInBounds_toArray, List.set_cons_zero, List.set_cons_succ]
                  refine wpAnyH_ready (rs := [7]) (by decide +kernel) (by simp) ?_
                  refine (AllReadyH.cons (o := _) rfl (fun K hK => ?_) AllReadyH.nil)
                  · refine ifT rfl ?_
                    refine oper_app_ints _ _ rfl _ _ n.weights (by rfl) (by rfl) ((H4.out.on (Below.same' HB1.out F)).on (Below.same' hV4 F)) (by omega) ?_
                    intro A7 c7 w5 hb hi7_5
                    have g7 := hnx4.lt
                    have l0_7 := hr0_4.lt
                    have hr0_5 := hr0_4.below hb hr0_4.lt
                    have l4_7 := hr4_4.lt
                    have hr4_5 := hr4_4.below hb hr4_4.lt
                    have l8_7 := hr8_4.lt
                    have hr8_5 := hr8_4.below hb hr8_4.lt
                    have hi3_5 := hi3_4.on (Below.same' hb _)
                    have sz5 := hb.size
                    have hnx5 := hnx4.below hb hnx4.lt
                    have hV5 := hV4.trans (hb.mono hV4.size)
                    clear hb
                    refine hK.out _ _ ⟨hnx5.cell rfl, hnx5.cell rfl, hnx5.cell rfl⟩ (fun hHeld => ?_)
                    clear hK K
                    try simp only [Act.put, List.getElem_toArray, List.getElem_cons_zero, List.getElem_cons_succ, List.setIfInBounds_toArray, List.set_cons_zero, List.set_cons_succ]
                    refine wpAnyH_ready (rs := [11]) (by decide +kernel) (by simp) ?_
                    refine (AllReadyH.cons (o := _) rfl (fun K hK => ?_) AllReadyH.nil)
                    · refine ifT rfl ?_
                      refine oper_app_ints _ _ rfl _ _ n.pay (by rfl) (by rfl) ((H5.out.on (Below.same' HB1.out F)).on (Below.same' hV5 F)) (by omega) ?_
                      intro A11 c11 w6 hb hi11_6
                      have g11 := hnx5.lt
                      have l0_11 := hr0_5.lt
                      have hr0_6 := hr0_5.below hb hr0_5.lt
                      have l4_11 := hr4_5.lt
                      have hr4_6 := hr4_5.below hb hr4_5.lt
                      have l8_11 := hr8_5.lt
                      have hr8_6 := hr8_5.below hb hr8_5.lt
                      have hi3_6 := hi3_5.on (Below.same' hb _)
                      have hi7_6 := hi7_5.on (Below.same' hb _)
                      have sz6 := hb.size
                      have hnx6 := hnx5.below hb hnx5.lt
                      have hV6 := hV5.trans (hb.mono hV5.size)
                      clear hb
                      refine hK.out _ _ ⟨hnx6.cell rfl, hnx6.cell rfl, hnx6.cell rfl⟩ (fun hHeld => ?_)
                      clear hK K
                      try simp only [Act.put, List.getElem_toArray, List.getElem_cons_zero, List.getElem_cons_succ, List.setIfInBounds_toArray, List.set_cons_zero, List.set_cons_succ]
                      have r3 := hnx6.cell (i := 3) rfl
                      have f3 := hnx6.frozen 3
                      have r4 := hnx6.cell (i := 4) rfl
                      have f4 := hnx6.frozen 4
                      have r5 := hnx6.cell (i := 5) rfl
                      have f5 := hnx6.frozen 5
                      refine wpAnyH_done (by kernel_rfl) ?_ _
                      clear hHeld
                      show wpList _ _ _ _ _ _
                      go_wp2_with fail
                      show wpList _ _ _ _ _ _
                      go_wp2_with fail
                      show wpList _ _ _ _ _ _
                      go_wp2_with fail
                      show wpList _ _ _ _ _ _
                      go_wp2_with fail
                      show wpList _ _ _ _ _ _
                      go_wp2_with fail
                      obtain ⟨W, hW, hrw, hww⟩ := set345 hnx6 (.slice A3 n.next.length c3) (.slice A7 n.weights.length c7) (.slice A11 n.pay.length c11)
                      rw [← hW]
                      clear hW
                      clear r3 f3
                      clear r4 f4
                      clear r5 f5
                      have szw := hww.size
                      show Exit.then _ _ .normal _ _
                      go_wp2_with fail
                      go_meet
                      refine ⟨A3, c3, A7, c7, A11, c11, hrw, ?_, ?_, ?_, (Below.wrote hV6 _).trans hww⟩
                      · exact hi3_6.keep (fun b hb _ => by omega) (hww.same (fun b hb => by omega))
                      · exact hi7_6.keep (fun b hb _ => by omega) (hww.same (fun b hb => by omega))
                      · exact hi11_6.keep (fun b hb _ => by omega) (hww.same (fun b hb => by omega))
            · go_simp
              obtain ⟨w2, hw, hr8_2, hb, hz⟩ := row_of_alloc w1 3 #[]
              rw [← hw]
              clear hw hz
              have g8 := hnx1.lt
              have l0_8 := hr0_1.lt
              have hr0_2 := hr0_1.below hb hr0_1.lt
              have sz2 := hb.size
              have hnx2 := hnx1.below hb hnx1.lt
              have hV2 := hV1.trans (hb.mono hV1.size)
              clear hb
              refine hK.out _ _ ⟨hnx2.cell rfl, hnx2.cell rfl, hnx2.cell rfl⟩ (fun hHeld => ?_)
              clear hK K
              try simp only [Act.put, List.getElem_toArray, List.getElem_cons_zero, List.getElem_cons_succ, List.setIfInBounds_toArray, List.set_cons_zero, List.set_cons_succ]
              refine wpAnyH_ready (rs := [3, 4]) (by decide +kernel) (by simp) ?_
              refine (AllReadyH.cons (o := _) rfl (fun K hK => ?_) (AllReadyH.cons (o := _) rfl (fun K hK => ?_) AllReadyH.nil))
              · refine ifT rfl ?_
                refine oper_app_ints _ _ rfl _ _ n.next (by rfl) (by rfl) ((H3.out.on (Below.same' HB1.out F)).on (Below.same' hV2 F)) (by omega) ?_
                intro A3 c3 w3 hb hi3_3
                have g3 := hnx2.lt
                have l0_3 := hr0_2.lt
                have hr0_3 := hr0_2.below hb hr0_2.lt
                have l8_3 := hr8_2.lt
                have hr8_3 := hr8_2.below hb hr8_2.lt
                have sz3 := hb.size
                have hnx3 := hnx2.below hb hnx2.lt
                have hV3 := hV2.trans (hb.mono hV2.size)
                clear hb
                refine hK.out _ _ ⟨hnx3.cell rfl, hnx3.cell rfl, hnx3.cell rfl⟩ (fun hHeld => ?_)
                clear hK K
                try simp only [Act.put, List.getElem_toArray, List.getElem_cons_zero, List.getElem_cons_succ, List.setIfInBounds_toArray, List.set_cons_zero, List.set_cons_succ]
                refine wpAnyH_take (i := 12) (v := ?_) rfl (by kernel_rfl) (by kernel_rfl) (by kernel_rfl) (fun _ _ _ h => h) (Or.inl ⟨by rfl, ?_⟩) hHeld ?_
                rotate_left
                · intro wx hSx; (try dsimp only at hSx); go_split_ands; go_simp; try (with_reducible rfl)
                try simp only [Act.put, List.getElem_toArray, List.getElem_cons_zero, List.getElem_cons_succ, List.setIfInBounds_toArray, List.set_cons_zero, List.set_cons_succ]
                refine wpAnyH_ready (rs := [4]) (by decide +kernel) (by simp) ?_
                refine (AllReadyH.cons (o := _) rfl (fun K hK => ?_) AllReadyH.nil)
                · go_simp
                  obtain ⟨w4, hw, hr4_4, hb, hz⟩ := row_of_alloc w3 3 #[]
                  rw [← hw]
                  clear hw hz
                  have g4 := hnx3.lt
                  have l0_4 := hr0_3.lt
                  have hr0_4 := hr0_3.below hb hr0_3.lt
                  have l8_4 := hr8_3.lt
                  have hr8_4 := hr8_3.below hb hr8_3.lt
                  have hi3_4 := hi3_3.on (Below.same' hb _)
                  have sz4 := hb.size
                  have hnx4 := hnx3.below hb hnx3.lt
                  have hV4 := hV3.trans (hb.mono hV3.size)
                  clear hb
                  refine hK.out _ _ ⟨hnx4.cell rfl, hnx4.cell rfl, hnx4.cell rfl⟩ (fun hHeld => ?_)
                  clear hK K
                  try simp only [Act.put, List.getElem_toArray, List.getElem_cons_zero, List.getElem_cons_succ, List.setIfInBounds_toArray, List.set_cons_zero, List.set_cons_succ]
                  refine wpAnyH_ready (rs := [7]) (by decide +kernel) (by simp) ?_
                  refine (AllReadyH.cons (o := _) rfl (fun K hK => ?_) AllReadyH.nil)
                  · refine ifT rfl ?_
                    refine oper_app_ints _ _ rfl _ _ n.weights (by rfl) (by rfl) ((H4.out.on (Below.same' HB1.out F)).on (Below.same' hV4 F)) (by omega) ?_
                    intro A7 c7 w5 hb hi7_5
                    have g7 := hnx4.lt
                    have l0_7 := hr0_4.lt
                    have hr0_5 := hr0_4.below hb hr0_4.lt
                    have l8_7 := hr8_4.lt
                    have hr8_5 := hr8_4.below hb hr8_4.lt
                    have hi3_5 := hi3_4.on (Below.same' hb _)
                    have l4_7 := hr4_4.lt
                    have hr4_5 := hr4_4.below hb hr4_4.lt
                    have sz5 := hb.size
                    have hnx5 := hnx4.below hb hnx4.lt
                    have hV5 := hV4.trans (hb.mono hV4.size)
                    clear hb
                    refine hK.out _ _ ⟨hnx5.cell rfl, hnx5.cell rfl, hnx5.cell rfl⟩ (fun hHeld => ?_)
                    clear hK K
                    try simp only [Act.put, List.getElem_toArray, List.getElem_cons_zero, List.getElem_cons_succ, List.setIfInBounds_toArray, List.set_cons_zero, List.set_cons_succ]
                    refine wpAnyH_ready (rs := [11]) (by decide +kernel) (by simp) ?_
                    refine (AllReadyH.cons (o := _) rfl (fun K hK => ?_) AllReadyH.nil)
                    · refine ifT rfl ?_
                      refine oper_app_ints _ _ rfl _ _ n.pay (by rfl) (by rfl) ((H5.out.on (Below.same' HB1.out F)).on (Below.same' hV5 F)) (by omega) ?_
                      intro A11 c11 w6 hb hi11_6
                      have g11 := hnx5.lt
                      have l0_11 := hr0_5.lt
                      have hr0_6 := hr0_5.below hb hr0_5.lt
                      have l8_11 := hr8_5.lt
                      have hr8_6 := hr8_5.below hb hr8_5.lt
                      have hi3_6 := hi3_5.on (Below.same' hb _)
                      have l4_11 := hr4_5.lt
                      have hr4_6 := hr4_5.below hb hr4_5.lt
                      have hi7_6 := hi7_5.on (Below.same' hb _)
                      have sz6 := hb.size
                      have hnx6 := hnx5.below hb hnx5.lt
                      have hV6 := hV5.trans (hb.mono hV5.size)
                      clear hb
                      refine hK.out _ _ ⟨hnx6.cell rfl, hnx6.cell rfl, hnx6.cell rfl⟩ (fun hHeld => ?_)
                      clear hK K
                      try simp only [Act.put, List.getElem_toArray, List.getElem_cons_zero, List.getElem_cons_succ, List.setIfInBounds_toArray, List.set_cons_zero, List.set_cons_succ]
                      have r3 := hnx6.cell (i := 3) rfl
                      have f3 := hnx6.frozen 3
                      have r4 := hnx6.cell (i := 4) rfl
                      have f4 := hnx6.frozen 4
                      have r5 := hnx6.cell (i := 5) rfl
                      have f5 := hnx6.frozen 5
                      refine wpAnyH_done (by kernel_rfl) ?_ _
                      clear hHeld
                      show wpList _ _ _ _ _ _
                      go_wp2_with fail
                      show wpList _ _ _ _ _ _
                      go_wp2_with fail
                      show wpList _ _ _ _ _ _
                      go_wp2_with fail
                      show wpList _ _ _ _ _ _
                      go_wp2_with fail
                      show wpList _ _ _ _ _ _
                      go_wp2_with fail
                      obtain ⟨W, hW, hrw, hww⟩ := set345 hnx6 (.slice A3 n.next.length c3) (.slice A7 n.weights.length c7) (.slice A11 n.pay.length c11)
                      rw [← hW]
                      clear hW
                      clear r3 f3
                      clear r4 f4
                      clear r5 f5
                      have szw := hww.size
                      show Exit.then _ _ .normal _ _
                      go_wp2_with fail
                      go_meet
                      refine ⟨A3, c3, A7, c7, A11, c11, hrw, ?_, ?_, ?_, (Below.wrote hV6 _).trans hww⟩
                      · exact hi3_6.keep (fun b hb _ => by omega) (hww.same (fun b hb => by omega))
                      · exact hi7_6.keep (fun b hb _ => by omega) (hww.same (fun b hb => by omega))
                      · exact hi11_6.keep (fun b hb _ => by omega) (hww.same (fun b hb => by omega))
              · go_simp
                obtain ⟨w3, hw, hr4_3, hb, hz⟩ := row_of_alloc w2 3 #[]
                rw [← hw]
                clear hw hz
                have g4 := hnx2.lt
                have l0_4 := hr0_2.lt
                have hr0_3 := hr0_2.below hb hr0_2.lt
                have l8_4 := hr8_2.lt
                have hr8_3 := hr8_2.below hb hr8_2.lt
                have sz3 := hb.size
                have hnx3 := hnx2.below hb hnx2.lt
                have hV3 := hV2.trans (hb.mono hV2.size)
                clear hb
                refine hK.out _ _ ⟨hnx3.cell rfl, hnx3.cell rfl, hnx3.cell rfl⟩ (fun hHeld => ?_)
                clear hK K
                try simp only [Act.put, List.getElem_toArray, List.getElem_cons_zero, List.getElem_cons_succ, List.setIfInBounds_toArray, List.set_cons_zero, List.set_cons_succ]
                refine wpAnyH_ready (rs := [3]) (by decide +kernel) (by simp) ?_
                refine (AllReadyH.cons (o := _) rfl (fun K hK => ?_) AllReadyH.nil)
                · refine ifT rfl ?_
                  refine oper_app_ints _ _ rfl _ _ n.next (by rfl) (by rfl) ((H3.out.on (Below.same' HB1.out F)).on (Below.same' hV3 F)) (by omega) ?_
                  intro A3 c3 w4 hb hi3_4
                  have g3 := hnx3.lt
                  have l0_3 := hr0_3.lt
                  have hr0_4 := hr0_3.below hb hr0_3.lt
                  have l8_3 := hr8_3.lt
                  have hr8_4 := hr8_3.below hb hr8_3.lt
                  have l4_3 := hr4_3.lt
                  have hr4_4 := hr4_3.below hb hr4_3.lt
                  have sz4 := hb.size
                  have hnx4 := hnx3.below hb hnx3.lt
                  have hV4 := hV3.trans (hb.mono hV3.size)
                  clear hb
                  refine hK.out _ _ ⟨hnx4.cell rfl, hnx4.cell rfl, hnx4.cell rfl⟩ (fun hHeld => ?_)
                  clear hK K
                  try simp only [Act.put, List.getElem_toArray, List.getElem_cons_zero, List.getElem_cons_succ, List.setIfInBounds_toArray, List.set_cons_zero, List.set_cons_succ]
                  refine wpAnyH_take (i := 12) (v := ?_) rfl (by kernel_rfl) (by kernel_rfl) (by kernel_rfl) (fun _ _ _ h => h) (Or.inl ⟨by rfl, ?_⟩) hHeld ?_
                  rotate_left
                  · intro wx hSx; (try dsimp only at hSx); go_split_ands; go_simp; try (with_reducible rfl)
                  try simp only [Act.put, List.getElem_toArray, List.getElem_cons_zero, List.getElem_cons_succ, List.setIfInBounds_toArray, List.set_cons_zero, List.set_cons_succ]
                  refine wpAnyH_ready (rs := [7]) (by decide +kernel) (by simp) ?_
                  refine (AllReadyH.cons (o := _) rfl (fun K hK => ?_) AllReadyH.nil)
                  · refine ifT rfl ?_
                    refine oper_app_ints _ _ rfl _ _ n.weights (by rfl) (by rfl) ((H4.out.on (Below.same' HB1.out F)).on (Below.same' hV4 F)) (by omega) ?_
                    intro A7 c7 w5 hb hi7_5
                    have g7 := hnx4.lt
                    have l0_7 := hr0_4.lt
                    have hr0_5 := hr0_4.below hb hr0_4.lt
                    have l8_7 := hr8_4.lt
                    have hr8_5 := hr8_4.below hb hr8_4.lt
                    have l4_7 := hr4_4.lt
                    have hr4_5 := hr4_4.below hb hr4_4.lt
                    have hi3_5 := hi3_4.on (Below.same' hb _)
                    have sz5 := hb.size
                    have hnx5 := hnx4.below hb hnx4.lt
                    have hV5 := hV4.trans (hb.mono hV4.size)
                    clear hb
                    refine hK.out _ _ ⟨hnx5.cell rfl, hnx5.cell rfl, hnx5.cell rfl⟩ (fun hHeld => ?_)
                    clear hK K
                    try simp only [Act.put, List.getElem_toArray, List.getElem_cons_zero, List.getElem_cons_succ, List.setIfInBounds_toArray, List.set_cons_zero, List.set_cons_succ]
                    refine wpAnyH_ready (rs := [11]) (by decide +kernel) (by simp) ?_
                    refine (AllReadyH.cons (o := _) rfl (fun K hK => ?_) AllReadyH.nil)
                    · refine ifT rfl ?_
                      refine oper_app_ints _ _ rfl _ _ n.pay (by rfl) (by rfl) ((H5.out.on (Below.same' HB1.out F)).on (Below.same' hV5 F)) (by omega) ?_
                      intro A11 c11 w6 hb hi11_6
                      have g11 := hnx5.lt
                      have l0_11 := hr0_5.lt
                      have hr0_6 := hr0_5.below hb hr0_5.lt
                      have l8_11 := hr8_5.lt
                      have hr8_6 := hr8_5.below hb hr8_5.lt
                      have l4_11 := hr4_5.lt
                      have hr4_6 := hr4_5.below hb hr4_5.lt
                      have hi3_6 := hi3_5.on (Below.same' hb _)
                      have hi7_6 := hi7_5.on (Below.same' hb _)
                      have sz6 := hb.size
                      have hnx6 := hnx5.below hb hnx5.lt
                      have hV6 := hV5.trans (hb.mono hV5.size)
                      clear hb
                      refine hK.out _ _ ⟨hnx6.cell rfl, hnx6.cell rfl, hnx6.cell rfl⟩ (fun hHeld => ?_)
                      clear hK K
                      try simp only [Act.put, List.getElem_toArray, List.getElem_cons_zero, List.getElem_cons_succ, List.setIfInBounds_toArray, List.set_cons_zero, List.set_cons_succ]
                      have r3 := hnx6.cell (i := 3) rfl
                      have f3 := hnx6.frozen 3
                      have r4 := hnx6.cell (i := 4) rfl
                      have f4 := hnx6.frozen 4
                      have r5 := hnx6.cell (i := 5) rfl
                      have f5 := hnx6.frozen 5
                      refine wpAnyH_done (by kernel_rfl) ?_ _
                      clear hHeld
                      show wpList _ _ _ _ _ _
                      go_wp2_with fail
                      show wpList _ _ _ _ _ _
                      go_wp2_with fail
                      show wpList _ _ _ _ _ _
                      go_wp2_with fail
                      show wpList _ _ _ _ _ _
                      go_wp2_with fail
                      show wpList _ _ _ _ _ _
                      go_wp2_with fail
                      obtain ⟨W, hW, hrw, hww⟩ := set345 hnx6 (.slice A3 n.next.length c3) (.slice A7 n.weights.length c7) (.slice A11 n.pay.length c11)
                      rw [← hW]
                      clear hW
                      clear r3 f3
                      clear r4 f4
                      clear r5 f5
                      have szw := hww.size
                      show Exit.then _ _ .normal _ _
                      go_wp2_with fail
                      go_meet
                      refine ⟨A3, c3, A7, c7, A11, c11, hrw, ?_, ?_, ?_, (Below.wrote hV6 _).trans hww⟩
                      · exact hi3_6.keep (fun b hb _ => by omega) (hww.same (fun b hb => by omega))
                      · exact hi7_6.keep (fun b hb _ => by omega) (hww.same (fun b hb => by omega))
                      · exact hi11_6.keep (fun b hb _ => by omega) (hww.same (fun b hb => by omega))
          · go_simp
            obtain ⟨w1, hw, hr4_1, hb, hz⟩ := row_of_alloc w0 3 #[]
            rw [← hw]
            clear hw hz
            have g4 := hnx0.lt
            have sz1 := hb.size
            have hnx1 := hnx0.below hb hnx0.lt
            have hV1 := hV0.trans (hb.mono hV0.size)
            clear hb
            refine hK.out _ _ ⟨hnx1.cell rfl, hnx1.cell rfl, hnx1.cell rfl⟩ (fun hHeld => ?_)
            clear hK K
            try simp only [Act.put, List.getElem_toArray, List.getElem_cons_zero, List.getElem_cons_succ, List.setIfInBounds_toArray, List.set_cons_zero, List.set_cons_succ]
            refine wpAnyH_ready (rs := [0, 8]) (by decide +kernel) (by simp) ?_
            refine (AllReadyH.cons (o := _) rfl (fun K hK => ?_) (AllReadyH.cons (o := _) rfl (fun K hK => ?_) AllReadyH.nil))
            · go_simp
              obtain ⟨w2, hw, hr0_2, hb, hz⟩ := row_of_alloc w1 3 #[]
              rw [← hw]
              clear hw hz
              have g0 := hnx1.lt
              have l4_0 := hr4_1.lt
              have hr4_2 := hr4_1.below hb hr4_1.lt
              have sz2 := hb.size
              have hnx2 := hnx1.below hb hnx1.lt
              have hV2 := hV1.trans (hb.mono hV1.size)
              clear hb
              refine hK.out _ _ ⟨hnx2.cell rfl, hnx2.cell rfl, hnx2.cell rfl⟩ (fun hHeld => ?_)
              clear hK K
              try simp only [Act.put, List.getElem_toArray, List.getElem_cons_zero, List.getElem_cons_succ, List.setIfInBounds_toArray, List.set_cons_zero, List.set_cons_succ]
              refine wpAnyH_ready (rs := [3, 8]) (by decide +kernel) (by simp) ?_
              refine (AllReadyH.cons (o := _) rfl (fun K hK => ?_) (AllReadyH.cons (o := _) rfl (fun K hK => ?_) AllReadyH.nil))
              · refine ifT rfl ?_
                refine oper_app_ints _ _ rfl _ _ n.next (by rfl) (by rfl) ((H3.out.on (Below.same' HB1.out F)).on (Below.same' hV2 F)) (by omega) ?_
                intro A3 c3 w3 hb hi3_3
                have g3 := hnx2.lt
                have l4_3 := hr4_2.lt
                have hr4_3 := hr4_2.below hb hr4_2.lt
                have l0_3 := hr0_2.lt
                have hr0_3 := hr0_2.below hb hr0_2.lt
                have sz3 := hb.size
                have hnx3 := hnx2.below hb hnx2.lt
                have hV3 := hV2.trans (hb.mono hV2.size)
                clear hb
                refine hK.out _ _ ⟨hnx3.cell rfl, hnx3.cell rfl, hnx3.cell rfl⟩ (fun hHeld => ?_)
                clear hK K
                try simp only [Act.put, List.getElem_toArray, List.getElem_cons_zero, List.getElem_cons_succ, List.setIfInBounds_toArray, List.set_cons_zero, List.set_cons_succ]
                refine wpAnyH_take (i := 12) (v := ?_) rfl (by kernel_rfl) (by kernel_rfl) (by kernel_rfl) (fun _ _ _ h => h) (Or.inl ⟨by rfl, ?_⟩) hHeld ?_
                rotate_left
                · intro wx hSx; (try dsimp only at hSx); go_split_ands; go_simp; try (with_reducible rfl)
                try simp only [Act.put, List.getElem_toArray, List.getElem_cons_zero, List.getElem_cons_succ, List.setIfInBounds_toArray, List.set_cons_zero, List.set_cons_succ]
                refine wpAnyH_ready (rs := [7, 8]) (by decide +kernel) (by simp) ?_
                refine (AllReadyH.cons (o := _) rfl (fun K hK => ?_) (AllReadyH.cons (o := _) rfl (fun K hK => ?_) AllReadyH.nil))
                · refine ifT rfl ?_
                  refine oper_app_ints _ _ rfl _ _ n.weights (by rfl) (by rfl) ((H4.out.on (Below.same' HB1.out F)).on (Below.same' hV3 F)) (by omega) ?_
                  intro A7 c7 w4 hb hi7_4
                  have g7 := hnx3.lt
                  have l4_7 := hr4_3.lt
                  have hr4_4 := hr4_3.below hb hr4_3.lt
                  have l0_7 := hr0_3.lt
                  have hr0_4 := hr0_3.below hb hr0_3.lt
                  have hi3_4 := hi3_3.on (Below.same' hb _)
                  have sz4 := hb.size
                  have hnx4 := hnx3.below hb hnx3.lt
                  have hV4 := hV3.trans (hb.mono hV3.size)
                  clear hb
                  refine hK.out _ _ ⟨hnx4.cell rfl, hnx4.cell rfl, hnx4.cell rfl⟩ (fun hHeld => ?_)
                  clear hK K
                  try simp only [Act.put, List.getElem_toArray, List.getElem_cons_zero, List.getElem_cons_succ, List.setIfInBounds_toArray, List.set_cons_zero, List.set_cons_succ]
                  refine wpAnyH_ready (rs := [8]) (by decide +kernel) (by simp) ?_
                  refine (AllReadyH.cons (o := _) rfl (fun K hK => ?_) AllReadyH.nil)
                  · go_simp
                    obtain ⟨w5, hw, hr8_5, hb, hz⟩ := row_of_alloc w4 3 #[]
                    rw [← hw]
                    clear hw hz
                    have g8 := hnx4.lt
                    have l4_8 := hr4_4.lt
                    have hr4_5 := hr4_4.below hb hr4_4.lt
                    have l0_8 := hr0_4.lt
                    have hr0_5 := hr0_4.below hb hr0_4.lt
                    have hi3_5 := hi3_4.on (Below.same' hb _)
                    have hi7_5 := hi7_4.on (Below.same' hb _)
                    have sz5 := hb.size
                    have hnx5 := hnx4.below hb hnx4.lt
                    have hV5 := hV4.trans (hb.mono hV4.size)
                    clear hb
                    refine hK.out _ _ ⟨hnx5.cell rfl, hnx5.cell rfl, hnx5.cell rfl⟩ (fun hHeld => ?_)
                    clear hK K
                    try simp only [Act.put, List.getElem_toArray, List.getElem_cons_zero, List.getElem_cons_succ, List.setIfInBounds_toArray, List.set_cons_zero, List.set_cons_succ]
                    refine wpAnyH_ready (rs := [11]) (by decide +kernel) (by simp) ?_
                    refine (AllReadyH.cons (o := _) rfl (fun K hK => ?_) AllReadyH.nil)
                    · refine ifT rfl ?_
                      refine oper_app_ints _ _ rfl _ _ n.pay (by rfl) (by rfl) ((H5.out.on (Below.same' HB1.out F)).on (Below.same' hV5 F)) (by omega) ?_
                      intro A11 c11 w6 hb hi11_6
                      have g11 := hnx5.lt
                      have l4_11 := hr4_5.lt
                      have hr4_6 := hr4_5.below hb hr4_5.lt
                      have l0_11 := hr0_5.lt
                      have hr0_6 := hr0_5.below hb hr0_5.lt
                      have hi3_6 := hi3_5.on (Below.same' hb _)
                      have hi7_6 := hi7_5.on (Below.same' hb _)
                      have l8_11 := hr8_5.lt
                      have hr8_6 := hr8_5.below hb hr8_5.lt
                      have sz6 := hb.size
                      have hnx6 := hnx5.below hb hnx5.lt
                      have hV6 := hV5.trans (hb.mono hV5.size)
                      clear hb
                      refine hK.out _ _ ⟨hnx6.cell rfl, hnx6.cell rfl, hnx6.cell rfl⟩ (fun hHeld => ?_)
                      clear hK K
                      try simp only [Act.put, List.getElem_toArray, List.getElem_cons_zero, List.getElem_cons_succ, List.setIfInBounds_toArray, List.set_cons_zero, List.set_cons_succ]
                      have r3 := hnx6.cell (i := 3) rfl
                      have f3 := hnx6.frozen 3
                      have r4 := hnx6.cell (i := 4) rfl
                      have f4 := hnx6.frozen 4
                      have r5 := hnx6.cell (i := 5) rfl
                      have f5 := hnx6.frozen 5
                      refine wpAnyH_done (by kernel_rfl) ?_ _
                      clear hHeld
                      show wpList _ _ _ _ _ _
                      go_wp2_with fail
                      show wpList _ _ _ _ _ _
                      go_wp2_with fail
                      show wpList _ _ _ _ _ _
                      go_wp2_with fail
                      show wpList _ _ _ _ _ _
                      go_wp2_with fail
                      show wpList _ _ _ _ _ _
                      go_wp2_with fail
                      obtain ⟨W, hW, hrw, hww⟩ := set345 hnx6 (.slice A3 n.next.length c3) (.slice A7 n.weights.length c7) (.slice A11 n.pay.length c11)
                      rw [← hW]
                      clear hW
                      clear r3 f3
                      clear r4 f4
                      clear r5 f5
                      have szw := hww.size
                      show Exit.then _ _ .normal _ _
                      go_wp2_with fail
                      go_meet
                      refine ⟨A3, c3, A7, c7, A11, c11, hrw, ?_, ?_, ?_, (Below.wrote hV6 _).trans hww⟩
                      · exact hi3_6.keep (fun b hb _ => by omega) (hww.same (fun b hb => by omega))
                      · exact hi7_6.keep (fun b hb _ => by omega) (hww.same (fun b hb => by omega))
                      · exact hi11_6.keep (fun b hb _ => by omega) (hww.same (fun b hb => by omega))
                · go_simp
                  obtain ⟨w4, hw, hr8_4, hb, hz⟩ := row_of_alloc w3 3 #[]
                  rw [← hw]
                  clear hw hz
                  have g8 := hnx3.lt
                  have l4_8 := hr4_3.lt
                  have hr4_4 := hr4_3.below hb hr4_3.lt
                  have l0_8 := hr0_3.lt
                  have hr0_4 := hr0_3.below hb hr0_3.lt
                  have hi3_4 := hi3_3.on (Below.same' hb _)
                  have sz4 := hb.size
                  have hnx4 := hnx3.below hb hnx3.lt
                  have hV4 := hV3.trans (hb.mono hV3.size)
                  clear hb
                  refine hK.out _ _ ⟨hnx4.cell rfl, hnx4.cell rfl, hnx4.cell rfl⟩ (fun hHeld => ?_)
                  clear hK K
                  try simp only [Act.put, List.getElem_toArray, List.getElem_cons_zero, List.getElem_cons_succ, List.setIfInBounds_toArray, List.set_cons_zero, List.set_cons_succ]
                  refine wpAnyH_ready (rs := [7]) (by decide +kernel) (by simp) ?_
                  refine (AllReadyH.cons (o := _) rfl (fun K hK => ?_) AllReadyH.nil)
                  · refine ifT rfl ?_
                    refine oper_app_ints _ _ rfl _ _ n.weights (by rfl) (by rfl) ((H4.out.on (Below.same' HB1.out F)).on (Below.same' hV4 F)) (by omega) ?_
                    intro A7 c7 w5 hb hi7_5
                    have g7 := hnx4.lt
                    have l4_7 := hr4_4.lt
                    have hr4_5 := hr4_4.below hb hr4_4.lt
                    have l0_7 := hr0_4.lt
                    have hr0_5 := hr0_4.below hb hr0_4.lt
                    have hi3_5 := hi3_4.on (Below.same' hb _)
                    have l8_7 := hr8_4.lt
                    have hr8_5 := hr8_4.below hb hr8_4.lt
                    have sz5 := hb.size
                    have hnx5 := hnx4.below hb hnx4.lt
                    have hV5 := hV4.trans (hb.mono hV4.size)
                    clear hb
                    refine hK.out _ _ ⟨hnx5.cell rfl, hnx5.cell rfl, hnx5.cell rfl⟩ (fun hHeld => ?_)
                    clear hK K
                    try simp only [Act.put, List.getElem_toArray, List.getElem_cons_zero, List.getElem_cons_succ, List.setIfInBounds_toArray, List.set_cons_zero, List.set_cons_succ]
                    refine wpAnyH_ready (rs := [11]) (by decide +kernel) (by simp) ?_
                    refine (AllReadyH.cons (o := _) rfl (fun K hK => ?_) AllReadyH.nil)
                    · refine ifT rfl ?_
                      refine oper_app_ints _ _ rfl _ _ n.pay (by rfl) (by rfl) ((H5.out.on (Below.same' HB1.out F)).on (Below.same' hV5 F)) (by omega) ?_
                      intro A11 c11 w6 hb hi11_6
                      have g11 := hnx5.lt
                      have l4_11 := hr4_5.lt
                      have hr4_6 := hr4_5.below hb hr4_5.lt
                      have l0_11 := hr0_5.lt
                      have hr0_6 := hr0_5.below hb hr0_5.lt
                      have hi3_6 := hi3_5.on (Below.same' hb _)
                      have l8_11 := hr8_5.lt
                      have hr8_6 := hr8_5.below hb hr8_5.lt
                      have hi7_6 := hi7_5.on (Below.same' hb _)
                      have sz6 := hb.size
                      have hnx6 := hnx5.below hb hnx5.lt
                      have hV6 := hV5.trans (hb.mono hV5.size)
                      clear hb
                      refine hK.out _ _ ⟨hnx6.cell rfl, hnx6.cell rfl, hnx6.cell rfl⟩ (fun hHeld => ?_)
                      clear hK K
                      try simp only [Act.put, List.getElem_toArray, List.getElem_cons_zero, List.getElem_cons_succ, List.setIfInBounds_toArray, List.set_cons_zero, List.set_cons_succ]
                      have r3 := hnx6.cell (i := 3) rfl
                      have f3 := hnx6.frozen 3
                      have r4 := hnx6.cell (i := 4) rfl
                      have f4 := hnx6.frozen 4
                      have r5 := hnx6.cell (i := 5) rfl
                      have f5 := hnx6.frozen 5
                      refine wpAnyH_done (by kernel_rfl) ?_ _
                      clear hHeld
                      show wpList _ _ _ _ _ _
                      go_wp2_with fail
                      show wpList _ _ _ _ _ _
                      go_wp2_with fail
                      show wpList _ _ _ _ _ _
                      go_wp2_with fail
                      show wpList _ _ _ _ _ _
                      go_wp2_with fail
                      show wpList _ _ _ _ _ _
                      go_wp2_with fail
                      obtain ⟨W, hW, hrw, hww⟩ := set345 hnx6 (.slice A3 n.next.length c3) (.slice A7 n.weights.length c7) (.slice A11 n.pay.length c11)
                      rw [← hW]
                      clear hW
                      clear r3 f3
                      clear r4 f4
                      clear r5 f5
                      have szw := hww.size
                      show Exit.then _ _ .normal _ _
                      go_wp2_with fail
                      go_meet
                      refine ⟨A3, c3, A7, c7, A11, c11, hrw, ?_, ?_, ?_, (Below.wrote hV6 _).trans hww⟩
                      · exact hi3_6.keep (fun b hb _ => by omega) (hww.same (fun b hb => by omega))
                      · exact hi7_6.keep (fun b hb _ => by omega) (hww.same (fun b hb => by omega))
                      · exact hi11_6.keep (fun b hb _ => by omega) (hww.same (fun b hb => by omega))
              · go_simp
                obtain ⟨w3, hw, hr8_3, hb, hz⟩ := row_of_alloc w2 3 #[]
                rw [← hw]
                clear hw hz
                have g8 := hnx2.lt
                have l4_8 := hr4_2.lt
                have hr4_3 := hr4_2.below hb hr4_2.lt
                have l0_8 := hr0_2.lt
                have hr0_3 := hr0_2.below hb hr0_2.lt
                have sz3 := hb.size
                have hnx3 := hnx2.below hb hnx2.lt
                have hV3 := hV2.trans (hb.mono hV2.size)
                clear hb
                refine hK.out _ _ ⟨hnx3.cell rfl, hnx3.cell rfl, hnx3.cell rfl⟩ (fun hHeld => ?_)
                clear hK K
                try simp only [Act.put, List.getElem_toArray, List.getElem_cons_zero, List.getElem_cons_succ, List.setIfInBounds_toArray, List.set_cons_zero, List.set_cons_succ]
                refine wpAnyH_ready (rs := [3]) (by decide +kernel) (by simp) ?_
                refine (AllReadyH.cons (o := _) rfl (fun K hK => ?_) AllReadyH.nil)
                · refine ifT rfl ?_
                  refine oper_app_ints _ _ rfl _ _ n.next (by rfl) (by rfl) ((H3.out.on (Below.same' HB1.out F)).on (Below.same' hV3 F)) (by omega) ?_
                  intro A3 c3 w4 hb hi3_4
                  have g3 := hnx3.lt
                  have l4_3 := hr4_3.lt
                  have hr4_4 := hr4_3.below hb hr4_3.lt
                  have l0_3 := hr0_3.lt
                  have hr0_4 := hr0_3.below hb hr0_3.lt
                  have l8_3 := hr8_3.lt
                  have hr8_4 := hr8_3.below hb hr8_3.lt
                  have sz4 := hb.size
                  have hnx4 := hnx3.below hb hnx3.lt
                  have hV4 := hV3.trans (hb.mono hV3.size)
                  clear hb
                  refine hK.out _ _ ⟨hnx4.cell rfl, hnx4.cell rfl, hnx4.cell rfl⟩ (fun hHeld => ?_)
                  clear hK K
                  try simp only [Act.put, List.getElem_toArray, List.getElem_cons_zero, List.getElem_cons_succ, List.setIfInBounds_toArray, List.set_cons_zero, List.set_cons_succ]
                  refine wpAnyH_take (i := 12) (v := ?_) rfl (by kernel_rfl) (by kernel_rfl) (by kernel_rfl) (fun _ _ _ h => h) (Or.inl ⟨by rfl, ?_⟩) hHeld ?_
                  rotate_left
                  · intro wx hSx; (try dsimp only at hSx); go_split_ands; go_simp; try (with_reducible rfl)
                  try simp only [Act.put, List.getElem_toArray, List.getElem_cons_zero, List.getElem_cons_succ, List.setIfInBounds_toArray, List.set_cons_zero, List.set_cons_succ]
                  refine wpAnyH_ready (rs := [7]) (by decide +kernel) (by simp) ?_
                  refine (AllReadyH.cons (o := _) rfl (fun K hK => ?_) AllReadyH.nil)
                  · refine ifT rfl ?_
                    refine oper_app_ints _ _ rfl _ _ n.weights (by rfl) (by rfl) ((H4.out.on (Below.same' HB1.out F)).on (Below.same' hV4 F)) (by omega) ?_
                    intro A7 c7 w5 hb hi7_5
                    have g7 := hnx4.lt
                    have l4_7 := hr4_4.lt
                    have hr4_5 := hr4_4.below hb hr4_4.lt
                    have l0_7 := hr0_4.lt
                    have hr0_5 := hr0_4.below hb hr0_4.lt
                    have l8_7 := hr8_4.lt
                    have hr8_5 := hr8_4.below hb hr8_4.lt
                    have hi3_5 := hi3_4.on (Below.same' hb _)
                    have sz5 := hb.size
                    have hnx5 := hnx4.below hb hnx4.lt
                    have hV5 := hV4.trans (hb.mono hV4.size)
                    clear hb
                    refine hK.out _ _ ⟨hnx5.cell rfl, hnx5.cell rfl, hnx5.cell rfl⟩ (fun hHeld => ?_)
                    clear hK K
                    try simp only [Act.put, List.getElem_toArray, List.getElem_cons_zero, List.getElem_cons_succ, List.setIfInBounds_toArray, List.set_cons_zero, List.set_cons_succ]
                    refine wpAnyH_ready (rs := [11]) (by decide +kernel) (by simp) ?_
                    refine (AllReadyH.cons (o := _) rfl (fun K hK => ?_) AllReadyH.nil)
                    · refine ifT rfl ?_
                      refine oper_app_ints _ _ rfl _ _ n.pay (by rfl) (by rfl) ((H5.out.on (Below.same' HB1.out F)).on (Below.same' hV5 F)) (by omega) ?_
                      intro A11 c11 w6 hb hi11_6
                      have g11 := hnx5.lt
                      have l4_11 := hr4_5.lt
                      have hr4_6 := hr4_5.below hb hr4_5.lt
                      have l0_11 := hr0_5.lt
                      have hr0_6 := hr0_5.below hb hr0_5.lt
                      have l8_11 := hr8_5.lt
                      have hr8_6 := hr8_5.below hb hr8_5.lt
                      have hi3_6 := hi3_5.on (Below.same' hb _)
                      have hi7_6 := hi7_5.on (Below.same' hb _)
                      have sz6 := hb.size
                      have hnx6 := hnx5.below hb hnx5.lt
                      have hV6 := hV5.trans (hb.mono hV5.size)
                      clear hb
                      refine hK.out _ _ ⟨hnx6.cell rfl, hnx6.cell rfl, hnx6.cell rfl⟩ (fun hHeld => ?_)
                      clear hK K
                      try simp only [Act.put, List.getElem_toArray, List.getElem_cons_zero, List.getElem_cons_succ, List.setIfInBounds_toArray, List.set_cons_zero, List.set_cons_succ]
                      have r3 := hnx6.cell (i := 3) rfl
                      have f3 := hnx6.frozen 3
                      have r4 := hnx6.cell (i := 4) rfl
                      have f4 := hnx6.frozen 4
                      have r5 := hnx6.cell (i := 5) rfl
                      have f5 := hnx6.frozen 5
                      refine wpAnyH_done (by kernel_rfl) ?_ _
                      clear hHeld
                      show wpList _ _ _ _ _ _
                      go_wp2_with fail
                      show wpList _ _ _ _ _ _
                      go_wp2_with fail
                      show wpList _ _ _ _ _ _
                      go_wp2_with fail
                      show wpList _ _ _ _ _ _
                      go_wp2_with fail
                      show wpList _ _ _ _ _ _
                      go_wp2_with fail
                      obtain ⟨W, hW, hrw, hww⟩ := set345 hnx6 (.slice A3 n.next.length c3) (.slice A7 n.weights.length c7) (.slice A11 n.pay.length c11)
                      rw [← hW]
                      clear hW
                      clear r3 f3
                      clear r4 f4
                      clear r5 f5
                      have szw := hww.size
                      show Exit.then _ _ .normal _ _
                      go_wp2_with fail
                      go_meet
                      refine ⟨A3, c3, A7, c7, A11, c11, hrw, ?_, ?_, ?_, (Below.wrote hV6 _).trans hww⟩
                      · exact hi3_6.keep (fun b hb _ => by omega) (hww.same (fun b hb => by omega))
                      · exact hi7_6.keep (fun b hb _ => by omega) (hww.same (fun b hb => by omega))
                      · exact hi11_6.keep (fun b hb _ => by omega) (hww.same (fun b hb => by omega))
            · go_simp
              obtain ⟨w2, hw, hr8_2, hb, hz⟩ := row_of_alloc w1 3 #[]
              rw [← hw]
              clear hw hz
              have g8 := hnx1.lt
              have l4_8 := hr4_1.lt
              have hr4_2 := hr4_1.below hb hr4_1.lt
              have sz2 := hb.size
              have hnx2 := hnx1.below hb hnx1.lt
              have hV2 := hV1.trans (hb.mono hV1.size)
              clear hb
              refine hK.out _ _ ⟨hnx2.cell rfl, hnx2.cell rfl, hnx2.cell rfl⟩ (fun hHeld => ?_)
              clear hK K
              try simp only [Act.put, List.getElem_toArray, List.getElem_cons_zero, List.getElem_cons_succ, List.setIfInBounds_toArray, List.set_cons_zero, List.set_cons_succ]
              refine wpAnyH_ready (rs := [0]) (by decide +kernel) (by simp) ?_
              refine (AllReadyH.cons (o := _) rfl (fun K hK => ?_) AllReadyH.nil)
              · go_simp
                obtain ⟨w3, hw, hr0_3, hb, hz⟩ := row_of_alloc w2 3 #[]
                rw [← hw]
                clear hw hz
                have g0 := hnx2.lt
                have l4_0 := hr4_2.lt
                have hr4_3 := hr4_2.below hb hr4_2.lt
                have l8_0 := hr8_2.lt
                have hr8_3 := hr8_2.below hb hr8_2.lt
                have sz3 := hb.size
                have hnx3 := hnx2.below hb hnx2.lt
                have hV3 := hV2.trans (hb.mono hV2.size)
                clear hb
                refine hK.out _ _ ⟨hnx3.cell rfl, hnx3.cell rfl, hnx3.cell rfl⟩ (fun hHeld => ?_)
                clear hK K
                try simp only [Act.put, List.getElem_toArray, List.getElem_cons_zero, List.getElem_cons_succ, List.setIfInBounds_toArray, List.set_cons_zero, List.set_cons_succ]
                refine wpAnyH_ready (rs := [3]) (by decide +kernel) (by simp) ?_
                refine (AllReadyH.cons (o := _) rfl (fun K hK => ?_) AllReadyH.nil)
                · refine ifT rfl ?_
                  refine oper_app_ints _ _ rfl _ _ n.next (by rfl) (by rfl) ((H3.out.on (Below.same' HB1.out F)).on (Below.same' hV3 F)) (by omega) ?_
                  intro A3 c3 w4 hb hi3_4
                  have g3 := hnx3.lt
                  have l4_3 := hr4_3.lt
                  have hr4_4 := hr4_3.below hb hr4_3.lt
                  have l8_3 := hr8_3.lt
                  have hr8_4 := hr8_3.below hb hr8_3.lt
                  have l0_3 := hr0_3.lt
                  have hr0_4 := hr0_3.below hb hr0_3.lt
                  have sz4 := hb.size
                  have hnx4 := hnx3.below hb hnx3.lt
                  have hV4 := hV3.trans (hb.mono hV3.size)
                  clear hb
                  refine hK.out _ _ ⟨hnx4.cell rfl, hnx4.cell rfl, hnx4.cell rfl⟩ (fun hHeld => ?_)
                  clear hK K
                  try simp only [Act.put, List.getElem_toArray, List.getElem_cons_zero, List.getElem_cons_succ, List.setIfInBounds_toArray, List.set_cons_zero, List.set_cons_succ]
                  refine wpAnyH_take (i := 12) (v := ?_) rfl (by kernel_rfl) (by kernel_rfl) (by kernel_rfl) (fun _ _ _ h => h) (Or.inl ⟨by rfl, ?_⟩) hHeld ?_
                  rotate_left
                  · intro wx hSx; (try dsimp only at hSx); go_split_ands; go_simp; try (with_reducible rfl)
                  try simp only [Act.put, List.getElem_toArray, List.getElem_cons_zero, List.getElem_cons_succ, List.setIfInBounds_toArray, List.set_cons_zero, List.set_cons_succ]
                  refine wpAnyH_ready (rs := [7]) (by decide +kernel) (by simp) ?_
                  refine (AllReadyH.cons (o := _) rfl (fun K hK => ?_) AllReadyH.nil)
                  · refine ifT rfl ?_
                    refine oper_app_ints _ _ rfl _ _ n.weights (by rfl) (by rfl) ((H4.out.on (Below.same' HB1.out F)).on (Below.same' hV4 F)) (by omega) ?_
                    intro A7 c7 w5 hb hi7_5
                    have g7 := hnx4.lt
                    have l4_7 := hr4_4.lt
                    have hr4_5 := hr4_4.below hb hr4_4.lt
                    have l8_7 := hr8_4.lt
                    have hr8_5 := hr8_4.below hb hr8_4.lt
                    have l0_7 := hr0_4.lt
                    have hr0_5 := hr0_4.below hb hr0_4.lt
                    have hi3_5 := hi3_4.on (Below.same' hb _)
                    have sz5 := hb.size
                    have hnx5 := hnx4.below hb hnx4.lt
                    have hV5 := hV4.trans (hb.mono hV4.size)
                    clear hb
                    refine hK.out _ _ ⟨hnx5.cell rfl, hnx5.cell rfl, hnx5.cell rfl⟩ (fun hHeld => ?_)
                    clear hK K
                    try simp only [Act.put, List.getElem_toArray, List.getElem_cons_zero, List.getElem_cons_succ, List.setIfInBounds_toArray, List.set_cons_zero, List.set_cons_succ]
                    refine wpAnyH_ready (rs := [11]) (by decide +kernel) (by simp) ?_
                    refine (AllReadyH.cons (o := _) rfl (fun K hK => ?_) AllReadyH.nil)
                    · refine ifT rfl ?_
                      refine oper_app_ints _ _ rfl _ _ n.pay (by rfl) (by rfl) ((H5.out.on (Below.same' HB1.out F)).on (Below.same' hV5 F)) (by omega) ?_
                      intro A11 c11 w6 hb hi11_6
                      have g11 := hnx5.lt
                      have l4_11 := hr4_5.lt
                      have hr4_6 := hr4_5.below hb hr4_5.lt
                      have l8_11 := hr8_5.lt
                      have hr8_6 := hr8_5.below hb hr8_5.lt
                      have l0_11 := hr0_5.lt
                      have hr0_6 := hr0_5.below hb hr0_5.lt
                      have hi3_6 := hi3_5.on (Below.same' hb _)
                      have hi7_6 := hi7_5.on (Below.same' hb _)
                      have sz6 := hb.size
                      have hnx6 := hnx5.below hb hnx5.lt
                      have hV6 := hV5.trans (hb.mono hV5.size)
                      clear hb
                      refine hK.out _ _ ⟨hnx6.cell rfl, hnx6.cell rfl, hnx6.cell rfl⟩ (fun hHeld => ?_)
                      clear hK K
                      try simp only [Act.put, List.getElem_toArray, List.getElem_cons_zero, List.getElem_cons_succ, List.setIfInBounds_toArray, List.set_cons_zero, List.set_cons_succ]
                      have r3 := hnx6.cell (i := 3) rfl
                      have f3 := hnx6.frozen 3
                      have r4 := hnx6.cell (i := 4) rfl
                      have f4 := hnx6.frozen 4
                      have r5 := hnx6.cell (i := 5) rfl
                      have f5 := hnx6.frozen 5
                      refine wpAnyH_done (by kernel_rfl) ?_ _
                      clear hHeld
                      show wpList _ _ _ _ _ _
                      go_wp2_with fail
                      show wpList _ _ _ _ _ _
                      go_wp2_with fail
                      show wpList _ _ _ _ _ _
                      go_wp2_with fail
                      show wpList _ _ _ _ _ _
                      go_wp2_with fail
                      show wpList _ _ _ _ _ _
                      go_wp2_with fail
                      obtain ⟨W, hW, hrw, hww⟩ := set345 hnx6 (.slice A3 n.next.length c3) (.slice A7 n.weights.length c7) (.slice A11 n.pay.length c11)
                      rw [← hW]
                      clear hW
                      clear r3 f3
                      clear r4 f4
                      clear r5 f5
                      have szw := hww.size
                      show Exit.then _ _ .normal _ _
                      go_wp2_with fail
                      go_meet
                      refine ⟨A3, c3, A7, c7, A11, c11, hrw, ?_, ?_, ?_, (Below.wrote hV6 _).trans hww⟩
                      · exact hi3_6.keep (fun b hb _ => by omega) (hww.same (fun b hb => by omega))
                      · exact hi7_6.keep (fun b hb _ => by omega) (hww.same (fun b hb => by omega))
                      · exact hi11_6.keep (fun b hb _ => by omega) (hww.same (fun b hb => by omega))
          · go_simp
            obtain ⟨w1, hw, hr8_1, hb, hz⟩ := row_of_alloc w0 3 #[]
            rw [← hw]
            clear hw hz
            have g8 := hnx0.lt
            have sz1 := hb.size
            have hnx1 := hnx0.below hb hnx0.lt
            have hV1 := hV0.trans (hb.mono hV0.size)
            clear hb
            refine hK.out _ _ ⟨hnx1.cell rfl, hnx1.cell rfl, hnx1.cell rfl⟩ (fun hHeld => ?_)
            clear hK K
            try simp only [Act.put, List.getElem_toArray, List.getElem_cons_zero, List.getElem_cons_succ, List.setIfInBounds_toArray, List.set_cons_zero, List.set_cons_succ]
            refine wpAnyH_ready (rs := [0, 4]) (by decide +kernel) (by simp) ?_
            refine (AllReadyH.cons (o := _) rfl (fun K hK => ?_) (AllReadyH.cons (o := _) rfl (fun K hK => ?_) AllReadyH.nil))
            · go_simp
              obtain ⟨w2, hw, hr0_2, hb, hz⟩ := row_of_alloc w1 3 #[]
              rw [← hw]
              clear hw hz
              have g0 := hnx1.lt
              have l8_0 := hr8_1.lt
              have hr8_2 := hr8_1.below hb hr8_1.lt
              have sz2 := hb.size
              have hnx2 := hnx1.below hb hnx1.lt
              have hV2 := hV1.trans (hb.mono hV1.size)
              clear hb
              refine hK.out _ _ ⟨hnx2.cell rfl, hnx2.cell rfl, hnx2.cell rfl⟩ (fun hHeld => ?_)
              clear hK K
              try simp only [Act.put, List.getElem_toArray, List.getElem_cons_zero, List.getElem_cons_succ, List.setIfInBounds_toArray, List.set_cons_zero, List.set_cons_succ]
              refine wpAnyH_ready (rs := [3, 4]) (by decide +kernel) (by simp) ?_
              refine (AllReadyH.cons (o := _) rfl (fun K hK => ?_) (AllReadyH.cons (o := _) rfl (fun K hK => ?_) AllReadyH.nil))
              · refine ifT rfl ?_
                refine oper_app_ints _ _ rfl _ _ n.next (by rfl) (by rfl) ((H3.out.on (Below.same' HB1.out F)).on (Below.same' hV2 F)) (by omega) ?_
                intro A3 c3 w3 hb hi3_3
                have g3 := hnx2.lt
                have l8_3 := hr8_2.lt
                have hr8_3 := hr8_2.below hb hr8_2.lt
                have l0_3 := hr0_2.lt
                have hr0_3 := hr0_2.below hb hr0_2.lt
                have sz3 := hb.size
                have hnx3 := hnx2.below hb hnx2.lt
                have hV3 := hV2.trans (hb.mono hV2.size)
                clear hb
                refine hK.out _ _ ⟨hnx3.cell rfl, hnx3.cell rfl, hnx3.cell rfl⟩ (fun hHeld => ?_)
                clear hK K
                try simp only [Act.put, List.getElem_toArray, List.getElem_cons_zero, List.getElem_cons_succ, List.setIfInBounds_toArray, List.set_cons_zero, List.set_cons_succ]
                refine wpAnyH_take (i := 12) (v := ?_) rfl (by kernel_rfl) (by kernel_rfl) (by kernel_rfl) (fun _ _ _ h => h) (Or.inl ⟨by rfl, ?_⟩) hHeld ?_
                rotate_left
                · intro wx hSx; (try dsimp only at hSx); go_split_ands; go_simp; try (with_reducible rfl)
                try simp only [Act.put, List.getElem_toArray, List.getElem_cons_zero, List.getElem_cons_succ, List.setIfInBounds_toArray, List.set_cons_zero, List.set_cons_succ]
                refine wpAnyH_ready (rs := [4]) (by decide +kernel) (by simp) ?_
                refine (AllReadyH.cons (o := _) rfl (fun K hK => ?_) AllReadyH.nil)
                · go_simp
                  obtain ⟨w4, hw, hr4_4, hb, hz⟩ := row_of_alloc w3 3 #[]
                  rw [← hw]
                  clear hw hz
                  have g4 := hnx3.lt
                  have l8_4 := hr8_3.lt
                  have hr8_4 := hr8_3.below hb hr8_3.lt
                  have l0_4 := hr0_3.lt
                  have hr0_4 := hr0_3.below hb hr0_3.lt
                  have hi3_4 := hi3_3.on (Below.same' hb _)
                  have sz4 := hb.size
                  have hnx4 := hnx3.below hb hnx3.lt
                  have hV4 := hV3.trans (hb.mono hV3.size)
                  clear hb
                  refine hK.out _ _ ⟨hnx4.cell rfl, hnx4.cell rfl, hnx4.cell rfl⟩ (fun hHeld => ?_)
                  clear hK K
                  try simp only [Act.put, List.getElem_toArray, List.getElem_cons_zero, List.getElem_cons_succ, List.setIfInBounds_toArray, List.set_cons_zero, List.set_cons_succ]
                  refine wpAnyH_ready (rs := [7]) (by decide +kernel) (by simp) ?_
                  refine (AllReadyH.cons (o := _) rfl (fun K hK => ?_) AllReadyH.nil)
                  · refine ifT rfl ?_
                    refine oper_app_ints _ _ rfl _ _ n.weights (by rfl) (by rfl) ((H4.out.on (Below.same' HB1.out F)).on (Below.same' hV4 F)) (by omega) ?_
                    intro A7 c7 w5 hb hi7_5
                    have g7 := hnx4.lt
                    have l8_7 := hr8_4.lt
                    have hr8_5 := hr8_4.below hb hr8_4.lt
                    have l0_7 := hr0_4.lt
                    have hr0_5 := hr0_4.below hb hr0_4.lt
                    have hi3_5 := hi3_4.on (Below.same' hb _)
                    have l4_7 := hr4_4.lt
                    have hr4_5 := hr4_4.below hb hr4_4.lt
                    have sz5 := hb.size
                    have hnx5 := hnx4.below hb hnx4.lt
                    have hV5 := hV4.trans (hb.mono hV4.size)
                    clear hb
                    refine hK.out _ _ ⟨hnx5.cell rfl, hnx5.cell rfl, hnx5.cell rfl⟩ (fun hHeld => ?_)
                    clear hK K
                    try simp only [Act.put, List.getElem_toArray, List.getElem_cons_zero, List.getElem_cons_succ, List.setIfInBounds_toArray, List.set_cons_zero, List.set_cons_succ]
                    refine wpAnyH_ready (rs := [11]) (by decide +kernel) (by simp) ?_
                    refine (AllReadyH.cons (o := _) rfl (fun K hK => ?_) AllReadyH.nil)
                    · refine ifT rfl ?_
                      refine oper_app_ints _ _ rfl _ _ n.pay (by rfl) (by rfl) ((H5.out.on (Below.same' HB1.out F)).on (Below.same' hV5 F)) (by omega) ?_
                      intro A11 c11 w6 hb hi11_6
                      have g11 := hnx5.lt
                      have l8_11 := hr8_5.lt
                      have hr8_6 := hr8_5.below hb hr8_5.lt
                      have l0_11 := hr0_5.lt
                      have hr0_6 := hr0_5.below hb hr0_5.lt
                      have hi3_6 := hi3_5.on (Below.same' hb _)
                      have l4_11 := hr4_5.lt
                      have hr4_6 := hr4_5.below hb hr4_5.lt
                      have hi7_6 := hi7_5.on (Below.same' hb _)
                      have sz6 := hb.size
                      have hnx6 := hnx5.below hb hnx5.lt
                      have hV6 := hV5.trans (hb.mono hV5.size)
                      clear hb
                      refine hK.out _ _ ⟨hnx6.cell rfl, hnx6.cell rfl, hnx6.cell rfl⟩ (fun hHeld => ?_)
                      clear hK K
                      try simp only [Act.put, List.getElem_toArray, List.getElem_cons_zero, List.getElem_cons_succ, List.setIfInBounds_toArray, List.set_cons_zero, List.set_cons_succ]
                      have r3 := hnx6.cell (i := 3) rfl
                      have f3 := hnx6.frozen 3
                      have r4 := hnx6.cell (i := 4) rfl
                      have f4 := hnx6.frozen 4
                      have r5 := hnx6.cell (i := 5) rfl
                      have f5 := hnx6.frozen 5
                      refine wpAnyH_done (by kernel_rfl) ?_ _
                      clear hHeld
                      show wpList _ _ _ _ _ _
                      go_wp2_with fail
                      show wpList _ _ _ _ _ _
                      go_wp2_with fail
                      show wpList _ _ _ _ _ _
                      go_wp2_with fail
                      show wpList _ _ _ _ _ _
                      go_wp2_with fail
                      show wpList _ _ _ _ _ _
                      go_wp2_with fail
                      obtain ⟨W, hW, hrw, hww⟩ := set345 hnx6 (.slice A3 n.next.length c3) (.slice A7 n.weights.length c7) (.slice A11 n.pay.length c11)
                      rw [← hW]
                      clear hW
                      clear r3 f3
                      clear r4 f4
                      clear r5 f5
                      have szw := hww.size
                      show Exit.then _ _ .normal _ _
                      go_wp2_with fail
                      go_meet
                      refine ⟨A3, c3, A7, c7, A11, c11, hrw, ?_, ?_, ?_, (Below.wrote hV6 _).trans hww⟩
                      · exact hi3_6.keep (fun b hb _ => by omega) (hww.same (fun b hb => by omega))
                      · exact hi7_6.keep (fun b hb _ => by omega) (hww.same (fun b hb => by omega))
                      · exact hi11_6.keep (fun b hb _ => by omega) (hww.same (fun b hb => by omega))
              · go_simp
                obtain ⟨w3, hw, hr4_3, hb, hz⟩ := row_of_alloc w2 3 #[]
                rw [← hw]
                clear hw hz
                have g4 := hnx2.lt
                have l8_4 := hr8_2.lt
                have hr8_3 := hr8_2.below hb hr8_2.lt
                have l0_4 := hr0_2.lt
                have hr0_3 := hr0_2.below hb hr0_2.lt
                have sz3 := hb.size
                have hnx3 := hnx2.below hb hnx2.lt
                have hV3 := hV2.trans (hb.mono hV2.size)
                clear hb
                refine hK.out _ _ ⟨hnx3.cell rfl, hnx3.cell rfl, hnx3.cell rfl⟩ (fun hHeld => ?_)
                clear hK K
                try simp only [Act.put, List.getElem_toArray, List.getElem_cons_zero, List.getElem_cons_succ, List.setIfInBounds_toArray, List.set_cons_zero, List.set_cons_succ]
                refine wpAnyH_ready (rs := [3]) (by decide +kernel) (by simp) ?_
                refine (AllReadyH.cons (o := _) rfl (fun K hK => ?_) AllReadyH.nil)
                · refine ifT rfl ?_
                  refine oper_app_ints _ _ rfl _ _ n.next (by rfl) (by rfl) ((H3.out.on (Below.same' HB1.out F)).on (Below.same' hV3 F)) (by omega) ?_
                  intro A3 c3 w4 hb hi3_4
                  have g3 := hnx3.lt
                  have l8_3 := hr8_3.lt
                  have hr8_4 := hr8_3.below hb hr8_3.lt
                  have l0_3 := hr0_3.lt
                  have hr0_4 := hr0_3.below hb hr0_3.lt
                  have l4_3 := hr4_3.lt
                  have hr4_4 := hr4_3.below hb hr4_3.lt
                  have sz4 := hb.size
                  have hnx4 := hnx3.below hb hnx3.lt
                  have hV4 := hV3.trans (hb.mono hV3.size)
                  clear hb
                  refine hK.out _ _ ⟨hnx4.cell rfl, hnx4.cell rfl, hnx4.cell rfl⟩ (fun hHeld => ?_)
                  clear hK K
                  try simp only [Act.put, List.getElem_toArray, List.getElem_cons_zero, List.getElem_cons_succ, List.setIfInBounds_toArray, List.set_cons_zero, List.set_cons_succ]
                  refine wpAnyH_take (i := 12) (v := ?_) rfl (by kernel_rfl) (by kernel_rfl) (by kernel_rfl) (fun _ _ _ h => h) (Or.inl ⟨by rfl, ?_⟩) hHeld ?_
                  rotate_left
                  · intro wx hSx; (try dsimp only at hSx); go_split_ands; go_simp; try (with_reducible rfl)
                  try simp only [Act.put, List.getElem_toArray, List.getElem_cons_zero, List.getElem_cons_succ, List.setIfInBounds_toArray, List.set_cons_zero, List.set_cons_succ]
                  refine wpAnyH_ready (rs := [7]) (by decide +kernel) (by simp) ?_
                  refine (AllReadyH.cons (o := _) rfl (fun K hK => ?_) AllReadyH.nil)
                  · refine ifT rfl ?_
                    refine oper_app_ints _ _ rfl _ _ n.weights (by rfl) (by rfl) ((H4.out.on (Below.same' HB1.out F)).on (Below.same' hV4 F)) (by omega) ?_
                    intro A7 c7 w5 hb hi7_5
                    have g7 := hnx4.lt
                    have l8_7 := hr8_4.lt
                    have hr8_5 := hr8_4.below hb hr8_4.lt
                    have l0_7 := hr0_4.lt
                    have hr0_5 := hr0_4.below hb hr0_4.lt
                    have l4_7 := hr4_4.lt
                    have hr4_5 := hr4_4.below hb hr4_4.lt
                    have hi3_5 := hi3_4.on (Below.same' hb _)
                    have sz5 := hb.size
                    have hnx5 := hnx4.below hb hnx4.lt
                    have hV5 := hV4.trans (hb.mono hV4.size)
                    clear hb
                    refine hK.out _ _ ⟨hnx5.cell rfl, hnx5.cell rfl, hnx5.cell rfl⟩ (fun hHeld => ?_)
                    clear hK K
                    try simp only [Act.put, List.getElem_toArray, List.getElem_cons_zero, List.getElem_cons_succ, List.setIfInBounds_toArray, List.set_cons_zero, List.set_cons_succ]
                    refine wpAnyH_ready (rs := [11]) (by decide +kernel) (by simp) ?_
                    refine (AllReadyH.cons (o := _) rfl (fun K hK => ?_) AllReadyH.nil)
                    · refine ifT rfl ?_
                      refine oper_app_ints _ _ rfl _ _ n.pay (by rfl) (by rfl) ((H5.out.on (Below.same' HB1.out F)).on (Below.same' hV5 F)) (by omega) ?_
                      intro A11 c11 w6 hb hi11_6
                      have g11 := hnx5.lt
                      have l8_11 := hr8_5.lt
                      have hr8_6 := hr8_5.below hb hr8_5.lt
                      have l0_11 := hr0_5.lt
                      have hr0_6 := hr0_5.below hb hr0_5.lt
                      have l4_11 := hr4_5.lt
                      have hr4_6 := hr4_5.below hb hr4_5.lt
                      have hi3_6 := hi3_5.on (Below.same' hb _)
                      have hi7_6 := hi7_5.on (Below.same' hb _)
                      have sz6 := hb.size
                      have hnx6 := hnx5.below hb hnx5.lt
                      have hV6 := hV5.trans (hb.mono hV5.size)
                      clear hb
                      refine hK.out _ _ ⟨hnx6.cell rfl, hnx6.cell rfl, hnx6.cell rfl⟩ (fun hHeld => ?_)
                      clear hK K
                      try simp only [Act.put, List.getElem_toArray, List.getElem_cons_zero, List.getElem_cons_succ, List.setIfInBounds_toArray, List.set_cons_zero, List.set_cons_succ]
                      have r3 := hnx6.cell (i := 3) rfl
                      have f3 := hnx6.frozen 3
                      have r4 := hnx6.cell (i := 4) rfl
                      have f4 := hnx6.frozen 4
                      have r5 := hnx6.cell (i := 5) rfl
                      have f5 := hnx6.frozen 5
                      refine wpAnyH_done (by kernel_rfl) ?_ _
                      clear hHeld
                      show wpList _ _ _ _ _ _
                      go_wp2_with fail
                      show wpList _ _ _ _ _ _
                      go_wp2_with fail
                      show wpList _ _ _ _ _ _
                      go_wp2_with fail
                      show wpList _ _ _ _ _ _
                      go_wp2_with fail
                      show wpList _ _ _ _ _ _
                      go_wp2_with fail
                      obtain ⟨W, hW, hrw, hww⟩ := set345 hnx6 (.slice A3 n.next.length c3) (.slice A7 n.weights.length c7) (.slice A11 n.pay.length c11)
                      rw [← hW]
                      clear hW
                      clear r3 f3
                      clear r4 f4
                      clear r5 f5
                      have szw := hww.size
                      show Exit.then _ _ .normal _ _
                      go_wp2_with fail
                      go_meet
                      refine ⟨A3, c3, A7, c7, A11, c11, hrw, ?_, ?_, ?_, (Below.wrote hV6 _).trans hww⟩
                      · exact hi3_6.keep (fun b hb _ => by omega) (hww.same (fun b hb => by omega))
                      · exact hi7_6.keep (fun b hb _ => by omega) (hww.same (fun b hb => by omega))
                      · exact hi11_6.keep (fun b hb _ => by omega) (hww.same (fun b hb => by omega))
            · go_simp
              obtain ⟨w2, hw, hr4_2, hb, hz⟩ := row_of_alloc w1 3 #[]
              rw [← hw]
              clear hw hz
              have g4 := hnx1.lt
              have l8_4 := hr8_1.lt
              have hr8_2 := hr8_1.below hb hr8_1.lt
              have sz2 := hb.size
              have hnx2 := hnx1.below hb hnx1.lt
              have hV2 := hV1.trans (hb.mono hV1.size)
              clear hb
              refine hK.out _ _ ⟨hnx2.cell rfl, hnx2.cell rfl, hnx2.cell rfl⟩ (fun hHeld => ?_)
              clear hK K
              try simp only [Act.put, List.getElem_toArray, List.getElem_cons_zero, List.getElem_cons_succ, List.setIfInBounds_toArray, List.set_cons_zero, List.set_cons_succ]
              refine wpAnyH_ready (rs := [0]) (by decide +kernel) (by simp) ?_
              refine (AllReadyH.cons (o := _) rfl (fun K hK => ?_) AllReadyH.nil)
              · go_simp
                obtain ⟨w3, hw, hr0_3, hb, hz⟩ := row_of_alloc w2 3 #[]
                rw [← hw]
                clear hw hz
                have g0 := hnx2.lt
                have l8_0 := hr8_2.lt
                have hr8_3 := hr8_2.below hb hr8_2.lt
                have l4_0 := hr4_2.lt
                have hr4_3 := hr4_2.below hb hr4_2.lt
                have sz3 := hb.size
                have hnx3 := hnx2.below hb hnx2.lt
                have hV3 := hV2.trans (hb.mono hV2.size)
                clear hb
                refine hK.out _ _ ⟨hnx3.cell rfl, hnx3.cell rfl, hnx3.cell rfl⟩ (fun hHeld => ?_)
                clear hK K
                try simp only [Act.put, List.getElem_toArray, List.getElem_cons_zero, List.getElem_cons_succ, List.setIfInBounds_toArray, List.set_cons_zero, List.set_cons_succ]
                refine wpAnyH_ready (rs := [3]) (by decide +kernel) (by simp) ?_
                refine (AllReadyH.cons (o := _) rfl (fun K hK => ?_) AllReadyH.nil)
                · refine ifT rfl ?_
                  refine oper_app_ints _ _ rfl _ _ n.next (by rfl) (by rfl) ((H3.out.on (Below.same' HB1.out F)).on (Below.same' hV3 F)) (by omega) ?_
                  intro A3 c3 w4 hb hi3_4
                  have g3 := hnx3.lt
                  have l8_3 := hr8_3.lt
                  have hr8_4 := hr8_3.below hb hr8_3.lt
                  have l4_3 := hr4_3.lt
                  have hr4_4 := hr4_3.below hb hr4_3.lt
                  have l0_3 := hr0_3.lt
                  have hr0_4 := hr0_3.below hb hr0_3.lt
                  have sz4 := hb.size
                  have hnx4 := hnx3.below hb hnx3.lt
                  have hV4 := hV3.trans (hb.mono hV3.size)
                  clear hb
                  refine hK.out _ _ ⟨hnx4.cell rfl, hnx4.cell rfl, hnx4.cell rfl⟩ (fun hHeld => ?_)
                  clear hK K
                  try simp only [Act.put, List.getElem_toArray, List.getElem_cons_zero, List.getElem_cons_succ, List.setIfInBounds_toArray, List.set_cons_zero, List.set_cons_succ]
                  refine wpAnyH_take (i := 12) (v := ?_) rfl (by kernel_rfl) (by kernel_rfl) (by kernel_rfl) (fun _ _ _ h => h) (Or.inl ⟨by rfl, ?_⟩) hHeld ?_
                  rotate_left
                  · intro wx hSx; (try dsimp only at hSx); go_split_ands; go_simp; try (with_reducible rfl)
                  try simp only [Act.put, List.getElem_toArray, List.getElem_cons_zero, List.getElem_cons_succ, List.setIfInBounds_toArray, List.set_cons_zero, List.set_cons_succ]
                  refine wpAnyH_ready (rs := [7]) (by decide +kernel) (by simp) ?_
                  refine (AllReadyH.cons (o := _) rfl (fun K hK => ?_) AllReadyH.nil)
                  · refine ifT rfl ?_
                    refine oper_app_ints _ _ rfl _ _ n.weights (by rfl) (by rfl) ((H4.out.on (Below.same' HB1.out F)).on (Below.same' hV4 F)) (by omega) ?_
                    intro A7 c7 w5 hb hi7_5
                    have g7 := hnx4.lt
                    have l8_7 := hr8_4.lt
                    have hr8_5 := hr8_4.below hb hr8_4.lt
                    have l4_7 := hr4_4.lt
                    have hr4_5 := hr4_4.below hb hr4_4.lt
                    have l0_7 := hr0_4.lt
                    have hr0_5 := hr0_4.below hb hr0_4.lt
                    have hi3_5 := hi3_4.on (Below.same' hb _)
                    have sz5 := hb.size
                    have hnx5 := hnx4.below hb hnx4.lt
                    have hV5 := hV4.trans (hb.mono hV4.size)
                    clear hb
                    refine hK.out _ _ ⟨hnx5.cell rfl, hnx5.cell rfl, hnx5.cell rfl⟩ (fun hHeld => ?_)
                    clear hK K
                    try simp only [Act.put, List.getElem_toArray, List.getElem_cons_zero, List.getElem_cons_succ, List.setIfInBounds_toArray, List.set_cons_zero, List.set_cons_succ]
                    refine wpAnyH_ready (rs := [11]) (by decide +kernel) (by simp) ?_
                    refine (AllReadyH.cons (o := _) rfl (fun K hK => ?_) AllReadyH.nil)
                    · refine ifT rfl ?_
                      refine oper_app_ints _ _ rfl _ _ n.pay (by rfl) (by rfl) ((H5.out.on (Below.same' HB1.out F)).on (Below.same' hV5 F)) (by omega) ?_
                      intro A11 c11 w6 hb hi11_6
                      have g11 := hnx5.lt
                      have l8_11 := hr8_5.lt
                      have hr8_6 := hr8_5.below hb hr8_5.lt
                      have l4_11 := hr4_5.lt
                      have hr4_6 := hr4_5.below hb hr4_5.lt
                      have l0_11 := hr0_5.lt
                      have hr0_6 := hr0_5.below hb hr0_5.lt
                      have hi3_6 := hi3_5.on (Below.same' hb _)
                      have hi7_6 := hi7_5.on (Below.same' hb _)
                      have sz6 := hb.size
                      have hnx6 := hnx5.below hb hnx5.lt
                      have hV6 := hV5.trans (hb.mono hV5.size)
                      clear hb
                      refine hK.out _ _ ⟨hnx6.cell rfl, hnx6.cell rfl, hnx6.cell rfl⟩ (fun hHeld => ?_)
                      clear hK K
                      try simp only [Act.put, List.getElem_toArray, List.getElem_cons_zero, List.getElem_cons_succ, List.setIfInBounds_toArray, List.set_cons_zero, List.set_cons_succ]
                      have r3 := hnx6.cell (i := 3) rfl
                      have f3 := hnx6.frozen 3
                      have r4 := hnx6.cell (i := 4) rfl
                      have f4 := hnx6.frozen 4
                      have r5 := hnx6.cell (i := 5) rfl
                      have f5 := hnx6.frozen 5
                      refine wpAnyH_done (by kernel_rfl) ?_ _
                      clear hHeld
                      show wpList _ _ _ _ _ _
                      go_wp2_with fail
                      show wpList _ _ _ _ _ _
                      go_wp2_with fail
                      show wpList _ _ _ _ _ _
                      go_wp2_with fail
                      show wpList _ _ _ _ _ _
                      go_wp2_with fail
                      show wpList _ _ _ _ _ _
                      go_wp2_with fail
                      obtain ⟨W, hW, hrw, hww⟩ := set345 hnx6 (.slice A3 n.next.length c3) (.slice A7 n.weights.length c7) (.slice A11 n.pay.length c11)
                      rw [← hW]
                      clear hW
                      clear r3 f3
                      clear r4 f4
                      clear r5 f5
                      have szw := hww.size
                      show Exit.then _ _ .normal _ _
                      go_wp2_with fail
                      go_meet
                      refine ⟨A3, c3, A7, c7, A11, c11, hrw, ?_, ?_, ?_, (Below.wrote hV6 _).trans hww⟩
                      · exact hi3_6.keep (fun b hb _ => by omega) (hww.same (fun b hb => by omega))
                      · exact hi7_6.keep (fun b hb _ => by omega) (hww.same (fun b hb => by omega))
                      · exact hi11_6.keep (fun b hb _ => by omega) (hww.same (fun b hb => by omega))
        case rest =>
          obtain ⟨A3', c3', A4', c4', A5', c5', hnx', j3, j4, j5, hww⟩ := hcut
          obtain ⟨wy, rfl⟩ : ∃ wy : World, wy = wc := ⟨_, rfl⟩
          have hbo1 := (hbo.below hb1 hbo.lt).wrote hww (by omega)
          have hbx1 := (hbx.below hb1 hbx.lt).wrote hww (by omega)
          have hrs1 := (hrs.below hb1 hrs.lt).wrote hww (by have := hrs.lt; omega)
          have hBy : Below w.heap.size w wy := Wrote.below HB1.out hww (fun k hk => by have := hB.size; omega) HB1.out.size
          have hyz := hww.size
          have HOY := Lib.hid (show wy.ownsRow wz.heap.size 45 6 vo L.length (L.flatMap NV.cells) from ⟨HO1.out.1, HO1.out.2.imp id (fun ⟨gg, cap, cur, h1, h2, h3, h4⟩ => ⟨gg, cap, cur, h1, h2, by
            have hgl : gg < wr.heap.size := (HO.out.lt gg (by rw [h1]; rfl)).2
            rw [hww.block gg (by omega) (by omega)]; exact h3, h4⟩)⟩)
          have hvo : ∀ b, vo.ownBlock = some b → wz.heap.size ≤ b ∧ b < wr.heap.size := fun b hb => HO.out.lt b hb
          have HVO := Lib.hid hvo; clear hvo
          have HJ := Lib.hid (And.intro j3 (And.intro j4 j5)); clear j3 j4 j5
          have HWW := Lib.hid hww; have HBB := Lib.hid hb1
          have y1 := hbo1.cell (i := 1) rfl
          have q0 := hnx'.cell (i := 0) rfl
          have q1 := hnx'.cell (i := 1) rfl
          have q2 := hnx'.cell (i := 2) rfl
          have q3 := hnx'.cell (i := 3) rfl
          have q4 := hnx'.cell (i := 4) rfl
          have q5 := hnx'.cell (i := 5) rfl
          have hnl := hnx'.lt
          have hbol3 := hbo1.lt
          clear hnx hb1 hww e0 e1 e2 e3 e4 e5 x1 hbo hbx hrs hB
          go_wp2_with (at_builtin; refine wpl_app_node rfl _ _ rfl wz.heap.size vo L rfl (HOY.out.alloc _) wy.heap.size ⟨n, .slice A3' n.next.length c3', .slice A4' n.weights.length c4', .slice A5' n.pay.length c5'⟩ rfl (heap_alloc_new _ _) ⟨rfl, rfl, rfl⟩ (by have h1 := congrArg List.length HL.out; simp at h1; omega) (by simp; omega) ?_; intro gg cap w3 hown3 hgrow hat hlt3; have hbo3 := (hbo1.alloc (.cells #[.int .i64 n.kind, .int .i64 n.player, .int .i64 n.info, .slice A3' n.next.length c3', .slice A4' n.weights.length c4', .slice A5' n.pay.length c5'] 45)).of_block (hgrow.block bo (by simp; omega) (fun e => by have := (HVO.out bo e.symm).1; omega)); have r1 := hbo3.cell (i := 1) rfl; have f1 := hbo3.frozen 1; have HO3 := Lib.hid hown3; have HGR := Lib.hid hgrow; have HAT := Lib.hid hat; clear hown3 hgrow hat)
          go_roundw
          case rel =>
            have hgr := HGR.out
            have hsz := hgr.size
            simp only [World.size_alloc] at hsz
            have hgb : ∀ b, b < wy.heap.size → vo.ownBlock ≠ some b → w3.heap[b]? = wy.heap[b]? := fun b hb hne => by
              rw [hgr.block b (by simp; omega) (fun e => hne e.symm)]; exact Below.heap_alloc _ _ _ hb
            have hkeep : ∀ (H : Foot), (∀ b, H b → b ≠ bo ∧ vo.ownBlock ≠ some b) → ∀ (u : Value), Same (fun b => H b ∧ b < wy.heap.size) wy (w3.setCell ⟨bo, 1, none⟩ u) := fun H hH u =>
              ⟨by simp; omega, fun b hb hl => by rw [Below.heap_setCell _ _ _ _ (hH b hb.1).1]; exact hgb b hl (hH b hb.1).2⟩
            have hry : ∀ (H : Foot), (∀ b, H b → b ≠ wr.heap.size) → Same H wr wy := fun H hH =>
              (Below.same' HBB.out H).trans (HWW.out.same (fun b hb => hH b hb))
            obtain ⟨j3, j4, j5⟩ := HJ.out
            have hbz : bo < wz.heap.size := hbol
            refine ⟨k + 1, L ++ [⟨n, .slice A3' n.next.length c3', .slice A4' n.weights.length c4', .slice A5' n.pay.length c5'⟩], .slice (some ⟨gg, 0, none⟩) (L.length + 1) cap, fun b => (G b ∨ wr.heap.size < b) ∧ b < wy.heap.size, by omega, by go_num, ?_, ?_, ?_, ?_, hbo3.set 1 _, ?_, ?_, ?_, ?_, by simp; omega⟩
            · rw [List.map_append, HL.out, take_snoc HX.out]; rfl
            · exact ⟨HO3.out.1, HO3.out.2.imp id (fun ⟨g', cap', cur, h1, h2, h3, h4⟩ => ⟨g', cap', cur, h1, h2, by rw [Below.heap_setCell _ _ _ _ (show g' ≠ bo by omega)]; exact h3, h4⟩)⟩
            · intro q hq
              rcases List.mem_append.1 hq with hq | hq
              · have h1 := (HFN.out q hq).keep (G := fun b => G b ∧ b < wr.heap.size) (fun b hb hl => ⟨hb, hl⟩) (Same.refl _ _)
                have h2 := h1.keep (G := fun b => (G b ∧ b < wr.heap.size) ∧ b < wy.heap.size) (fun b hb _ => ⟨hb, by omega⟩) (hry _ (fun b hb => by omega))
                exact h2.keep (fun b hb _ => ⟨.inl hb.1.1, hb.2⟩) (hkeep (fun b => G b ∧ b < wr.heap.size) (fun b hb => ⟨by have := (HG.out b hb.1).1; omega, (HG.out b hb.1).2.1⟩) _)
              · simp only [List.mem_cons, List.not_mem_nil, or_false] at hq
                subst hq
                have hs := hkeep (fun b => wr.heap.size < b) (fun b hb => ⟨by omega, fun e => by have := (HVO.out b e).2; omega⟩) (.slice (some ⟨gg, 0, none⟩) (L.length + 1) cap)
                exact ⟨j3.keep (fun b hb _ => ⟨.inr hb.1, hb.2⟩) hs, j4.keep (fun b hb _ => ⟨.inr hb.1, hb.2⟩) hs, j5.keep (fun b hb _ => ⟨.inr hb.1, hb.2⟩) hs⟩
            · intro b hb
              have hgx : gg ≠ b := by
                rintro rfl
                rcases HAT.out with h | h
                · rcases hb.1 with h1 | h1
                  · exact (HG.out gg h1).2.1 h
                  · have := (HVO.out gg h).2; omega
                · simp at h; omega
              refine ⟨?_, fun e => hgx (by simpa [Value.ownBlock] using e), by simp; omega⟩
              rcases hb.1 with h1 | h1
              · exact (HG.out b h1).1
              · omega
            · have h1 := HIO.out.keep (G := fun b => (w.heap.size + 1 < b ∧ b ≠ bo ∧ b < wz.heap.size) ∧ b < wy.heap.size) (fun b hb _ => ⟨hb, by omega⟩) (hry _ (fun b hb => by omega))
              exact h1.keep (fun b hb _ => hb.1) (hkeep (fun b => w.heap.size + 1 < b ∧ b ≠ bo ∧ b < wz.heap.size) (fun b hb => ⟨hb.2.1, fun e => by have := (HVO.out b e).1; omega⟩) _)
            · exact (hbx1.of_block (hgb _ hbx1.lt (fun e => by have := (HVO.out _ e).1; omega))).other (by simp; omega) _
            · exact (hrs1.of_block (hgb _ hrs1.lt (fun e => by have := (HVO.out _ e).1; omega))).other (by simp; omega) _
            · exact ((hBy.alloc hBy.size _).grown hgr (by have := hBy.size; simp; omega) (fun k hk => by have := (HVO.out k hk).1; omega)).setCell (by simp; omega) _
          case measure => simp [intOf] <;> omega
      · have hke : k = g.nodes.length := by omega
        have HKE := Lib.hid hke; clear hke
        have y0 := hbo.cell (i := 0) rfl
        have r0 := hrs.cell (i := 0) rfl
        have f0 := hrs.frozen 0
        have y1 := hbo.cell (i := 1) rfl
        have r1 := hrs.cell (i := 1) rfl
        have f1 := hrs.frozen 1
        have y2 := hbo.cell (i := 2) rfl
        have r2 := hrs.cell (i := 2) rfl
        have f2 := hrs.frozen 2
        obtain ⟨Ao, lo, co, rfl⟩ : ∃ Ao lo co, vo = .slice Ao lo co := by
          rcases HO.out.2 with ⟨h, _⟩ | ⟨gg, cap, cur, h, _⟩
          · exact ⟨_, _, _, h⟩
          · exact ⟨_, _, _, h⟩
        go_wp2
        obtain ⟨W, hW, hrw, hww⟩ := set3 hrs (.int .i64 g.players) (.slice Ao lo co) (.slice Ai' g.infos.length ci')
        rw [← hW]
        clear hW
        clear y0 r0 f0
        have r0 := hrw.cell (i := 0) rfl
        clear y1 r1 f1
        have r1 := hrw.cell (i := 1) rfl
        clear y2 r2 f2
        have r2 := hrw.cell (i := 2) rfl
        refine bodyPost_ret (v := .agg #[.int .i64 g.players, .slice Ao lo co, .slice Ai' g.infos.length ci']) (by simp [results, Try.results7, go_sem, r0, r1, r2]) rfl ?_
        have hwz := hww.size
        refine ⟨_, rfl, Wrote.below hB hww (fun k hk => by omega) hB.size, _, _, rfl, ?_, ?_⟩
        · have h1 := owns_nodes HO.out (F := fun b => wz.heap.size ≤ b) (fun b hb => (HO.out.lt b hb).1) (fun q hq => (HFN.out q hq).keep (fun b hb _ => (HG.out b hb).1) (Same.refl _ _))
          rw [HL.out, HKE.out, List.take_length] at h1
          exact h1.keep (fun b hb _ => by omega) (hww.same (fun b hb => by omega))
        · exact HIO.out.keep (fun b hb _ => by omega) (hww.same (fun b hb => by omega))
end Go.Proofs.Ytafjdoedallnbaa
