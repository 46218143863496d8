/- parlourref11.SetsOf: the nodes of each information set. -/
import Derived.Test.YtafjdoedallnbaaPeel
namespace Go.Proofs.Ytafjdoedallnbaa
open Go.RowKit

set_option maxRecDepth 100000 in
set_option maxHeartbeats 1600000 in
theorem setsOf_any (w : World) (F : Foot) (u : Value) (g : Gm) (hg : GameAt w F u g) (hsm : Small g) (hin : InfosIn g) :
    Calls Try.prog 38 #[u] w (Ret w fun v w' => RowsAt w' (fun b => w.heap.size ≤ b) v (setsL g)) := by
  obtain ⟨vn, vi, rfl, ⟨A, c, rfl, hc, hN⟩, ⟨Ai, ci, rfl, hci, hI⟩⟩ := hg
  have HN := Lib.hid hN; clear hN hI
  have hn := hsm.nodes
  have hni := hsm.infos
  have HIN := Lib.hid hin; clear hin
  go_enter Try.func38, Try.ntmps38
  go_wp2_with (at_make; refine wpl_make _ rfl _ _ 49 rfl 26 (.slice none 0 0) 24 Try.underlying49 Try.infoInts rfl g.infos.length rfl rfl (by omega) (by omega) ?_; intro w1 hb1 hz1 hrow1)
  simp only [World.size_alloc] at hb1 hz1 hrow1
  go_loopw [4] (fun i wr => ∃ (k : Nat) (vs : List Value), k ≤ g.nodes.length ∧ i = .int .i64 k ∧ Row wr w.heap.size 25 [.int .i64 g.players, .slice A g.nodes.length c, .slice Ai g.infos.length ci] ∧ Row wr (w.heap.size + 1) 26 vs ∧ OwnRows wr (w.heap.size + 2) 3 vs (setsTo g.nodes g.infos.length k) ∧ Below w.heap.size w wr) (fun i _ => g.nodes.length - (intOf i).toNat)
  case atStart =>
    refine ⟨0, _, by omega, rfl, ?_, hrow1, ?_, ?_⟩
    · exact (Row.new w _ _).below hb1 (by simp)
    · exact OwnRows.start _ _ _ _
    · exact ((Below.refl w.heap.size w).alloc (Nat.le_refl _) _).trans (hb1.mono (by omega))
  case round =>
    obtain ⟨k, vs, hk, rfl, hr, hrow, hown, hbel⟩ := hrel
    have x1 := hr.cell (i := 1) rfl
    by_cases hlt : k < g.nodes.length
    · obtain ⟨b, o, rfl, _, hb, hcell⟩ := HN.out (by omega)
      obtain ⟨n, hn'⟩ := getSome hlt
      obtain ⟨e0, e1, e2, ⟨v3, e3, A3, c3, rfl, hc3, i3⟩, ⟨v4, e4, A4, c4, rfl, hc4, i4⟩, ⟨v5, e5, A5, c5, rfl, hc5, i5⟩⟩ := hcell k n hn'
      clear i3 i4 i5 hcell
      have HX := Lib.hid hn'; clear hn'
      have hold := below_old hbel
      have hlr := hrow.lt
      by_cases hkd : n.kind = 2
      · obtain ⟨hin0, hin1⟩ := HIN.out n (List.mem_of_getElem? HX.out) hkd
        have hd : (n.kind == 2) = true := by simp [hkd]
        have HKD := Lib.hid hkd; clear hkd
        obtain ⟨l, hl⟩ := getSome (l := setsTo g.nodes g.infos.length k) (k := n.info.toNat) (by rw [setsTo_length]; omega)
        obtain ⟨v, hv⟩ := getSome (l := vs) (k := n.info.toNat) (by rw [hown.len, setsTo_length]; omega)
        have rv := hrow.cell hv
        have fv := hrow.frozen n.info.toNat
        have ho := hown.own _ v l hv hl
        have hll := setsTo_len l (List.mem_of_getElem? hl)
        have HO := Lib.hid ho; clear ho
        have HL := Lib.hid hl; clear hl
        have HV := Lib.hid hv; clear hv
        go_wp2
        obtain ⟨W, hW⟩ : ∃ W : World, W = wr.alloc (.cells #[.int .i64 n.kind, .int .i64 n.player, .int .i64 n.info, .slice A3 n.next.length c3, .slice A4 n.weights.length c4, .slice A5 n.pay.length c5] 45) := ⟨_, rfl⟩
        rw [← hW]
        have cx : W.cell? ⟨wr.heap.size, 2, none⟩ = some (.int .i64 n.info) := by rw [hW]; simp
        have hWz : W.heap.size = wr.heap.size + 1 := by rw [hW]; simp
        have hWo : OwnRows W (w.heap.size + 2) 3 vs (setsTo g.nodes g.infos.length k) := by rw [hW]; exact hown.alloc _
        have hWr : Row W w.heap.size 25 [.int .i64 g.players, .slice (some ⟨b, o, none⟩) g.nodes.length c, .slice Ai g.infos.length ci] := by rw [hW]; exact hr.alloc _
        have hWw : Row W (w.heap.size + 1) 26 vs := by rw [hW]; exact hrow.alloc _
        have hWb : Below w.heap.size w W := by rw [hW]; exact hbel.alloc hbel.size _
        have rv := hWw.cell HV.out
        have fv := hWw.frozen n.info.toNat
        have HOW := Lib.hid (hWo.own _ v l HV.out HL.out)
        have hWlt : wr.heap.size < W.heap.size := by omega
        have HHW := Lib.hid hWz; have hWle : w.heap.size + 2 < W.heap.size := by omega
        clear hW hWz hr hrow hown hbel x1 hold e0 e1 e2 e3 e4 e5 hlr
        have HWR := Lib.hid (And.intro hWr (And.intro hWw (And.intro hWo hWb))); clear hWr hWw hWo hWb
        refine wp_peel2 (fun w' => w'.cell? ⟨wr.heap.size, 2, none⟩ = some (.int .i64 n.info) ∧ w'.cell? ⟨w.heap.size + 1, n.info.toNat, none⟩ = some v) 11 (by kernel_rfl) rfl rfl (by kernel_rfl) (by kernel_rfl) (by kernel_rfl) (by kernel_rfl) ⟨cx, rv⟩ ?_
        have hHeld : (fun w' : World => w'.cell? ⟨wr.heap.size, 2, none⟩ = some (.int .i64 n.info) ∧ w'.cell? ⟨w.heap.size + 1, n.info.toNat, none⟩ = some v) W.drew := ⟨cx, rv⟩
        simp only [List.take_succ_cons, List.take_zero]
        refine wpAnyH_take (i := 0) (v := ?_) rfl (by kernel_rfl) (by kernel_rfl) (by kernel_rfl) (fun _ _ _ h => h) (Or.inl ⟨by rfl, ?_⟩) hHeld ?_
        rotate_left
        · intro wx hSx; (try dsimp only at hSx); go_split_ands; go_simp; try (with_reducible rfl)
        try simp only [Act.put, List.getElem_toArray, List.getElem_cons_zero, List.getElem_cons_succ, List.setIfInBounds_toArray, List.set_cons_zero, List.set_cons_succ]
        refine wpAnyH_take (i := 1) (v := ?_) rfl (by kernel_rfl) (by kernel_rfl) (by kernel_rfl) (fun _ _ _ h => h) (Or.inl ⟨by rfl, ?_⟩) hHeld ?_
        rotate_left
        · intro wx hSx; (try dsimp only at hSx); go_split_ands; go_simp; try (with_reducible rfl)
        try simp only [Act.put, List.getElem_toArray, List.getElem_cons_zero, List.getElem_cons_succ, List.setIfInBounds_toArray, List.set_cons_zero, List.set_cons_succ]
        refine wpAnyH_take (i := 2) (v := ?_) rfl (by kernel_rfl) (by kernel_rfl) (by kernel_rfl) (fun _ _ _ h => h) (Or.inl ⟨by rfl, ?_⟩) hHeld ?_
        rotate_left
        · intro wx hSx; (try dsimp only at hSx); go_split_ands; go_simp; try (with_reducible rfl)
        try simp only [Act.put, List.getElem_toArray, List.getElem_cons_zero, List.getElem_cons_succ, List.setIfInBounds_toArray, List.set_cons_zero, List.set_cons_succ]
        refine wpAnyH_take (i := 3) (v := ?_) rfl (by kernel_rfl) (by kernel_rfl) (by kernel_rfl) (fun _ _ _ h => h) (Or.inl ⟨by rfl, ?_⟩) hHeld ?_
        rotate_left
        · intro wx hSx; (try dsimp only at hSx); go_split_ands; go_simp; try (with_reducible rfl)
        try simp only [Act.put, List.getElem_toArray, List.getElem_cons_zero, List.getElem_cons_succ, List.setIfInBounds_toArray, List.set_cons_zero, List.set_cons_succ]
        refine wpAnyH_take (i := 4) (v := ?_) rfl (by kernel_rfl) (by kernel_rfl) (by kernel_rfl) (fun _ _ _ h => h) (Or.inl ⟨by rfl, ?_⟩) hHeld ?_
        rotate_left
        · intro wx hSx; (try dsimp only at hSx); go_split_ands; go_simp; try (with_reducible rfl)
        try simp only [Act.put, List.getElem_toArray, List.getElem_cons_zero, List.getElem_cons_succ, List.setIfInBounds_toArray, List.set_cons_zero, List.set_cons_succ]
        refine wpAnyH_take (i := 5) (v := ?_) rfl (by kernel_rfl) (by kernel_rfl) (by kernel_rfl) (fun _ _ _ h => h) (Or.inl ⟨by rfl, ?_⟩) hHeld ?_
        rotate_left
        · intro wx hSx; (try dsimp only at hSx); go_split_ands; go_simp; try (with_reducible rfl)
        try simp only [Act.put, List.getElem_toArray, List.getElem_cons_zero, List.getElem_cons_succ, List.setIfInBounds_toArray, List.set_cons_zero, List.set_cons_succ]
        refine wpAnyH_take (i := 6) (v := ?_) rfl (by kernel_rfl) (by kernel_rfl) (by kernel_rfl) (fun _ _ _ h => h) (Or.inl ⟨by rfl, ?_⟩) hHeld ?_
        rotate_left
        · intro wx hSx; (try dsimp only at hSx); go_split_ands; go_simp; try (with_reducible rfl)
        try simp only [Act.put, List.getElem_toArray, List.getElem_cons_zero, List.getElem_cons_succ, List.setIfInBounds_toArray, List.set_cons_zero, List.set_cons_succ]
        refine wpAnyH_take (i := 7) (v := ?_) rfl (by kernel_rfl) (by kernel_rfl) (by kernel_rfl) (fun _ _ _ h => h) (Or.inl ⟨by rfl, ?_⟩) hHeld ?_
        rotate_left
        · intro wx hSx; (try dsimp only at hSx); go_split_ands; go_simp; try (with_reducible rfl)
        try simp only [Act.put, List.getElem_toArray, List.getElem_cons_zero, List.getElem_cons_succ, List.setIfInBounds_toArray, List.set_cons_zero, List.set_cons_succ]
        refine wpAnyH_take (i := 8) (v := ?_) rfl (by kernel_rfl) (by kernel_rfl) (by kernel_rfl) (fun _ _ _ h => h) (Or.inl ⟨by rfl, ?_⟩) hHeld ?_
        rotate_left
        · intro wx hSx; (try dsimp only at hSx); go_split_ands; go_simp; try (with_reducible rfl)
        try simp only [Act.put, List.getElem_toArray, List.getElem_cons_zero, List.getElem_cons_succ, List.setIfInBounds_toArray, List.set_cons_zero, List.set_cons_succ]
        refine wpAnyH_ready (rs := [9]) (by kernel_rfl) (by simp) ?_
        refine AllReadyH.cons (o := _) rfl (fun K hK => ?_) AllReadyH.nil
        go_simp
        refine hK.out _ _ ⟨by rw [World.cell?_drew, World.cell?_alloc_lt _ _ _ (by simp; omega)]; exact cx, by rw [World.cell?_drew, World.cell?_alloc_lt _ _ _ (by simp; omega)]; exact rv⟩ (fun hHeld => ?_)
        clear hK K
        try simp only [Act.put, List.setIfInBounds_toArray, List.set_cons_zero, List.set_cons_succ]
        refine wpAnyH_ready (rs := [10]) (by kernel_rfl) (by simp) ?_
        refine AllReadyH.cons (o := _) rfl (fun K hK => ?_) AllReadyH.nil
        refine step_app_int (by rfl) _ _ (by rfl) (w.heap.size + 2) v l (by rfl) (HOW.out.alloc _) W.heap.size k (by rfl) (heap_alloc_new W _) (by omega) (by simp; omega) ?_
        intro gg cap w1 hown1 hgrow hat hlt1
        have hnb : ∀ b, v.ownBlock = some b → w.heap.size + 2 ≤ b := fun b hb => (HOW.out.lt b hb).1
        have hHG : ∀ b, b < w.heap.size + 2 → w1.heap[b]? = W.heap[b]? := fun b hb => by
          rw [hgrow.block b (by simp; omega) (fun e => by have := hnb b e.symm; omega)]
          exact Below.heap_alloc W _ b (by omega)
        obtain ⟨hWr, hWw, hWo, hWb⟩ := HWR.out
        have k1 : Row w1 w.heap.size _ _ := hWr.of_block (hHG _ (by omega))
        have k2 : Row w1 (w.heap.size + 1) _ _ := hWw.of_block (hHG _ (by omega))
        have k3 := ((hWo.alloc _).drew).put HV.out hown1 hgrow rfl hat
        have k4 : Below w.heap.size w w1 := ((hWb.alloc (by omega) _).drew).grown hgrow (by simp; omega) (fun k hk => by have := hnb k hk; omega)
        have rv1 := k2.cell HV.out
        have fv1 := k2.frozen n.info.toNat
        have KK := Lib.hid (And.intro k1 (And.intro k2 (And.intro k3 k4)))
        refine hK.out _ _ ⟨?_, rv1⟩ (fun hHeld => ?_)
        · rw [hgrow.cell_far _ (by simp; omega) (fun e => by have := (HO.out.lt _ e.symm).2; simp at this), World.cell?_drew, World.cell?_alloc_lt _ _ _ (by simp; omega)]; exact cx
        clear hK K k1 k2 k3 k4 hWr hWw hWo hWb hHG hgrow hown1 hat cx rv fv
        try simp only [Act.put, List.setIfInBounds_toArray, List.set_cons_zero, List.set_cons_succ]
        refine wpAnyH_done (by kernel_rfl) ?_ _
        show wpList _ _ _ _ _ _
        go_wp2
        show wpList _ _ _ _ _ _
        go_wp2
        go_roundw
        case rel =>
          obtain ⟨k1, k2, k3, k4⟩ := KK.out
          refine ⟨k + 1, _, by omega, by go_num, k1.other (by simp) _, k2.set _ _, ?_, k4.setCell (by simp) _⟩
          rw [setsTo_move HX.out HKD.out HL.out]
          exact k3.setCell (by simp) _
        case measure => simp [intOf]; omega
      · have hd : (n.kind == 2) = false := by simp [hkd]
        have HKD := Lib.hid hkd; clear hkd
        go_wp2
        go_roundw
        case rel =>
          refine ⟨k + 1, vs, by omega, by go_num, by repeat (first | exact hr | refine Row.alloc ?_ _ | refine Row.other ?_ (by have := hr.lt; simp; omega) _), by repeat (first | exact hrow | refine Row.alloc ?_ _ | refine Row.other ?_ (by simp; omega) _), ?_, by repeat (first | exact hbel | refine Below.alloc ?_ hbel.size _ | refine Below.setCell ?_ hbel.size _)⟩
          rw [setsTo_skip HX.out HKD.out]
          repeat (first | exact hown | refine OwnRows.alloc ?_ _)
        case measure => simp [intOf]; omega
    · go_wp2
      go_ret
      refine ⟨_, rfl, hbel, ?_⟩
      have hke : k = g.nodes.length := by omega
      subst hke
      have h1 : (setsL g).length = g.infos.length := setsTo_length _ _ _
      have := OwnRows.rows (F := fun b => w.heap.size ≤ b) hown hrow (by omega) (fun _ _ => by omega) (c := g.infos.length) (by rw [setsTo_length]; omega)
      rw [setsTo_length] at this
      exact this
end Go.Proofs.Ytafjdoedallnbaa
