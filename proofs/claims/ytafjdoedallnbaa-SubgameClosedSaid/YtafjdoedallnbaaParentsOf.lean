/- parlourref11.ParentsOf returns the parents of a game whose children are nodes. -/
import Derived.Test.YtafjdoedallnbaaPure1
namespace Go.Proofs.Ytafjdoedallnbaa
open Go.RowKit

set_option maxHeartbeats 400000 in
theorem parentsOf_any (w : World) (F : Foot) (v : Value) (g : Gm) (hg : GameAt w F v g) (hsm : Small g) (h0 : 0 < g.nodes.length) (hk : KidsIn g.nodes) :
    Calls Try.prog 48 #[v] w (Ret w fun v w' => IntsAt w' (fun b => w.heap.size ≤ b) v (parentsL g.nodes)) := by
  obtain ⟨vn, vi, rfl, ⟨A, c, rfl, hc, hN⟩, hI⟩ := hg
  obtain ⟨b, o, rfl, hbF, hbB, hN⟩ := hN h0
  have HN := Lib.hid hN; clear hN
  have HK := Lib.hid hk; clear hk
  have hn := hsm.nodes
  have HS := Lib.hid hsm; clear hsm
  go_enter Try.func48, Try.ntmps48
  go_wp2_with (at_make; refine wpl_make _ rfl _ _ 26 rfl 3 (.int .i64 0) 8 Try.underlying26 Try.infoInt rfl g.nodes.length rfl rfl (by omega) (by omega) ?_; intro w1 hbel1 hsz1 hrow1; have r0 := hrow1.cell (i := 0) (v := .int .i64 0) (by simp [h0]); have f0 := hrow1.frozen 0; simp at r0 f0)
  go_loopw [4] (fun i wr => ∃ k : Nat, k ≤ g.nodes.length ∧ i = .int .i64 k ∧ wr.cell? ⟨w.heap.size, 1, none⟩ = some (.slice (some ⟨b, o, none⟩) g.nodes.length c) ∧ Row wr (w.heap.size + 1) 3 ((parTo g.nodes k).map (Value.int .i64)) ∧ Below w.heap.size w wr) (fun i _ => g.nodes.length - (intOf i).toNat)
  case atStart =>
    refine ⟨0, by omega, rfl, ?_, ?_, ?_⟩
    · rw [World.cell?_setCell_other _ _ _ _ (by simp), below_old hbel1 _ _ (by simp)]; simp
    · have := hrow1.set 0 (.int .i64 (-1))
      simp only [World.size_alloc] at this
      simpa [parTo, List.map_set] using this
    · exact (((Below.refl _ _).alloc (Nat.le_refl _) _).trans (hbel1.mono (by simp))).setCell (by simp) _
  case round =>
    obtain ⟨k, hk, rfl, hbox, hrow, hbel⟩ := hrel
    by_cases hlt : k < g.nodes.length
    · obtain ⟨n, hn'⟩ := getSome hlt
      have hnode := HN.out k n hn'
      obtain ⟨v3, e3, A3, c3, rfl, hc3, hN3⟩ := hnode.c3
      have hl3 := HS.out.next n (List.mem_of_getElem? hn')
      have HN3 := Lib.hid hN3; clear hN3 hnode
      have HN' := Lib.hid hn'; clear hn'
      have hold := below_old hbel
      go_wp2
      go_loopw [5] (fun i wi => ∃ j : Nat, j ≤ n.next.length ∧ i = .int .i64 j ∧ wi.cell? ⟨w.heap.size, 1, none⟩ = some (.slice (some ⟨b, o, none⟩) g.nodes.length c) ∧ Row wi (w.heap.size + 1) 3 ((parKids (n.next.take j) k (parTo g.nodes k)).map (Value.int .i64)) ∧ Below w.heap.size w wi) (fun i _ => n.next.length - (intOf i).toNat)
      case atStart => exact ⟨0, by omega, rfl, hbox, by simpa [parKids] using hrow, hbel⟩
      case round =>
        clear hbox hrow hold
        obtain ⟨j, hj, rfl, hbox, hrow, hbel2⟩ := hrel
        have hold := below_old hbel2
        by_cases hjt : j < n.next.length
        · obtain ⟨ch, hch⟩ := getSome hjt
          obtain ⟨b3, o3, rfl, hb3, hb3B, hx3⟩ := HN3.out (by omega)
          have ec := hx3 j ch hch
          unfold intE at ec
          rw [Nat.mul_one] at ec
          obtain ⟨hch0, hch1⟩ := HK.out n (List.mem_of_getElem? HN'.out) ch (List.mem_of_getElem? hch)
          have HCH := Lib.hid hch; clear hch hx3
          obtain ⟨x, hx⟩ := getSome (l := parKids (n.next.take j) k (parTo g.nodes k)) (k := ch.toNat) (by rw [parKids_length, parTo_length]; omega)
          have rc := hrow.cell (i := ch.toNat) (v := .int .i64 x) (by simp [hx])
          have fc := hrow.frozen ch.toNat
          clear hx
          go_wp2
          go_roundw
          case rel =>
            refine ⟨j + 1, by omega, by go_num, ?_, ?_, hbel2.setCell (by simp) _⟩
            · rw [World.cell?_setCell_other _ _ _ _ (by simp)]; exact hbox
            · have := hrow.set ch.toNat (.int .i64 k)
              rw [parKids_snoc HCH.out]
              simpa [List.map_set] using this
          case measure => simp [intOf]; omega
        · go_wp2
          go_roundw
          case rel =>
            have : j = n.next.length := by omega
            subst this
            refine ⟨k + 1, by omega, by go_num, hbox, ?_, hbel2⟩
            rw [parTo_succ HN'.out]
            simpa using hrow
          case measure => simp [intOf]; omega
    · go_wp2
      go_ret
      have : k = g.nodes.length := by omega
      subst this
      refine ⟨_, rfl, hbel, ?_⟩
      have hl : (parentsL g.nodes).length = g.nodes.length := parTo_length _ _
      have := hrow.ints (F := fun b => w.heap.size ≤ b) (by omega) (c := g.nodes.length) (by rw [parTo_length]; omega)
      rw [parTo_length] at this
      exact this
end Go.Proofs.Ytafjdoedallnbaa
