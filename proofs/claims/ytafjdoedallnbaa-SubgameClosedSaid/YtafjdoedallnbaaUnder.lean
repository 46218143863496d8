/- parlourref26.under: which nodes lie in the subtree of one of some nodes. -/
import Derived.Test.YtafjdoedallnbaaParentsOf
namespace Go.Proofs.Ytafjdoedallnbaa
open Go.RowKit

set_option maxRecDepth 100000 in
set_option maxHeartbeats 1600000 in
theorem under_any (w : World) (F : Foot) (u vr : Value) (g : Gm) (roots : List Int) (hg : GameAt w F u g) (hr : IntsAt w F vr roots) (hsm : Small g) (h0 : 0 < g.nodes.length) (hk : KidsIn g.nodes)
    (hl : roots.length ≤ 1000) (hin : ∀ r ∈ roots, 0 ≤ r ∧ r < (g.nodes.length : Int)) :
    Calls Try.prog 31 #[u, vr] w (Ret w fun v w' => BoolsAt w' (fun b => w.heap.size ≤ b) v (underL g.nodes roots)) := by
  have HG := Lib.hid hg
  obtain ⟨vn, vi, rfl, ⟨A, c, rfl, hc, hN⟩, hI⟩ := hg
  clear hN hI
  have HR := Lib.hid hr; clear hr
  have HK := Lib.hid hk; clear hk
  have hn := hsm.nodes
  have HS := Lib.hid hsm; clear hsm
  have HIN := Lib.hid hin; clear hin
  go_enter Try.func31, Try.ntmps31
  go_wp2_with fail
  refine (parentsOf_any _ F _ g (HG.out.on (Same.alloc _ _ _)) HS.out h0 HK.out).mono ?_
  rintro e w1 ⟨vp, rfl, hb1, hpar⟩
  have hbx := (Row.new w 25 #[.int .i64 g.players, .slice A g.nodes.length c, vi]).below hb1 (by simp)
  have x1 := hbx.cell (i := 1) rfl
  have hz1 := hb1.size
  simp only [World.size_alloc] at hz1
  have HP := Lib.hid hpar; clear hpar
  go_wp2_with (at_make; refine wpl_make _ rfl _ _ 58 rfl 4 (.bool false) 1 Try.underlying58 Try.infoBool rfl g.nodes.length rfl rfl (by omega) (by omega) ?_; intro w2 hb2 hz2 hrow2)
  obtain ⟨Ar, cr, rfl, hcr, hRr⟩ := (HR.out.on (Same.alloc _ _ _)).on (Below.same' hb1 F)
  have HRr := Lib.hid hRr; clear hRr
  go_loopw [7] (fun i wr => ∃ k : Nat, k ≤ roots.length ∧ i = .int .i64 k ∧ Row wr w1.heap.size 4 ((markL (roots.take k) (List.replicate g.nodes.length false)).map Value.bool) ∧ Below w1.heap.size w1 wr) (fun i _ => roots.length - (intOf i).toNat)
  case atStart => exact ⟨0, by omega, rfl, by simpa [markL] using hrow2, hb2⟩
  case round =>
    obtain ⟨k, hk, rfl, hrow, hbel⟩ := hrel
    have hold := below_old hbel
    by_cases hlt : k < roots.length
    · obtain ⟨b, o, rfl, _, hb, hx⟩ := HRr.out (by omega)
      obtain ⟨r, hr⟩ := getSome hlt
      have er := hx k r hr
      unfold intE at er
      rw [Nat.mul_one] at er
      obtain ⟨hr0, hr1⟩ := HIN.out r (List.mem_of_getElem? hr)
      have HX := Lib.hid hr; clear hr hx
      obtain ⟨y, hy⟩ := getSome (l := markL (roots.take k) (List.replicate g.nodes.length false)) (k := r.toNat) (by rw [markL_length]; simp; omega)
      have rc := hrow.cell (i := r.toNat) (v := .bool y) (by simp [hy])
      have fc := hrow.frozen r.toNat
      clear hy
      go_wp2
      go_roundw
      case rel =>
        refine ⟨k + 1, by omega, by go_num, ?_, hbel.setCell (Nat.le_refl _) _⟩
        have := hrow.set r.toNat (.bool true)
        rw [markL_snoc HX.out]
        simpa [List.map_set] using this
      case measure => simp [intOf]; omega
    · have hke : k = roots.length := by omega
      have hrow' : Row wr w1.heap.size 4 ((spTo (parentsL g.nodes) (markL roots (List.replicate g.nodes.length false)) 1).map Value.bool) := by
        subst hke; simpa [spTo] using hrow
      clear hrow hke
      have x1' := hbx.below hbel hbx.lt
      go_wp2
      go_loopw [8] (fun i wi => ∃ m : Nat, 1 ≤ m ∧ m ≤ g.nodes.length ∧ i = .int .i64 m ∧ Row wi w1.heap.size 4 ((spTo (parentsL g.nodes) (markL roots (List.replicate g.nodes.length false)) m).map Value.bool) ∧ Below w1.heap.size w1 wi) (fun i _ => g.nodes.length - (intOf i).toNat)
      case atStart => exact ⟨1, by omega, by omega, rfl, hrow', hbel⟩
      case round =>
        clear hrow' hold x1'
        obtain ⟨m, hm1, hm, rfl, hrow, hbel2⟩ := hrel
        have hold := below_old hbel2
        have hx1 := hbx.lt
        by_cases hmt : m < g.nodes.length
        · obtain ⟨Ap, cp, rfl, hcp, hPp⟩ := HP.out
          have hpl : (parentsL g.nodes).length = g.nodes.length := parTo_length _ _
          obtain ⟨bp, op, rfl, _, hbp, hxp⟩ := hPp (by omega)
          obtain ⟨p, hp⟩ := getSome (l := parentsL g.nodes) (k := m) (by omega)
          have ep := hxp m p hp
          unfold intE at ep
          rw [Nat.mul_one] at ep
          obtain ⟨hp0, hp1⟩ := parTo_range g.nodes g.nodes.length (Nat.le_refl _) m p hp (by omega)
          generalize hll : spTo (parentsL g.nodes) (markL roots (List.replicate g.nodes.length false)) m = ll at *
          have hlen : ll.length = g.nodes.length := by rw [← hll, spTo_length, markL_length]; simp
          obtain ⟨y, hy⟩ := getSome (l := ll) (k := m) (by omega)
          obtain ⟨z, hz⟩ := getSome (l := ll) (k := p.toNat) (by omega)
          have ry := hrow.cell (i := m) (v := .bool y) (by simp [hy])
          have rz := hrow.cell (i := p.toNat) (v := .bool z) (by simp [hz])
          have fc := hrow.frozen m
          have HL := Lib.hid hll; clear hll
          have hpm : m < (parentsL g.nodes).length := by omega
          clear hpl hlen
          have HST := Lib.hid (show spTo (parentsL g.nodes) (markL roots (List.replicate g.nodes.length false)) (m + 1) = ll.set m (y || z) by
            rw [spTo_succ _ _ _ hm1, HL.out]; unfold spStep
            simp [List.getD_eq_getElem?_getD, hy, hz, hp])
          clear hy hz hp hxp hPp
          cases y
          · go_wp2
            go_roundw
            case rel =>
              refine ⟨m + 1, by omega, by omega, by go_num, ?_, hbel2.setCell (Nat.le_refl _) _⟩
              have := hrow.set m (.bool z)
              rw [HST.out]
              simpa [List.map_set] using this
            case measure => simp [intOf]; omega
          · go_wp2
            go_roundw
            case rel =>
              refine ⟨m + 1, by omega, by omega, by go_num, ?_, hbel2.setCell (Nat.le_refl _) _⟩
              have := hrow.set m (.bool true)
              rw [HST.out]
              simpa [List.map_set] using this
            case measure => simp [intOf]; omega
        · go_wp2
          go_ret
          have hme : m = g.nodes.length := by omega
          subst hme
          refine ⟨_, rfl, ?_, ?_⟩
          · exact ((Below.refl w.heap.size w).alloc (Nat.le_refl _) _).trans ((hb1.mono (by simp)).trans (hbel2.mono (by omega)))
          · have hlen : (underL g.nodes roots).length = g.nodes.length := by unfold underL; rw [spTo_length, markL_length]; simp
            have := Row.bools (l := underL g.nodes roots) hrow (F := fun b => w.heap.size ≤ b) (by omega) (c := g.nodes.length) (by omega)
            rw [hlen] at this
            exact this
end Go.Proofs.Ytafjdoedallnbaa
