/- recall.walker.sets: the error of the information sets -/
import Derived.Test.YtafjdoedallnbaaJ07
import Derived.Test.YtafjdoedallnbaaJ04
namespace Go.Proofs.Ytafjdoedallnbaa
open Go.RowKit
def firstsL : List Nd → Nat → List Int → List Int
 | [], _, f => f
 | x :: l, i, f => if x.kind = 2 then (firstsL l (i + 1) f).set x.info.toNat ((i : Int) + 1) else firstsL l (i + 1) f
theorem firstsL_length : ∀ (l : List Nd) (i : Nat) (f : List Int), (firstsL l i f).length = f.length
 | [], _, _ => rfl
 | x :: l, i, f => by
  unfold firstsL
  split
  ·simp [firstsL_length l]
  ·exact firstsL_length l _ _
theorem firstsL_drop {l : List Nd} {k : Nat} {x : Nd} (h : l[k]? = some x) (i : Nat) (f : List Int) : firstsL (l.drop k) i f = if x.kind = 2 then (firstsL (l.drop (k + 1)) (i + 1) f).set x.info.toNat ((i : Int) + 1) else firstsL (l.drop (k + 1)) (i + 1) f := by
 have hl := lt_of_get h
 rw [List.drop_eq_getElem_cons hl]
 have : l[k] = x := by simpa [hl] using h
 rw [this]; rfl
def firstsOf (g : Gm) : List Int := firstsL g.nodes 0 (List.replicate g.infos.length 0)
def setsErrP (g : Gm) : Int := if typeBad g then 10 else if (firstsOf g).contains 0 then 18 else if sortedL (firstsOf g) then 0 else 9
set_option maxRecDepth 100000 in
set_option maxHeartbeats 3200000 in
theorem setsP_any (w : World) (F : Foot) (p : Nat) (g : Gm) (A Ai : Option Addr) (c ci : Nat) (h1 : w.cell? ⟨p, 1, none⟩ = some (.slice A g.nodes.length c)) (h2 : w.cell? ⟨p, 2, none⟩ = some (.slice Ai g.infos.length ci)) (hp : p < w.heap.size)
  (hn : NodesAt w F (.slice A g.nodes.length c) g.nodes) (hi : InfosAt w F (.slice Ai g.infos.length ci) g.infos) (hsm : Small g) (hin : InfosIn g) (h0 : 0 < g.nodes.length) :
  Calls Try.prog 62 #[.pointer (some ⟨p, 0, none⟩)] w (Ret w fun v _ => v = .int .i64 (setsErrP g)) := by
 have hsn := hsm.nodes
 have hsi := hsm.infos
 have HS := Lib.hid hsm; clear hsm
 have HIN := Lib.hid hin; clear hin
 obtain ⟨A', c', he, _, hN⟩ := hn
 injection he with e1 e2 e3
 subst e1 e3
 clear e2
 obtain ⟨b, o, rfl, hbF, hb, hcell⟩ := hN h0
 clear hN
 have HN := Lib.hid hcell; clear hcell
 obtain ⟨A', c', he, _, hI⟩ := hi
 injection he with e1 e2 e3
 subst e1 e3
 clear e2
 have HI := Lib.hid hI; clear hI
 have hsub : ((g.nodes.length : Int) - 1) = ((g.nodes.length - 1 : Nat) : Int) := by omega
 go_enter Try.func62, Try.ntmps62
 go_wp2_with (at_make; refine wpl_make _ rfl _ _ 26 rfl 3 (.int .i64 0) 8 Try.underlying26 Try.infoInt rfl g.infos.length rfl rfl (by omega) (by omega) ?_; intro w1 hb1 hz1 hrow1; have x1 := (below_old hb1 p 1 hp).trans h1; have x2 := (below_old hb1 p 2 hp).trans h2)
 go_loopw [4] (fun i wr => ∃ k : Nat, k ≤ g.nodes.length ∧ i = .int .i64 ((k : Int) - 1) ∧ Row wr w.heap.size 3 (intsV (firstsL (g.nodes.drop k) k (List.replicate g.infos.length 0))) ∧ Below w.heap.size w wr) (fun i _ => (intOf i + 1).toNat)
 case atStart =>
  refine ⟨g.nodes.length, by omega, by rw [← hsub], ?_, hb1⟩
  simpa [firstsL, intsV] using hrow1
 case round =>
  clear hb1 hz1 hrow1 x1 x2 w1
  obtain ⟨k, hk, rfl, hrow, hbel⟩ := hrel
  have x1 := (below_old hbel p 1 hp).trans h1
  have x2 := (below_old hbel p 2 hp).trans h2
  have hlr := hrow.lt
  by_cases hlt : 0 < k
  ·obtain ⟨q, rfl⟩ : ∃ q, k = q + 1 := ⟨k - 1, by omega⟩
   have i1 : (((q + 1 : Nat) : Int) - 1) = (q : Int) := by omega
   rw [i1]
   clear i1
   obtain ⟨n, hn'⟩ := getSome (l := g.nodes) (k := q) (by omega)
   obtain ⟨e0, e1, e2, ⟨v3, e3, A3, c3, rfl, hc3, i3⟩, ⟨v4, e4, A4, c4, rfl, hc4, i4⟩, ⟨v5, e5, A5, c5, rfl, hc5, i5⟩⟩ := HN.out q n hn'
   clear i3 i4 i5
   have hold := below_old hbel
   have HFD := Lib.hid (firstsL_drop hn' q (List.replicate g.infos.length 0))
   have HM := Lib.hid (List.mem_of_getElem? hn'); clear hn'
   have hqn : q < g.nodes.length := by omega
   by_cases hkd : n.kind = 2
   ·obtain ⟨hin0, hin1⟩ := HIN.out n HM.out hkd
    have hd : (n.kind == 2) = true := by simp [hkd]
    have HF2 := Lib.hid (show firstsL (g.nodes.drop q) q (List.replicate g.infos.length 0) = (firstsL (g.nodes.drop (q + 1)) (q + 1) (List.replicate g.infos.length 0)).set n.info.toNat ((q : Int) + 1) by rw [HFD.out, if_pos hkd])
    clear hkd
    have hfl := firstsL_length (g.nodes.drop (q + 1)) (q + 1) (List.replicate g.infos.length 0)
    rw [List.length_replicate] at hfl
    generalize firstsL (g.nodes.drop (q + 1)) (q + 1) (List.replicate g.infos.length 0) = fs at *
    obtain ⟨y, hy⟩ := getSome (l := fs) (k := n.info.toNat) (by omega)
    have rc := hrow.cell (i := n.info.toNat) (v := .int .i64 y) (by simp [intsV, hy])
    have fc := hrow.frozen n.info.toNat
    clear hy
    have HFL := Lib.hid hfl; clear hfl
    go_wp2
    go_roundw
    case rel =>
     refine ⟨q, by omega, rfl, ?_, (hbel.setCell (Nat.le_refl _) _).alloc (by simpa using hbel.size) _⟩
     rw [HF2.out]
     have := (hrow.set n.info.toNat (.int .i64 ((q : Int) + 1))).alloc (.cells #[.int .i64 n.kind, .int .i64 n.player, .int .i64 n.info, .slice A3 n.next.length c3, .slice A4 n.weights.length c4, .slice A5 n.pay.length c5] 45)
     simpa [intsV, List.map_set] using this
    case measure => simp [intOf] <;> omega
   ·have hd : (n.kind == 2) = false := by simp [hkd]
    have HF2 := Lib.hid (show firstsL (g.nodes.drop q) q (List.replicate g.infos.length 0) = firstsL (g.nodes.drop (q + 1)) (q + 1) (List.replicate g.infos.length 0) by rw [HFD.out, if_neg hkd])
    clear hkd
    go_wp2
    go_roundw
    case rel => exact ⟨q, by omega, rfl, by rw [HF2.out]; exact hrow.alloc _, hbel.alloc hbel.size _⟩
    case measure => simp [intOf] <;> omega
  ·obtain rfl : k = 0 := by omega
   have hfs : firstsL (g.nodes.drop 0) 0 (List.replicate g.infos.length 0) = firstsOf g := by simp [firstsOf]
   rw [hfs] at hrow
   clear hfs
   go_wp2
   go_loopw [49] (fun i wr' => ∃ k : Nat, k ≤ g.nodes.length ∧ i = .int .i64 k ∧ Row wr' w.heap.size 3 (intsV (firstsOf g)) ∧ Below w.heap.size w wr' ∧ (g.nodes.take k).any (typeBadAt g.infos) = false) (fun i _ => g.nodes.length - (intOf i).toNat)
   case atStart => exact ⟨0, by omega, rfl, hrow, hbel, by simp⟩
   case round =>
    clear hrow hbel x1 x2 hlr
    obtain ⟨k, hk, rfl, hrow, hbel, hpre⟩ := hrel
    have HP := Lib.hid hpre; clear hpre
    have x2 := (below_old hbel p 2 hp).trans h2
    have hlr := hrow.lt
    have hold := below_old hbel
    by_cases hlt : k < g.nodes.length
    ·obtain ⟨n, hn'⟩ := getSome hlt
     obtain ⟨e0, e1, e2, ⟨v3, e3, A3, c3, rfl, hc3, i3⟩, ⟨v4, e4, A4, c4, rfl, hc4, i4⟩, ⟨v5, e5, A5, c5, rfl, hc5, i5⟩⟩ := HN.out k n hn'
     clear i3 i4 i5
     have HX := Lib.hid hn'
     have HM := Lib.hid (List.mem_of_getElem? hn'); clear hn'
     by_cases hkd : n.kind = 2
     ·obtain ⟨hin0, hin1⟩ := HIN.out n HM.out hkd
      have hd : (n.kind == 2) = true := by simp [hkd]
      obtain ⟨bi, oi, rfl, hbiF, hbi, hic⟩ := HI.out (by omega)
      obtain ⟨inf, hinf⟩ := getSome (l := g.infos) (k := n.info.toNat) (by omega)
      obtain ⟨f0, f1⟩ := hic n.info.toNat inf hinf
      have HTB := Lib.hid (show typeBadAt g.infos n = (decide (inf.player ≠ n.player) || decide (inf.actions ≠ (n.next.length : Int))) by unfold typeBadAt; simp [hkd, hinf, List.getD_eq_getElem?_getD])
      clear hkd hic hinf
      have hpw : p < wr.heap.size := Nat.lt_of_lt_of_le hp hbel.size
      have hbiw : bi < wr.heap.size := Nat.lt_of_lt_of_le hbi hbel.size
      by_cases t1 : inf.player = n.player
      ·by_cases t2 : inf.actions = (n.next.length : Int)
       ·have HT := Lib.hid (show typeBadAt g.infos n = false by rw [HTB.out]; simp [t1, t2])
        have t1' : (inf.player == n.player) = true := by simp [t1]
        have t2' : (inf.actions == (n.next.length : Int)) = true := by simp [t2]
        clear t1 t2
        go_wp2
        go_quiet (fail)
        go_wp2
        go_roundw
        case rel => exact ⟨k + 1, by omega, by go_num, (hrow.alloc _).dN _, below_dN (hbel.alloc hbel.size _) _, any_snoc HX.out HP.out HT.out⟩
        case measure => simp [intOf]; omega
       ·have HF := Lib.hid (show setsErrP g = 10 by
         unfold setsErrP; rw [if_pos]; unfold typeBad; rw [List.any_eq_true]; exact ⟨n, HM.out, by rw [HTB.out]; simp [t2]⟩)
        have t1' : (inf.player == n.player) = true := by simp [t1]
        have t2' : (inf.actions == (n.next.length : Int)) = false := by simp [t2]
        clear t1 t2
        go_wp2
        go_quiet (fail)
        go_wp2
        go_ret
        exact ⟨_, rfl, below_dN (hbel.alloc hbel.size _) _, by rw [HF.out]; rfl⟩
      ·have HF := Lib.hid (show setsErrP g = 10 by
        unfold setsErrP; rw [if_pos]; unfold typeBad; rw [List.any_eq_true]; exact ⟨n, HM.out, by rw [HTB.out]; simp [t1]⟩)
       have t1' : (inf.player == n.player) = false := by simp [t1]
       clear t1
       go_wp2
       go_quiet (fail)
       go_wp2
       go_ret
       exact ⟨_, rfl, below_dN (hbel.alloc hbel.size _) _, by rw [HF.out]; rfl⟩
     ·have hd : (n.kind == 2) = false := by simp [hkd]
      have HTB := Lib.hid (show typeBadAt g.infos n = false by unfold typeBadAt; simp [hkd])
      clear hkd
      go_wp2
      go_quiet (fail)
      go_wp2
      go_roundw
      case rel => exact ⟨k + 1, by omega, by go_num, (hrow.alloc _).dN _, below_dN (hbel.alloc hbel.size _) _, any_snoc HX.out HP.out HTB.out⟩
      case measure => simp [intOf]; omega
    ·have HT := Lib.hid (show typeBad g = false by
      have := HP.out; rw [List.take_of_length_le (by omega)] at this; exact this)
     have hfl : (firstsOf g).length = g.infos.length := by unfold firstsOf; rw [firstsL_length]; simp
     have HI2 := Lib.hid (show IntsAt wr (fun k => k = w.heap.size) (.slice (some ⟨w.heap.size, 0, none⟩) g.infos.length g.infos.length) (firstsOf g) by
      have := Row.ints (F := fun k => k = w.heap.size) hrow rfl (c := g.infos.length) (by omega)
      rwa [hfl] at this)
     go_wp2_with fail
     refine (contains_any _ _ _ _ 0 HI2.out (by omega)).mono ?_
     rintro e w2 ⟨rfl, rfl⟩
     have HFF := Lib.hid (show setsErrP g = if (firstsOf g).contains 0 then 18 else if sortedL (firstsOf g) then 0 else 9 by unfold setsErrP; rw [HT.out]; rfl)
     generalize hco : (firstsOf g).contains 0 = co at *
     dsimp only
     cases co
     ·go_wp2_with fail
      refine (isSorted_any _ _ _ _ HI2.out (by omega)).mono ?_
      rintro e w2 ⟨_, rfl, hb2, rfl⟩
      generalize hso : sortedL (firstsOf g) = so at *
      dsimp only
      cases so
      ·go_wp2
       go_ret
       exact ⟨_, rfl, hbel.trans (hb2.mono hbel.size), by rw [HFF.out]; rfl⟩
      ·go_wp2
       go_ret
       exact ⟨_, rfl, hbel.trans (hb2.mono hbel.size), by rw [HFF.out]; rfl⟩
     ·go_wp2
      go_ret
      exact ⟨_, rfl, hbel, by rw [HFF.out]; rfl⟩
end Go.Proofs.Ytafjdoedallnbaa
