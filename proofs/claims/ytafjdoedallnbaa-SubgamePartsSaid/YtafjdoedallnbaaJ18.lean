/- parlourref26.tops: those of some marked nodes that have no marked node above them. -/
import Derived.Test.YtafjdoedallnbaaJ13
import Derived.Deep.LoopGhost
namespace Go.Proofs.Ytafjdoedallnbaa
open Go.RowKit
def aboveTo (par : List Int) (m : List Bool) : Nat → Int → Bool
 | 0, _ => false
 | f + 1, p => if p < 0 then false else m.getD p.toNat false || aboveTo par m f (par.getD p.toNat 0)
def aboveB (par : List Int) (m : List Bool) (p : Int) : Bool := aboveTo par m (p + 1).toNat p
/-- parents stand before their children -/
def Falls (N : Nat) (par : List Int) : Prop := ∀ (i : Nat) (x : Int), i < N → par[i]? = some x → -1 ≤ x ∧ x < (i : Int)
theorem above_fuel {N : Nat} {par : List Int} {m : List Bool} (hl : par.length = N) (hf : Falls N par) : ∀ (f : Nat) (p : Int), p < (N : Int) → (p + 1).toNat ≤ f → aboveTo par m f p = aboveB par m p := by
 intro f
 induction f using Nat.strongRecOn with
 | _ f ih =>
  intro p hp hfp
  unfold aboveB
  by_cases h0 : p < 0
  ·cases f <;> cases hq : (p + 1).toNat <;> simp [aboveTo, h0]
  ·obtain ⟨q, rfl⟩ := Int.eq_ofNat_of_zero_le (show 0 ≤ p by omega)
   obtain ⟨f', rfl⟩ : ∃ f', f = f' + 1 := ⟨f - 1, by omega⟩
   have e : ((q : Int) + 1).toNat = q + 1 := by omega
   rw [e]
   unfold aboveTo
   rw [if_neg h0, if_neg h0]
   obtain ⟨x, hx⟩ := getSome (l := par) (k := q) (by omega)
   have hq := hf q x (by omega) hx
   have hg : par.getD (q : Int).toNat 0 = x := by simp [List.getD_eq_getElem?_getD, hx]
   rw [hg]
   congr 1
   rw [ih f' (by omega) x (by omega) (by omega), ih q (by omega) x (by omega) (by omega)]
theorem above_step {N : Nat} {par : List Int} {m : List Bool} (hl : par.length = N) (hf : Falls N par) {q : Nat} {x : Int} (hq : q < N) (hx : par[q]? = some x) : aboveB par m (q : Int) = (m.getD q false || aboveB par m x) := by
 have hq' := hf q x hq hx
 have e : ((q : Int) + 1).toNat = q + 1 := by omega
 have h1 : aboveB par m (q : Int) = aboveTo par m (q + 1) q := by unfold aboveB; rw [e]
 have hg : par.getD (q : Int).toNat 0 = x := by simp [List.getD_eq_getElem?_getD, hx]
 rw [h1, aboveTo, if_neg (by omega), hg, Int.toNat_natCast, above_fuel hl hf q x (by omega) (by omega)]
theorem above_none {par : List Int} {m : List Bool} {p : Int} (h : p < 0) : aboveB par m p = false := by
 unfold aboveB; cases (p + 1).toNat <;> simp [aboveTo, h]
def topAt (par : List Int) (m : List Bool) (i : Nat) : Bool := m.getD i false && !aboveB par m (par.getD i 0)
def topsTo (par : List Int) (m : List Bool) (k : Nat) : List Int := ((List.range k).filter (topAt par m)).map fun i : Nat => (i : Int)
theorem topsTo_succ (par : List Int) (m : List Bool) (k : Nat) : topsTo par m (k + 1) = topsTo par m k ++ (if topAt par m k then [(k : Int)] else []) := by
 unfold topsTo
 rw [List.range_succ, List.filter_append, List.map_append]
 cases h : topAt par m k <;> simp [h]
theorem topsTo_length (par : List Int) (m : List Bool) (k : Nat) : (topsTo par m k).length ≤ k := by
 unfold topsTo
 rw [List.length_map]
 refine Nat.le_trans (List.length_filter_le _ _) ?_
 simp
theorem parTo_zero (nodes : List Nd) (hk : ∀ n ∈ nodes, ∀ c ∈ n.next, 0 < c) (k : Nat) : nodes.length ≠ 0 → (parTo nodes k)[0]? = some (-1) := by
 intro h0
 induction k with
 | zero => unfold parTo; rw [List.getElem?_set_self (by simp; omega)]
 | succ k ih =>
  unfold parTo
  split
  ·rename_i n hn
   rw [parKids_get (by rw [parTo_length]; omega) (fun c hc => by have := hk n (List.mem_of_getElem? hn) c hc; omega), if_neg, ih]
   intro hm
   have := hk n (List.mem_of_getElem? hn) _ hm
   omega
  ·exact ih
theorem parents_falls {g : Gm} (hg : Good g) : Falls g.nodes.length (parentsL g.nodes) := by
 intro i x hi hx
 by_cases h0 : i = 0
 ·subst h0
  have h1 := parTo_zero g.nodes (fun n hn c hc => by
   obtain ⟨k, hk⟩ := List.getElem?_of_mem hn
   have := hg.span.kids k n (Nat.zero_le _) (lt_of_get hk) hk c hc
   omega) g.nodes.length (by have := hg.pos; omega)
  unfold parentsL at hx
  rw [h1] at hx; cases hx; omega
 ·obtain ⟨p, n, h1, h2, h3⟩ := has_parent hg (by omega) hi
  rw [parents_get hg hi h2 h3] at hx
  cases hx; omega
theorem parentsL_length (nodes : List Nd) : (parentsL nodes).length = nodes.length := parTo_length _ _
set_option maxRecDepth 100000 in
set_option maxHeartbeats 3200000 in
theorem tops_any (w : World) (F : Foot) (u vm : Value) (g : Gm) (m : List Bool) (hg : GameAt w F u g) (hm : BoolsAt w F vm m) (hml : m.length = g.nodes.length) (hsm : Small g) (hgd : Good g) :
  Calls Try.prog 39 #[u, vm] w (Ret w fun v w' => IntsAt w' (fun b => w.heap.size ≤ b) v (topsTo (parentsL g.nodes) m g.nodes.length)) := by
 have HG := Lib.hid hg
 obtain ⟨vn, vi, rfl, ⟨A, c, rfl, hc, hN⟩, ⟨Ai, ci, rfl, hci, hI⟩⟩ := hg
 clear hN hI
 obtain ⟨Am, cm, rfl, hcm, hMm⟩ := hm
 have HM := Lib.hid hMm; clear hMm
 have hn := hsm.nodes
 have HS := Lib.hid hsm; clear hsm
 have HML := Lib.hid hml
 have HFA := Lib.hid (parents_falls hgd)
 have HK := Lib.hid hgd.kidsIn
 have hp := hgd.pos
 clear hgd
 rw [hml] at hcm ⊢
 clear hml
 go_enter Try.func39, Try.ntmps39
 go_wp2_with fail
 refine (parentsOf_any _ F _ g (HG.out.on (Same.alloc _ _ _)) HS.out hp HK.out).mono ?_
 rintro e w1 ⟨vp, rfl, hb1, hvp⟩
 have hB : Below w.heap.size w w1 := ((Below.refl w.heap.size w).alloc (Nat.le_refl _) _).trans (hb1.mono (by simp))
 have hpl := parentsL_length g.nodes
 have HPL := Lib.hid hpl
 generalize hpar : parentsL g.nodes = par at *
 have HPAR := Lib.hid hpar; clear hpar
 obtain ⟨Ap, cp, rfl, hcp, hPp⟩ := hvp
 rw [hpl] at hcp ⊢
 have HP := Lib.hid hPp
 clear hpl hPp hb1
 dsimp only
 go_wp2
 go_loopw [6, 7, 8, 9] (fun vo i _ _ wr => ∃ k : Nat, k ≤ g.nodes.length ∧ i = .int .i64 k ∧ wr.ownsRow w1.heap.size 3 1 vo (topsTo par m k).length ((topsTo par m k).map (Value.int .i64)) ∧ Below w1.heap.size w1 wr) (fun _ i _ _ _ => g.nodes.length - (intOf i).toNat)
 case atStart => exact ⟨0, by omega, rfl, World.ownsRow_nil _ _ _ _, Below.refl _ _⟩
 case round =>
  obtain ⟨k, hk, rfl, hown, hbel⟩ := hrel
  have HO := Lib.hid hown; clear hown
  have hlen := topsTo_length par m k
  have HST := Lib.hid (topsTo_succ par m k)
  by_cases hlt : k < g.nodes.length
  ·obtain ⟨bp, op, rfl, _, hbp, hxp⟩ := HP.out (by rw [HPL.out]; omega)
   obtain ⟨bm, om, rfl, _, hbm, hxm⟩ := HM.out (by rw [HML.out]; omega)
   obtain ⟨x, hx⟩ := getSome (l := par) (k := k) (by rw [HPL.out]; exact hlt)
   have ex := hxp k x hx
   unfold intE at ex
   rw [Nat.mul_one, ← below_old hbel _ _ hbp] at ex
   obtain ⟨y, hy⟩ := getSome (l := m) (k := k) (by rw [HML.out]; exact hlt)
   have ey := hxm k y hy
   unfold boolE at ey
   rw [Nat.mul_one, ← below_old hB _ _ hbm, ← below_old hbel _ _ (by have := hB.size; omega)] at ey
   obtain ⟨hx0, hx1⟩ := HFA.out k x hlt hx
   have HTA := Lib.hid (show topAt par m k = (y && !aboveB par m x) by unfold topAt; simp [List.getD_eq_getElem?_getD, hx, hy])
   clear hx hy
   have hmb : bm < wr.heap.size := by have := hB.size; have := hbel.size; omega
   go_wp2
   go_loopg [8, 9] (k + 1) (fun f va vq wi => ∃ (ab : Bool) (q : Int), va = .bool ab ∧ vq = .int .i64 q ∧ -1 ≤ q ∧ q < (k : Int) ∧ (q + 1).toNat ≤ f ∧ (ab || aboveB par m q) = aboveB par m x ∧ wi = wr)
   case atStart => exact ⟨false, x, rfl, rfl, hx0, hx1, by omega, by simp, rfl⟩
   case round =>
    obtain ⟨ab, q, rfl, rfl, hq0, hq1, hqf, hval, rfl⟩ := hrel
    have HV := Lib.hid hval; clear hval
    have HQF := Lib.hid hqf; clear hqf
    by_cases hqn : q < 0
    ·have hd : decide (0 ≤ q) = false := decide_eq_false (by omega)
     have HAB := Lib.hid (show ab = aboveB par m x by rw [← HV.out, above_none hqn]; simp)
     have HT := Lib.hid (show topAt par m k = (y && !ab) by rw [HTA.out, ← HAB.out])
     cases y
     ·go_wp2
      go_roundw
      case rel => exact ⟨k + 1, by omega, by go_num, by rw [HST.out, HT.out]; simpa using HO.out, hbel⟩
      case measure => simp [intOf] <;> omega
     ·cases ab
      ·go_wp2_with (at_builtin; refine wpl_app_int rfl _ _ rfl w1.heap.size _ (topsTo par m k) rfl (HO.out.alloc _) _ k rfl (heap_alloc_new _ _) (by omega) (by have := hbel.size; simp; omega) ?_; intro gg cap w4 hown4 hgrow hat hlt4; have hbel4 : Below w1.heap.size w1 w4 := (hbel.alloc hbel.size _).grown hgrow (by have := hbel.size; simp; omega) (fun k hk => (HO.out.lt k hk).1); have HO4 := Lib.hid hown4; clear hown4 hgrow hat hlt4)
       go_roundw
       case rel => exact ⟨k + 1, by omega, by go_num, by rw [HST.out, HT.out]; simpa using HO4.out, hbel4⟩
       case measure => simp [intOf] <;> omega
      ·go_wp2
       go_roundw
       case rel => exact ⟨k + 1, by omega, by go_num, by rw [HST.out, HT.out]; simpa using HO.out, hbel⟩
       case measure => simp [intOf] <;> omega
    ·obtain ⟨z, rfl⟩ := Int.eq_ofNat_of_zero_le (show 0 ≤ q by omega)
     obtain ⟨xz, hxz⟩ := getSome (l := par) (k := z) (by rw [HPL.out]; omega)
     have exz := hxp z xz hxz
     unfold intE at exz
     rw [Nat.mul_one, ← below_old hbel _ _ hbp] at exz
     obtain ⟨yz, hyz⟩ := getSome (l := m) (k := z) (by rw [HML.out]; omega)
     have eyz := hxm z yz hyz
     unfold boolE at eyz
     rw [Nat.mul_one, ← below_old hB _ _ hbm, ← below_old hbel _ _ (by have := hB.size; omega)] at eyz
     obtain ⟨hz0, hz1⟩ := HFA.out z xz (by omega) hxz
     have HST2 := Lib.hid (show aboveB par m (z : Int) = (yz || aboveB par m xz) by
      rw [above_step HPL.out HFA.out (by omega) hxz]; simp [List.getD_eq_getElem?_getD, hyz])
     have hzN : z < g.nodes.length := by omega
     clear hxz hyz
     have hd : decide (0 ≤ (z : Int)) = true := decide_eq_true (by omega)
     cases ab
     ·go_wp2
      go_roundg (xz + 1).toNat
      case measure => have := HQF.out; omega
      case rel => exact ⟨_, xz, rfl, rfl, hz0, by omega, Nat.le_refl _, by rw [← HV.out, HST2.out]; simp, rfl⟩
     ·go_wp2
      go_roundg (xz + 1).toNat
      case measure => have := HQF.out; omega
      case rel => exact ⟨_, xz, rfl, rfl, hz0, by omega, Nat.le_refl _, by rw [← HV.out]; simp, rfl⟩
  ·go_wp2
   go_ret
   have hke : k = g.nodes.length := by omega
   have z1 := hB.size
   refine ⟨_, rfl, hB.trans (hbel.mono z1), ?_⟩
   rw [HPAR.out, ← hke]
   exact Own.ints (by simpa [Own] using HO.out) (fun b hb => by have := (HO.out.lt b hb).1; omega)
end Go.Proofs.Ytafjdoedallnbaa
