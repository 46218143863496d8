/- subgame.Least -/
import Derived.Test.YtafjdoedallnbaaClosureP
import Derived.Test.YtafjdoedallnbaaClosedP
namespace Go.Proofs.Ytafjdoedallnbaa
open Go.RowKit

def rootAt (inn : List Bool) (par : List Int) (i : Nat) : Bool := inn.getD i false && (decide (i = 0) || !inn.getD (par.getD i 0).toNat false)
def rootsTo (inn : List Bool) (par : List Int) (k : Nat) : List Int := ((List.range k).filter (rootAt inn par)).map fun i : Nat => (i : Int)
theorem rootsTo_succ (inn : List Bool) (par : List Int) (k : Nat) : rootsTo inn par (k + 1) = rootsTo inn par k ++ (if rootAt inn par k then [(k : Int)] else []) := by
  unfold rootsTo
  rw [List.range_succ, List.filter_append, List.map_append]
  cases h : rootAt inn par k <;> simp [h]
theorem rootsTo_length (inn : List Bool) (par : List Int) (k : Nat) : (rootsTo inn par k).length ≤ k := by
  unfold rootsTo
  rw [List.length_map]
  refine Nat.le_trans (List.length_filter_le _ _) ?_
  simp
theorem putAt_inn (nodes : List Nd) (s : Cl) (i : Nat) : (putAt nodes s i).inn.length = s.inn.length := by
  unfold putAt
  split
  · split <;> simp
  · rfl
theorem putL_inn (nodes : List Nd) (last : List Int) (s : Cl) (r : Int) : (putL nodes last s r).inn.length = s.inn.length := by
  unfold putL
  split
  · rfl
  · generalize (last.getD r.toNat 0 + 1 - r).toNat = j
    induction j with
    | zero => rfl
    | succ j ih => show (putAt nodes (putN nodes s r.toNat j) (r.toNat + j)).inn.length = _; rw [putAt_inn, ih]
theorem closeGo_inn (nodes : List Nd) (last : List Int) (sets : List (List Int)) : ∀ (f : Nat) (s : Cl), (closeGo nodes last sets f s).inn.length = s.inn.length
  | 0, s => rfl
  | f + 1, s => by
    rw [closeGo]
    split
    · rfl
    · rename_i x q _
      rw [closeGo_inn nodes last sets f]
      suffices ∀ (l : List Int) (t : Cl), (l.foldl (putL nodes last) t).inn.length = t.inn.length by rw [this]
      intro l
      induction l with
      | nil => intro t; rfl
      | cons y l ih => intro t; rw [List.foldl_cons, ih, putL_inn]
theorem closureL_length (nodes : List Nd) (last : List Int) (sets : List (List Int)) (ni : Nat) (r : Int) : (closureL nodes last sets ni r).length = nodes.length := by
  unfold closureL; rw [closeGo_inn, putL_inn]; simp

theorem lookKids_range {N : Nat} (q : Nat) (hq : q < N) : ∀ (cs : List Int) (s : List Int × List Int), (∀ i x, s.1[i]? = some x → i ≠ 0 → 0 ≤ x ∧ x < (N : Int)) → ∀ i x, (lookKids q cs s).1[i]? = some x → i ≠ 0 → 0 ≤ x ∧ x < (N : Int)
  | [], s, h => h
  | c :: cs, s, h => by
    show ∀ i x, (lookKids q cs _).1[i]? = some x → _
    refine lookKids_range q hq cs _ fun i x hi h0 => ?_
    simp only at hi
    rw [List.getElem?_set] at hi
    split at hi
    · split at hi
      · cases hi; omega
      · cases hi
    · exact h i x hi h0
theorem lookTo_range (nodes : List Nd) (h0 : 0 < nodes.length) (m : Nat) : ∀ i x, (lookTo nodes m).1[i]? = some x → i ≠ 0 → 0 ≤ x ∧ x < (nodes.length : Int) := by
  induction m with
  | zero =>
    intro i x hi hne
    unfold lookTo at hi
    simp only at hi
    rw [List.getElem?_set_ne (by omega)] at hi
    have := lt_of_get hi
    simp at this
    simp [this] at hi
    omega
  | succ m ih =>
    unfold lookTo lookStep
    split
    · exact lookKids_range _ (by omega) _ _ ih
    · exact ih

def leastErr (g : Gm) (node : Int) : Int := if formL g ≠ 0 then formL g else if hasB g.nodes.length node then 0 else 2
def leastPL (g : Gm) (node : Int) : List Int := if leastErr g node = 0 then rootsTo (closureL g.nodes (lookL g.nodes).2 (setsL g) g.infos.length node) (lookL g.nodes).1 g.nodes.length else []
/-- a slice of ints in new memory, and an error -/
def OneInts (B : Nat) (e : Int) (l : List Int) (v : Value) (w' : World) : Prop := ∃ v1, v = .tuple #[v1, .int .i64 e] ∧ IntsAt w' (fun b => B ≤ b) v1 l

set_option maxRecDepth 100000 in
set_option maxHeartbeats 3200000 in
theorem least_any (w : World) (F : Foot) (u : Value) (node : Int) (g : Gm) (hg : GameAt w F u g) (hsm : Small g) (hfine : FineIf g) :
    Calls Try.prog 14 #[u, .int .i64 node] w (Ret w (OneInts w.heap.size (leastErr g node) (leastPL g node))) := by
  have HG := Lib.hid hg
  obtain ⟨vn, vi, rfl, ⟨A, c, rfl, hc, hN⟩, ⟨Ai, ci, rfl, hci, hI⟩⟩ := hg
  clear hN hI
  have hn := hsm.nodes
  have hni := hsm.infos
  have HS := Lib.hid hsm; clear hsm
  have HFI := Lib.hid hfine; clear hfine
  go_enter Try.func14, Try.ntmps14
  go_wp2_with fail
  refine (look_any _ F _ g (HG.out.on (Same.alloc _ _ _)) HS.out).mono ?_
  rintro e w1 ⟨_, rfl, hb1, vv, rfl, hv1, hv2⟩
  have hB : Below w.heap.size w w1 := ((Below.refl w.heap.size w).alloc (Nat.le_refl _) _).trans (hb1.mono (by simp))
  simp only [World.size_alloc] at hv2
  clear hb1
  have HV1 := Lib.hid hv1; have HV2 := Lib.hid hv2; clear hv1 hv2
  have HLE := Lib.hid (show leastErr g node = if formL g ≠ 0 then formL g else if hasB g.nodes.length node then 0 else 2 from rfl)
  have HLP := Lib.hid (show leastPL g node = if leastErr g node = 0 then rootsTo (closureL g.nodes (lookL g.nodes).2 (setsL g) g.infos.length node) (lookL g.nodes).1 g.nodes.length else [] from rfl)
  have HGD := Lib.hid (fun h : formL g = 0 => And.intro (good_of h) (HFI.out h))
  generalize formL g = er at *
  dsimp only
  by_cases he : er = 0
  · have HVX := Lib.hid (HV2.out he)
    obtain ⟨hgd, hfl⟩ := HGD.out he
    have HE2 := Lib.hid (show leastErr g node = if hasB g.nodes.length node then 0 else 2 by rw [HLE.out, if_neg (by simpa using he)])
    have HFL := Lib.hid hfl.last
    have HIN := Lib.hid hgd.infos
    have HPR := Lib.hid (lookTo_range g.nodes hgd.pos g.nodes.length)
    have hp := hgd.pos
    subst he
    clear hgd hfl HV1 HV2 HGD HFI
    have HVY := Lib.hid HVX.out
    obtain ⟨vn', vi', vp, vl, vs, rfl, ⟨An, cn, rfl, hcn, hN'⟩, ⟨Ax, cx, rfl, hcx, hI'⟩, ⟨Ap, cp, rfl, hcp, hP'⟩, ⟨Al, cl, rfl, hcl, hL'⟩, ⟨As, cs, rfl, hcs, hS'⟩⟩ := HVX.out
    clear hN' hI' hL' hS' HVX
    have HPP := Lib.hid hP'; clear hP'
    go_wp2_with fail
    obtain ⟨W, hW, hbx, hWb, hWz⟩ := row_of_alloc w1 51 #[.int .i64 g.players, .slice An g.nodes.length cn, .slice Ax g.infos.length cx, .slice Ap (lookL g.nodes).1.length cp, .slice Al (lookL g.nodes).2.length cl, .slice As (setsL g).length cs]
    rw [← hW]
    clear hW hWz
    have hBW := hB.trans (hWb.mono hB.size)
    have hlt1 := hbx.lt
    refine (has_any _ (fun b => F b ∨ w.heap.size + 1 ≤ b) _ node g (lookL g.nodes).1 (lookL g.nodes).2 (setsL g) (HVY.out.on (Below.same' hWb _))).mono ?_
    rintro e w2 ⟨_, rfl, hb2, rfl⟩
    have hbx2 := hbx.below hb2 hbx.lt
    have hB2 := hBW.trans (hb2.mono hBW.size)
    have h12 := hWb.trans (hb2.mono hWb.size)
    have hlt2 := hbx2.lt
    clear hbx hBW hb2 hB hWb
    have HHB := Lib.hid (show hasB g.nodes.length node = (decide (0 ≤ node) && decide (node < (g.nodes.length : Int))) from rfl)
    generalize hasB g.nodes.length node = hb at *
    dsimp only
    cases hb
    · have HF := Lib.hid (show leastErr g node = 2 by rw [HE2.out]; rfl)
      go_wp2
      go_ret2
      exact ⟨_, rfl, hB2, .slice none 0 0, by rw [HF.out]; rfl, by rw [HLP.out, HF.out]; exact ints_nil _ _⟩
    · have HF := Lib.hid (show leastErr g node = 0 by rw [HE2.out]; rfl)
      have hnr : 0 ≤ node ∧ node < (g.nodes.length : Int) := by have := HHB.out; simp at this; omega
      have x0 := hbx2.cell (i := 0) rfl
      have x1 := hbx2.cell (i := 1) rfl
      have x2 := hbx2.cell (i := 2) rfl
      have x3 := hbx2.cell (i := 3) rfl
      have x4 := hbx2.cell (i := 4) rfl
      have x5 := hbx2.cell (i := 5) rfl
      go_wp2_with fail
      refine (closure_any _ (fun b => F b ∨ w.heap.size + 1 ≤ b) _ node g (lookL g.nodes).1 (lookL g.nodes).2 (setsL g) (HVY.out.on (Below.same' h12 _)) HIN.out (by omega) (by omega) (lookTo_len _ _).2 HFL.out (setsTo_length _ _ _) (setsL_small HS.out).2 (fun l hl x hx => setsTo_in (Nat.le_refl _) l hl x hx) hnr).mono ?_
      rintro e w3 ⟨vb, rfl, hb3, hvb⟩
      have hbx3 := hbx2.below hb3 hbx2.lt
      have hB3 := hB2.trans (hb3.mono hB2.size)
      have h13 := h12.trans (hb3.mono h12.size)
      have hil := closureL_length g.nodes (lookL g.nodes).2 (setsL g) g.infos.length node
      have HLP2 := Lib.hid (show leastPL g node = rootsTo (closureL g.nodes (lookL g.nodes).2 (setsL g) g.infos.length node) (lookL g.nodes).1 g.nodes.length by rw [HLP.out, HF.out]; rfl)
      have hpl := (lookTo_len g.nodes g.nodes.length).1
      have HPR2 := Lib.hid (show ∀ i x, (lookL g.nodes).1[i]? = some x → i ≠ 0 → 0 ≤ x ∧ x < (g.nodes.length : Int) from HPR.out)
      have hpl : (lookL g.nodes).1.length = g.nodes.length := hpl
      clear x0 x1 x2 x3 x4 x5 hbx2 hB2 h12 hb3 HHB hnr
      generalize closureL g.nodes (lookL g.nodes).2 (setsL g) g.infos.length node = inn at *
      obtain ⟨Ab, cb, rfl, hcb, hBb⟩ := hvb
      have HBB := Lib.hid hBb; clear hBb
      have hlt3 := hbx3.lt
      have HIL := Lib.hid hil; have HPL := Lib.hid hpl; clear hil hpl
      dsimp only
      go_wp2
      have hi100 : inn.length ≤ 100 := by have := HIL.out; omega
      go_loopw [9, 10, 11, 29] (fun vo _ _ i wr => ∃ k : Nat, k ≤ inn.length ∧ i = .int .i64 k ∧ wr.ownsRow w3.heap.size 3 1 vo (rootsTo inn (lookL g.nodes).1 k).length ((rootsTo inn (lookL g.nodes).1 k).map (Value.int .i64)) ∧ Below w3.heap.size w3 wr) (fun _ _ _ i _ => inn.length - (intOf i).toNat)
      case atStart => exact ⟨0, by omega, rfl, World.ownsRow_nil _ _ _ _, Below.refl _ _⟩
      case round =>
        obtain ⟨k, hk, rfl, hown, hbel⟩ := hrel
        have HO := Lib.hid hown; clear hown
        have hlen := rootsTo_length inn (lookL g.nodes).1 k
        have HST := Lib.hid (rootsTo_succ inn (lookL g.nodes).1 k)
        by_cases hlt : k < inn.length
        · obtain ⟨bu, ou, rfl, _, hbu, hxu⟩ := HBB.out (by omega)
          obtain ⟨y, hy⟩ := getSome hlt
          have ey := hxu k y hy
          unfold boolE at ey
          rw [Nat.mul_one, ← below_old hbel _ _ hbu] at ey
          have HY := Lib.hid (show inn.getD k false = y by simp [List.getD_eq_getElem?_getD, hy])
          clear hy
          cases y
          · have HR := Lib.hid (show rootAt inn (lookL g.nodes).1 k = false by unfold rootAt; rw [HY.out]; rfl)
            go_wp2
            go_roundw
            case rel => exact ⟨k + 1, by omega, by go_num, by rw [HST.out, HR.out]; simpa using HO.out, hbel⟩
            case measure => simp [intOf] <;> omega
          · by_cases hk0 : k = 0
            · have HR := Lib.hid (show rootAt inn (lookL g.nodes).1 k = true by unfold rootAt; rw [HY.out]; simp [hk0])
              have hd0 : ((k : Int) == 0) = true := by simp [hk0]
              clear hk0 hxu
              go_wp2_with (at_builtin; refine wpl_app_int rfl _ _ rfl w3.heap.size _ (rootsTo inn (lookL g.nodes).1 k) rfl (HO.out.alloc _) wr.heap.size k rfl (heap_alloc_new _ _) (by omega) (by have := hbel.size; simp; omega) ?_; intro gg cap w4 hown4 hgrow hat hlt4; have hbel4 : Below w3.heap.size w3 w4 := (hbel.alloc hbel.size _).grown hgrow (by have := hbel.size; simp; omega) (fun k hk => (HO.out.lt k hk).1); have HO4 := Lib.hid hown4; clear hown4 hgrow hat hlt4)
              go_roundw
              case rel => exact ⟨k + 1, by omega, by go_num, by rw [HST.out, HR.out]; simpa using HO4.out, hbel4⟩
              case measure => simp [intOf] <;> omega
            · have hd0 : ((k : Int) == 0) = false := by simp; omega
              obtain ⟨x, hx⟩ := getSome (l := (lookL g.nodes).1) (k := k) (by have := HPL.out; have := HIL.out; omega)
              obtain ⟨bp, op, rfl, _, hbp, hxp⟩ := HPP.out (by have := HPL.out; omega)
              have ep := hxp k x hx
              unfold intE at ep
              rw [Nat.mul_one, ← below_old h13 _ _ hbp, ← below_old hbel _ _ (by have := h13.size; omega)] at ep
              obtain ⟨hx0, hx1⟩ := HPR2.out k x hx hk0
              obtain ⟨z, rfl⟩ := Int.eq_ofNat_of_zero_le hx0
              have hzi : z < inn.length := by have := HIL.out; omega
              have hkp : k < (lookL g.nodes).1.length := by have := HPL.out; have := HIL.out; omega
              obtain ⟨y2, hy2⟩ := getSome hzi
              have ez := hxu z y2 hy2
              unfold boolE at ez
              rw [Nat.mul_one, ← below_old hbel _ _ hbu] at ez
              have HRR := Lib.hid (show rootAt inn (lookL g.nodes).1 k = !y2 by unfold rootAt; rw [HY.out]; simp [List.getD_eq_getElem?_getD, hx, hy2, hk0])
              have x3 := (hbx3.below hbel hbx3.lt).cell (i := 3) rfl
              clear hx hxp hy2 hxu hk0
              cases y2
              · have HR := Lib.hid (show rootAt inn (lookL g.nodes).1 k = true by rw [HRR.out]; rfl)
                go_wp2_with (at_builtin; refine wpl_app_int rfl _ _ rfl w3.heap.size _ (rootsTo inn (lookL g.nodes).1 k) rfl (HO.out.alloc _) wr.heap.size k rfl (heap_alloc_new _ _) (by omega) (by have := hbel.size; simp; omega) ?_; intro gg cap w4 hown4 hgrow hat hlt4; have hbel4 : Below w3.heap.size w3 w4 := (hbel.alloc hbel.size _).grown hgrow (by have := hbel.size; simp; omega) (fun k hk => (HO.out.lt k hk).1); have HO4 := Lib.hid hown4; clear hown4 hgrow hat hlt4)
                go_roundw
                case rel => exact ⟨k + 1, by omega, by go_num, by rw [HST.out, HR.out]; simpa using HO4.out, hbel4⟩
                case measure => simp [intOf] <;> omega
              · have HR := Lib.hid (show rootAt inn (lookL g.nodes).1 k = false by rw [HRR.out]; rfl)
                go_wp2
                go_roundw
                case rel => exact ⟨k + 1, by omega, by go_num, by rw [HST.out, HR.out]; simpa using HO.out, hbel⟩
                case measure => simp [intOf] <;> omega
        · go_wp2
          go_ret2
          have hke : k = g.nodes.length := by have := HIL.out; omega
          have z3 := hB3.size
          refine ⟨_, rfl, hB3.trans (hbel.mono z3), u9, by rw [HF.out]; rfl, ?_⟩
          rw [HLP2.out, ← hke]
          exact Own.ints (by simpa [Own] using HO.out) (fun b hb => by have := (HO.out.lt b hb).1; omega)
  · have hd : (er != 0) = true := by simp [he]
    have HF := Lib.hid (show leastErr g node = er by rw [HLE.out, if_pos he])
    obtain rfl := HV1.out he
    have HNZ := Lib.hid he; clear he
    unfold noView
    go_wp2
    go_ret2
    exact ⟨_, rfl, hB.alloc hB.size _, .slice none 0 0, by rw [HF.out]; rfl, by rw [HLP.out, HF.out, if_neg HNZ.out]; exact ints_nil _ _⟩
end Go.Proofs.Ytafjdoedallnbaa
