/- subgame.Least -/
import Derived.Test.YtafjdoedallnbaaJ22
import Derived.Test.YtafjdoedallnbaaJ12
import Derived.Test.YtafjdoedallnbaaJ18
import Derived.Test.YtafjdoedallnbaaJ13
import Derived.Test.YtafjdoedallnbaaJ21
namespace Go.Proofs.Ytafjdoedallnbaa
open Go.RowKit
def rootAt (inn : List Bool) (par : List Int) (i : Nat) : Bool := inn.getD i false && (decide (i = 0) || !inn.getD (par.getD i 0).toNat false)
def rootsTo (inn : List Bool) (par : List Int) (k : Nat) : List Int := ((List.range k).filter (rootAt inn par)).map fun i : Nat => (i : Int)
theorem rootsTo_succ (inn : List Bool) (par : List Int) (k : Nat) : rootsTo inn par (k + 1) = rootsTo inn par k ++ (if rootAt inn par k then [(k : Int)] else []) := by
 unfold rootsTo
 rw [List.range_succ, List.filter_append, List.map_append]
 cases h : rootAt inn par k <;> simp [h]
theorem rootsTo_length (inn : List Bool) (par : List Int) (k : Nat) : (rootsTo inn par k).length ≤ k := by
 unfold rootsTo
 rw [List.length_map]
 refine Nat.le_trans (List.length_filter_le _ _) ?_
 simp
theorem putAt_inn (nodes : List Nd) (s : Cl) (i : Nat) : (putAt nodes s i).inn.length = s.inn.length := by
 unfold putAt
 split
 ·split <;> simp
 ·rfl
theorem putL_inn (nodes : List Nd) (last : List Int) (s : Cl) (r : Int) : (putL nodes last s r).inn.length = s.inn.length := by
 unfold putL
 split
 ·rfl
 ·generalize (last.getD r.toNat 0 + 1 - r).toNat = j
  induction j with
  | zero => rfl
  | succ j ih => show (putAt nodes (putN nodes s r.toNat j) (r.toNat + j)).inn.length = _; rw [putAt_inn, ih]
theorem closeGo_inn (nodes : List Nd) (last : List Int) (sets : List (List Int)) : ∀ (f : Nat) (s : Cl), (closeGo nodes last sets f s).inn.length = s.inn.length
 | 0, s => rfl
 | f + 1, s => by
  rw [closeGo]
  split
  ·rfl
  ·rename_i x q _
   rw [closeGo_inn nodes last sets f]
   suffices ∀ (l : List Int) (t : Cl), (l.foldl (putL nodes last) t).inn.length = t.inn.length by rw [this]
   intro l
   induction l with
   | nil => intro t; rfl
   | cons y l ih => intro t; rw [List.foldl_cons, ih, putL_inn]
theorem closureL_length (nodes : List Nd) (last : List Int) (sets : List (List Int)) (ni : Nat) (r : Int) : (closureL nodes last sets ni r).length = nodes.length := by
 unfold closureL; rw [closeGo_inn, putL_inn]; simp
theorem lookKids_range {N : Nat} (q : Nat) (hq : q < N) : ∀ (cs : List Int) (s : List Int × List Int), (∀ i x, s.1[i]? = some x → i ≠ 0 → 0 ≤ x ∧ x < (N : Int)) → ∀ i x, (lookKids q cs s).1[i]? = some x → i ≠ 0 → 0 ≤ x ∧ x < (N : Int)
 | [], s, h => h
 | c :: cs, s, h => by
  show ∀ i x, (lookKids q cs _).1[i]? = some x → _
  refine lookKids_range q hq cs _ fun i x hi h0 => ?_
  simp only at hi
  rw [List.getElem?_set] at hi
  split at hi
  ·split at hi
   ·cases hi; omega
   ·cases hi
  ·exact h i x hi h0
theorem lookTo_range (nodes : List Nd) (h0 : 0 < nodes.length) (m : Nat) : ∀ i x, (lookTo nodes m).1[i]? = some x → i ≠ 0 → 0 ≤ x ∧ x < (nodes.length : Int) := by
 induction m with
 | zero =>
  intro i x hi hne
  unfold lookTo at hi
  simp only at hi
  rw [List.getElem?_set_ne (by omega)] at hi
  have := lt_of_get hi
  simp at this
  simp [this] at hi
  omega
 | succ m ih =>
  unfold lookTo lookStep
  split
  ·exact lookKids_range _ (by omega) _ _ ih
  ·exact ih
def leastErr (g : Gm) (node : Int) : Int := if formL g ≠ 0 then formL g else if hasB g.nodes.length node then 0 else 2
def leastPL (g : Gm) (node : Int) : List Int := if leastErr g node = 0 then rootsTo (closureL g.nodes (lookL g.nodes).2 (setsL g) g.infos.length node) (lookL g.nodes).1 g.nodes.length else []
/-- a slice of ints in new memory, and an error -/
def OneInts (B : Nat) (e : Int) (l : List Int) (v : Value) (w' : World) : Prop := ∃ v1, v = .tuple #[v1, .int .i64 e] ∧ IntsAt w' (fun b => B ≤ b) v1 l
set_option maxRecDepth 100000 in
set_option maxHeartbeats 3200000 in
theorem least_any (w : World) (F : Foot) (u : Value) (node : Int) (g : Gm) (hg : GameAt w F u g) (hsm : Small g) (hfine : FineIf g) :
  Calls Try.prog 14 #[u, .int .i64 node] w (Ret w (OneInts w.heap.size (leastErr g node) (leastPL g node))) := by
 have HG := Lib.hid hg
 obtain ⟨vn, vi, rfl, ⟨A, c, rfl, hc, hN⟩, ⟨Ai, ci, rfl, hci, hI⟩⟩ := hg
 clear hN hI
 have hn := hsm.nodes
 have hni := hsm.infos
 have HS := Lib.hid hsm; clear hsm
 have HFI := Lib.hid hfine; clear hfine
 go_enter Try.func14, Try.ntmps14
 go_wp2_with fail
 refine (look_any _ F _ g (HG.out.on (Same.alloc _ _ _)) HS.out).mono ?_
 rintro e w1 ⟨_, rfl, hb1, vv, rfl, hv1, hv2⟩
 have hB : Below w.heap.size w w1 := ((Below.refl w.heap.size w).alloc (Nat.le_refl _) _).trans (hb1.mono (by simp))
 simp only [World.size_alloc] at hv2
 clear hb1
 have HV1 := Lib.hid hv1; have HV2 := Lib.hid hv2; clear hv1 hv2
 have HLE := Lib.hid (show leastErr g node = if formL g ≠ 0 then formL g else if hasB g.nodes.length node then 0 else 2 from rfl)
 have HLP := Lib.hid (show leastPL g node = if leastErr g node = 0 then rootsTo (closureL g.nodes (lookL g.nodes).2 (setsL g) g.infos.length node) (lookL g.nodes).1 g.nodes.length else [] from rfl)
 have HGD := Lib.hid (fun h : formL g = 0 => And.intro (good_of h) (HFI.out h))
 generalize formL g = er at *
 dsimp only
 by_cases he : er = 0
 ·have HVX := Lib.hid (HV2.out he)
  obtain ⟨hgd, hfl⟩ := HGD.out he
  have HE2 := Lib.hid (show leastErr g node = if hasB g.nodes.length node then 0 else 2 by rw [HLE.out, if_neg (by simpa using he)])
  have HFL := Lib.hid hfl.last
  have HIN := Lib.hid hgd.infos
  have HPR := Lib.hid (lookTo_range g.nodes hgd.pos g.nodes.length)
  have hp := hgd.pos
  subst he
  clear hgd hfl HV1 HV2 HGD HFI
  have HVY := Lib.hid HVX.out
  obtain ⟨vn', vi', vp, vl, vs, rfl, ⟨An, cn, rfl, hcn, hN'⟩, ⟨Ax, cx, rfl, hcx, hI'⟩, ⟨Ap, cp, rfl, hcp, hP'⟩, ⟨Al, cl, rfl, hcl, hL'⟩, ⟨As, cs, rfl, hcs, hS'⟩⟩ := HVX.out
  clear hN' hI' hL' hS' HVX
  have HPP := Lib.hid hP'; clear hP'
  go_wp2_with fail
  obtain ⟨W, hW, hbx, hWb, hWz⟩ := row_of_alloc w1 51 #[.int .i64 g.players, .slice An g.nodes.length cn, .slice Ax g.infos.length cx, .slice Ap (lookL g.nodes).1.length cp, .slice Al (lookL g.nodes).2.length cl, .slice As (setsL g).length cs]
  rw [← hW]
  clear hW hWz
  have hBW := hB.trans (hWb.mono hB.size)
  have hlt1 := hbx.lt
  refine (has_any _ (fun b => F b ∨ w.heap.size + 1 ≤ b) _ node g (lookL g.nodes).1 (lookL g.nodes).2 (setsL g) (HVY.out.on (Below.same' hWb _))).mono ?_
  rintro e w2 ⟨_, rfl, hb2, rfl⟩
  have hbx2 := hbx.below hb2 hbx.lt
  have hB2 := hBW.trans (hb2.mono hBW.size)
  have h12 := hWb.trans (hb2.mono hWb.size)
  have hlt2 := hbx2.lt
  clear hbx hBW hb2 hB hWb
  have HHB := Lib.hid (show hasB g.nodes.length node = (decide (0 ≤ node) && decide (node < (g.nodes.length : Int))) from rfl)
  generalize hasB g.nodes.length node = hb at *
  dsimp only
  cases hb
  ·have HF := Lib.hid (show leastErr g node = 2 by rw [HE2.out]; rfl)
   go_wp2
   go_ret2
   exact ⟨_, rfl, hB2, .slice none 0 0, by rw [HF.out]; rfl, by rw [HLP.out, HF.out]; exact ints_nil _ _⟩
  ·have HF := Lib.hid (show leastErr g node = 0 by rw [HE2.out]; rfl)
   have hnr : 0 ≤ node ∧ node < (g.nodes.length : Int) := by have := HHB.out; simp at this; omega
   have x0 := hbx2.cell (i := 0) rfl
   have x1 := hbx2.cell (i := 1) rfl
   have x2 := hbx2.cell (i := 2) rfl
   have x3 := hbx2.cell (i := 3) rfl
   have x4 := hbx2.cell (i := 4) rfl
   have x5 := hbx2.cell (i := 5) rfl
   go_wp2_with fail
   refine (closure_any _ (fun b => F b ∨ w.heap.size + 1 ≤ b) _ node g (lookL g.nodes).1 (lookL g.nodes).2 (setsL g) (HVY.out.on (Below.same' h12 _)) HIN.out (by omega) (by omega) (lookTo_len _ _).2 HFL.out (setsTo_length _ _ _) (setsL_small HS.out).2 (fun l hl x hx => setsTo_in (Nat.le_refl _) l hl x hx) hnr).mono ?_
   rintro e w3 ⟨vb, rfl, hb3, hvb⟩
   have hbx3 := hbx2.below hb3 hbx2.lt
   have hB3 := hB2.trans (hb3.mono hB2.size)
   have h13 := h12.trans (hb3.mono h12.size)
   have hil := closureL_length g.nodes (lookL g.nodes).2 (setsL g) g.infos.length node
   have HLP2 := Lib.hid (show leastPL g node = rootsTo (closureL g.nodes (lookL g.nodes).2 (setsL g) g.infos.length node) (lookL g.nodes).1 g.nodes.length by rw [HLP.out, HF.out]; rfl)
   have hpl := (lookTo_len g.nodes g.nodes.length).1
   have HPR2 := Lib.hid (show ∀ i x, (lookL g.nodes).1[i]? = some x → i ≠ 0 → 0 ≤ x ∧ x < (g.nodes.length : Int) from HPR.out)
   have hpl : (lookL g.nodes).1.length = g.nodes.length := hpl
   clear x0 x1 x2 x3 x4 x5 hbx2 hB2 h12 hb3 HHB hnr
   generalize closureL g.nodes (lookL g.nodes).2 (setsL g) g.infos.length node = inn at *
   obtain ⟨Ab, cb, rfl, hcb, hBb⟩ := hvb
   have HBB := Lib.hid hBb; clear hBb
   have hlt3 := hbx3.lt
   have HIL := Lib.hid hil; have HPL := Lib.hid hpl; clear hil hpl
   dsimp only
   go_wp2
   have hi100 : inn.length ≤ 100 := by have := HIL.out; omega
   go_loopw [9, 10, 11, 29] (fun vo _ _ i wr => ∃ k : Nat, k ≤ inn.length ∧ i = .int .i64 k ∧ wr.ownsRow w3.heap.size 3 1 vo (rootsTo inn (lookL g.nodes).1 k).length ((rootsTo inn (lookL g.nodes).1 k).map (Value.int .i64)) ∧ Below w3.heap.size w3 wr) (fun _ _ _ i _ => inn.length - (intOf i).toNat)
   case atStart => exact ⟨0, by omega, rfl, World.ownsRow_nil _ _ _ _, Below.refl _ _⟩
   case round =>
    obtain ⟨k, hk, rfl, hown, hbel⟩ := hrel
    have HO := Lib.hid hown; clear hown
    have hlen := rootsTo_length inn (lookL g.nodes).1 k
    have HST := Lib.hid (rootsTo_succ inn (lookL g.nodes).1 k)
    by_cases hlt : k < inn.length
    ·obtain ⟨bu, ou, rfl, _, hbu, hxu⟩ := HBB.out (by omega)
     obtain ⟨y, hy⟩ := getSome hlt
     have ey := hxu k y hy
     unfold boolE at ey
     rw [Nat.mul_one, ← below_old hbel _ _ hbu] at ey
     have HY := Lib.hid (show inn.getD k false = y by simp [List.getD_eq_getElem?_getD, hy])
     clear hy
     cases y
     ·have HR := Lib.hid (show rootAt inn (lookL g.nodes).1 k = false by unfold rootAt; rw [HY.out]; rfl)
      go_wp2
      go_roundw
      case rel => exact ⟨k + 1, by omega, by go_num, by rw [HST.out, HR.out]; simpa using HO.out, hbel⟩
      case measure => simp [intOf] <;> omega
     ·by_cases hk0 : k = 0
      ·have HR := Lib.hid (show rootAt inn (lookL g.nodes).1 k = true by unfold rootAt; rw [HY.out]; simp [hk0])
       have hd0 : ((k : Int) == 0) = true := by simp [hk0]
       clear hk0 hxu
       go_wp2_with (at_builtin; refine wpl_app_int rfl _ _ rfl w3.heap.size _ (rootsTo inn (lookL g.nodes).1 k) rfl (HO.out.alloc _) wr.heap.size k rfl (heap_alloc_new _ _) (by omega) (by have := hbel.size; simp; omega) ?_; intro gg cap w4 hown4 hgrow hat hlt4; have hbel4 : Below w3.heap.size w3 w4 := (hbel.alloc hbel.size _).grown hgrow (by have := hbel.size; simp; omega) (fun k hk => (HO.out.lt k hk).1); have HO4 := Lib.hid hown4; clear hown4 hgrow hat hlt4)
       go_roundw
       case rel => exact ⟨k + 1, by omega, by go_num, by rw [HST.out, HR.out]; simpa using HO4.out, hbel4⟩
       case measure => simp [intOf] <;> omega
      ·have hd0 : ((k : Int) == 0) = false := by simp; omega
       obtain ⟨x, hx⟩ := getSome (l := (lookL g.nodes).1) (k := k) (by have := HPL.out; have := HIL.out; omega)
       obtain ⟨bp, op, rfl, _, hbp, hxp⟩ := HPP.out (by have := HPL.out; omega)
       have ep := hxp k x hx
       unfold intE at ep
       rw [Nat.mul_one, ← below_old h13 _ _ hbp, ← below_old hbel _ _ (by have := h13.size; omega)] at ep
       obtain ⟨hx0, hx1⟩ := HPR2.out k x hx hk0
       obtain ⟨z, rfl⟩ := Int.eq_ofNat_of_zero_le hx0
       have hzi : z < inn.length := by have := HIL.out; omega
       have hkp : k < (lookL g.nodes).1.length := by have := HPL.out; have := HIL.out; omega
       obtain ⟨y2, hy2⟩ := getSome hzi
       have ez := hxu z y2 hy2
       unfold boolE at ez
       rw [Nat.mul_one, ← below_old hbel _ _ hbu] at ez
       have HRR := Lib.hid (show rootAt inn (lookL g.nodes).1 k = !y2 by unfold rootAt; rw [HY.out]; simp [List.getD_eq_getElem?_getD, hx, hy2, hk0])
       have x3 := (hbx3.below hbel hbx3.lt).cell (i := 3) rfl
       clear hx hxp hy2 hxu hk0
       cases y2
       ·have HR := Lib.hid (show rootAt inn (lookL g.nodes).1 k = true by rw [HRR.out]; rfl)
        go_wp2_with (at_builtin; refine wpl_app_int rfl _ _ rfl w3.heap.size _ (rootsTo inn (lookL g.nodes).1 k) rfl (HO.out.alloc _) wr.heap.size k rfl (heap_alloc_new _ _) (by omega) (by have := hbel.size; simp; omega) ?_; intro gg cap w4 hown4 hgrow hat hlt4; have hbel4 : Below w3.heap.size w3 w4 := (hbel.alloc hbel.size _).grown hgrow (by have := hbel.size; simp; omega) (fun k hk => (HO.out.lt k hk).1); have HO4 := Lib.hid hown4; clear hown4 hgrow hat hlt4)
        go_roundw
        case rel => exact ⟨k + 1, by omega, by go_num, by rw [HST.out, HR.out]; simpa using HO4.out, hbel4⟩
        case measure => simp [intOf] <;> omega
       ·have HR := Lib.hid (show rootAt inn (lookL g.nodes).1 k = false by rw [HRR.out]; rfl)
        go_wp2
        go_roundw
        case rel => exact ⟨k + 1, by omega, by go_num, by rw [HST.out, HR.out]; simpa using HO.out, hbel⟩
        case measure => simp [intOf] <;> omega
    ·go_wp2
     go_ret2
     have hke : k = g.nodes.length := by have := HIL.out; omega
     have z3 := hB3.size
     refine ⟨_, rfl, hB3.trans (hbel.mono z3), u9, by rw [HF.out]; rfl, ?_⟩
     rw [HLP2.out, ← hke]
     exact Own.ints (by simpa [Own] using HO.out) (fun b hb => by have := (HO.out.lt b hb).1; omega)
 ·have hd : (er != 0) = true := by simp [he]
  have HF := Lib.hid (show leastErr g node = er by rw [HLE.out, if_pos he])
  obtain rfl := HV1.out he
  have HNZ := Lib.hid he; clear he
  unfold noView
  go_wp2
  go_ret2
  exact ⟨_, rfl, hB.alloc hB.size _, .slice none 0 0, by rw [HF.out]; rfl, by rw [HLP.out, HF.out, if_neg HNZ.out]; exact ints_nil _ _⟩
end Go.Proofs.Ytafjdoedallnbaa
/- subgame.view.alone, subgame.Proper -/
namespace Go.Proofs.Ytafjdoedallnbaa
open Go.RowKit
def within2 (a b h : Int) : Bool := decide (a ≤ h) && decide (h ≤ b)
def mixedIn (a b : Int) (l : List Int) : Bool := decide (0 < l.countP (within2 a b)) && decide (l.countP (within2 a b) < l.length)
def aloneB (last : List Int) (sets : List (List Int)) (node : Int) : Bool := sets.all fun l => !mixedIn node (last.getD node.toNat 0) l
theorem count_snoc {l : List Int} {p : Int → Bool} {k : Nat} {x : Int} (h : l[k]? = some x) : (l.take (k + 1)).countP p = (l.take k).countP p + (if p x then 1 else 0) := by
 rw [take_snoc h, List.countP_append]
 cases hx : p x <;> simp [hx]
set_option maxRecDepth 100000 in
set_option maxHeartbeats 3200000 in
theorem alone_any (w : World) (F : Foot) (u : Value) (r : Int) (g : Gm) (par last : List Int) (sets : List (List Int)) (hv : ViewV w F u g par last sets) (hs : sets.length ≤ 1000) (hsl : ∀ l ∈ sets, l.length ≤ 1000) (hll : last.length = g.nodes.length) (hr : 0 ≤ r ∧ r < (g.nodes.length : Int)) :
  Calls Try.prog 40 #[u, .int .i64 r] w (Ret w fun v _ => v = .bool (aloneB last sets r)) := by
 obtain ⟨vn, vi, vp, vl, vs, rfl, ⟨A, c, rfl, hc, hN'⟩, ⟨Ai, ci, rfl, hci, hI⟩, ⟨Ap, cp, rfl, hcp, hP⟩, ⟨Al, cl, rfl, hcl, hL⟩, ⟨As, cs, rfl, hcs, hS⟩⟩ := hv
 clear hN' hI hP
 obtain ⟨q, rfl⟩ := Int.eq_ofNat_of_zero_le hr.1
 obtain ⟨bl, ol, rfl, _, hbl, hxl⟩ := hL (by omega)
 obtain ⟨y, hy⟩ := getSome (l := last) (k := q) (by omega)
 have el := hxl q y hy
 unfold intE at el
 rw [Nat.mul_one] at el
 have hql : q < last.length := by omega
 have HAL := Lib.hid (show aloneB last sets (q : Int) = sets.all fun l => !mixedIn q y l by unfold aloneB; simp [List.getD_eq_getElem?_getD, hy])
 have HS := Lib.hid hS; clear hS hL hxl hy hll hr
 have HSL := Lib.hid hsl; clear hsl
 go_enter Try.func40, Try.ntmps40
 go_wp2
 obtain ⟨W, hW, hbx, hWb, hWz⟩ := row_of_alloc w 51 #[.int .i64 g.players, .slice A g.nodes.length c, .slice Ai g.infos.length ci, .slice Ap par.length cp, .slice (some ⟨bl, ol, none⟩) last.length cl, .slice As sets.length cs]
 rw [← hW]
 clear hW hWz
 have x4 := hbx.cell (i := 4) rfl
 rw [← below_old hWb _ _ hbl] at el
 go_loop [6, 7, 9, 13] (fun _ _ _ i => ∃ k : Nat, k ≤ sets.length ∧ i = .int .i64 k ∧ (sets.take k).all (fun l => !mixedIn q y l) = true) (fun _ _ _ i => sets.length - (intOf i).toNat)
 case atStart => exact ⟨0, by omega, rfl, rfl⟩
 case round =>
  obtain ⟨k, hk, rfl, hpre⟩ := hrel
  have HP := Lib.hid hpre; clear hpre
  by_cases hlt : k < sets.length
  ·obtain ⟨bs, os, rfl, _, hbs, hxs⟩ := HS.out (by omega)
   obtain ⟨l, hl'⟩ := getSome hlt
   obtain ⟨vl', ev, Av, cv, rfl, hcv, hAv⟩ := hxs k l hl'
   rw [Nat.mul_one, ← below_old hWb _ _ hbs] at ev
   have hl1 := HSL.out l (List.mem_of_getElem? hl')
   have HLK := Lib.hid hl'
   have HAV := Lib.hid hAv
   clear hl' hxs hAv
   go_wp2
   go_loop [7, 9, 19] (fun n _ i => ∃ j : Nat, j ≤ l.length ∧ i = .int .i64 j ∧ n = .int .i64 (((l.take j).countP (within2 q y) : Nat) : Int)) (fun _ _ i => l.length - (intOf i).toNat)
   case atStart => exact ⟨0, by omega, rfl, rfl⟩
   case round =>
    obtain ⟨j, hj, rfl, rfl⟩ := hrel
    have hcl2 : (l.take j).countP (within2 q y) ≤ j := Nat.le_trans List.countP_le_length (by simp; omega)
    by_cases hjt : j < l.length
    ·obtain ⟨bv, ov, rfl, _, hbv, hxv⟩ := HAV.out (by omega)
     obtain ⟨h, hh⟩ := getSome hjt
     have eh := hxv j h hh
     unfold intE at eh
     rw [Nat.mul_one, ← below_old hWb _ _ hbv] at eh
     have HCS := Lib.hid (count_snoc (p := within2 q y) hh)
     clear hh hxv
     generalize (l.take j).countP (within2 q y) = cn at *
     by_cases q1 : (q : Int) ≤ h
     ·by_cases q2 : h ≤ y
      ·have HC := Lib.hid (show (l.take (j + 1)).countP (within2 q y) = cn + 1 by rw [HCS.out]; simp [within2, q1, q2])
       go_wp2
       go_round
       case rel => exact ⟨j + 1, by omega, by go_num, by rw [HC.out]; go_num⟩
       case measure => simp [intOf] <;> omega
      ·have HC := Lib.hid (show (l.take (j + 1)).countP (within2 q y) = cn by rw [HCS.out]; simp [within2, q2])
       have d2 : decide (h ≤ y) = false := decide_eq_false q2
       go_wp2
       go_round
       case rel => exact ⟨j + 1, by omega, by go_num, by rw [HC.out]⟩
       case measure => simp [intOf] <;> omega
     ·have HC := Lib.hid (show (l.take (j + 1)).countP (within2 q y) = cn by rw [HCS.out]; simp [within2, q1])
      have d1 : decide ((q : Int) ≤ h) = false := decide_eq_false q1
      go_wp2
      go_round
      case rel => exact ⟨j + 1, by omega, by go_num, by rw [HC.out]⟩
      case measure => simp [intOf] <;> omega
    ·have HTK := Lib.hid (show l.take j = l from List.take_of_length_le (by omega))
     rw [HTK.out] at hcl2 ⊢
     have HMX := Lib.hid (show mixedIn q y l = (decide (0 < l.countP (within2 q y)) && decide (l.countP (within2 q y) < l.length)) from rfl)
     generalize l.countP (within2 q y) = cn at *
     by_cases q1 : 0 < cn
     ·by_cases q2 : cn < l.length
      ·have HF := Lib.hid (show aloneB last sets (q : Int) = false by
        rw [HAL.out]; exact all_false (List.mem_of_getElem? HLK.out) (by rw [HMX.out]; simp [q1, q2]))
       go_wp2
       go_ret
       exact ⟨_, rfl, hWb, by rw [HF.out]; rfl⟩
      ·have d2 : decide (cn < l.length) = false := decide_eq_false q2
       go_wp2
       go_round
       case rel => exact ⟨k + 1, by omega, by go_num, all_snoc HLK.out HP.out (by rw [HMX.out]; simp [q2])⟩
       case measure => simp [intOf] <;> omega
     ·obtain rfl : cn = 0 := by omega
      go_wp2
      go_round
      case rel => exact ⟨k + 1, by omega, by go_num, all_snoc HLK.out HP.out (by rw [HMX.out]; simp)⟩
      case measure => simp [intOf] <;> omega
  ·have HF := Lib.hid (show aloneB last sets (q : Int) = true by rw [HAL.out]; have := HP.out; rwa [List.take_of_length_le (by omega)] at this)
   go_wp2
   go_ret
   exact ⟨_, rfl, hWb, by rw [HF.out]; rfl⟩
def properAt (nodes : List Nd) (last : List Int) (sets : List (List Int)) (i : Nat) : Bool := match nodes[i]? with | some n => decide (n.kind ≠ 3) && aloneB last sets i | none => false
def properTo (nodes : List Nd) (last : List Int) (sets : List (List Int)) (k : Nat) : List Int := ((List.range k).filter (properAt nodes last sets)).map fun i : Nat => (i : Int)
theorem properTo_succ (nodes : List Nd) (last : List Int) (sets : List (List Int)) (k : Nat) : properTo nodes last sets (k + 1) = properTo nodes last sets k ++ (if properAt nodes last sets k then [(k : Int)] else []) := by
 unfold properTo
 rw [List.range_succ, List.filter_append, List.map_append]
 cases h : properAt nodes last sets k <;> simp [h]
theorem properTo_length (nodes : List Nd) (last : List Int) (sets : List (List Int)) (k : Nat) : (properTo nodes last sets k).length ≤ k := by
 unfold properTo
 rw [List.length_map]
 refine Nat.le_trans (List.length_filter_le _ _) ?_
 simp
def properPL (g : Gm) : List Int := if formL g = 0 then properTo g.nodes (lookL g.nodes).2 (setsL g) g.nodes.length else []
set_option maxRecDepth 100000 in
set_option maxHeartbeats 3200000 in
theorem proper_any (w : World) (F : Foot) (u : Value) (g : Gm) (hg : GameAt w F u g) (hsm : Small g) :
  Calls Try.prog 18 #[u] w (Ret w (OneInts w.heap.size (formL g) (properPL g))) := by
 have HG := Lib.hid hg
 obtain ⟨vn, vi, rfl, ⟨A, c, rfl, hc, hN⟩, ⟨Ai, ci, rfl, hci, hI⟩⟩ := hg
 clear hI
 have HN := Lib.hid hN; clear hN
 have hn := hsm.nodes
 have hni := hsm.infos
 have HS := Lib.hid hsm; clear hsm
 go_enter Try.func18, Try.ntmps18
 go_wp2_with fail
 refine (look_any _ F _ g (HG.out.on (Same.alloc _ _ _)) HS.out).mono ?_
 rintro e w1 ⟨_, rfl, hb1, vv, rfl, hv1, hv2⟩
 have hgx := (Row.new w 25 #[.int .i64 g.players, .slice A g.nodes.length c, .slice Ai g.infos.length ci]).below hb1 (by simp)
 have hB : Below w.heap.size w w1 := ((Below.refl w.heap.size w).alloc (Nat.le_refl _) _).trans (hb1.mono (by simp))
 simp only [World.size_alloc] at hv2
 clear hb1
 have HV1 := Lib.hid hv1; have HV2 := Lib.hid hv2; clear hv1 hv2
 have HPP := Lib.hid (show properPL g = if formL g = 0 then properTo g.nodes (lookL g.nodes).2 (setsL g) g.nodes.length else [] from rfl)
 generalize hfe : formL g = er at *
 have HFE := Lib.hid hfe; clear hfe
 dsimp only
 by_cases he : er = 0
 ·have HVX := Lib.hid (HV2.out he)
  have HP2 := Lib.hid (show properPL g = properTo g.nodes (lookL g.nodes).2 (setsL g) g.nodes.length by rw [HPP.out, if_pos he])
  subst he
  clear HV1 HV2
  have HVY := Lib.hid HVX.out
  obtain ⟨vn', vi', vp, vl, vs, rfl, ⟨An, cn, rfl, hcn, hN'⟩, ⟨Ax, cx, rfl, hcx, hI'⟩, ⟨Ap, cp, rfl, hcp, hP'⟩, ⟨Al, cl, rfl, hcl, hL'⟩, ⟨As, cs, rfl, hcs, hS'⟩⟩ := HVX.out
  clear hN' hI' hL' hS' hP' HVX
  have g1 := hgx.cell (i := 1) rfl
  have hlt1 := hgx.lt
  go_wp2_with fail
  obtain ⟨W, hW, hbx, hWb, hWz⟩ := row_of_alloc w1 51 #[.int .i64 g.players, .slice An g.nodes.length cn, .slice Ax g.infos.length cx, .slice Ap (lookL g.nodes).1.length cp, .slice Al (lookL g.nodes).2.length cl, .slice As (setsL g).length cs]
  rw [← hW]
  clear hW hWz
  have hBW := hB.trans (hWb.mono hB.size)
  have hltW := hbx.lt
  clear hgx g1
  go_loopw [6, 7, 8, 20] (fun vo _ _ i wr => ∃ k : Nat, k ≤ g.nodes.length ∧ i = .int .i64 k ∧ wr.ownsRow W.heap.size 3 1 vo (properTo g.nodes (lookL g.nodes).2 (setsL g) k).length ((properTo g.nodes (lookL g.nodes).2 (setsL g) k).map (Value.int .i64)) ∧ Below W.heap.size W wr) (fun _ _ _ i _ => g.nodes.length - (intOf i).toNat)
  case atStart => exact ⟨0, by omega, rfl, World.ownsRow_nil _ _ _ _, Below.refl _ _⟩
  case round =>
   obtain ⟨k, hk, rfl, hown, hbel⟩ := hrel
   have HO := Lib.hid hown; clear hown
   have hlen := properTo_length g.nodes (lookL g.nodes).2 (setsL g) k
   have HST := Lib.hid (properTo_succ g.nodes (lookL g.nodes).2 (setsL g) k)
   by_cases hlt : k < g.nodes.length
   ·obtain ⟨b, o, rfl, _, hb, hcell⟩ := HN.out (by omega)
    obtain ⟨n, hn'⟩ := getSome hlt
    obtain ⟨e0, e1, e2, ⟨v3, e3, A3, c3, rfl, hc3, i3⟩, ⟨v4, e4, A4, c4, rfl, hc4, i4⟩, ⟨v5, e5, A5, c5, rfl, hc5, i5⟩⟩ := hcell k n hn'
    clear i3 i4 i5 hcell
    have hwr := hBW.trans (hbel.mono hBW.size)
    rw [← below_old hwr _ _ hb] at e0 e1 e2 e3 e4 e5
    have HPA := Lib.hid (show properAt g.nodes (lookL g.nodes).2 (setsL g) k = (decide (n.kind ≠ 3) && aloneB (lookL g.nodes).2 (setsL g) k) by unfold properAt; rw [hn'])
    clear hn'
    by_cases hkd : n.kind = 3
    ·have HR := Lib.hid (show properAt g.nodes (lookL g.nodes).2 (setsL g) k = false by rw [HPA.out]; simp [hkd])
     have hd : (n.kind != 3) = false := by simp [hkd]
     clear hkd
     go_wp2
     go_roundw
     case rel => exact ⟨k + 1, by omega, by go_num, by rw [HST.out, HR.out]; simpa using HO.out.alloc _, hbel.alloc hbel.size _⟩
     case measure => simp [intOf] <;> omega
    ·have hd : (n.kind != 3) = true := by simp [hkd]
     have HR := Lib.hid (show properAt g.nodes (lookL g.nodes).2 (setsL g) k = aloneB (lookL g.nodes).2 (setsL g) k by rw [HPA.out]; simp [hkd])
     clear hkd
     have hbx2 := hbx.below hbel hbx.lt
     have x0 := hbx2.cell (i := 0) rfl
     have x1 := hbx2.cell (i := 1) rfl
     have x2 := hbx2.cell (i := 2) rfl
     have x3 := hbx2.cell (i := 3) rfl
     have x4 := hbx2.cell (i := 4) rfl
     have x5 := hbx2.cell (i := 5) rfl
     have hlt2 := hbx2.lt
     go_wp2_with fail
     obtain ⟨W2, hW2, hbn, hW2b, hW2z⟩ := row_of_alloc wr 45 #[.int .i64 n.kind, .int .i64 n.player, .int .i64 n.info, .slice A3 n.next.length c3, .slice A4 n.weights.length c4, .slice A5 n.pay.length c5]
     rw [← hW2]
     have HO2 := Lib.hid (show W2.ownsRow W.heap.size 3 1 u6 (properTo g.nodes (lookL g.nodes).2 (setsL g) k).length ((properTo g.nodes (lookL g.nodes).2 (setsL g) k).map (Value.int .i64)) by rw [hW2]; exact HO.out.alloc _)
     clear hW2 hW2z HO
     have hbel2 := hbel.trans (hW2b.mono hbel.size)
     have h12 := hWb.trans (hbel2.mono hWb.size)
     refine (alone_any _ (fun b => F b ∨ w.heap.size + 1 ≤ b) _ k g (lookL g.nodes).1 (lookL g.nodes).2 (setsL g) (HVY.out.on (Below.same' h12 _)) (setsL_small HS.out).1 (setsL_small HS.out).2 (lookTo_len _ _).2 (by omega)).mono ?_
     rintro e w3 ⟨_, rfl, hb3, rfl⟩
     have hbel3 := hbel2.trans (hb3.mono hbel2.size)
     have HO3 := Lib.hid (show w3.ownsRow W.heap.size 3 1 u6 (properTo g.nodes (lookL g.nodes).2 (setsL g) k).length ((properTo g.nodes (lookL g.nodes).2 (setsL g) k).map (Value.int .i64)) from ⟨HO2.out.1, HO2.out.2.imp id (fun ⟨gg, cap, cur, h1, h2, h3, h4⟩ => ⟨gg, cap, cur, h1, h2, by rw [hb3.block gg (Array.getElem?_eq_some_iff.1 h3).1]; exact h3, h4⟩)⟩)
     clear HO2 hbel2 h12 hb3 hW2b hbn x0 x1 x2 x3 x4 x5 hbx2 e0 e1 e2 e3 e4 e5 hwr hbel
     generalize aloneB (lookL g.nodes).2 (setsL g) k = al at *
     dsimp only
     cases al
     ·go_wp2
      go_roundw
      case rel => exact ⟨k + 1, by omega, by go_num, by rw [HST.out, HR.out]; simpa using HO3.out, hbel3⟩
      case measure => simp [intOf] <;> omega
     ·go_wp2_with (at_builtin; refine wpl_app_int rfl _ _ rfl W.heap.size _ (properTo g.nodes (lookL g.nodes).2 (setsL g) k) rfl (HO3.out.alloc _) w3.heap.size k rfl (heap_alloc_new _ _) (by omega) (by have := hbel3.size; simp; omega) ?_; intro gg cap w4 hown4 hgrow hat hlt4; have hbel4 : Below W.heap.size W w4 := (hbel3.alloc hbel3.size _).grown hgrow (by have := hbel3.size; simp; omega) (fun k hk => (HO3.out.lt k hk).1); have HO4 := Lib.hid hown4; clear hown4 hgrow hat hlt4)
      go_roundw
      case rel => exact ⟨k + 1, by omega, by go_num, by rw [HST.out, HR.out]; simpa using HO4.out, hbel4⟩
      case measure => simp [intOf] <;> omega
   ·go_wp2
    go_ret2
    have hke : k = g.nodes.length := by omega
    have zW := hBW.size
    refine ⟨_, rfl, hBW.trans (hbel.mono zW), u6, by first | rfl | (rw [HFE.out]; rfl), ?_⟩
    rw [HP2.out, ← hke]
    exact Own.ints (by simpa [Own] using HO.out) (fun b hb => by have := (HO.out.lt b hb).1; omega)
 ·have hd : (er != 0) = true := by simp [he]
  obtain rfl := HV1.out he
  have HNZ := Lib.hid he; clear he
  unfold noView
  go_wp2
  go_ret2
  exact ⟨_, rfl, hB.alloc hB.size _, .slice none 0 0, by first | rfl | (rw [HFE.out]; rfl), by rw [HPP.out, if_neg HNZ.out]; exact ints_nil _ _⟩
end Go.Proofs.Ytafjdoedallnbaa
/- parlourref26.Least -/
namespace Go.Proofs.Ytafjdoedallnbaa
open Go.RowKit
def insideOf (g : Gm) (roots : List Int) : List Int := (setsInL g roots).flatMap fun s => (setsL g).getD s.toNat []
def markedOf (g : Gm) (roots : List Int) : List Bool := markL (insideOf g roots) (underL g.nodes roots)
def leastStep (g : Gm) (roots : List Int) : List Int := topsTo (parentsL g.nodes) (markedOf g roots) g.nodes.length
def leastGo (g : Gm) : Nat → List Int → List Int
 | 0, r => r
 | f + 1, r => if closedL g r then r else leastGo g f (leastStep g r)
def RootsIn (g : Gm) (roots : List Int) : Prop := roots.length ≤ 1000 ∧ ∀ r ∈ roots, 0 ≤ r ∧ r < (g.nodes.length : Int)
theorem leastStep_in {g : Gm} (hsm : Small g) (roots : List Int) : RootsIn g (leastStep g roots) := by
 refine ⟨Nat.le_trans (topsTo_length _ _ _) (by have := hsm.nodes; omega), fun r hr => ?_⟩
 unfold leastStep topsTo at hr
 rw [List.mem_map] at hr
 obtain ⟨i, hi, rfl⟩ := hr
 rw [List.mem_filter, List.mem_range] at hi
 omega
theorem markedOf_length (g : Gm) (roots : List Int) : (markedOf g roots).length = g.nodes.length := by unfold markedOf; rw [markL_length, underL_length]
/-- what is marked lies under the tops -/
theorem tops_cover {g : Gm} (hg : Good g) (m : List Bool) : ∀ i : Nat, i < g.nodes.length → m.getD i false = true → In g.nodes (topsTo (parentsL g.nodes) m g.nodes.length) i := by
 have hl := parentsL_length g.nodes
 have hf := parents_falls hg
 have mem : ∀ i : Nat, i < g.nodes.length → topAt (parentsL g.nodes) m i = true → (i : Int) ∈ topsTo (parentsL g.nodes) m g.nodes.length := fun i hi ht => by
  unfold topsTo
  rw [List.mem_map]
  exact ⟨i, by rw [List.mem_filter, List.mem_range]; exact ⟨hi, ht⟩, rfl⟩
 have down : ∀ i : Nat, 0 < i → i < g.nodes.length → ∃ p : Nat, p < i ∧ (parentsL g.nodes)[i]? = some (p : Int) ∧ (In g.nodes (topsTo (parentsL g.nodes) m g.nodes.length) p → In g.nodes (topsTo (parentsL g.nodes) m g.nodes.length) i) := by
  intro i h0 hi
  obtain ⟨p, n, h1, h2, h3⟩ := has_parent hg h0 hi
  exact ⟨p, h1, parents_get hg hi h2 h3, fun h => (in_step hg hi h2 h3).2 (.inr h)⟩
 have chain : ∀ B : Nat, (∀ q : Nat, q < B → q < g.nodes.length → m.getD q false = true → In g.nodes (topsTo (parentsL g.nodes) m g.nodes.length) q) →
   ∀ p : Nat, p < B → p < g.nodes.length → aboveB (parentsL g.nodes) m (p : Int) = true → In g.nodes (topsTo (parentsL g.nodes) m g.nodes.length) p := by
  intro B hB p
  induction p using Nat.strongRecOn with
  | _ p ih =>
   intro hpB hp ha
   by_cases h0 : 0 < p
   ·obtain ⟨q, hq1, hq2, hq3⟩ := down p h0 hp
    rw [above_step hl hf hp hq2, Bool.or_eq_true] at ha
    rcases ha with ha | ha
    ·exact hB p hpB hp ha
    ·exact hq3 (ih q hq1 (by omega) (by omega) ha)
   ·obtain rfl : p = 0 := by omega
    obtain ⟨x, hx⟩ := getSome (l := parentsL g.nodes) (k := 0) (by rw [hl]; exact hp)
    rw [above_step hl hf hp hx, Bool.or_eq_true] at ha
    have := hf 0 x hp hx
    rw [above_none (show x < 0 by omega)] at ha
    rcases ha with ha | ha
    ·exact hB 0 hpB hp ha
    ·cases ha
 intro i
 induction i using Nat.strongRecOn with
 | _ i ih =>
  intro hi hm
  by_cases ht : topAt (parentsL g.nodes) m i = true
  ·exact in_root hg hi (mem i hi ht)
  ·obtain ⟨x, hx⟩ := getSome (l := parentsL g.nodes) (k := i) (by rw [hl]; exact hi)
   have ha : aboveB (parentsL g.nodes) m x = true := by
    unfold topAt at ht
    simp only [hm, Bool.true_and, List.getD_eq_getElem?_getD, hx, Option.getD_some, Bool.not_eq_true', Bool.not_eq_false] at ht
    exact ht
   by_cases h0 : 0 < i
   ·obtain ⟨p, hp1, hp2, hp3⟩ := down i h0 hi
    rw [hx] at hp2; cases hp2
    exact hp3 (chain i (fun q hq hqN hqm => ih q hq hqN hqm) p hp1 (by omega) ha)
   ·obtain rfl : i = 0 := by omega
    have := hf 0 x hi hx
    rw [above_none (show x < 0 by omega)] at ha
    cases ha
theorem count_le {l m : List Bool} (hl : l.length = m.length) (h : ∀ i, l.getD i false = true → m.getD i false = true) : l.countP id ≤ m.countP id := by
 induction l generalizing m with
 | nil => simp
 | cons b l ih =>
  cases m with
  | nil => simp at hl
  | cons c m =>
   have h1 := ih (m := m) (by simpa using hl) (fun i hi => by simpa using h (i + 1) (by simpa using hi))
   have h0 := h 0
   simp at h0
   cases b <;> cases c <;> simp_all <;> omega
theorem count_gt {l m : List Bool} (hl : l.length = m.length) (h : ∀ i, l.getD i false = true → m.getD i false = true) {k : Nat} (hk : l.getD k false = false) (hm : m.getD k false = true) : l.countP id < m.countP id := by
 have hkl : k < l.length := by
  rcases Nat.lt_or_ge k m.length with h1 | h1
  ·omega
  ·simp [List.getD_eq_getElem?_getD, List.getElem?_eq_none h1] at hm
 have h1 := count_set (l := l) (i := k) (by
  obtain ⟨b, hb⟩ := getSome hkl
  simp [List.getD_eq_getElem?_getD, hb] at hk
  rw [hb, hk])
 have h2 := count_le (l := l.set k true) (m := m) (by simpa using hl) (fun i hi => by
  by_cases hik : k = i
  ·subst hik; exact hm
  ·simp only [List.getD_eq_getElem?_getD, List.getElem?_set_ne hik] at hi
   exact h i (by simpa [List.getD_eq_getElem?_getD] using hi))
 omega
theorem under_get {g : Gm} (hg : Good g) {roots : List Int} (hr : ∀ r ∈ roots, 0 ≤ r ∧ r < (g.nodes.length : Int)) (i : Nat) : (underL g.nodes roots).getD i false = true ↔ i < g.nodes.length ∧ In g.nodes roots i := by
 by_cases hi : i < g.nodes.length
 ·obtain ⟨b, h1, h2⟩ := underL_in hg (fun r h => (hr r h).1) hi
  simp only [List.getD_eq_getElem?_getD, h1, Option.getD_some, h2, hi, true_and]
 ·rw [List.getD_eq_getElem?_getD, List.getElem?_eq_none (by rw [underL_length]; omega)]
  simp [hi]
theorem markL_getD {roots : List Int} {l : List Bool} (hr : ∀ r ∈ roots, 0 ≤ r ∧ r < (l.length : Int)) (i : Nat) : (markL roots l).getD i false = true ↔ (i : Int) ∈ roots ∨ l.getD i false = true := by
 by_cases hi : i < l.length
 ·rw [List.getD_eq_getElem?_getD, markL_get hi (fun r h => (hr r h).1)]
  split
  ·rename_i h; simp [h]
  ·rename_i h; simp [h, List.getD_eq_getElem?_getD]
 ·rw [List.getD_eq_getElem?_getD, List.getElem?_eq_none (by rw [markL_length]; omega), List.getD_eq_getElem?_getD, List.getElem?_eq_none (by omega)]
  simp
  intro h
  have := hr _ h
  omega
theorem insideOf_in {g : Gm} (roots : List Int) : ∀ x ∈ insideOf g roots, 0 ≤ x ∧ x < (g.nodes.length : Int) := by
 intro x hx
 unfold insideOf at hx
 rw [List.mem_flatMap] at hx
 obtain ⟨s, _, hx⟩ := hx
 rcases Nat.lt_or_ge s.toNat (setsL g).length with h | h
 ·obtain ⟨l, hl⟩ := getSome h
  simp only [List.getD_eq_getElem?_getD, hl, Option.getD_some] at hx
  exact setsTo_in (Nat.le_refl _) l (List.mem_of_getElem? hl) x hx
 ·simp [List.getD_eq_getElem?_getD, List.getElem?_eq_none h] at hx
theorem mem_setsIn {g : Gm} {roots : List Int} {s : Int} : s ∈ setsInL g roots ↔ ∃ (q : Nat) (l : List Int), s = q ∧ (setsL g)[q]? = some l ∧ l.any (inAt (underL g.nodes roots)) = true := by
 have hl : (setsL g).length = g.infos.length := setsTo_length _ _ _
 unfold setsInL
 rw [← some_sets, ← hl]
 exact mem_someL
/-- a step makes more inside, unless the roots are closed -/
theorem least_grows {g : Gm} (hg : Good g) (hsm : Small g) {roots : List Int} (hr : ∀ r ∈ roots, 0 ≤ r ∧ r < (g.nodes.length : Int)) (hc : closedL g roots = false) : (underL g.nodes roots).countP id < (underL g.nodes (leastStep g roots)).countP id := by
 have hr2 := (leastStep_in hsm roots).2
 have hmk : ∀ i, (markedOf g roots).getD i false = true ↔ (i : Int) ∈ insideOf g roots ∨ (underL g.nodes roots).getD i false = true := fun i => by
  unfold markedOf
  exact markL_getD (by rw [underL_length]; exact insideOf_in roots) i
 have hcov : ∀ i, (markedOf g roots).getD i false = true → (underL g.nodes (leastStep g roots)).getD i false = true := fun i hi => by
  have hiN : i < g.nodes.length := by
   rcases Nat.lt_or_ge i g.nodes.length with h | h
   ·exact h
   ·rw [List.getD_eq_getElem?_getD, List.getElem?_eq_none (by rw [markedOf_length]; exact h)] at hi; simp at hi
  rw [under_get hg hr2]
  exact ⟨hiN, tops_cover hg _ i hiN hi⟩
 -- a node of a set that is inside, which is outside
 unfold closedL allInTo at hc
 rw [List.all_eq_false] at hc
 obtain ⟨l, hl, hb⟩ := hc
 have hl' := List.mem_of_mem_take hl
 rw [many_any, many_all] at hb
 simp only [Bool.or_eq_true, Bool.not_eq_true', not_or, Bool.not_eq_false, Bool.not_eq_true] at hb
 obtain ⟨q, hq⟩ := List.getElem?_of_mem hl'
 rw [List.all_eq_false] at hb
 obtain ⟨ha, x, hx, hxn⟩ := hb
 have hx2 := setsTo_in (Nat.le_refl _) l hl' x hx
 obtain ⟨z, rfl⟩ := Int.eq_ofNat_of_zero_le hx2.1
 refine count_gt (by rw [underL_length, underL_length]) (fun i hi => hcov i ((hmk i).2 (.inr hi))) (k := z) ?_ (hcov z ((hmk z).2 (.inl ?_)))
 ·unfold inAt at hxn; simpa using hxn
 ·unfold insideOf
  rw [List.mem_flatMap]
  exact ⟨q, mem_setsIn.2 ⟨q, l, rfl, hq, ha⟩, by simp [List.getD_eq_getElem?_getD, hq]; exact hx⟩
def leastErrR (g : Gm) (node : Int) : Int := if formL g ≠ 0 then formL g else if node < 0 ∨ (g.nodes.length : Int) ≤ node then 2 else 0
def leastRL (g : Gm) (node : Int) : List Int := if leastErrR g node = 0 then leastGo g (g.nodes.length + 1) [node] else []
def OneIntsR (B : Nat) (e : Int) (l : List Int) (v : Value) (w' : World) : Prop := ∃ v1, v = .tuple #[v1, .int .i64 e] ∧ IntsAt w' (fun b => B ≤ b) v1 l
/-- the first k of some lists of nodes marked, and j of the next -/
theorem mark_snoc (l m : List Int) (b : List Bool) : markL (l ++ m) b = markL m (markL l b) := by unfold markL; rw [List.foldl_append]
set_option maxRecDepth 100000 in
set_option maxHeartbeats 6400000 in
theorem leastR_any (w : World) (F : Foot) (u : Value) (node : Int) (g : Gm) (hg : GameAt w F u g) (hsm : Small g) :
  Calls Try.prog 15 #[u, .int .i64 node] w (Ret w (OneIntsR w.heap.size (leastErrR g node) (leastRL g node))) := by
 have HG := Lib.hid hg
 obtain ⟨vn, vi, rfl, ⟨A, c, rfl, hc, hN⟩, ⟨Ai, ci, rfl, hci, hI⟩⟩ := hg
 clear hN hI
 have hn := hsm.nodes
 have hni := hsm.infos
 have HS := Lib.hid hsm; clear hsm
 go_enter Try.func15, Try.ntmps15
 go_wp2_with fail
 refine (formR_any _ F _ g (HG.out.on (Same.alloc _ _ _)) HS.out).mono ?_
 rintro e w1 ⟨_, rfl, hb1, rfl⟩
 have hbx := (Row.new w 25 #[.int .i64 g.players, .slice A g.nodes.length c, .slice Ai g.infos.length ci]).below hb1 (by simp)
 have hB : Below w.heap.size w w1 := ((Below.refl w.heap.size w).alloc (Nat.le_refl _) _).trans (hb1.mono (by simp))
 clear hb1
 have HLE := Lib.hid (show leastErrR g node = if formL g ≠ 0 then formL g else if node < 0 ∨ (g.nodes.length : Int) ≤ node then 2 else 0 from rfl)
 have HLP := Lib.hid (show leastRL g node = if leastErrR g node = 0 then leastGo g (g.nodes.length + 1) [node] else [] from rfl)
 have HGD := Lib.hid (fun h : formL g = 0 => good_of h)
 generalize formL g = er at *
 have hlt1 := hbx.lt
 dsimp only
 by_cases he : er = 0
 ·have hgd := HGD.out he
  have HE2 := Lib.hid (show leastErrR g node = if node < 0 ∨ (g.nodes.length : Int) ≤ node then 2 else 0 by rw [HLE.out, if_neg (by simpa using he)])
  have HGG := Lib.hid hgd
  have hp := hgd.pos
  subst he
  clear hgd HGD
  have x1 := hbx.cell (i := 1) rfl
  by_cases q0 : node < 0
  ·have HF := Lib.hid (show leastErrR g node = 2 by rw [HE2.out, if_pos (.inl q0)])
   go_wp2
   go_ret2
   exact ⟨_, rfl, hB, .slice none 0 0, by rw [HF.out]; rfl, by rw [HLP.out, HF.out]; exact ints_nil _ _⟩
  ·have d0 : decide (node < 0) = false := decide_eq_false q0
   by_cases q1 : (g.nodes.length : Int) ≤ node
   ·have HF := Lib.hid (show leastErrR g node = 2 by rw [HE2.out, if_pos (.inr q1)])
    go_wp2
    go_ret2
    exact ⟨_, rfl, hB, .slice none 0 0, by rw [HF.out]; rfl, by rw [HLP.out, HF.out]; exact ints_nil _ _⟩
   ·have d1 : decide ((g.nodes.length : Int) ≤ node) = false := decide_eq_false q1
    have HF := Lib.hid (show leastErrR g node = 0 by rw [HE2.out, if_neg (by omega)])
    have HL2 := Lib.hid (show leastRL g node = leastGo g (g.nodes.length + 1) [node] by rw [HLP.out, HF.out]; rfl)
    have x0 := hbx.cell (i := 0) rfl
    have x2 := hbx.cell (i := 2) rfl
    go_wp2_with fail
    obtain ⟨w2, hw2, hrn, hb2, _⟩ := row_of_alloc w1 3 #[.int .i64 node]
    rw [← hw2]
    clear hw2
    have hB2 := hB.trans (hb2.mono hB.size)
    refine (setsOf_any _ F _ g (HG.out.on (Below.same' hB2 F)) HS.out HGG.out.infos).mono ?_
    rintro e w3 ⟨vs, rfl, hb3, hvs⟩
    have hB3 := hB2.trans (hb3.mono hB2.size)
    have hbx3 := (hbx.below hb2 hbx.lt).below hb3 (by have := hb2.size; omega)
    have hrn3 := hrn.below hb3 hrn.lt
    have hsl : (setsL g).length = g.infos.length := setsTo_length _ _ _
    obtain ⟨As, cs, rfl, hcs, hSs⟩ := hvs
    rw [hsl] at hcs ⊢
    have HSS := Lib.hid hSs
    have HSL := Lib.hid hsl
    have hR0 : IntsAt w3 (fun b => w.heap.size ≤ b) (.slice (some ⟨w1.heap.size, 0, none⟩) 1 1) [node] := Row.ints (l := [node]) hrn3 (by have := hB.size; omega) (c := 1) (by simp)
    clear hSs hsl x0 x1 x2 hrn hrn3 hb2 hbx hB hB2 hb3
    have hw3 : w.heap.size < w3.heap.size := hbx3.lt
    dsimp only
    go_wp2
    obtain ⟨wo, rfl⟩ : ∃ wo : World, wo = w3 := ⟨_, rfl⟩
    go_loopg [7, 9, 10, 11, 12, 13] (g.nodes.length + 1) (fun f vr _ _ _ _ _ wr => ∃ roots : List Int, RootsIn g roots ∧ g.nodes.length < f + (underL g.nodes roots).countP id ∧ leastGo g (g.nodes.length + 1) [node] = leastGo g f roots ∧ IntsAt wr (fun b => w.heap.size ≤ b) vr roots ∧ Below wo.heap.size wo wr)
    case atStart => exact ⟨[node], ⟨by simp, fun r hr => by simp at hr; omega⟩, by omega, rfl, hR0, Below.refl _ _⟩
    case round =>
     clear hR0
     obtain ⟨roots, hri, hcnt, hval, hvr, hbel⟩ := hrel
     have HRI := Lib.hid hri
     have hr1 := hri.1
     have HV := Lib.hid hval
     have hcl : (underL g.nodes roots).countP id ≤ g.nodes.length := by
      have h1 : (underL g.nodes roots).countP id ≤ (underL g.nodes roots).length := List.countP_le_length
      rwa [underL_length] at h1
     obtain ⟨f, rfl⟩ : ∃ f, gk = f + 1 := ⟨gk - 1, by omega⟩
     clear hcl
     have HVR := Lib.hid hvr
     have HCN := Lib.hid hcnt
     obtain ⟨Ar, cr, rfl, hcr, hRr⟩ := hvr
     clear hri hval hRr hcnt
     have hbx4 := hbx3.below hbel hbx3.lt
     have hB4 := hB3.trans (hbel.mono hB3.size)
     have x0 := hbx4.cell (i := 0) rfl
     have x1 := hbx4.cell (i := 1) rfl
     have x2 := hbx4.cell (i := 2) rfl
     go_wp2_with fail
     refine (setsIn_any _ (fun _ => True) _ _ g roots (HG.out.keep (fun _ _ _ => trivial) (Below.same' hB4 F)) (HVR.out.keep (fun _ _ _ => trivial) (Same.refl _ _)) HS.out hp HGG.out.kidsIn HGG.out.infos hr1 HRI.out.2).mono ?_
     rintro e w5 ⟨_, rfl, hb5, vi5, rfl, hvi5⟩
     have hbel5 := hbel.trans (hb5.mono hbel.size)
     have hB5 := hB4.trans (hb5.mono hB4.size)
     have hbx5 := hbx4.below hb5 hbx4.lt
     have HCL := Lib.hid (show leastGo g (g.nodes.length + 1) [node] = if closedL g roots then roots else leastGo g f (leastStep g roots) by rw [HV.out]; rfl)
     have HGR := Lib.hid (fun h : closedL g roots = false => least_grows HGG.out HS.out HRI.out.2 h)
     have HVR5 := Lib.hid (HVR.out.on (Below.same' hb5 _))
     clear x0 x1 x2 hbx4 hbel hb5
     generalize closedL g roots = cl at *
     dsimp only
     cases cl
     ·have HGR2 := Lib.hid (HGR.out rfl)
      have HC2 := Lib.hid (show leastGo g (g.nodes.length + 1) [node] = leastGo g f (leastStep g roots) by rw [HCL.out]; rfl)
      have x0 := hbx5.cell (i := 0) rfl
      have x1 := hbx5.cell (i := 1) rfl
      have x2 := hbx5.cell (i := 2) rfl
      go_wp2_with fail
      refine (under_row _ (fun _ => True) _ _ g roots (HG.out.keep (fun _ _ _ => trivial) (Below.same' hB5 F)) (HVR5.out.keep (fun _ _ _ => trivial) (Same.refl _ _)) HS.out hp HGG.out.kidsIn hr1 HRI.out.2).mono ?_
      rintro e w6 ⟨_, rfl, hb6, bm, rfl, hbm, hrm⟩
      have hbel6 := hbel5.trans (hb6.mono hbel5.size)
      have hB6 := hB5.trans (hb6.mono hB5.size)
      have hbx6 := hbx5.below hb6 hbx5.lt
      have hlI : (setsInL g roots).length ≤ 100 := by unfold setsInL; have := setsInTo_length (underL g.nodes roots) (setsL g) g.infos.length; omega
      have HIM := Lib.hid (fun s (h : s ∈ setsInL g roots) => mem_setsIn.1 h)
      have HIS := Lib.hid (show markedOf g roots = markL ((setsInL g roots).flatMap fun s => (setsL g).getD s.toNat []) (underL g.nodes roots) from rfl)
      have hul := underL_length g.nodes roots
      have HUL := Lib.hid hul; clear hul
      generalize setsInL g roots = ins at *
      obtain ⟨Ai5, ci5, rfl, hci5, hIi5⟩ := hvi5.keep (G := fun b => b < w5.heap.size) (fun b _ hl => hl) (Below.same' hb6 _)
      have HII := Lib.hid hIi5
      clear hIi5 hvi5 x0 x1 x2 hbx5 hb6
      have hw5m : wo.heap.size ≤ bm := by have := hbel5.size; omega
      have hbml := hrm.lt
      dsimp only
      go_wp2
      obtain ⟨wq, rfl⟩ : ∃ wq : World, wq = w6 := ⟨_, rfl⟩
      go_loopw [12, 13] (fun i _ wr => ∃ k : Nat, k ≤ ins.length ∧ i = .int .i64 k ∧ Row wr bm 4 (boolsV (markL ((ins.take k).flatMap fun s => (setsL g).getD s.toNat []) (underL g.nodes roots))) ∧ Wrote (fun b => b = bm) wq wr) (fun i _ _ => ins.length - (intOf i).toNat)
      case atStart => exact ⟨0, by omega, rfl, hrm, Wrote.refl _ _⟩
      case round =>
       clear hrm
       obtain ⟨k, hk, rfl, hrow, hww⟩ := hrel
       by_cases hkt : k < ins.length
       ·obtain ⟨bi, oi, rfl, hbiF, hbi, hxi⟩ := HII.out (by omega)
        obtain ⟨s, hs⟩ := getSome hkt
        obtain ⟨q, l, hsq, hql, _⟩ := HIM.out s (List.mem_of_getElem? hs)
        subst hsq
        have es := hxi k _ hs
        unfold intE at es
        rw [Nat.mul_one] at es
        have hqN : q < g.infos.length := by rw [← HSL.out]; exact lt_of_get hql
        obtain ⟨bs, os, rfl, _, hbs, hxs⟩ := HSS.out (by rw [HSL.out]; omega)
        obtain ⟨vl', el, Av, cv, rfl, hcv, hAv⟩ := hxs q l hql
        rw [Nat.mul_one, ← below_old hbel6 _ _ hbs] at el
        have hmem := List.mem_of_getElem? hql
        have hll : l.length ≤ 1000 := (setsL_small HS.out).2 l hmem
        have HLX := Lib.hid (fun x hx => setsTo_in (Nat.le_refl _) l hmem x hx)
        have HAV := Lib.hid hAv
        have HTK := Lib.hid (show (ins.take (k + 1)).flatMap (fun s => (setsL g).getD s.toNat []) = ((ins.take k).flatMap fun s => (setsL g).getD s.toNat []) ++ l by
         rw [take_snoc hs, List.flatMap_append]; simp [List.getD_eq_getElem?_getD, hql])
        clear hs hql hxi hxs hAv hmem
        have hbim : bi ≠ bm := by omega
        have hbsm : bs ≠ bm := by have := hbel6.size; omega
        rw [← hww.cell bi _ hbi hbim] at es
        rw [← hww.cell bs _ (by have := hbel6.size; omega) hbsm] at el
        have HES := Lib.hid (And.intro es el)
        generalize ((ins.take k).flatMap fun s => (setsL g).getD s.toNat []) = pre at *
        obtain ⟨wa, rfl⟩ : ∃ wa : World, wa = wr := ⟨_, rfl⟩
        go_wp2
        go_loopw [13] (fun i wr => ∃ j : Nat, j ≤ l.length ∧ i = .int .i64 j ∧ Row wr bm 4 (boolsV (markL (pre ++ l.take j) (underL g.nodes roots))) ∧ Wrote (fun b => b = bm) wa wr) (fun i _ => l.length - (intOf i).toNat)
        case atStart => exact ⟨0, by omega, rfl, by simpa using hrow, Wrote.refl _ _⟩
        case round =>
         clear hrow es el
         obtain ⟨j, hj, rfl, hrow, hww2⟩ := hrel
         have hws := hww.size
         have es : wr.cell? ⟨bi, oi + k, none⟩ = some (.int .i64 (q : Int)) := by rw [hww2.cell bi _ (by omega) hbim]; exact HES.out.1
         have el : wr.cell? ⟨bs, os + q, none⟩ = some (.slice Av l.length cv) := by rw [hww2.cell bs _ (by have := hbel6.size; omega) hbsm]; exact HES.out.2
         by_cases hjt : j < l.length
         ·obtain ⟨bv, ov, rfl, _, hbv, hxv⟩ := HAV.out (by omega)
          obtain ⟨x, hx⟩ := getSome hjt
          have ex := hxv j x hx
          unfold intE at ex
          have hbvm : bv ≠ bm := by omega
          rw [Nat.mul_one, ← below_old hbel6 _ _ hbv, ← hww.cell bv _ (by have := hbel6.size; omega) hbvm, ← hww2.cell bv _ (by have := hbel6.size; omega) hbvm] at ex
          obtain ⟨hx0, hx1⟩ := HLX.out x (List.mem_of_getElem? hx)
          obtain ⟨z, rfl⟩ := Int.eq_ofNat_of_zero_le hx0
          have hzN : z < g.nodes.length := by omega
          have HTJ := Lib.hid (show markL (pre ++ l.take (j + 1)) (underL g.nodes roots) = (markL (pre ++ l.take j) (underL g.nodes roots)).set z true by
           rw [take_snoc hx, ← List.append_assoc, mark_snoc]; rfl)
          have hml := markL_length (pre ++ l.take j) (underL g.nodes roots)
          clear hx hxv
          generalize markL (pre ++ l.take j) (underL g.nodes roots) = mk at *
          obtain ⟨y, hy⟩ := getSome (l := mk) (k := z) (by rw [hml, HUL.out]; exact hzN)
          have ey := hrow.cell (i := z) (v := .bool y) (by simp [boolsV, hy])
          have fy := hrow.frozen z
          have HML := Lib.hid hml
          clear hy hml
          go_wp2
          go_roundw
          case rel =>
           refine ⟨j + 1, by omega, by go_num, ?_, hww2.setCell (.inl rfl) _⟩
           rw [HTJ.out]
           have := hrow.set z (.bool true)
           simpa [boolsV, List.map_set] using this
          case measure => simp [intOf] <;> omega
         ·have HTJ := Lib.hid (show l.take j = l from List.take_of_length_le (by omega))
          rw [HTJ.out] at hrow
          go_wp2
          go_roundw
          case rel => exact ⟨k + 1, by omega, by go_num, by rw [HTK.out]; exact hrow, hww.trans hww2⟩
          case measure => simp [intOf] <;> omega
       ·have HTJ := Lib.hid (show ins.take k = ins from List.take_of_length_le (by omega))
        rw [HTJ.out, ← HIS.out] at hrow
        have hbx7 := hbx6.wrote hww (by have := hbx6.lt; omega)
        have hB7 : Below w.heap.size w wr := Wrote.below hB6 hww (fun k hk => by omega) hB6.size
        have hbel7 : Below wo.heap.size wo wr := Wrote.below hbel6 hww (fun k hk => by omega) hbel6.size
        have x0 := hbx7.cell (i := 0) rfl
        have x1 := hbx7.cell (i := 1) rfl
        have x2 := hbx7.cell (i := 2) rfl
        have hml := markedOf_length g roots
        have hbm2 : BoolsAt wr (fun _ => True) (.slice (some ⟨bm, 0, none⟩) g.nodes.length g.nodes.length) (markedOf g roots) := by
         have := Row.bools (F := fun _ => True) hrow trivial (c := g.nodes.length) (by omega)
         rwa [hml] at this
        have HBM := Lib.hid hbm2
        have HML := Lib.hid hml
        have HST := Lib.hid (show leastStep g roots = topsTo (parentsL g.nodes) (markedOf g roots) g.nodes.length from rfl)
        clear hbm2 hml hrow
        go_wp2_with fail
        refine (tops_any _ (fun _ => True) _ _ g (markedOf g roots) (HG.out.keep (fun _ _ _ => trivial) (Below.same' hB7 F)) HBM.out HML.out HS.out HGG.out).mono ?_
        rintro e w8 ⟨v8, rfl, hb8, hv8⟩
        rw [← HST.out] at hv8
        have hB7s := hB7.size
        have HV8 := Lib.hid (hv8.keep (G := fun b => w.heap.size ≤ b) (fun b hb _ => by omega) (Same.refl _ _))
        have hbel8 := hbel7.trans (hb8.mono hbel7.size)
        clear hv8 hb8 x0 x1 x2
        dsimp only
        go_wp2
        go_roundg f
        case measure => omega
        case rel => exact ⟨leastStep g roots, leastStep_in HS.out roots, by have h1 := HCN.out; have h2 := HGR2.out; omega, HC2.out, HV8.out, hbel8⟩
     ·go_wp2
      go_ret2
      exact ⟨_, rfl, hB5, _, by rw [HF.out]; rfl, by rw [HL2.out, HCL.out]; exact HVR5.out⟩
 ·have hd : (er != 0) = true := by simp [he]
  have HF := Lib.hid (show leastErrR g node = er by rw [HLE.out, if_pos he])
  have HNZ := Lib.hid he; clear he
  go_wp2
  go_ret2
  exact ⟨_, rfl, hB, .slice none 0 0, by rw [HF.out]; rfl, by rw [HLP.out, HF.out, if_neg HNZ.out]; exact ints_nil _ _⟩
end Go.Proofs.Ytafjdoedallnbaa
