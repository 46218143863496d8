/- aai.SetsOf: the nodes of each information set. -/
import Derived.Test.YtkcheepafifjaaaGreatDoorS24
import Derived.Test.YtkcheepafifjaaaGreatDoorS05
import Derived.Test.YtkcheepafifjaaaGreatDoorS03
import Derived.Test.YtkcheepafifjaaaGreatDoorS04
import Derived.Test.YtkcheepafifjaaaGreatDoorS06
set_option linter.all false
namespace Go.Proofs.YtkcheepafifjaaaGreatDoor
open List renaming getElem_toArray → lq1, getElem_cons_zero → lq2, getElem_cons_succ → lq3, setIfInBounds_toArray → lq4, set_cons_zero → lq5, set_cons_succ → lq6
open Go.RowKit
set_option maxRecDepth 100000 in
set_option maxHeartbeats 1600000 in
theorem acI (w : World) (F : Ac) (u : Value) (g : Gm) (hg : Aj w F u g) (hsm : Small g) (hin : Bj g) :
  Calls Tryz.prog 111 #[u] w (Ret w fun v w' => BA w' (fun b => w.heap.size ≤ b) v (lW g)) := by
 obtain ⟨vn, vi, rfl, ⟨A, c, rfl, hc, hN⟩, ⟨Ai, ci, rfl, hci, hI⟩⟩ := hg;have HN := Lib.hid hN; clear hN hI;have hn := hsm.nodes;have hni := hsm.infos;have HIN := Lib.hid hin; clear hin;go_enter Tryz.func111, Tryz.ntmps111;go_wp2_with (at_make; refine fE _ rfl _ _ 112 rfl 57 (.slice none 0 0) 24 Tryz.underlying112 Tryz.infoInts rfl g.infos.length rfl rfl (by omega) (by omega) ?_; intro w1 hb1 hz1 hrow1)
 simp only [World.size_alloc] at hb1 hz1 hrow1;go_loopw [4] (fun i wr => ∃ (k : Nat) (vs : List Value), k ≤ g.nodes.length ∧ i = .int .i64 k ∧ Row wr w.heap.size 25 [.int .i64 g.ak, .slice A g.nodes.length c, .slice Ai g.infos.length ci] ∧ Row wr (w.heap.size + 1) 57 vs ∧ OwnRows wr (w.heap.size + 2) 3 vs (eU g.nodes g.infos.length k) ∧ Below w.heap.size w wr) (fun i _ => g.nodes.length - (intOf i).toNat)
 case atStart =>
  refine ⟨0, _, by omega, rfl, ?_, hrow1, ?_, ?_⟩
  ·exact (Row.new w _ _).below hb1 (by simp)
  ·exact OwnRows.start _ _ _ _
  ·exact ((Below.refl w.heap.size w).alloc (Nat.le_refl _) _).trans (hb1.mono (by omega))
 case round =>
  obtain ⟨k, vs, hk, rfl, hr, hrow, hown, hbel⟩ := hrel;have x1 := hr.cell (i := 1) rfl;by_cases hlt : k < g.nodes.length
  ·obtain ⟨b, o, rfl, _, hb, hcell⟩ := HN.out (by omega);obtain ⟨n, hn'⟩ := aA hlt;obtain ⟨e0, e1, e2, ⟨v3, e3, A3, c3, rfl, hc3, i3⟩, ⟨v4, e4, A4, c4, rfl, hc4, i4⟩, ⟨v5, e5, A5, c5, rfl, hc5, i5⟩⟩ := hcell k n hn';clear i3 i4 i5 hcell;have HX := Lib.hid hn'; clear hn';have hold := aJ hbel;have hlr := hrow.lt;by_cases hkd : n.kind = 2
   ·obtain ⟨hin0, hin1⟩ := HIN.out n (List.mem_of_getElem? HX.out) hkd;have hd : (n.kind == 2) = true := by simp [hkd]
    have HKD := Lib.hid hkd; clear hkd;obtain ⟨l, hl⟩ := aA (l := eU g.nodes g.infos.length k) (k := n.info.toNat) (by rw [fJ]; omega);obtain ⟨v, hv⟩ := aA (l := vs) (k := n.info.toNat) (by rw [hown.len, fJ]; omega);have rv := hrow.cell hv;have fv := hrow.frozen n.info.toNat;have ho := hown.own _ v l hv hl;have hll := xg l (List.mem_of_getElem? hl);have HO := Lib.hid ho; clear ho;have HL := Lib.hid hl; clear hl;have HV := Lib.hid hv; clear hv;go_wp2
    obtain ⟨W, hW⟩ : ∃ W : World, W = wr.alloc (.cells #[.int .i64 n.kind, .int .i64 n.aG, .int .i64 n.info, .slice A3 n.next.length c3, .slice A4 n.weights.length c4, .slice A5 n.pay.length c5] 67) := ⟨_, rfl⟩;rw [← hW];have cx : W.cell? ⟨wr.heap.size, 2, none⟩ = some (.int .i64 n.info) := by rw [hW]; simp
    have hWz : W.heap.size = wr.heap.size + 1 := by rw [hW]; simp
    have hWo : OwnRows W (w.heap.size + 2) 3 vs (eU g.nodes g.infos.length k) := by rw [hW]; exact hown.alloc _
    have hWr : Row W w.heap.size 25 [.int .i64 g.ak, .slice (some ⟨b, o, none⟩) g.nodes.length c, .slice Ai g.infos.length ci] := by rw [hW]; exact hr.alloc _
    have hWw : Row W (w.heap.size + 1) 57 vs := by rw [hW]; exact hrow.alloc _
    have hWb : Below w.heap.size w W := by rw [hW]; exact hbel.alloc hbel.size _
    have rv := hWw.cell HV.out;have fv := hWw.frozen n.info.toNat;have HOW := Lib.hid (hWo.own _ v l HV.out HL.out);have hWlt : wr.heap.size < W.heap.size := by omega
    have HHW := Lib.hid hWz; have hWle : w.heap.size + 2 < W.heap.size := by omega
    clear hW hWz hr hrow hown hbel x1 hold e0 e1 e2 e3 e4 e5 hlr;have HWR := Lib.hid (And.intro hWr (And.intro hWw (And.intro hWo hWb))); clear hWr hWw hWo hWb;refine ae0 (fun w' => w'.cell? ⟨wr.heap.size, 2, none⟩ = some (.int .i64 n.info) ∧ w'.cell? ⟨w.heap.size + 1, n.info.toNat, none⟩ = some v) 11 (by kernel_rfl) rfl rfl (by kernel_rfl) (by kernel_rfl) (by kernel_rfl) (by kernel_rfl) ⟨cx, rv⟩ ?_;have hHeld : (fun w' : World => w'.cell? ⟨wr.heap.size, 2, none⟩ = some (.int .i64 n.info) ∧ w'.cell? ⟨w.heap.size + 1, n.info.toNat, none⟩ = some v) W.drew := ⟨cx, rv⟩;simp only [List.take_succ_cons, List.take_zero];refine tk0 [0,1,2,3,4,5,6,7,8] ?_;iterate 9 (refine tk (v := ?_) rfl (by kernel_rfl) (by kernel_rfl) (by kernel_rfl) (fun _ _ _ h => h) (Or.inl ⟨by rfl, ?_⟩) hHeld ?_;rotate_left;(focus intro wx hSx;(try dsimp only at hSx);go_split_ands;go_simp;try with_reducible rfl);try simp only [Act.put, lq1, lq2, lq3, lq4, lq5, lq6])
    refine tk1 ?_;refine tk2 9 (by kernel_rfl) rfl fun K hK => ?_
    go_simp;refine hK.out _ _ ⟨by rw [World.cell?_drew, World.cell?_alloc_lt _ _ _ (by simp; omega)]; exact cx, by rw [World.cell?_drew, World.cell?_alloc_lt _ _ _ (by simp; omega)]; exact rv⟩ (fun hHeld => ?_);clear hK K;try simp only [Act.put, List.setIfInBounds_toArray, List.set_cons_zero, List.set_cons_succ]
    refine tk2 10 (by kernel_rfl) rfl fun K hK => ?_
    refine aaj (by rfl) _ _ (by rfl) (w.heap.size + 2) v l (by rfl) (HOW.out.alloc _) W.heap.size k (by rfl) (heap_alloc_new W _) (by omega) (by simp; omega) ?_;intro gg cap w1 hown1 hgrow hat hlt1;have hnb : ∀ b, v.ownBlock = some b → w.heap.size + 2 ≤ b := fun b hb => (HOW.out.lt b hb).1
    have hHG : ∀ b, b < w.heap.size + 2 → w1.heap[b]? = W.heap[b]? := fun b hb => by
     rw [hgrow.block b (by simp; omega) (fun e => by have := hnb b e.symm; omega)];exact Below.heap_alloc W _ b (by omega)
    obtain ⟨hWr, hWw, hWo, hWb⟩ := HWR.out;have k1 : Row w1 w.heap.size _ _ := hWr.of_block (hHG _ (by omega));have k2 : Row w1 (w.heap.size + 1) _ _ := hWw.of_block (hHG _ (by omega));have k3 := ((hWo.alloc _).drew).put HV.out hown1 hgrow rfl hat;have k4 : Below w.heap.size w w1 := ((hWb.alloc (by omega) _).drew).grown hgrow (by simp; omega) (fun k hk => by have := hnb k hk; omega);have rv1 := k2.cell HV.out;have fv1 := k2.frozen n.info.toNat;have KK := Lib.hid (And.intro k1 (And.intro k2 (And.intro k3 k4)));refine hK.out _ _ ⟨?_, rv1⟩ (fun hHeld => ?_)
    ·rw [hgrow.cell_far _ (by simp; omega) (fun e => by have := (HO.out.lt _ e.symm).2; simp at this), World.cell?_drew, World.cell?_alloc_lt _ _ _ (by simp; omega)]; exact cx
    clear hK K k1 k2 k3 k4 hWr hWw hWo hWb hHG hgrow hown1 hat cx rv fv;try simp only [Act.put, List.setIfInBounds_toArray, List.set_cons_zero, List.set_cons_succ]
    refine wpAnyH_done (by kernel_rfl) ?_ _;show wpList _ _ _ _ _ _;go_wp2
    show wpList _ _ _ _ _ _;go_wp2
    go_roundw
    case rel =>
     obtain ⟨k1, k2, k3, k4⟩ := KK.out;refine ⟨k + 1, _, by omega, by go_num, k1.other (by simp) _, k2.set _ _, ?_, k4.setCell (by simp) _⟩;rw [vC HX.out HKD.out HL.out];exact k3.setCell (by simp) _
    case measure => simp [intOf]; omega
   ·have hd : (n.kind == 2) = false := by simp [hkd]
    have HKD := Lib.hid hkd; clear hkd;go_wp2
    go_roundw
    case rel =>
     refine ⟨k + 1, vs, by omega, by go_num, by repeat (first | exact hr | refine Row.alloc ?_ _ | refine Row.other ?_ (by have := hr.lt; simp; omega) _), by repeat (first | exact hrow | refine Row.alloc ?_ _ | refine Row.other ?_ (by simp; omega) _), ?_, by repeat (first | exact hbel | refine Below.alloc ?_ hbel.size _ | refine Below.setCell ?_ hbel.size _)⟩;rw [vF HX.out HKD.out];repeat (first | exact hown | refine OwnRows.alloc ?_ _)
    case measure => simp [intOf]; omega
  ·go_wp2
   go_ret;refine ⟨_, rfl, hbel, ?_⟩;have hke : k = g.nodes.length := by omega
   subst hke;have h1 : (lW g).length = g.infos.length := fJ _ _ _;have := OwnRows.rows (F := fun b => w.heap.size ≤ b) hown hrow (by omega) (fun _ _ => by omega) (c := g.infos.length) (by rw [fJ]; omega);rw [fJ] at this;exact this
def iK (g : Gm) : Prop := g.ak < 1 ∨ 4 < g.ak ∨ g.nodes.length < 1 ∨ 2000 < g.nodes.length ∨ 200 < g.infos.length
instance (g : Gm) : Decidable (iK g) := by unfold iK; infer_instance
def bT (ak : Int) (ni : Nat) : List Nd → Int
 | [] => 0
 | x :: l => if aN ak ni x ≠ 0 then aN ak ni x else bT ak ni l
def cO (infos : List Inf) (x : Nd) : Bool := decide (x.kind = 2) && (decide ((infos.getD x.info.toNat default).aG ≠ x.aG) || decide ((infos.getD x.info.toNat default).actions ≠ (x.next.length : Int)))
def oO (g : Gm) : Bool := g.nodes.any (cO g.infos)
def lK (sets : List (List Int)) : Bool := sets.any fun l => decide (l.length = 0)
def jI (sets : List (List Int)) (i : Nat) : Bool := decide ((sets.getD i []).getD 0 0 < (sets.getD (i - 1) []).getD 0 0)
def eG (sets : List (List Int)) (m : Nat) : Bool := (List.range' 1 (m - 1)).any (jI sets)
def jU (g : Gm) : Int := if oO g then 10 else if lK (lW g) then 18 else if eG (lW g) g.infos.length then 9 else 0
def dJ (g : Gm) : Int :=
 if iK g then 2 else if bT g.ak g.infos.length g.nodes ≠ 0 then bT g.ak g.infos.length g.nodes
 else if (bF g.nodes (g.nodes.length + 1) 0 0 0).1 ≠ g.nodes.length then 9 else if 40 < (bF g.nodes (g.nodes.length + 1) 0 0 0).2 then 5 else jU g
theorem qZ {ak : Int} {ni : Nat} {l : List Nd} {k : Nat} {x : Nd} (h : l[k]? = some x) : bT ak ni (l.drop k) = if aN ak ni x ≠ 0 then aN ak ni x else bT ak ni (l.drop (k + 1)) := by
 have hl := aH h;rw [List.drop_eq_getElem_cons hl];have : l[k] = x := by simpa [hl] using h
 rw [this]; rfl
theorem iy {ak : Int} {ni : Nat} : ∀ {l : List Nd}, bT ak ni l = 0 → ∀ x ∈ l, aN ak ni x = 0
 | [], _, _, h => by cases h
 | y :: l, h, x, hx => by
  unfold bT at h;split at h
  ·rename_i h1; exact absurd h h1
  ·rename_i h1
   rcases List.mem_cons.1 hx with rfl | hx
   ·simpa using h1
   ·exact iy h x hx
theorem mD {g : Gm} (h : bT g.ak g.infos.length g.nodes = 0) : Bj g := by
 intro x hx hk;have := iy h x hx;unfold aN dB at this;rw [if_neg (by omega), if_pos hk] at this;split at this
 ·omega
 ·split at this
  ·omega
  ·omega
theorem wB (sets : List (List Int)) (m : Nat) (h : 1 ≤ m) : eG sets (m + 1) = (eG sets m || jI sets m) := by
 unfold eG;have : m + 1 - 1 = (m - 1) + 1 := by omega
 rw [this, List.range'_concat, List.any_append];simp
 rw [show 1 + (m - 1) = m by omega]
theorem yU {sets : List (List Int)} {m k : Nat} (h : 1 ≤ m) (hm : m < k) (hb : jI sets m = true) : eG sets k = true := by
 unfold eG;rw [List.any_eq_true];exact ⟨m, by rw [List.mem_range'_1]; omega, hb⟩
set_option maxRecDepth 100000 in
set_option maxHeartbeats 6400000 in
theorem aea (w : World) (F : Ac) (u : Value) (g : Gm) (hg : Aj w F u g) (hsm : Small g) :
  Calls Tryz.prog 91 #[u] w (Ret w fun v _ => v = .int .i64 (dJ g)) := by
 have HG := Lib.hid hg;obtain ⟨vn, vi, rfl, ⟨A, c, rfl, hc, hN⟩, ⟨Ai, ci, rfl, hci, hI⟩⟩ := hg;have HN := Lib.hid hN; have HI := Lib.hid hI; clear hN hI;have hn := hsm.nodes;have hni := hsm.infos;have HS := Lib.hid hsm; clear hsm;by_cases q0 : g.ak < 1
 ·have HF := Lib.hid (show dJ g = 2 by unfold dJ; rw [if_pos (by unfold iK; omega)]);go_enter Tryz.func91, Tryz.ntmps91;go_wp2
  go_ret;exact ⟨_, rfl, (Below.refl _ _).alloc (Nat.le_refl _) _, by rw [HF.out]; rfl⟩
 have d0 : decide (g.ak < 1) = false := decide_eq_false (by omega);by_cases q1 : 4 < g.ak
 ·have HF := Lib.hid (show dJ g = 2 by unfold dJ; rw [if_pos (by unfold iK; omega)]);go_enter Tryz.func91, Tryz.ntmps91;go_wp2
  go_ret;exact ⟨_, rfl, (Below.refl _ _).alloc (Nat.le_refl _) _, by rw [HF.out]; rfl⟩
 have d1 : decide ((4 : Int) < g.ak) = false := decide_eq_false (by omega);by_cases q2 : g.nodes.length < 1
 ·have HF := Lib.hid (show dJ g = 2 by unfold dJ; rw [if_pos (by unfold iK; omega)]);go_enter Tryz.func91, Tryz.ntmps91;go_wp2
  go_ret;exact ⟨_, rfl, (Below.refl _ _).alloc (Nat.le_refl _) _, by rw [HF.out]; rfl⟩
 have d2 : decide ((g.nodes.length : Int) < 1) = false := decide_eq_false (by omega);have HV := Lib.hid (show dJ g = if bT g.ak g.infos.length g.nodes ≠ 0 then bT g.ak g.infos.length g.nodes
   else if (bF g.nodes (g.nodes.length + 1) 0 0 0).1 ≠ g.nodes.length then 9 else if 40 < (bF g.nodes (g.nodes.length + 1) 0 0 0).2 then 5 else jU g by
  unfold dJ; rw [if_neg (by unfold iK; omega)])
 obtain ⟨b, o, rfl, hbF, hb, hcell⟩ := HN.out (by omega);have HC := Lib.hid hcell; clear hcell;go_enter Tryz.func91, Tryz.ntmps91;go_wp2
 go_loopw [3] (fun i wr => ∃ k : Nat, k ≤ g.nodes.length ∧ i = .int .i64 k ∧ Row wr w.heap.size 25 [.int .i64 g.ak, .slice (some ⟨b, o, none⟩) g.nodes.length c, .slice Ai g.infos.length ci] ∧ Below w.heap.size w wr ∧ bT g.ak g.infos.length g.nodes = bT g.ak g.infos.length (g.nodes.drop k)) (fun i _ => g.nodes.length - (intOf i).toNat)
 case atStart => exact ⟨0, by omega, rfl, Row.new w _ _, (Below.refl _ _).alloc (Nat.le_refl _) _, rfl⟩
 case round =>
  obtain ⟨k, hk, rfl, hbx, hbel, hval⟩ := hrel;have HV1 := Lib.hid hval; clear hval;have x0 := hbx.cell (i := 0) rfl;have x1 := hbx.cell (i := 1) rfl;have x2 := hbx.cell (i := 2) rfl;have hold := aJ hbel;by_cases hlt : k < g.nodes.length
  ·obtain ⟨x, hx⟩ := aA hlt;obtain ⟨e0, e1, e2, ⟨v3, e3, i3⟩, ⟨v4, e4, i4⟩, ⟨v5, e5, i5⟩⟩ := HC.out k x hx;have V := Lib.hid (show AL w F _ x from ⟨v3, v4, v5, rfl, i3, i4, i5⟩);clear i3 i4 i5;have M := List.mem_of_getElem? hx;have L : x.next.length < 1000000 ∧ x.weights.length < 1000000 ∧ x.pay.length < 1000000 := ⟨by have := HS.out.next x M; omega, by have := HS.out.weights x M; omega, by have := HS.out.pay x M; omega⟩;have HL := Lib.hid L; clear L M;have HV2 := Lib.hid (HV1.out.trans (qZ hx)); clear hx;have hbw : b < wr.heap.size := by have := hbel.size; omega
   have hBw : w.heap.size < wr.heap.size := hbx.lt;go_wp2
   refine wp_region_held_drew (S := fun w' => ∀ b o, b < wr.heap.size → w'.cell? ⟨b, o, none⟩ = wr.cell? ⟨b, o, none⟩) (by kernel_rfl) (fun _ _ _ => rfl) (fun hHeld => ?_);refine tk0 [0,1,2,3,4,5] ?_;iterate 6 (refine tk (v := ?_) rfl (by kernel_rfl) (by kernel_rfl) (by kernel_rfl) (fun _ _ _ h => h) (Or.inl ⟨by rfl, ?_⟩) hHeld ?_;rotate_left;(focus intro wx hSx;(try dsimp only at hSx);go_split_ands;go_simp;try with_reducible rfl);try simp only [Act.put, lq1, lq2, lq3, lq4, lq5, lq6])
   refine tk1 ?_;refine tk2 6 (by kernel_rfl) rfl fun K hK => ?_
   go_simp;refine (aeW _ F _ _ g x (HG.out.on (Below.same' hbel.drew F)) (V.out.on (Below.same' hbel.drew F)) HL.out (by omega)).mono ?_;rintro e w1 ⟨_, rfl, hb1, rfl⟩;have hb1' : Below wr.heap.size wr w1 := (Below.refl _ _).drew.trans hb1;dsimp only;refine hK.out _ _ (aJ hb1') (fun hHeld => ?_);clear hK K;try simp only [Act.put, lq1, lq2, lq3, lq4, lq5, lq6]
   refine tk0 [7] ?_;(refine tk (v := ?_) rfl (by kernel_rfl) (by kernel_rfl) (by kernel_rfl) (fun _ _ _ h => h) (Or.inl ⟨by rfl, ?_⟩) hHeld ?_;rotate_left;(focus intro wx hSx;(try dsimp only at hSx);go_split_ands;go_simp;try with_reducible rfl);try simp only [Act.put, lq1, lq2, lq3, lq4, lq5, lq6])
   refine tk1 ?_;refine wpAnyH_done (by kernel_rfl) ?_ _;generalize aN g.ak g.infos.length x = er at *;by_cases he : er = 0
   ·subst he;go_wp2
    go_roundw
    case rel =>
     refine ⟨k + 1, by omega, by go_num, hbx.below hb1' hbx.lt, hbel.trans (hb1'.mono hbel.size), ?_⟩;rw [HV2.out]; simp
    case measure => simp [intOf]; omega
   ·have hd : (er != 0) = true := by simp [he]
    have HF := Lib.hid (show dJ g = er by rw [HV.out, HV2.out]; simp [he]);clear he;go_wp2
    go_ret;exact ⟨_, rfl, hbel.trans (hb1'.mono hbel.size), by rw [HF.out]; rfl⟩
  ·have HNE := Lib.hid (show bT g.ak g.infos.length g.nodes = 0 by
    rw [HV1.out, List.drop_eq_nil_of_le (by omega)]; rfl)
   go_wp2
   obtain ⟨W, hW⟩ : ∃ W : World, W = wr.alloc (.cells #[.int .i64 0] 3) := ⟨_, rfl⟩;rw [← hW];have hbd : Row W wr.heap.size 3 [.int .i64 0] := by rw [hW]; exact Row.new wr _ _
   have hbx2 := hbx.alloc (.cells #[.int .i64 0] 3);rw [← hW] at hbx2;have hWb : Below w.heap.size w W := by rw [hW]; exact hbel.alloc hbel.size _
   have hBw : w.heap.size < wr.heap.size := hbx.lt;clear hW hbx x0 x1 x2 hold hbel;have hGW : Aj W (fun b => b ≠ wr.heap.size) _ g := HG.out.keep (fun b _ hl => by omega) (Below.same' hWb F);have HGW := Lib.hid hGW; clear hGW;have x0 := hbx2.cell (i := 0) rfl;have x1 := hbx2.cell (i := 1) rfl;have x2 := hbx2.cell (i := 2) rfl;refine wp_region_held_drew (S := fun w' => w'.cell? ⟨w.heap.size, 0, none⟩ = some (.int .i64 g.ak) ∧ w'.cell? ⟨w.heap.size, 1, none⟩ = some (.slice (some ⟨b, o, none⟩) g.nodes.length c) ∧ w'.cell? ⟨w.heap.size, 2, none⟩ = some (.slice Ai g.infos.length ci)) (by kernel_rfl) ⟨x0, x1, x2⟩ (fun hHeld => ?_);refine tk0 [0,2,3,4] ?_;iterate 4 (refine tk (v := ?_) rfl (by kernel_rfl) (by kernel_rfl) (by kernel_rfl) (fun _ _ _ h => h) (Or.inl ⟨by rfl, ?_⟩) hHeld ?_;rotate_left;(focus intro wx hSx;(try dsimp only at hSx);go_split_ands;go_simp;try with_reducible rfl);try simp only [Act.put, lq1, lq2, lq3, lq4, lq5, lq6])
   refine tk1 ?_;refine tk2 1 (by kernel_rfl) rfl fun K hK => ?_
   go_simp;refine (adL g HS.out (g.nodes.length + 1) 0 0 0 W.drew wr.heap.size _ (HGW.out.on (Same.drewN _ W 1)) hbd.drew (by omega) (by omega) (by omega) (by omega) (by omega)).mono ?_;rintro e w1 ⟨rfl, hrw, hgr⟩;have eH : Row w1 w.heap.size _ _ := hbx2.drew.of_block (hgr.block _ (by have := hbx2.lt; simpa using this) (by simp; omega));have hb1 : Below w.heap.size w w1 := hWb.drew.grown hgr (by have := hWb.size; simpa using this) (fun k hk => by simp at hk; omega);dsimp only;refine hK.out _ _ ⟨eH.cell rfl, eH.cell rfl, eH.cell rfl⟩ (fun hHeld => ?_);clear hK K;try simp only [Act.put, lq1, lq2, lq3, lq4, lq5, lq6]
   refine tk0 [5] ?_;(refine tk (v := ?_) rfl (by kernel_rfl) (by kernel_rfl) (by kernel_rfl) (fun _ _ _ h => h) (Or.inl ⟨by rfl, ?_⟩) hHeld ?_;rotate_left;(focus intro wx hSx;(try dsimp only at hSx);go_split_ands;go_simp;try with_reducible rfl);try simp only [Act.put, lq1, lq2, lq3, lq4, lq5, lq6])
   refine tk1 ?_;refine wpAnyH_done (by kernel_rfl) ?_ _;have hdd := oC g.nodes 1000 (g.nodes.length + 1) 0 0 0 (by omega) (by omega) (by omega);have HV2 := Lib.hid (HV.out.trans (by rw [HNE.out]; simp only [ne_eq, not_true_eq_false, ↓reduceIte]) : dJ g = if (bF g.nodes (g.nodes.length + 1) 0 0 0).1 ≠ g.nodes.length then 9 else if 40 < (bF g.nodes (g.nodes.length + 1) 0 0 0).2 then 5 else jU g);generalize bF g.nodes (g.nodes.length + 1) 0 0 0 = rr at *;obtain ⟨rn, rd⟩ := rr;dsimp only at hrw hdd HV2;clear hbd hbx2 x0 x1 x2 hWb hgr hHeld HGW;by_cases he : rn = (g.nodes.length : Int)
   case neg =>
    have hd : (rn != (g.nodes.length : Int)) = true := by simp [he]
    have HF := Lib.hid (show dJ g = 9 by rw [HV2.out, if_pos he]);clear he;go_wp2
    go_ret;exact ⟨_, rfl, hb1, by rw [HF.out]; rfl⟩
   have hd : (rn != (g.nodes.length : Int)) = false := by simp [he]
   have HRN := Lib.hid he; clear he;have y0 := hrw.cell (i := 0) rfl;by_cases h40 : 40 < rd
   ·have HF := Lib.hid (show dJ g = 5 by rw [HV2.out, if_neg (by simpa using HRN.out), if_pos h40]);go_wp2
    go_ret;exact ⟨_, rfl, hb1, by rw [HF.out]; rfl⟩
   have HV3 := Lib.hid (show dJ g = jU g by rw [HV2.out, if_neg (by simpa using HRN.out), if_neg h40]);have x1 := eH.cell (i := 1) rfl;go_wp2
   clear hrw y0 x1 hdd;go_loopw [6] (fun i wi => ∃ k : Nat, k ≤ g.nodes.length ∧ i = .int .i64 k ∧ (g.nodes.take k).any (cO g.infos) = false ∧ Row wi w.heap.size 25 [.int .i64 g.ak, .slice (some ⟨b, o, none⟩) g.nodes.length c, .slice Ai g.infos.length ci] ∧ Below w.heap.size w wi) (fun i _ => g.nodes.length - (intOf i).toNat)
   case atStart => exact ⟨0, by omega, rfl, rfl, eH, hb1⟩
   case round =>
    clear eH hb1;obtain ⟨k2, hk2, rfl, hpre, hbx, hbel⟩ := hrel;have HP := Lib.hid hpre; clear hpre;have x0 := hbx.cell (i := 0) rfl;have x1 := hbx.cell (i := 1) rfl;have x2 := hbx.cell (i := 2) rfl;have hold := aJ hbel;have hBw : w.heap.size < wr.heap.size := hbx.lt;by_cases hlt2 : k2 < g.nodes.length
    ·obtain ⟨x, hx⟩ := aA hlt2;obtain ⟨e0, e1, e2, ⟨v3, e3, A3, c3, rfl, hc3, i3⟩, ⟨v4, e4, A4, c4, rfl, hc4, i4⟩, ⟨v5, e5, A5, c5, rfl, hc5, i5⟩⟩ := HC.out k2 x hx;clear i3 i4 i5;have hl3 := HS.out.next x (List.mem_of_getElem? hx);have HX := Lib.hid hx;have BAD := Lib.hid (show cO g.infos x = true → dJ g = 10 by
      intro h;have : oO g = true := List.any_eq_true.2 ⟨x, List.mem_of_getElem? HX.out, h⟩;rw [HV3.out]; unfold jU; rw [this]; rfl)
     have HII := Lib.hid (mD HNE.out x (List.mem_of_getElem? hx));clear hx;by_cases hkd : x.kind = 2
     ·obtain ⟨hin0, hin1⟩ := HII.out hkd;have hd2 : (x.kind == 2) = true := by simp [hkd]
      obtain ⟨bi, oi, rfl, _, hbi, hxi⟩ := HI.out (by omega);obtain ⟨inf, oK⟩ := aA (l := g.infos) (k := x.info.toNat) (by omega);obtain ⟨c0, c1⟩ := hxi _ inf oK;have HT := Lib.hid (show cO g.infos x = (decide (inf.aG ≠ x.aG) || decide (inf.actions ≠ (x.next.length : Int))) by
       unfold cO; simp [hkd, List.getD_eq_getElem?_getD, oK])
      have hbiw : bi < wr.heap.size := by have := hbel.size; omega
      clear oK hxi hkd;by_cases p1 : inf.aG = x.aG
      ·have f1 : (inf.aG != x.aG) = false := neF p1;by_cases p2 : inf.actions = (x.next.length : Int)
       ·have f2 : (inf.actions != (x.next.length : Int)) = false := neF p2;have HF := Lib.hid (show cO g.infos x = false by rw [HT.out]; simp [p1, p2]);clear p1 p2;go_wp2
        go_quiet (fail)
        go_wp2
        go_roundw
        case rel => exact ⟨k2 + 1, by omega, by go_num, jq HX.out HP.out HF.out, (hbx.alloc _).dN _, aB (hbel.alloc hbel.size _) _⟩
        case measure => simp [intOf]; omega
       ·have f2 : (inf.actions != (x.next.length : Int)) = true := neT p2;have HF := Lib.hid (BAD.out (by rw [HT.out]; simp [p2]));clear p1 p2;go_wp2
        go_quiet (fail)
        go_wp2
        go_ret;exact ⟨_, rfl, aB (hbel.alloc hbel.size _) _, by rw [HF.out]; rfl⟩
      ·have f1 : (inf.aG != x.aG) = true := neT p1;have HF := Lib.hid (BAD.out (by rw [HT.out]; simp [p1]));clear p1;go_wp2
       go_quiet (fail)
       go_wp2
       go_ret;exact ⟨_, rfl, aB (hbel.alloc hbel.size _) _, by rw [HF.out]; rfl⟩
     ·have hd2 : (x.kind == 2) = false := by simp [hkd]
      have HF := Lib.hid (show cO g.infos x = false by unfold cO; simp [hkd]);clear hkd;go_wp2
      go_quiet (fail)
      go_wp2
      go_roundw
      case rel => exact ⟨k2 + 1, by omega, by go_num, jq HX.out HP.out HF.out, (hbx.alloc _).dN _, aB (hbel.alloc hbel.size _) _⟩
      case measure => simp [intOf]; omega
    ·have HTB := Lib.hid (show oO g = false by
      have := HP.out; rw [List.take_of_length_le (by omega)] at this; exact this)
     go_wp2_with fail
     refine (acI _ F _ g (HG.out.on (Below.same' hbel F)) HS.out (mD HNE.out)).mono ?_;rintro e w2 ⟨vss, rfl, hb2, hse⟩;have hB2 : Below w.heap.size w w2 := hbel.trans (hb2.mono hbel.size);have HV4 := Lib.hid (show dJ g = if lK (lW g) then 18 else if eG (lW g) g.infos.length then 9 else 0 by
      rw [HV3.out]; unfold jU; rw [HTB.out]; rfl)
     have hsl : (lW g).length = g.infos.length := fJ _ _ _;have hsle : ∀ l ∈ lW g, l.length ≤ g.nodes.length := xg;generalize lW g = sets at *;obtain ⟨As, cs, rfl, hcs, hS⟩ := hse;have HSE := Lib.hid hS; clear hS;have HSLE := Lib.hid hsle; clear hsle;have HSL := Lib.hid hsl; have hsl0 : sets.length ≤ 100 := by omega
     clear hsl hbx x0 x1 x2 hold hbel hb2;dsimp only;go_wp2
     go_loop [9] (fun i => ∃ k : Nat, k ≤ sets.length ∧ i = .int .i64 k ∧ lK (sets.take k) = false) (fun i => sets.length - (intOf i).toNat)
     case atStart => exact ⟨0, by omega, rfl, rfl⟩
     case round =>
      obtain ⟨k3, hk3, rfl, hpre⟩ := hrel;have HP3 := Lib.hid hpre; clear hpre;by_cases hlt3 : k3 < sets.length
      ·obtain ⟨bs, os, rfl, _, hbs, hxs⟩ := HSE.out (by omega);obtain ⟨l, hl⟩ := aA hlt3;obtain ⟨vl, el, Al, cl, rfl, hcl, hLl⟩ := hxs k3 l hl;rw [Nat.mul_one] at el;have HX := Lib.hid hl;have hll := HSLE.out l (List.mem_of_getElem? hl);clear hl hxs hLl;by_cases hz : l.length = 0
       ·have hd : ((l.length : Int) == 0) = true := eqT (by omega);have HF := Lib.hid (show dJ g = 18 by
         have : lK sets = true := List.any_eq_true.2 ⟨l, List.mem_of_getElem? HX.out, by simp; exact List.eq_nil_of_length_eq_zero hz⟩;rw [HV4.out, this]; rfl)
        clear hz;go_wp2
        go_ret;exact ⟨_, rfl, hB2, by rw [HF.out]; rfl⟩
       ·have hd : ((l.length : Int) == 0) = false := eqF (by omega);go_wp2
        go_round
        case rel => exact ⟨k3 + 1, by omega, by go_num, jq HX.out HP3.out (by simp; intro h; rw [h] at hz; simp at hz)⟩
        case measure => simp [intOf]; omega
      ·have HNB := Lib.hid (show lK sets = false by
        have := HP3.out; rw [List.take_of_length_le (by omega)] at this; exact this)
       have HNZ := Lib.hid (show ∀ l ∈ sets, 0 < l.length by
        intro l hl;have := List.any_eq_false.1 HNB.out l hl;simp at this;exact List.length_pos_iff.2 this)
       go_wp2
       go_loopw [10] (fun i wi => ∃ m n : Nat, 1 ≤ m ∧ (m ≤ sets.length ∨ m = 1) ∧ i = .int .i64 m ∧ eG sets m = false ∧ wi = w2.drewN n) (fun i _ => sets.length - (intOf i).toNat)
       case atStart => exact ⟨1, 0, by omega, .inr rfl, rfl, rfl, rfl⟩
       case round =>
        obtain ⟨m, nd, hm1, hm, rfl, hpre, rfl⟩ := hrel;have HPM := Lib.hid hpre; clear hpre;by_cases hmt : m < sets.length
        ·obtain ⟨bs, os, rfl, _, hbs, hxs⟩ := HSE.out (by omega);obtain ⟨l, hl⟩ := aA hmt;obtain ⟨vl, el, Al, cl, rfl, hcl, hLl⟩ := hxs m l hl;obtain ⟨l', hl'⟩ := aA (l := sets) (k := m - 1) (by omega);obtain ⟨vl', el', Al', cl', rfl, hcl', hLl'⟩ := hxs (m - 1) l' hl';have p0 := HNZ.out l (List.mem_of_getElem? hl);have p1 := HNZ.out l' (List.mem_of_getElem? hl');obtain ⟨bl, ol, rfl, _, hbl, hxl⟩ := hLl p0;obtain ⟨bl', ol', rfl, _, aeb, hxl'⟩ := hLl' p1;obtain ⟨x, hx⟩ := aA p0;obtain ⟨y, hy⟩ := aA p1;have ex := hxl 0 x hx;have ey := hxl' 0 y hy;unfold jE at ex ey;simp only [Nat.zero_mul, Nat.add_zero] at ex ey;rw [Nat.mul_one] at el el';have HAT := Lib.hid (show jI sets m = decide (x < y) by
          unfold jI; simp [List.getD_eq_getElem?_getD, hl, hl', hx, hy])
         clear hl hl' hx hy hxl hxl' hLl hLl' hxs;have hmd : m - 1 < sets.length := by omega
         by_cases q : x < y
         ·have HF := Lib.hid (show dJ g = 9 by
           rw [HV4.out, HNB.out];have := yU hm1 hmt (by rw [HAT.out]; simp [q]);rw [← HSL.out, this]; rfl)
          go_wp2
          have hw1 : IntKind.i64.wrap ((m : Int) - 1) = ((m - 1 : Nat) : Int) := by rw [IntWalk.i64_in _ (by omega)]; omega
          go_quiet (fail)
          go_wp2
          go_ret;exact ⟨_, rfl, aB (aB hB2 _) _, by rw [HF.out]; rfl⟩
         ·have hq : decide (x < y) = false := decide_eq_false q;go_wp2
          have hw1 : IntKind.i64.wrap ((m : Int) - 1) = ((m - 1 : Nat) : Int) := by rw [IntWalk.i64_in _ (by omega)]; omega
          go_quiet (fail)
          clear hw1;go_wp2
          go_roundw
          case rel => exact ⟨m + 1, nd + nq, by omega, .inl (by omega), by go_num, by rw [wB _ _ hm1, HPM.out, HAT.out, hq]; rfl, rfl⟩
          case measure => simp [intOf]; omega
        ·go_wp2
         go_ret;refine ⟨_, rfl, aB hB2 _, ?_⟩;have : dJ g = 0 := by
          rw [HV4.out, HNB.out];have h1 := HPM.out;have h2 := HSL.out;rcases hm with hm | hm
          ·have : m = sets.length := by omega
           rw [← h2, ← this, h1]; rfl
          ·subst hm;have : eG sets g.infos.length = false := by
            unfold eG; rw [show g.infos.length - 1 = 0 by omega]; rfl
           rw [this]; rfl
         rw [this]; rfl
inductive Span (nodes : List Nd) : List Int → Nat → Nat → Prop
 | nil (a : Nat) : Span nodes [] a a
 | cons {a m b : Nat} {n : Nd} {cs : List Int} : nodes[a]? = some n → Span nodes n.next (a + 1) m → Span nodes cs m b → Span nodes ((a : Int) :: cs) a b
theorem Span.le {nodes : List Nd} {cs : List Int} {a b : Nat} (h : Span nodes cs a b) : a ≤ b := by
 induction h with
 | nil a => exact Nat.le_refl _
 | cons _ _ _ ih1 ih2 => omega
theorem Span.bound {nodes : List Nd} {cs : List Int} {a b : Nat} (h : Span nodes cs a b) (ha : a ≤ nodes.length) : b ≤ nodes.length := by
 induction h with
 | nil a => exact ha
 | cons hn _ _ ih1 ih2 => exact ih2 (ih1 (aH hn))
theorem Span.mem {nodes : List Nd} {cs : List Int} {a b : Nat} (h : Span nodes cs a b) : ∀ c ∈ cs, (a : Int) ≤ c ∧ c < b := by
 induction h with
 | nil a => intro c hc; cases hc
 | cons hn h1 h2 ih1 ih2 =>
  intro c hc;have l1 := h1.le;have l2 := h2.le;rcases List.mem_cons.1 hc with rfl | hc
  ·omega
  ·have := ih2 c hc; omega
theorem Span.kids {nodes : List Nd} {cs : List Int} {a b : Nat} (h : Span nodes cs a b) : ∀ p n, a ≤ p → p < b → nodes[p]? = some n → ∀ c ∈ n.next, (p : Int) < c ∧ c < b := by
 induction h with
 | nil a => intro p n h1 h2; omega
 | @cons a m b n cs hn h1 h2 ih1 ih2 =>
  intro p n' ha hb hp c hc;have l1 := h1.le;have l2 := h2.le;by_cases e : p = a
  ·subst e;rw [hn] at hp; cases hp;have := h1.mem c hc;omega
  ·by_cases hm : p < m
   ·have := ih1 p n' (by omega) hm hp c hc; omega
   ·exact ih2 p n' (by omega) hb hp c hc
theorem Span.parent {nodes : List Nd} {cs : List Int} {a b : Nat} (h : Span nodes cs a b) : ∀ j : Nat, a ≤ j → j < b → (j : Int) ∈ cs ∨ ∃ p n, a ≤ p ∧ p < j ∧ nodes[p]? = some n ∧ (j : Int) ∈ n.next := by
 induction h with
 | nil a => intro j h1 h2; omega
 | @cons a m b n cs hn h1 h2 ih1 ih2 =>
  intro j ha hb;by_cases e : j = a
  ·subst e; exact .inl (by simp)
  ·by_cases hm : j < m
   ·rcases ih1 j (by omega) hm with h | ⟨p, n', hp1, hp2, hp3, hp4⟩
    ·exact .inr ⟨a, n, Nat.le_refl _, by omega, hn, h⟩
    ·exact .inr ⟨p, n', by omega, hp2, hp3, hp4⟩
   ·rcases ih2 j (by omega) hb with h | ⟨p, n', hp1, hp2, hp3, hp4⟩
    ·exact .inl (by simp [h])
    ·have := h1.le;exact .inr ⟨p, n', by omega, hp2, hp3, hp4⟩
theorem Span.once {nodes : List Nd} {cs : List Int} {a b : Nat} (h : Span nodes cs a b) : (∀ c ∈ cs, ∀ p n, a ≤ p → p < b → nodes[p]? = some n → c ∉ n.next) ∧
  (∀ c p q n n', a ≤ p → p < b → a ≤ q → q < b → nodes[p]? = some n → nodes[q]? = some n' → c ∈ n.next → c ∈ n'.next → p = q) := by
 induction h with
 | nil a => exact ⟨(fun c hc => (by cases hc)), (fun c p q n n' h1 h2 => (by omega))⟩
 | @cons a m b n cs hn h1 h2 ih1 ih2 =>
  have l1 := h1.le;have l2 := h2.le;have k1 := h1.kids;have k2 := h2.kids;have m1 := h1.mem;have m2 := h2.mem;constructor
  ·intro c hc p n' hp1 hp2 hp3 hp4;rcases List.mem_cons.1 hc with rfl | hc'
   ·by_cases e : p = a
    ·subst e; rw [hn] at hp3; cases hp3; have := m1 _ hp4; omega
    ·by_cases hm : p < m
     ·have := k1 p n' (by omega) hm hp3 _ hp4; omega
     ·have := k2 p n' (by omega) hp2 hp3 _ hp4; omega
   ·by_cases e : p = a
    ·subst e; rw [hn] at hp3; cases hp3; have := m1 _ hp4; have := m2 _ hc'; omega
    ·by_cases hm : p < m
     ·have := k1 p n' (by omega) hm hp3 _ hp4; have := m2 _ hc'; omega
     ·exact ih2.1 c hc' p n' (by omega) hp2 hp3 hp4
  ·have key : ∀ c p q n1 n2, a ≤ p → p < q → q < b → nodes[p]? = some n1 → nodes[q]? = some n2 → c ∈ n1.next → c ∈ n2.next → False := by
    intro c p q n1 n2 hp1 hpq hq hn1 hn2 hc1 hc2;by_cases e : p = a
    ·subst e; rw [hn] at hn1; cases hn1;by_cases hm : q < m
     ·exact ih1.1 c hc1 q n2 (by omega) hm hn2 hc2
     ·have := m1 c hc1; have := k2 q n2 (by omega) hq hn2 c hc2; omega
    ·by_cases hm : q < m
     ·have := ih1.2 c p q n1 n2 (by omega) (by omega) (by omega) hm hn1 hn2 hc1 hc2; omega
     ·by_cases hmp : p < m
      ·have := k1 p n1 (by omega) hmp hn1 c hc1; have := k2 q n2 (by omega) hq hn2 c hc2; omega
      ·have := ih2.2 c p q n1 n2 (by omega) (by omega) (by omega) hq hn1 hn2 hc1 hc2; omega
   intro c p q n1 n2 hp1 hp2 hq1 hq2 hn1 hn2 hc1 hc2;rcases Nat.lt_trichotomy p q with h | h | h
   ·exact (key c p q n1 n2 hp1 h hq2 hn1 hn2 hc1 hc2).elim
   ·exact h
   ·exact (key c q p n2 n1 hq1 h hp2 hn2 hn1 hc2 hc1).elim
theorem Span.sub {nodes : List Nd} {cs : List Int} {a b : Nat} (h : Span nodes cs a b) : ∀ i : Nat, a ≤ i → i < b → ∃ e, Span nodes [(i : Int)] i e ∧ i < e ∧ e ≤ b := by
 induction h with
 | nil a => intro i h1 h2; omega
 | @cons a m b n cs hn h1 h2 ih1 ih2 =>
  intro i ha hb;have l1 := h1.le;have l2 := h2.le;by_cases e : i = a
  ·subst e; exact ⟨m, .cons hn h1 (.nil m), by omega, by omega⟩
  ·by_cases hm : i < m
   ·obtain ⟨e, h, h3, h4⟩ := ih1 i (by omega) hm; exact ⟨e, h, h3, by omega⟩
   ·obtain ⟨e, h, h3, h4⟩ := ih2 i (by omega) hb; exact ⟨e, h, h3, h4⟩
theorem Span.unique {nodes : List Nd} {cs : List Int} {a b : Nat} (h : Span nodes cs a b) : ∀ {b'}, Span nodes cs a b' → b = b' := by
 induction h with
 | nil a => intro b' h; cases h; rfl
 | cons hn h1 h2 ih1 ih2 =>
  intro b' h;generalize hx : ((_ : Int) :: _) = l at h;cases h with
  | nil => cases hx
  | cons hn' h1' h2' =>
   injection hx with e1 e2
   rw [hn] at hn'; cases hn';have := ih1 h1';subst this;subst e2;exact ih2 h2'
theorem rC {nodes : List Nd} {rec : Nat → Int → Int × Int} (hrec : ∀ a d, (rec a d).1 ≠ -1 → ∃ b : Nat, (rec a d).1 = b ∧ Span nodes [(a : Int)] a b) :
  ∀ (cs : List Int) (x : Nat) (deep : Int), (bP rec cs x deep).1 ≠ -1 → ∃ b : Nat, (bP rec cs x deep).1 = b ∧ Span nodes cs x b
 | [], x, deep, _ => ⟨x, rfl, .nil x⟩
 | c :: cs, x, deep, h => by
  unfold bP at h ⊢;by_cases hc : c = x
  ·subst hc;simp only [ne_eq, not_true_eq_false, ↓reduceIte, Int.toNat_natCast] at h ⊢;by_cases hng : (rec x deep).1 < 0
   ·rw [if_pos hng] at h; exact absurd rfl h
   ·rw [if_neg hng] at h ⊢;obtain ⟨m, hm, hs⟩ := hrec x deep (by omega);rw [hm] at h ⊢;obtain ⟨b, hb, hs2⟩ := rC hrec cs m _ h;refine ⟨b, hb, ?_⟩;generalize hl : [(x : Int)] = l at hs;cases hs with
    | nil => cases hl
    | cons hn h1 h2 =>
     injection hl with e1 e2
     subst e2;cases h2
     exact .cons hn h1 hs2
  ·rw [if_pos hc] at h; exact absurd rfl h
theorem xZ (nodes : List Nd) : ∀ (f a : Nat) (depth deep : Int), (bF nodes f a depth deep).1 ≠ -1 → ∃ b : Nat, (bF nodes f a depth deep).1 = b ∧ Span nodes [(a : Int)] a b
 | 0, _, _, _, h => absurd rfl h
 | f + 1, a, depth, deep, h => by
  unfold bF at h ⊢;cases hn : nodes[a]? with
  | none => rw [hn] at h; exact absurd rfl h
  | some n =>
   rw [hn] at h;simp only at h ⊢;have := rC (nodes := nodes) (rec := fun a d => bF nodes f a (depth + 1) d) (fun a' d h' => xZ nodes f a' (depth + 1) d h') n.next (a + 1) (max deep depth) h;obtain ⟨b, hb, hs⟩ := this;exact ⟨b, hb, .cons hn hs (.nil b)⟩
structure Good (g : Gm) : Prop where
 pos : 0 < g.nodes.length
 span : Span g.nodes [(0 : Int)] 0 g.nodes.length
 infos : Bj g
theorem aaA {g : Gm} (h : dJ g = 0) : Good g := by
 unfold dJ at h;split at h
 ·omega
 ·rename_i h1
  split at h
  ·rename_i h2; exact absurd h h2
  ·rename_i h2
   split at h
   ·omega
   ·rename_i h3
    have hp : 0 < g.nodes.length := by unfold iK at h1; omega
    have h3' : (bF g.nodes (g.nodes.length + 1) 0 0 0).1 = (g.nodes.length : Int) := by simpa using h3
    obtain ⟨b, hb, hs⟩ := xZ g.nodes (g.nodes.length + 1) 0 0 0 (by omega);have : b = g.nodes.length := by omega
    subst this;exact ⟨hp, hs, mD (by simpa using h2)⟩
theorem Good.kidsIn {g : Gm} (h : Good g) : CZ g.nodes := by
 intro n hn c hc;obtain ⟨i, hi⟩ := List.getElem?_of_mem hn;have := h.span.kids i n (Nat.zero_le _) (aH hi) hi c hc;omega
def Kid (nodes : List Nd) (i k c : Nat) : Prop := ∃ n, nodes[i]? = some n ∧ n.next[k]? = some (c : Int)
theorem Span.inj {nodes : List Nd} {cs : List Int} {a b : Nat} (h : Span nodes cs a b) : ∀ (k k' : Nat) (c : Int), cs[k]? = some c → cs[k']? = some c → k = k' := by
 induction h with
 | nil a => intro k k' c h1; simp at h1
 | @cons a m b n cs hn h1 h2 ih1 ih2 =>
  intro k k' c hk hk';have l1 := h1.le;have m2 := h2.mem;cases k with
  | zero =>
   cases k' with
   | zero => rfl
   | succ k' =>
    simp at hk hk';have := m2 c (List.mem_of_getElem? hk');omega
  | succ k =>
   cases k' with
   | zero =>
    simp at hk hk';have := m2 c (List.mem_of_getElem? hk);omega
   | succ k' =>
    simp at hk hk';rw [ih2 k k' c hk hk']
theorem Span.agq {nodes : List Nd} {cs : List Int} {a b : Nat} (h : Span nodes cs a b) : ∀ p n, a ≤ p → p < b → nodes[p]? = some n → ∃ e, Span nodes n.next (p + 1) e ∧ e ≤ b := by
 intro p n ha hb hn;obtain ⟨e, hs, h1, h2⟩ := h.sub p ha hb;generalize hl : [(p : Int)] = l at hs;cases hs with
 | nil => cases hl
 | cons hn' h3 h4 =>
  injection hl with e1 e2
  subst e2;rw [hn] at hn'; cases hn';cases h4
  exact ⟨e, h3, h2⟩
theorem Good.qc {g : Gm} (h : Good g) {i k c : Nat} (hk : Kid g.nodes i k c) : i < c ∧ c < g.nodes.length ∧ i < g.nodes.length := by
 obtain ⟨n, hn, hc⟩ := hk;have hl := aH hn;have := h.span.kids i n (Nat.zero_le _) hl hn c (List.mem_of_getElem? hc);omega
theorem Good.aaB {g : Gm} (h : Good g) {i k i' k' c : Nat} (h1 : Kid g.nodes i k c) (h2 : Kid g.nodes i' k' c) : i = i' ∧ k = k' := by
 obtain ⟨n, hn, hc⟩ := h1;obtain ⟨n', hn', hc'⟩ := h2;have e := h.span.once.2 c i i' n n' (Nat.zero_le _) (aH hn) (Nat.zero_le _) (aH hn') hn hn' (List.mem_of_getElem? hc) (List.mem_of_getElem? hc');subst e;rw [hn] at hn'; cases hn';obtain ⟨e, hs, _⟩ := h.span.agq i n (Nat.zero_le _) (aH hn) hn;exact ⟨rfl, hs.inj k k' c hc hc'⟩
theorem Good.wJ {g : Gm} (h : Good g) {c : Nat} (h0 : 0 < c) (hc : c < g.nodes.length) : ∃ i k, Kid g.nodes i k c := by
 rcases h.span.parent c (Nat.zero_le _) hc with h | ⟨p, n, _, h1, h2, h3⟩
 ·simp at h; omega
 ·obtain ⟨k, hk⟩ := List.getElem?_of_mem h3;exact ⟨p, k, n, h2, hk⟩
theorem Good.ahd {g : Gm} (h : Good g) {i k c : Nat} (hk : Kid g.nodes i k c) : c ≠ 0 := by
 have := h.qc hk; omega
def upTo (nodes : List Nd) (c : Nat) : Nat → Option (Nat × Nat)
 | 0 => none
 | i + 1 => match (nodes[i]?).bind fun n => n.next.findIdx? fun x => decide (x = (c : Int)) with
  | some k => some (i, k)
  | none => upTo nodes c i
theorem acJ {l : List Int} {c : Int} {k : Nat} (hinj : ∀ (k k' : Nat), l[k]? = some c → l[k']? = some c → k = k') (hk : l[k]? = some c) : (l.findIdx? fun x => decide (x = c)) = some k := by
 cases hf : l.findIdx? fun x => decide (x = c) with
 | none =>
  rw [List.findIdx?_eq_none_iff] at hf;have := hf c (List.mem_of_getElem? hk);simp at this
 | some k' =>
  rw [List.findIdx?_eq_some_iff_getElem] at hf;obtain ⟨h1, h2, _⟩ := hf;have h3 := of_decide_eq_true h2;rw [hinj k' k (by rw [← h3]; simp) hk]
theorem abD {l : List Int} {c : Int} (h : c ∉ l) : (l.findIdx? fun x => decide (x = c)) = none := by
 rw [List.findIdx?_eq_none_iff];intro x hx;simp
 rintro rfl;exact h hx
theorem Good.ahe {g : Gm} (h : Good g) {i k c : Nat} (hk : Kid g.nodes i k c) : ∀ j, i < j → j ≤ g.nodes.length → upTo g.nodes c j = some (i, k) := by
 intro j;induction j with
 | zero => intro h1; omega
 | succ j ih =>
  intro h1 h2;obtain ⟨n, hn⟩ := aA (l := g.nodes) (k := j) (by omega);unfold upTo;rw [hn, Option.bind_some];by_cases e : j = i
  ·subst e;have hk' := hk;obtain ⟨n', hn', hc⟩ := hk';rw [hn] at hn'; cases hn';rw [acJ (k := k) (fun a b ha hb => (h.aaB ⟨n, hn, ha⟩ ⟨n, hn, hb⟩).2) hc]
  ·rw [abD (fun hm => by
    obtain ⟨k', hk'⟩ := List.getElem?_of_mem hm;exact e (h.aaB ⟨n, hn, hk'⟩ hk).1)]
   exact ih (by omega) (by omega)
theorem Good.ahP {g : Gm} (h : Good g) : ∀ j, j ≤ g.nodes.length → upTo g.nodes 0 j = none := by
 intro j;induction j with
 | zero => intro _; rfl
 | succ j ih =>
  intro h2;obtain ⟨n, hn⟩ := aA (l := g.nodes) (k := j) (by omega);unfold upTo;rw [hn, Option.bind_some, abD (fun hm => by
   obtain ⟨k', hk'⟩ := List.getElem?_of_mem hm;exact h.ahd ⟨n, hn, hk'⟩ rfl)]
  exact ih (by omega)
theorem agr : rl 1 = 1 := by
 unfold rl; rw [show (1 : Rat).num = 1 from rfl, show (1 : Rat).den = 1 from rfl, show (1 : Int).natAbs = 1 from rfl, gJ]; rfl
def nU (l : List Int) : Int := l.foldl (· + ·) 0
theorem zJ (l : List Int) (x : Int) : nU (l ++ [x]) = nU l + x := by unfold nU; rw [List.foldl_append]; rfl
def bW (m : List (List Rat)) (n : Nd) : List Rat := if n.kind = 2 then m.getD n.info.toNat [] else n.weights.map fun x : Int => (x : Rat) / ((nU n.weights : Int) : Rat)
def uN (cnt : Nd → Bool) (nodes : List Nd) (m : List (List Rat)) (l : List Rat) (c : Nat) : Rat :=
 match upTo nodes c c with
 | some (i, k) => match nodes[i]? with
  | some n => if cnt n then l.getD i 0 * (bW m n).getD k 0 else l.getD i 0
  | none => 1
 | none => 1
def jV (cnt : Nd → Bool) (nodes : List Nd) (m : List (List Rat)) : Nat → List Rat
 | 0 => []
 | c + 1 => jV cnt nodes m c ++ [uN cnt nodes m (jV cnt nodes m c) c]
def bY (cnt : Nd → Bool) (nodes : List Nd) (m : List (List Rat)) (c : Nat) : Rat := (jV cnt nodes m (c + 1)).getD c 0
theorem iE (cnt : Nd → Bool) (nodes : List Nd) (m : List (List Rat)) : ∀ j, (jV cnt nodes m j).length = j
 | 0 => rfl
 | j + 1 => by unfold jV; rw [List.length_append, iE cnt nodes m j]; rfl
theorem nC (cnt : Nd → Bool) (nodes : List Nd) (m : List (List Rat)) {c : Nat} : ∀ {j}, c < j → (jV cnt nodes m j)[c]? = some (bY cnt nodes m c)
 | 0, h => absurd h (by omega)
 | j + 1, h => by
  have hl := iE cnt nodes m j;by_cases e : c = j
  ·subst e;have hl1 := iE cnt nodes m (c + 1);obtain ⟨x, hx⟩ := aA (l := jV cnt nodes m (c + 1)) (k := c) (by omega);unfold bY;rw [List.getD_eq_getElem?_getD, hx]; rfl
  ·unfold jV;rw [List.getElem?_append_left (by omega)];exact nC cnt nodes m (by omega)
theorem agP (cnt : Nd → Bool) (nodes : List Nd) (m : List (List Rat)) (j : Nat) : jV cnt nodes m j = (List.range j).map (bY cnt nodes m) := by
 apply List.ext_getElem?
 intro c;by_cases h : c < j
 ·rw [nC cnt nodes m h]; simp [h]
 ·rw [List.getElem?_eq_none (by rw [iE]; omega), List.getElem?_eq_none (by simp; omega)]
theorem aec (cnt : Nd → Bool) (nodes : List Nd) (m : List (List Rat)) (c : Nat) : bY cnt nodes m c = uN cnt nodes m (jV cnt nodes m c) c := by
 have h := nC cnt nodes m (c := c) (j := c + 1) (by omega);unfold jV at h;rw [List.getElem?_append_right (by rw [iE]; omega), iE, Nat.sub_self] at h;simpa using h.symm
theorem abE (cnt : Nd → Bool) (nodes : List Nd) (m : List (List Rat)) : bY cnt nodes m 0 = 1 := rfl
theorem rZ {g : Gm} (hg : Good g) (cnt : Nd → Bool) (m : List (List Rat)) {i k c : Nat} {n : Nd} (hn : g.nodes[i]? = some n) (hc : n.next[k]? = some (c : Int)) :
  bY cnt g.nodes m c = if cnt n then bY cnt g.nodes m i * (bW m n).getD k 0 else bY cnt g.nodes m i := by
 have hk : Kid g.nodes i k c := ⟨n, hn, hc⟩;have hl := hg.qc hk;rw [aec];unfold uN;rw [hg.ahe hk c hl.1 (by omega)];simp only [hn];rw [List.getD_eq_getElem?_getD, nC cnt g.nodes m hl.1]; rfl
theorem zK {g : Gm} (hg : Good g) (cnt : Nd → Bool) (m : List (List Rat)) (hb : ∀ n ∈ g.nodes, cnt n = true → ∀ x ∈ bW m n, rl x ≤ 4) : ∀ c, c < g.nodes.length → rl (bY cnt g.nodes m c) ≤ 1 + 4 * c := by
 intro c;induction c using Nat.strongRecOn with
 | _ c ih =>
  intro hc;by_cases h0 : c = 0
  ·subst h0; rw [abE]; rw [agr]; omega
  ·obtain ⟨i, k, n, hn, hk⟩ := hg.wJ (Nat.pos_of_ne_zero h0) hc;have hl := hg.qc ⟨n, hn, hk⟩;have h1 := ih i hl.1 hl.2.2;rw [rZ hg cnt m hn hk];cases hcn : cnt n with
   | false => simp only [Bool.false_eq_true, ↓reduceIte]; omega
   | true =>
    simp only [↓reduceIte];have h2 := uq (bY cnt g.nodes m i) ((bW m n).getD k 0);have h3 : rl ((bW m n).getD k 0) ≤ 4 := by
     rw [List.getD_eq_getElem?_getD];cases hx : (bW m n)[k]? with
     | none => show rl 0 ≤ 4; rw [qE]; omega
     | some x => exact hb n (List.mem_of_getElem? hn) hcn x (List.mem_of_getElem? hx)
    omega
def kY (acc : List Rat) (b : Rat) (x : List Rat) : List Rat := List.zipWith (fun a y => a + b * y) acc x
def jZ (look : Nat → List Rat) (acc : List Rat) (l : List (Rat × Int)) : List Rat := l.foldl (fun acc bc => kY acc bc.1 (look bc.2.toNat)) acc
def valOf (ak : Nat) (m : List (List Rat)) (n : Nd) (look : Nat → List Rat) : List Rat :=
 if n.kind = 3 then n.pay.map (fun x : Int => (x : Rat)) else jZ look (List.replicate ak 0) ((bW m n).zip n.next)
def x9 (g : Gm) (m : List (List Rat)) : Nat → List (List Rat)
 | 0 => []
 | j + 1 => (match g.nodes[g.nodes.length - 1 - j]? with
  | some n => valOf g.ak.toNat m n (fun c => (x9 g m j).getD (c - (g.nodes.length - j)) [])
  | none => []) :: x9 g m j
def eY (g : Gm) (m : List (List Rat)) (i : Nat) : List Rat := (x9 g m (g.nodes.length - i)).headD []
theorem uO (g : Gm) (m : List (List Rat)) : ∀ (j i : Nat), j ≤ g.nodes.length → g.nodes.length - j ≤ i → i < g.nodes.length → (x9 g m j)[i - (g.nodes.length - j)]? = some (eY g m i)
 | 0, i, _, h1, h2 => absurd h2 (by omega)
 | j + 1, i, hj, h1, h2 => by
  by_cases e : i = g.nodes.length - (j + 1)
  ·have e1 : i - (g.nodes.length - (j + 1)) = 0 := by omega
   have e2 : g.nodes.length - i = j + 1 := by omega
   rw [e1]; unfold eY; rw [e2]; unfold x9; rfl
  ·have e1 : i - (g.nodes.length - (j + 1)) = (i - (g.nodes.length - j)) + 1 := by omega
   rw [e1]; unfold x9;rw [List.getElem?_cons_succ];exact uO g m j i (by omega) (by omega) h2
theorem vS {look look' : Nat → List Rat} : ∀ {l : List (Rat × Int)} {acc : List Rat}, (∀ bc ∈ l, look bc.2.toNat = look' bc.2.toNat) → jZ look acc l = jZ look' acc l
 | [], _, _ => rfl
 | bc :: l, acc, h => by
  have h1 := h bc (List.mem_cons_self);have h2 := vS (look := look) (look' := look') (l := l) (acc := kY acc bc.1 (look bc.2.toNat)) (fun b hb => h b (List.mem_cons_of_mem _ hb));show jZ look (kY acc bc.1 (look bc.2.toNat)) l = jZ look' (kY acc bc.1 (look' bc.2.toNat)) l;rw [h2, h1]
theorem acK (look : Nat → List Rat) (acc : List Rat) (l : List (Rat × Int)) (bc : Rat × Int) : jZ look acc (l ++ [bc]) = kY (jZ look acc l) bc.1 (look bc.2.toNat) := by unfold jZ; rw [List.foldl_append]; rfl
theorem qJ {g : Gm} (hg : Good g) (m : List (List Rat)) {i : Nat} {n : Nd} (hn : g.nodes[i]? = some n) : eY g m i = valOf g.ak.toNat m n (eY g m) := by
 have hl := aH hn;have h1 := uO g m (g.nodes.length - i) i (by omega) (by omega) hl;obtain ⟨j, hj⟩ : ∃ j, g.nodes.length - i = j + 1 := ⟨g.nodes.length - i - 1, by omega⟩;have e0 : i - (g.nodes.length - (g.nodes.length - i)) = 0 := by omega
 rw [e0, hj] at h1;unfold x9 at h1;have e1 : g.nodes.length - 1 - j = i := by omega
 rw [e1, hn, List.getElem?_cons_zero, Option.some.injEq] at h1;rw [← h1];show valOf _ m n _ = valOf _ m n _;unfold valOf;by_cases hk : n.kind = 3
 ·rw [if_pos hk, if_pos hk]
 ·rw [if_neg hk, if_neg hk];refine vS fun bc hbc => ?_
  have hm : bc.2 ∈ n.next := (List.of_mem_zip (a := bc.1) (b := bc.2) hbc).2;have := hg.span.kids i n (Nat.zero_le _) hl hn bc.2 hm;have h3 := uO g m j bc.2.toNat (by omega) (by omega) (by omega);rw [List.getD_eq_getElem?_getD, h3]; rfl
structure Fit (g : Gm) (m : List (List Rat)) : Prop where
 good : Good g
 nodes : bT g.ak g.infos.length g.nodes = 0
 ak : 1 ≤ g.ak ∧ g.ak ≤ 4
 rows : m.length = g.infos.length
 chan : ∀ n ∈ g.nodes, n.kind ≠ 3 → (bW m n).length = n.next.length ∧ ∀ x ∈ bW m n, rl x ≤ 4
theorem abG {acc : List Rat} {b : Rat} {x : List Rat} {p : Nat} (h : acc.length = p) (h2 : x.length = p) : (kY acc b x).length = p := by unfold kY; rw [List.length_zipWith]; omega
theorem oP {look : Nat → List Rat} {p : Nat} : ∀ {l : List (Rat × Int)} {acc : List Rat}, acc.length = p → (∀ bc ∈ l, (look bc.2.toNat).length = p) → (jZ look acc l).length = p
 | [], _, h, _ => h
 | bc :: l, acc, h, hl => oP (l := l) (acc := kY acc bc.1 (look bc.2.toNat)) (abG h (hl bc (List.mem_cons_self))) (fun b hb => hl b (List.mem_cons_of_mem _ hb))
theorem tC {ak : Int} {ni : Nat} {nodes : List Nd} (h : bT ak ni nodes = 0) {n : Nd} (hn : n ∈ nodes) (hk : n.kind = 3) : (n.pay.length : Int) = ak ∧ (∀ x ∈ n.pay, -1000000 ≤ x ∧ x ≤ 1000000) ∧ n.next = [] := by
 have h1 := iy h n hn;unfold aN at h1;rw [if_neg (by omega), if_neg (by omega), if_pos hk] at h1;unfold gy at h1;split at h1
 ·omega
 ·rename_i h2
  split at h1
  ·omega
  ·rename_i h3
   refine ⟨by omega, fun x hx => ?_, List.eq_nil_of_length_eq_zero (by omega)⟩;have h4 : outside (-1000000) 1000000 n.pay = false := by simpa using h3
   unfold outside at h4;have := List.any_eq_false.1 h4 x hx;simp at this;omega
theorem Fit.kL {g : Gm} {m : List (List Rat)} (h : Fit g m) : ∀ (f i : Nat), g.nodes.length - i ≤ f → i < g.nodes.length → (eY g m i).length = g.ak.toNat
 | 0, i, h1, h2 => absurd h2 (by omega)
 | f + 1, i, h1, h2 => by
  obtain ⟨n, hn⟩ := aA (l := g.nodes) (k := i) h2;have hmem := List.mem_of_getElem? hn;rw [qJ h.good m hn];unfold valOf;by_cases hk : n.kind = 3
  ·rw [if_pos hk, List.length_map];have := (tC h.nodes hmem hk).1;omega
  ·rw [if_neg hk];refine oP (by simp) fun bc hbc => ?_
   have hm : bc.2 ∈ n.next := (List.of_mem_zip (a := bc.1) (b := bc.2) hbc).2;have := h.good.span.kids i n (Nat.zero_le _) h2 hn bc.2 hm;exact Fit.kL h f _ (by omega) (by omega)
theorem ags {acc x : List Rat} {b : Rat} {A B : Nat} (h1 : ∀ y ∈ acc, rl y ≤ A) (h2 : ∀ y ∈ x, rl y ≤ B) (hb : rl b ≤ 4) : ∀ y ∈ kY acc b x, rl y ≤ A + B + 5 := by
 intro y hy;unfold kY at hy;obtain ⟨k, hk⟩ := List.getElem?_of_mem hy;rw [List.getElem?_zipWith] at hk;cases ha : acc[k]? with
 | none => rw [ha] at hk; simp at hk
 | some u =>
  cases hx : x[k]? with
  | none => rw [ha, hx] at hk; simp at hk
  | some v =>
   rw [ha, hx] at hk;simp at hk;subst hk;have e1 := h1 u (List.mem_of_getElem? ha);have e2 := h2 v (List.mem_of_getElem? hx);have e3 := aag u (b * v);have e4 := uq b v;omega
theorem afB {x : Int} (h : -1000000 ≤ x ∧ x ≤ 1000000) : rl (x : Rat) ≤ 1 := by
 rw [wV];have : (dig x.natAbs).length ≤ 1 := aQ (by unfold LB; omega);omega
theorem Fit.agt {g : Gm} {m : List (List Rat)} (h : Fit g m) {cs : List Int} {a b : Nat} (hs : Span g.nodes cs a b) : ∀ (bs acc : List Rat) (A : Nat), (∀ x ∈ bs, rl x ≤ 4) → (∀ x ∈ acc, rl x ≤ A) → ∀ x ∈ jZ (eY g m) acc (bs.zip cs), rl x ≤ A + 7 * (b - a) := by
 induction hs with
 | nil a =>
  intro bs acc A _ ha x hx;rw [List.zip_nil_right] at hx;have := ha x hx; omega
 | @cons a k b n cs hn h1 h2 ih1 ih2 =>
  intro bs acc A hb ha x hx;have l1 := h1.le;have l2 := h2.le;cases bs with
  | nil =>
   have := ha x (by simpa [jZ] using hx); omega
  | cons c bs =>
   rw [List.zip_cons_cons] at hx;have hmem := List.mem_of_getElem? hn;have hv : ∀ y ∈ eY g m a, rl y ≤ 2 + 7 * (k - a - 1) := by
    rw [qJ h.good m hn];unfold valOf;by_cases hk : n.kind = 3
    ·rw [if_pos hk];intro y hy;obtain ⟨z, hz, rfl⟩ := List.mem_map.1 hy;have := afB ((tC h.nodes hmem hk).2.1 z hz);omega
    ·rw [if_neg hk];intro y hy;have := ih1 _ _ 1 (h.chan n hmem hk).2 (fun z hz => by rw [List.eq_of_mem_replicate hz, qE]; omega) y hy;omega
   have hacc := ags (b := c) ha hv (hb c (List.mem_cons_self));have := ih2 bs _ _ (fun y hy => hb y (List.mem_cons_of_mem _ hy)) hacc x hx;omega
theorem rD {α β : Type} : ∀ (l : List α) (r : List β) (k : Nat), (l.zip r).take k = (l.take k).zip r
 | [], r, k => by simp
 | x :: l, [], k => by simp
 | x :: l, y :: r, 0 => by simp
 | x :: l, y :: r, k + 1 => by rw [List.zip_cons_cons, List.take_succ_cons, List.take_succ_cons, List.zip_cons_cons, rD]
theorem Fit.ady {g : Gm} {m : List (List Rat)} (h : Fit g m) {i : Nat} {n : Nd} (hn : g.nodes[i]? = some n) (hk : n.kind ≠ 3) (k : Nat) :
  ∀ x ∈ jZ (eY g m) (List.replicate g.ak.toNat 0) (((bW m n).zip n.next).take k), rl x ≤ 1 + 7 * g.nodes.length := by
 intro x hx;have hl := aH hn;obtain ⟨e, hs, he⟩ := h.good.span.agq i n (Nat.zero_le _) hl hn;rw [rD] at hx;have := h.agt hs _ _ 1 (fun y hy => (h.chan n (List.mem_of_getElem? hn) hk).2 y (List.mem_of_mem_take hy)) (fun z hz => by rw [List.eq_of_mem_replicate hz, qE]; omega) x hx;omega
theorem Fit.acL {g : Gm} {m : List (List Rat)} (h : Fit g m) {i : Nat} (hi : i < g.nodes.length) : ∀ x ∈ eY g m i, rl x ≤ 1 + 7 * g.nodes.length := by
 intro x hx;obtain ⟨n, hn⟩ := aA (l := g.nodes) (k := i) hi;have hmem := List.mem_of_getElem? hn;rw [qJ h.good m hn] at hx;unfold valOf at hx;by_cases hk : n.kind = 3
 ·rw [if_pos hk] at hx;obtain ⟨z, hz, rfl⟩ := List.mem_map.1 hx;have := afB ((tC h.nodes hmem hk).2.1 z hz);omega
 ·rw [if_neg hk] at hx;have := h.ady hn hk ((bW m n).zip n.next).length x (by rw [List.take_of_length_le (Nat.le_refl _)]; exact hx);exact this
def abH (look : Nat → Rat) (a : Rat) (l : List (Rat × Int)) : Rat := l.foldl (fun a bc => a + bc.1 * look bc.2.toNat) a
theorem ahf (look : Nat → Rat) (a : Rat) (l : List (Rat × Int)) (bc : Rat × Int) : abH look a (l ++ [bc]) = abH look a l + bc.1 * look bc.2.toNat := by unfold abH; rw [List.foldl_append]; rfl
theorem zL {look : Nat → List Rat} {p : Nat} : ∀ {l : List (Rat × Int)} {acc : List Rat} {a : Rat}, acc[p]? = some a → (∀ bc ∈ l, p < (look bc.2.toNat).length) → (jZ look acc l)[p]? = some (abH (fun c => (look c).getD p 0) a l)
 | [], _, _, h, _ => h
 | bc :: l, acc, a, h, hl => by
  have h1 := hl bc (List.mem_cons_self);obtain ⟨y, hy⟩ := aA h1;have h2 : (kY acc bc.1 (look bc.2.toNat))[p]? = some (a + bc.1 * (look bc.2.toNat).getD p 0) := by
   unfold kY;rw [List.getElem?_zipWith, h, hy, List.getD_eq_getElem?_getD, hy]; rfl
  exact zL (l := l) h2 (fun b hb => hl b (List.mem_cons_of_mem _ hb))
theorem Fit.ahQ {g : Gm} {m : List (List Rat)} (h : Fit g m) {i : Nat} {n : Nd} (hn : g.nodes[i]? = some n) (hk : n.kind ≠ 3) {p : Nat} (hp : p < g.ak.toNat) :
  (eY g m i).getD p 0 = abH (fun c => (eY g m c).getD p 0) 0 ((bW m n).zip n.next) := by
 rw [qJ h.good m hn];unfold valOf;rw [if_neg hk, List.getD_eq_getElem?_getD, zL (a := 0) (by simp [hp]) (fun bc hbc => ?_)]
 ·rfl
 ·have hm : bc.2 ∈ n.next := (List.of_mem_zip (a := bc.1) (b := bc.2) hbc).2;have := h.good.span.kids i n (Nat.zero_le _) (aH hn) hn bc.2 hm;rw [h.kL _ _ (Nat.le_refl _) (by omega)];exact hp
end Go.Proofs.YtkcheepafifjaaaGreatDoor
