/- subgame.Part -/
import Derived.Test.YtafjdoedallnbaaJ27
import Derived.Test.YtafjdoedallnbaaJ28
import Derived.Test.YtafjdoedallnbaaJ23
namespace Go.Proofs.Ytafjdoedallnbaa
open List renaming getElem_toArray → lq1, getElem_cons_zero → lq2, getElem_cons_succ → lq3, setIfInBounds_toArray → lq4, set_cons_zero → lq5, set_cons_succ → lq6
open Go.RowKit
def partErr (g : Gm) (node : Int) : Int := if formL g ≠ 0 then formL g else if hasB g.nodes.length node then (if aloneB (lookL g.nodes).2 (setsL g) node then 0 else 13) else 2
def partNames (g : Gm) (node : Int) : List Int := someL (inPart node ((lookL g.nodes).2.getD node.toNat 0)) (setsL g)
/-- the numbers of the first k names -/
def numTo (names : List Int) : Nat → Int → Int
 | 0 => fun _ => 0
 | k + 1 => fun y => if names[k]? = some y then (k : Int) else numTo names k y
def movedAt (g : Gm) (node : Int) (f : Int → Int) (i : Nat) : Nd := match g.nodes[i]? with | some x => movedNode node f x | none => ⟨0, 0, 0, [], [], []⟩
def infAt (g : Gm) (s : Int) : Inf := match g.infos[s.toNat]? with | some x => x | none => ⟨0, 0⟩
def partGm (g : Gm) (node : Int) : Gm := ⟨g.players, (preL g.nodes g.nodes.length node.toNat).map (movedAt g node (numTo (partNames g node) (partNames g node).length)), (partNames g node).map (infAt g)⟩
def PartR (B : Nat) (err : Int) (gm : Gm) (names : List Int) (v : Value) (w' : World) : Prop :=
 ∃ vg vx, v = .tuple #[vg, vx, .int .i64 err] ∧ GameAt w' (fun b => B ≤ b) vg gm ∧ IntsAt w' (fun b => B ≤ b) vx names
def noGm : Gm := ⟨0, [], []⟩
theorem PartR.empty {B : Nat} {err : Int} {w' : World} : PartR B err noGm [] (.tuple #[.agg #[.int .i64 0, .slice none 0 0, .slice none 0 0], .slice none 0 0, .int .i64 err]) w' :=
 ⟨_, _, rfl, ⟨_, _, rfl, ⟨Option.none, 0, rfl, Nat.le_refl _, fun h => absurd h (by simp [noGm])⟩, ⟨Option.none, 0, rfl, Nat.le_refl _, fun h => absurd h (by simp [noGm])⟩⟩, ⟨Option.none, 0, rfl, Nat.le_refl _, fun h => absurd h (by simp)⟩⟩
def PartRes (B : Nat) (g : Gm) (node : Int) (v : Value) (w' : World) : Prop := PartR B (partErr g node) (if partErr g node = 0 then partGm g node else noGm) (if partErr g node = 0 then partNames g node else []) v w'
theorem PartRes.bad {B : Nat} {g : Gm} {node : Int} {er : Int} {w' : World} (h : partErr g node = er) (h0 : er ≠ 0) : PartRes B g node (.tuple #[.agg #[.int .i64 0, .slice none 0 0, .slice none 0 0], .slice none 0 0, .int .i64 er]) w' := by
 unfold PartRes
 rw [h, if_neg h0, if_neg h0]
 exact PartR.empty
theorem step_app_inf {w : World} {ops : Array Oper} {o : Oper} {a : Act} {K : Act → World → Prop} {Q : Exit → Act → World → Prop} {E : Prop} (hgd : o.guard = none) (s x : Operand)
  (ho : o.op = .call { callee := .builtin .append, args := #[s, x], argTypes := #[23, 23] })
  (base : Nat) (v : Value) (k : Nat) (l : List Inf) (hs : a.eval s = v) (hown : w.ownsRow base 65 2 v k (l.flatMap infCells))
  (B : Nat) (y : Inf) (hx : a.eval x = .slice (some ⟨B, 0, none⟩) 1 1) (hB : w.heap[B]? = some (.cells (infCells y).toArray 65 (0, 0))) (hlen : k ≤ 1000000) (hbase : base ≤ w.heap.size)
  (h : ∀ g cap w', w'.ownsRow base 65 2 (.slice (some ⟨g, 0, none⟩) (k + 1) cap) (k + 1) ((l ++ [y]).flatMap infCells) → w.grownBy w' v.ownBlock → (v.ownBlock = some g ∨ w.heap.size ≤ g) → g < w'.heap.size →
   K (a.put o.dst (.slice (some ⟨g, 0, none⟩) (k + 1) cap)) w') :
  if Region.wanted o (yielded ops a.tmps) = true then Oper.wp Try.prog o a w K Q else E := by
 obtain ⟨i0, hi, hz0, hz1, hz2⟩ := info_parts Try.infoInfo
 refine step_append_lies w hgd s x _ ho base _ i0 _ 2 16 Try.underlying23 hi hz0 hz1 hz2 rfl (by omega) v k _ hs hown ⟨B, 0, none⟩ 1 1 (infCells y) hx rfl (World.news_of_block hB) (by simp [infCells, Value.oneCell']) (by omega) (by unfold maxLen; omega) (by omega) hbase w.heap.size rfl ?_
 intro g cap w' h1 h2 h3 h4
 refine h g cap w' ?_ h2 (h3.imp id fun e => by omega) h4
 rw [List.flatMap_append]
 simpa using h1
theorem owns_infos {w : World} {base : Nat} {t : TypeId} {v : Value} {L : List Inf} (h : w.ownsRow base t 2 v L.length (L.flatMap infCells)) {F : Foot} (hF : ∀ b, v.ownBlock = some b → F b) : InfosAt w F v L := by
 rcases h.2 with ⟨rfl, h0⟩ | ⟨g, cap, cur, rfl, hb, hg, hnc, _, hsz, htake⟩
 ·have : L = [] := List.eq_nil_of_length_eq_zero h0
  subst this
  exact ⟨none, 0, rfl, Nat.le_refl _, fun h => absurd h (by simp)⟩
 ·refine Lies.infos ⟨(Array.getElem?_eq_some_iff.1 hg).1, fun i u hi => ?_⟩ (hF g rfl) hnc
  rw [← htake, List.getElem?_take] at hi
  split at hi
  ·simp [World.cell?, hg]; simpa using hi
  ·cases hi
theorem visits_moved {w : World} {F : Foot} {g : Gm} {root : Int} {n B : Nat} {f : Int → Int} {a0 vn a2 a3 a4 a5 v : Value} (hm : MovedAt B [a0, vn, a2, a3, a4, a5] root n f v w) (hN : NodesAt w F vn g.nodes) (hsm : Small g) (hgd : Good g) (hroot : 0 ≤ root ∧ root < 1000) :
  ∃ caps, v = .func (.func 54) #[] caps ∧ Visits w 54 caps g.nodes.length (movedAt g root f) := by
 obtain ⟨bv, br, bc, bm, rfl, hv, hr, hc, hmap, _⟩ := hm
 refine ⟨_, rfl, enters Try.func54 (by decide +kernel) (by decide +kernel), fun w' a hb ha => ?_⟩
 obtain ⟨x, hx⟩ := getSome ha
 have hn := hsm.nodes
 have hi := hsm.infos
 refine (moved1_any w' F a x g bv br bc bm n f root a0 vn a2 a3 a4 a5 (hv.below hb hv.lt) (hN.on (Below.same' hb F)) (hr.below hb hr.lt) (hc.below hb hc.lt) (hmap.below hb) hx hsm ?_ hroot ?_).mono ?_
 ·intro c hc
  have := hgd.kidsIn x (List.mem_of_getElem? hx) c hc
  omega
 ·intro hk
  have := hgd.infos x (List.mem_of_getElem? hx) hk
  exact WalkArith.wf_i64 (by omega)
 ·rintro e w'' ⟨_, rfl, hb2, q, rfl, hq, hf, _⟩
  refine ⟨_, rfl, hb2, ?_⟩
  have h := NodeVal.of hf
  rw [hq] at h
  rw [show movedAt g root f a = movedNode root f x by unfold movedAt; rw [hx]]
  exact h
set_option maxRecDepth 100000 in
set_option maxHeartbeats 6400000 in
theorem part_any0 (w : World) (F : Foot) (u : Value) (node : Int) (g : Gm) (hg : GameAt w F u g) (hsm : Small g) (hfine : FineIf g) (hF : ∀ b, F b → b < w.heap.size) :
  Calls Try.prog 16 #[u, .int .i64 node] w (Ret w (PartRes w.heap.size g node)) := by
 have HFF := Lib.hid hF; clear hF
 have HG := Lib.hid hg
 obtain ⟨vn, vi, rfl, ⟨A, c, rfl, hc, hN⟩, ⟨Ai, ci, rfl, hci, hI⟩⟩ := hg
 clear hN hI
 have hn := hsm.nodes
 have hni := hsm.infos
 have HS := Lib.hid hsm; clear hsm
 have HFI := Lib.hid hfine; clear hfine
 go_enter Try.func16, Try.ntmps16
 go_wp2_with fail
 obtain ⟨W1, q1, r1, b1, z1⟩ := row_of_alloc w 25 #[.int .i64 g.players, .slice A g.nodes.length c, .slice Ai g.infos.length ci]
 rw [← q1]
 obtain ⟨W2, q2, r2, b2, z2⟩ := row_of_alloc W1 3 #[.int .i64 node]
 rw [← q2]
 obtain ⟨W3, q3, r3, b3, z3⟩ := row_of_alloc W2 25 #[.int .i64 0, .slice none 0 0, .slice none 0 0]
 rw [← q3]
 clear q1 q2 q3
 rw [← z1] at r2 b2 z2
 rw [← z2] at r3 b3 z3
 have r1 := (r1.below b2 (by omega)).below b3 (by omega)
 have r2 := r2.below b3 (by omega)
 have hB3 : Below w.heap.size w W3 := b1.trans ((b2.mono (by omega)).trans (b3.mono (by omega)))
 have hz3 : w.heap.size + 3 = W3.heap.size := by omega
 clear b1 b2 b3 z1 z2 z3
 have HZ3 := Lib.hid hz3; clear hz3
 refine (look_any W3 F _ g (HG.out.on (Below.same' hB3 F)) HS.out).mono ?_
 rintro e w1 ⟨_, rfl, hb1, vv, rfl, hv1, hv2⟩
 have hB : Below w.heap.size w w1 := hB3.trans (hb1.mono hB3.size)
 have r1 := r1.below hb1 r1.lt
 have r2 := r2.below hb1 r2.lt
 have r3 := r3.below hb1 r3.lt
 have hs1 := hb1.size
 rw [← HZ3.out] at hv2 hs1
 clear hb1 hB3
 have HV1 := Lib.hid hv1; have HV2 := Lib.hid hv2; clear hv1 hv2
 have HPE := Lib.hid (show partErr g node = if formL g ≠ 0 then formL g else if hasB g.nodes.length node then (if aloneB (lookL g.nodes).2 (setsL g) node then 0 else 13) else 2 from rfl)
 have HGD := Lib.hid (fun h : formL g = 0 => And.intro (good_of h) (HFI.out h))
 generalize formL g = er at *
 dsimp only
 by_cases he : er = 0
 ·have HVX := Lib.hid (HV2.out he)
  obtain ⟨hgd, hfl⟩ := HGD.out he
  have HE2 := Lib.hid (show partErr g node = if hasB g.nodes.length node then (if aloneB (lookL g.nodes).2 (setsL g) node then 0 else 13) else 2 by rw [HPE.out, if_neg (by simpa using he)])
  have HFL := Lib.hid hfl
  have HGO := Lib.hid hgd
  have hp := hgd.pos
  subst he
  clear hgd hfl HV1 HV2 HGD HFI HPE
  have HVY := Lib.hid HVX.out
  obtain ⟨vn', vi', vp, vl, vs, rfl, ⟨An, cn, rfl, hcn, hN'⟩, ⟨Ax, cx, rfl, hcx, hI'⟩, ⟨Ap, cp, rfl, hcp, hP'⟩, ⟨Al, cl, rfl, hcl, hL'⟩, ⟨As, cs, rfl, hcs, hS'⟩⟩ := HVX.out
  clear hN' hI' hP' hL' hS' HVX
  have n1 := r2.cell (i := 0) rfl
  have ln1 := r2.lt
  go_wp2_with fail
  obtain ⟨W, hW, hbx, hWb, hWz⟩ := row_of_alloc w1 51 #[.int .i64 g.players, .slice An g.nodes.length cn, .slice Ax g.infos.length cx, .slice Ap (lookL g.nodes).1.length cp, .slice Al (lookL g.nodes).2.length cl, .slice As (setsL g).length cs]
  rw [← hW]
  clear hW hWz n1
  have hBW := hB.trans (hWb.mono hB.size)
  have r1 := r1.below hWb r1.lt
  have r2 := r2.below hWb r2.lt
  have r3 := r3.below hWb r3.lt
  have HVW := Lib.hid (HVY.out.on (Below.same' hWb _))
  clear hB hWb HVY
  refine (has_any W (fun b => F b ∨ w.heap.size + 3 ≤ b) _ node g (lookL g.nodes).1 (lookL g.nodes).2 (setsL g) HVW.out).mono ?_
  rintro e w2 ⟨_, rfl, hb2, rfl⟩
  have HHB := Lib.hid (show hasB g.nodes.length node = (decide (0 ≤ node) && decide (node < (g.nodes.length : Int))) from rfl)
  have hB2 := hBW.trans (hb2.mono hBW.size)
  have hbx := hbx.below hb2 hbx.lt
  have r1 := r1.below hb2 r1.lt
  have r2 := r2.below hb2 r2.lt
  have r3 := r3.below hb2 r3.lt
  have HVW2 := Lib.hid (HVW.out.on (Below.same' hb2 _))
  have hs2 := hbx.lt
  clear hb2 hBW HVW
  generalize hasB g.nodes.length node = hb at *
  dsimp only
  have l3 := r3.lt
  have n1 := r2.cell (i := 0) rfl
  have v0 := hbx.cell (i := 0) rfl
  have v1 := hbx.cell (i := 1) rfl
  have v2 := hbx.cell (i := 2) rfl
  have v3 := hbx.cell (i := 3) rfl
  have v4 := hbx.cell (i := 4) rfl
  have v5 := hbx.cell (i := 5) rfl
  cases hb
  ·have HF := Lib.hid (show partErr g node = 2 by rw [HE2.out]; rfl)
   have t0 := r3.cell (i := 0) rfl
   have f0 := r3.frozen 0
   have t1 := r3.cell (i := 1) rfl
   have f1 := r3.frozen 1
   have t2 := r3.cell (i := 2) rfl
   have f2 := r3.frozen 2
   go_wp2
   obtain ⟨W, hW, hrw, hww⟩ := set3 r3 (.int .i64 0) (.slice none 0 0) (.slice none 0 0)
   rw [← hW]
   clear hW
   clear t0 f0
   have t0 := hrw.cell (i := 0) rfl
   clear t1 f1
   have t1 := hrw.cell (i := 1) rfl
   clear t2 f2
   have t2 := hrw.cell (i := 2) rfl
   refine bodyPost_ret (v := .tuple #[.agg #[.int .i64 0, .slice none 0 0, .slice none 0 0], .slice none 0 0, .int .i64 2]) (by simp [results, Try.results16, go_sem, t0, t1, t2]) rfl ?_
   have hq := Wrote.below hB2 hww (fun k hk => by omega) (by omega)
   have hsw := hww.size
   exact ⟨_, rfl, hq, PartRes.bad HF.out (by decide)⟩
  ·have HE3 := Lib.hid (show partErr g node = if aloneB (lookL g.nodes).2 (setsL g) node then 0 else 13 by rw [HE2.out]; rfl)
   have hnd : 0 ≤ node ∧ node < (g.nodes.length : Int) := by
    have := HHB.out
    simpa using this.symm
   clear HE2 HHB
   go_wp2_with fail
   refine (alone_any w2 (fun b => F b ∨ w.heap.size + 3 ≤ b) _ node g (lookL g.nodes).1 (lookL g.nodes).2 (setsL g) HVW2.out (setsL_small HS.out).1 (setsL_small HS.out).2 (lookTo_len _ _).2 hnd).mono ?_
   rintro e w3 ⟨_, rfl, hb3, rfl⟩
   clear n1 v0 v1 v2 v3 v4 v5
   have hB3 := hB2.trans (hb3.mono hB2.size)
   have hbx := hbx.below hb3 hbx.lt
   have r1 := r1.below hb3 r1.lt
   have r2 := r2.below hb3 r2.lt
   have r3 := r3.below hb3 r3.lt
   have HVW3 := Lib.hid (HVW2.out.on (Below.same' hb3 _))
   have hs3 := hbx.lt
   clear hb3 hB2 HVW2
   generalize aloneB (lookL g.nodes).2 (setsL g) node = al at *
   dsimp only
   have l3 := r3.lt
   have n1 := r2.cell (i := 0) rfl
   have v0 := hbx.cell (i := 0) rfl
   have v1 := hbx.cell (i := 1) rfl
   have v2 := hbx.cell (i := 2) rfl
   have v3 := hbx.cell (i := 3) rfl
   have v4 := hbx.cell (i := 4) rfl
   have v5 := hbx.cell (i := 5) rfl
   cases al
   ·have HF := Lib.hid (show partErr g node = 13 by rw [HE3.out]; rfl)
    have t0 := r3.cell (i := 0) rfl
    have f0 := r3.frozen 0
    have t1 := r3.cell (i := 1) rfl
    have f1 := r3.frozen 1
    have t2 := r3.cell (i := 2) rfl
    have f2 := r3.frozen 2
    go_wp2
    obtain ⟨W, hW, hrw, hww⟩ := set3 r3 (.int .i64 0) (.slice none 0 0) (.slice none 0 0)
    rw [← hW]
    clear hW
    clear t0 f0
    have t0 := hrw.cell (i := 0) rfl
    clear t1 f1
    have t1 := hrw.cell (i := 1) rfl
    clear t2 f2
    have t2 := hrw.cell (i := 2) rfl
    refine bodyPost_ret (v := .tuple #[.agg #[.int .i64 0, .slice none 0 0, .slice none 0 0], .slice none 0 0, .int .i64 13]) (by simp [results, Try.results16, go_sem, t0, t1, t2]) rfl ?_
    have hq := Wrote.below hB3 hww (fun k hk => by omega) (by omega)
    have hsw := hww.size
    exact ⟨_, rfl, hq, PartRes.bad HF.out (by decide)⟩
   ·have HF := Lib.hid (show partErr g node = 0 by rw [HE3.out]; rfl)
    clear HE3
    obtain ⟨y, hy⟩ := getSome (l := (lookL g.nodes).2) (k := node.toNat) (by have := (lookTo_len g.nodes g.nodes.length).2; unfold lookL; omega)
    have HNM := Lib.hid (show partNames g node = someL (inPart node y) (setsL g) by unfold partNames; rw [List.getD_eq_getElem?_getD, hy]; rfl)
    have HY := Lib.hid hy; clear hy
    have hlast : IntsAt w3 (fun b => F b ∨ w.heap.size + 3 ≤ b) (.slice Al (lookL g.nodes).2.length cl) (lookL g.nodes).2 := by
     obtain ⟨_, _, _, _, _, e, _, _, _, h4, _⟩ := HVW3.out
     cases e; exact h4
    have HLA := Lib.hid hlast; clear hlast
    go_wp2_with fail
    refine (some_any w3 (fun b => F b ∨ w.heap.size + 3 ≤ b) _ g (lookL g.nodes).1 (lookL g.nodes).2 (setsL g) _ _ (fun _ => True) (inPart node y) HVW3.out (setsL_small HS.out).1 (setsL_small HS.out).2 (fun _ _ _ _ => trivial) (part1_answers w3 _ _ _ node y _ _ (r2.cell rfl) r2.lt (hbx.cell rfl) hbx.lt HLA.out hnd.1 HY.out)).mono ?_
    rintro e w4 ⟨_, rfl, hb4, hx4⟩
    rw [← HNM.out] at hx4
    have HNA := Lib.hid hx4
    obtain ⟨Am, cm, rfl, hcm, hm4⟩ := hx4
    have HM4 := Lib.hid hm4; clear hm4
    clear n1 v0 v1 v2 v3 v4 v5
    have hB4 := hB3.trans (hb4.mono hB3.size)
    have hbx := hbx.below hb4 hbx.lt
    have r1 := r1.below hb4 r1.lt
    have r2 := r2.below hb4 r2.lt
    have r3 := r3.below hb4 r3.lt
    have HVW4 := Lib.hid (HVW3.out.on (Below.same' hb4 _))
    have hs4 := hbx.lt
    have h34 := hb4.size
    clear hb4 hB3 HVW3 HLA
    have hnl : (partNames g node).length ≤ 1000 := by
     rw [HNM.out]; exact Nat.le_trans (someTo_length _ _ _) (setsL_small HS.out).1
    have HNI := Lib.hid (show ∀ s ∈ partNames g node, 0 ≤ s ∧ s < (g.infos.length : Int) by
     intro s hs
     rw [HNM.out] at hs
     have := someL_in s hs
     rw [show (setsL g).length = g.infos.length from setsTo_length _ _ _] at this
     exact this)
    generalize hne : partNames g node = names at *
    have HNE := Lib.hid hne; clear hne
    dsimp only
    have l3 := r3.lt
    have t0 := r3.cell (i := 0) rfl
    have f0 := r3.frozen 0
    have g0 := r1.cell (i := 0) rfl
    have l1 := r1.lt
    have hmm := @run_makeMap Try.prog
    go_wp2_with fail
    clear hmm
    go_loopw [9, 10, 39] (fun _ _ i wr => ∃ (k : Nat) (vo : Value), k ≤ names.length ∧ i = .int .i64 k ∧ Wrote (fun b => b = w.heap.size + 1 + 1) w4 wr ∧ Row wr (w.heap.size + 1 + 1) 25 [.int .i64 g.players, .slice none 0 0, vo] ∧ MapAt wr w4.heap.size k (numTo names k) ∧ wr.ownsRow (w4.heap.size + 1) 65 2 vo k (((names.take k).map (infAt g)).flatMap infCells) ∧ w4.heap.size + 1 ≤ wr.heap.size) (fun _ _ i _ => names.length - (intOf i).toNat)
    case atStart =>
     have hw0 : Wrote (fun b => b = w.heap.size + 1 + 1) w4 w4 := Wrote.refl _ _
     refine ⟨0, .slice none 0 0, by omega, rfl, (hw0.setCell (p := ⟨w.heap.size + 1 + 1, 0, none⟩) (.inl rfl) _).alloc _, (r3.set 0 _).alloc _, ?_, World.ownsRow_nil _ _ _ _, by simp⟩
     have := MapAt.made (w4.setCell ⟨w.heap.size + 1 + 1, 0, none⟩ (.int .i64 g.players))
     simpa [numTo] using this
    case round =>
     clear g0 t0 f0
     obtain ⟨k, vo, hk, rfl, hww, hro, hmp, hown, hsz⟩ := hrel
     have HMP := Lib.hid hmp; clear hmp
     have HOW := Lib.hid hown; clear hown
     have HWW := Lib.hid hww
     have HRO := Lib.hid hro
     have lo := hro.lt
     by_cases hlt : k < names.length
     ·obtain ⟨bq, oq, rfl, hFq, hbq, hxq⟩ := HM4.out (by omega)
      obtain ⟨s0, hs0⟩ := getSome hlt
      have e0 := hxq k s0 hs0
      unfold intE at e0
      rw [Nat.mul_one, ← hww.cell bq _ hbq (by omega)] at e0
      obtain ⟨hs1, hs2⟩ := HNI.out s0 (List.mem_of_getElem? hs0)
      obtain ⟨sn, rfl⟩ := Int.eq_ofNat_of_zero_le hs1
      obtain ⟨_, _, eg, _, hIG⟩ := HG.out
      cases eg
      obtain ⟨_, _, ei, _, hIx⟩ := hIG
      cases ei
      obtain ⟨bi, oi, rfl, hFi, hbi, hxi⟩ := hIx (by omega)
      obtain ⟨yi, hyi⟩ := getSome (l := g.infos) (k := sn) (by omega)
      obtain ⟨ci0, ci1⟩ := hxi sn yi hyi
      have HYI := Lib.hid hyi
      clear hIx hxi hyi
      have HCI := Lib.hid (And.intro ci0 ci1); clear ci0 ci1
      have HS0 := Lib.hid hs0; clear hs0 hxq
      have hlq : bq < wr.heap.size := by have := hww.size; omega
      have wk : (Lit.int .i64 (sn : Int)).wf = true := WalkArith.wf_i64 (by omega)
      have wu : (Lit.int .i64 (k : Int)).wf = true := WalkArith.wf_i64 (by omega)
      clear hww hro
      go_upto_region 15 with (at_mapUpdate; refine wpl_map_put rfl _ _ _ rfl w4.heap.size k (numTo names k) rfl HMP.out (by omega) sn k rfl rfl wk wu ?_; intro w5 hmp5 hgr5; have HMP5 := Lib.hid (And.intro hmp5 hgr5); clear hmp5 hgr5)
      have hg5 := HMP5.out.2.size
      have hbk5 : ∀ b, b < wr.heap.size → b ≠ w4.heap.size → w5.heap[b]? = wr.heap[b]? := fun b hb hne => HMP5.out.2.block b hb (fun e => hne (by cases e; rfl))
      have HBK := Lib.hid hbk5; clear hbk5
      have hro5 : Row w5 (w.heap.size + 1 + 1) _ _ := HRO.out.of_block (HBK.out _ lo (by omega))
      have r15 : Row w5 w.heap.size _ _ := (r1.wrote HWW.out (by omega)).of_block (HBK.out _ (by omega) (by omega))
      have hvo : ∀ b, vo.ownBlock = some b → w4.heap.size + 1 ≤ b ∧ b < wr.heap.size := fun b hb => HOW.out.lt b hb
      have HVO := Lib.hid hvo; clear hvo
      have HOW5 := Lib.hid (show w5.ownsRow (w4.heap.size + 1) 65 2 vo k (((names.take k).map (infAt g)).flatMap infCells) from HOW.out.kept HMP5.out.2 (by
       cases hv : vo.ownBlock with
       | none => exact .inl rfl
       | some b => exact .inr (fun e => by have := (HVO.out b hv).1; cases e; omega)))
      have hsw := HWW.out.size
      have hB5 : Below w.heap.size w w5 := (Wrote.below hB4 HWW.out (fun k hk => by omega) (by omega)).grown HMP5.out.2 (by omega) (fun k hk => by cases hk; omega)
      have c0 : w5.cell? ⟨bi, oi + sn * 2, none⟩ = some (.int .i64 yi.player) := by rw [below_old hB5 _ _ hbi]; simpa using HCI.out.1
      have c1 : w5.cell? ⟨bi, oi + sn * 2 + 1, none⟩ = some (.int .i64 yi.actions) := by rw [below_old hB5 _ _ hbi]; simpa using HCI.out.2
      have d0 := hro5.cell (i := 2) rfl
      have d1 := r15.cell (i := 2) rfl
      have HALL := Lib.hid (And.intro hro5 (And.intro r15 hB5)); clear hro5 r15 hB5
      refine wp_peelMany (fun w' => w'.cell? ⟨w.heap.size + 1 + 1, 2, none⟩ = some vo ∧ w'.cell? ⟨w.heap.size, 2, none⟩ = some (.slice (some ⟨bi, oi, none⟩) g.infos.length ci) ∧ w'.cell? ⟨bi, oi + sn * 2, none⟩ = some (.int .i64 yi.player) ∧ w'.cell? ⟨bi, oi + sn * 2 + 1, none⟩ = some (.int .i64 yi.actions)) 9 2 (by kernel_rfl) rfl (by kernel_rfl) ?_
      have hHeld : (fun w' : World => w'.cell? ⟨w.heap.size + 1 + 1, 2, none⟩ = some vo ∧ w'.cell? ⟨w.heap.size, 2, none⟩ = some (.slice (some ⟨bi, oi, none⟩) g.infos.length ci) ∧ w'.cell? ⟨bi, oi + sn * 2, none⟩ = some (.int .i64 yi.player) ∧ w'.cell? ⟨bi, oi + sn * 2 + 1, none⟩ = some (.int .i64 yi.actions)) w5.drew := ⟨d0, d1, c0, c1⟩
      simp only [List.take_succ_cons, List.take_zero]
      refine wpAnyH_take (i := 0) (v := ?_) rfl (by kernel_rfl) (by kernel_rfl) (by kernel_rfl) (fun _ _ _ h => h) (Or.inl ⟨by rfl, ?_⟩) hHeld ?_
      rotate_left
      ·intro wx hSx; (try dsimp only at hSx); go_split_ands; go_simp; try (with_reducible rfl)
      try simp only [Act.put, lq1, lq2, lq3, lq4, lq5, lq6]
      refine wpAnyH_take (i := 1) (v := ?_) rfl (by kernel_rfl) (by kernel_rfl) (by kernel_rfl) (fun _ _ _ h => h) (Or.inl ⟨by rfl, ?_⟩) hHeld ?_
      rotate_left
      ·intro wx hSx; (try dsimp only at hSx); go_split_ands; go_simp; try (with_reducible rfl)
      try simp only [Act.put, lq1, lq2, lq3, lq4, lq5, lq6]
      refine wpAnyH_take (i := 2) (v := ?_) rfl (by kernel_rfl) (by kernel_rfl) (by kernel_rfl) (fun _ _ _ h => h) (Or.inl ⟨by rfl, ?_⟩) hHeld ?_
      rotate_left
      ·intro wx hSx; (try dsimp only at hSx); go_split_ands; go_simp; try (with_reducible rfl)
      try simp only [Act.put, lq1, lq2, lq3, lq4, lq5, lq6]
      refine wpAnyH_take (i := 3) (v := ?_) rfl (by kernel_rfl) (by kernel_rfl) (by kernel_rfl) (fun _ _ _ h => h) (Or.inl ⟨by rfl, ?_⟩) hHeld ?_
      rotate_left
      ·intro wx hSx; (try dsimp only at hSx); go_split_ands; go_simp; try (with_reducible rfl)
      try simp only [Act.put, lq1, lq2, lq3, lq4, lq5, lq6]
      refine wpAnyH_take (i := 4) (v := ?_) rfl (by kernel_rfl) (by kernel_rfl) (by kernel_rfl) (fun _ _ _ h => h) (Or.inl ⟨by rfl, ?_⟩) hHeld ?_
      rotate_left
      ·intro wx hSx; (try dsimp only at hSx); go_split_ands; go_simp; try (with_reducible rfl)
      try simp only [Act.put, lq1, lq2, lq3, lq4, lq5, lq6]
      refine wpAnyH_take (i := 5) (v := ?_) rfl (by kernel_rfl) (by kernel_rfl) (by kernel_rfl) (fun _ _ _ h => h) (Or.inl ⟨by rfl, ?_⟩) hHeld ?_
      rotate_left
      ·intro wx hSx; (try dsimp only at hSx); go_split_ands; go_simp; try (with_reducible rfl)
      try simp only [Act.put, lq1, lq2, lq3, lq4, lq5, lq6]
      refine wpAnyH_take (i := 6) (v := ?_) rfl (by kernel_rfl) (by kernel_rfl) (by kernel_rfl) (fun _ _ _ h => h) (Or.inl ⟨by rfl, ?_⟩) hHeld ?_
      rotate_left
      ·intro wx hSx; (try dsimp only at hSx); go_split_ands; go_simp; try (with_reducible rfl)
      try simp only [Act.put, lq1, lq2, lq3, lq4, lq5, lq6]
      have lo5 : w.heap.size + 1 + 1 < w5.heap.size := by omega
      have l15 : w.heap.size < w5.heap.size := by omega
      have lbi : bi < w5.heap.size := by omega
      refine wpAnyH_ready (rs := [7]) (by kernel_rfl) (by simp) ?_
      refine AllReadyH.cons (o := _) rfl (fun K hK => ?_) AllReadyH.nil
      go_simp
      obtain ⟨W6, hw6, hnb', hb6', hz6⟩ := row_of_alloc w5 65 #[.int .i64 yi.player, .int .i64 yi.actions]
      rw [← hw6]
      clear hw6
      obtain ⟨w6, hw6⟩ : ∃ W, W = W6.drew := ⟨_, rfl⟩
      have hnb : Row w6 w5.heap.size _ _ := hw6 ▸ hnb'.drew
      have hb6 : Below w5.heap.size w5 w6 := hw6 ▸ hb6'.drew
      rw [← hw6]
      clear hw6 hnb' hb6' hz6
      have h6 : (fun w' : World => w'.cell? ⟨w.heap.size + 1 + 1, 2, none⟩ = some vo ∧ w'.cell? ⟨w.heap.size, 2, none⟩ = some (.slice (some ⟨bi, oi, none⟩) g.infos.length ci) ∧ w'.cell? ⟨bi, oi + sn * 2, none⟩ = some (.int .i64 yi.player) ∧ w'.cell? ⟨bi, oi + sn * 2 + 1, none⟩ = some (.int .i64 yi.actions)) w6 :=
       ⟨(below_old hb6 _ _ lo5).trans d0, (below_old hb6 _ _ l15).trans d1, (below_old hb6 _ _ lbi).trans c0, (below_old hb6 _ _ lbi).trans c1⟩
      refine hK.out _ _ h6 (fun hHeld => ?_)
      clear hK K
      try simp only [Act.put, lq1, lq2, lq3, lq4, lq5, lq6]
      have hs6 := hb6.size
      have HOW6 := Lib.hid (ownsRow_below HOW5.out hb6)
      have HB6 := Lib.hid (And.intro hb6 h6); clear hb6 h6
      refine wpAnyH_ready (rs := [8]) (by kernel_rfl) (by simp) ?_
      refine AllReadyH.cons (o := _) rfl (fun K hK => ?_) AllReadyH.nil
      refine step_app_inf (by rfl) _ _ (by rfl) (w4.heap.size + 1) vo k ((names.take k).map (infAt g)) (by rfl) HOW6.out w5.heap.size yi (by rfl) hnb (by omega) (by omega) ?_
      intro gg cap w7 hown7 hgrow hat hlt7
      have hbk7 : ∀ b, b < w4.heap.size + 1 → b < w6.heap.size → w7.heap[b]? = w6.heap[b]? := fun b hb hl => hgrow.block b hl (fun e => by have := (HVO.out b e.symm).1; omega)
      obtain ⟨hb6, h6⟩ := HB6.out
      obtain ⟨hro5, r15, hB5⟩ := HALL.out
      have hro7 : Row w7 (w.heap.size + 1 + 1) _ _ := (hro5.below hb6 hro5.lt).of_block (hbk7 _ (by omega) (by omega))
      have hB7 : Below w.heap.size w w7 := (hB5.trans (hb6.mono hB5.size)).grown hgrow (by omega) (fun k hk => by have := (HVO.out k hk).1; omega)
      have r17 : Row w7 w.heap.size _ _ := (r15.below hb6 r15.lt).of_block (hbk7 _ (by omega) (by omega))
      refine hK.out _ _ ⟨hro7.cell rfl, r17.cell rfl, by rw [below_old hB7 _ _ hbi]; simpa using HCI.out.1, by rw [below_old hB7 _ _ hbi]; simpa using HCI.out.2⟩ (fun hHeld => ?_)
      clear hK K
      try simp only [Act.put, lq1, lq2, lq3, lq4, lq5, lq6]
      have q2 := hro7.cell (i := 2) rfl
      have y2 := hro7.frozen 2
      have lo7 := hro7.lt
      have HR7 := Lib.hid (And.intro hro7 (And.intro hown7 (And.intro hgrow (And.intro hat hb6)))); clear hro7 r17 hown7 hgrow hat hb6 h6 hro5 r15 hB5 hbk7
      have HB7 := Lib.hid hB7; clear hB7
      refine wpAnyH_done (by kernel_rfl) ?_ _
      clear hHeld
      show wpList _ _ _ _ _ _
      go_wp2_with fail
      show wpList _ _ _ _ _ _
      go_wp2_with fail
      show Exit.inBlock _ _ .normal _ _
      go_wp2_with fail
      go_roundw
      case rel =>
       obtain ⟨hro7, hown7, hgrow, hat, hb6⟩ := HR7.out
       have hsz7 := hgrow.size
       have hww5 : Wrote (fun b => b = w.heap.size + 1 + 1) w4 w5 := ⟨HMP5.out.2.os.trans HWW.out.os, HMP5.out.2.tape.trans HWW.out.tape, HMP5.out.2.output.trans HWW.out.output, by omega, fun b hb hne => (HBK.out b (by omega) (by omega)).trans (HWW.out.block b hb hne)⟩
       have hww6 : Wrote (fun b => b = w.heap.size + 1 + 1) w4 w6 := ⟨hb6.os.trans hww5.os, hb6.tape.trans hww5.tape, hb6.output.trans hww5.output, by omega, fun b hb hne => (hb6.block b (by omega)).trans (hww5.block b hb hne)⟩
       have hww7 : Wrote (fun b => b = w.heap.size + 1 + 1) w4 w7 := ⟨hgrow.os.trans hww6.os, hgrow.tape.trans hww6.tape, hgrow.output.trans hww6.output, by omega, fun b hb hne => (hgrow.block b (by omega) (fun e => by have := (HVO.out b e.symm).1; omega)).trans (hww6.block b hb hne)⟩
       have hne7 : ∀ b, w4.heap.size ≤ b → (w7.setCell ⟨w.heap.size + 1 + 1, 2, none⟩ (.slice (some ⟨gg, 0, none⟩) (k + 1) cap)).heap[b]? = w7.heap[b]? := fun b hb => Below.heap_setCell _ _ _ _ (by simp; omega)
       have hgb : w4.heap.size + 1 ≤ gg := by
        rcases hat with h | h
        ·exact (HVO.out gg h).1
        ·omega
       refine ⟨k + 1, _, by omega, by go_num, hww7.setCell (p := ⟨w.heap.size + 1 + 1, 2, none⟩) (.inl rfl) _, hro7.set 2 _, ?_, ?_, by simp; omega⟩
       ·have h5 := HMP5.out.1
        have h7 : w7.heap[w4.heap.size]? = w5.heap[w4.heap.size]? := (hgrow.block _ (by omega) (fun e => by have := (HVO.out _ e.symm).1; omega)).trans (hb6.block _ (by omega))
        have := h5.of_block ((hne7 _ (Nat.le_refl _)).trans h7)
        have e : numTo names (k + 1) = fun y => if y = (sn : Int) then (k : Int) else numTo names k y := by
         funext y
         simp only [numTo, HS0.out, Option.some.injEq]
         by_cases h : y = (sn : Int)
         ·rw [if_pos h, if_pos h.symm]
         ·rw [if_neg h, if_neg (fun e => h e.symm)]
        rw [e]
        exact this
       ·have e : (names.take (k + 1)).map (infAt g) = (names.take k).map (infAt g) ++ [yi] := by
         rw [take_snoc HS0.out, List.map_append]
         simp [infAt, HYI.out]
        rw [e]
        exact ⟨hown7.1, hown7.2.imp id (fun ⟨g3, cap3, cur, h1, h2, h3, h4⟩ => ⟨g3, cap3, cur, h1, h2, (hne7 g3 (by omega)).trans h3, h4⟩)⟩
      case measure => simp [intOf] <;> omega
     ·obtain rfl : k = names.length := by omega
      have HOW2 := Lib.hid (show wr.ownsRow (w4.heap.size + 1) 65 2 vo (names.map (infAt g)).length ((names.map (infAt g)).flatMap infCells) by have h := HOW.out; rw [List.take_length] at h; rw [List.length_map]; exact h)
      clear HOW hww hro
      obtain ⟨Ao, lo', co, rfl⟩ : ∃ Ao lo co, vo = .slice Ao lo co := by
       rcases HOW2.out.2 with ⟨h, _⟩ | ⟨gg, cap, cur, h, _⟩
       ·exact ⟨_, _, _, h⟩
       ·exact ⟨_, _, _, h⟩
      obtain ⟨nn, rfl⟩ := Int.eq_ofNat_of_zero_le hnd.1
      have hsw := HWW.out.size
      have r1r := r1.wrote HWW.out (by omega)
      have r2r := r2.wrote HWW.out (by omega)
      have hbr := hbx.wrote HWW.out (by omega)
      have hVN : NodesAt w4 (fun b => F b ∨ w.heap.size + 3 ≤ b) (.slice An g.nodes.length cn) g.nodes := by
       obtain ⟨_, _, _, _, _, e, h1, _⟩ := HVW4.out
       cases e; exact h1
      have HVN := Lib.hid (NodesAt.keep (G := fun b => (F b ∨ w.heap.size + 3 ≤ b) ∧ b < w4.heap.size) hVN (fun b hb hl => ⟨hb, hl⟩) (Same.refl _ _)); clear hVN
      have hBr : Below w.heap.size w wr := Wrote.below hB4 HWW.out (fun k hk => by omega) (by omega)
      clear r1 r2 r3 hbx hB4 HVW4
      have a0 := r1r.cell (i := 0) rfl
      have a1 := r1r.cell (i := 1) rfl
      have a2 := r1r.cell (i := 2) rfl
      have b0 := r2r.cell (i := 0) rfl
      have v0 := hbr.cell (i := 0) rfl
      have v1 := hbr.cell (i := 1) rfl
      have v2 := hbr.cell (i := 2) rfl
      have v3 := hbr.cell (i := 3) rfl
      have v4 := hbr.cell (i := 4) rfl
      have v5 := hbr.cell (i := 5) rfl
      have lr1 := r1r.lt
      have lr2 := r2r.lt
      have lbr := hbr.lt
      go_upto_region 17 with fail
      refine wp_peelMany (fun w' => w'.cell? ⟨w.heap.size, 0, none⟩ = some (.int .i64 g.players) ∧ w'.cell? ⟨w.heap.size, 1, none⟩ = some (.slice A g.nodes.length c) ∧ w'.cell? ⟨w.heap.size, 2, none⟩ = some (.slice Ai g.infos.length ci) ∧ w'.cell? ⟨w.heap.size + 1, 0, none⟩ = some (.int .i64 (nn : Int)) ∧ w'.cell? ⟨w1.heap.size, 0, none⟩ = some (.int .i64 g.players) ∧ w'.cell? ⟨w1.heap.size, 1, none⟩ = some (.slice An g.nodes.length cn) ∧ w'.cell? ⟨w1.heap.size, 2, none⟩ = some (.slice Ax g.infos.length cx) ∧ w'.cell? ⟨w1.heap.size, 3, none⟩ = some (.slice Ap (lookL g.nodes).1.length cp) ∧ w'.cell? ⟨w1.heap.size, 4, none⟩ = some (.slice Al (lookL g.nodes).2.length cl) ∧ w'.cell? ⟨w1.heap.size, 5, none⟩ = some (.slice As (setsL g).length cs)) 7 2 (by kernel_rfl) rfl (by kernel_rfl) ?_
      have hHeld : (fun w' : World => w'.cell? ⟨w.heap.size, 0, none⟩ = some (.int .i64 g.players) ∧ w'.cell? ⟨w.heap.size, 1, none⟩ = some (.slice A g.nodes.length c) ∧ w'.cell? ⟨w.heap.size, 2, none⟩ = some (.slice Ai g.infos.length ci) ∧ w'.cell? ⟨w.heap.size + 1, 0, none⟩ = some (.int .i64 (nn : Int)) ∧ w'.cell? ⟨w1.heap.size, 0, none⟩ = some (.int .i64 g.players) ∧ w'.cell? ⟨w1.heap.size, 1, none⟩ = some (.slice An g.nodes.length cn) ∧ w'.cell? ⟨w1.heap.size, 2, none⟩ = some (.slice Ax g.infos.length cx) ∧ w'.cell? ⟨w1.heap.size, 3, none⟩ = some (.slice Ap (lookL g.nodes).1.length cp) ∧ w'.cell? ⟨w1.heap.size, 4, none⟩ = some (.slice Al (lookL g.nodes).2.length cl) ∧ w'.cell? ⟨w1.heap.size, 5, none⟩ = some (.slice As (setsL g).length cs)) wr.drew := ⟨a0, a1, a2, b0, v0, v1, v2, v3, v4, v5⟩
      simp only [List.take_succ_cons, List.take_zero]
      refine wpAnyH_take (i := 0) (v := ?_) rfl (by kernel_rfl) (by kernel_rfl) (by kernel_rfl) (fun _ _ _ h => h) (Or.inl ⟨by rfl, ?_⟩) hHeld ?_
      rotate_left
      ·intro wx hSx; (try dsimp only at hSx); go_split_ands; go_simp; try (with_reducible rfl)
      try simp only [Act.put, lq1, lq2, lq3, lq4, lq5, lq6]
      refine wpAnyH_take (i := 1) (v := ?_) rfl (by kernel_rfl) (by kernel_rfl) (by kernel_rfl) (fun _ _ _ h => h) (Or.inl ⟨by rfl, ?_⟩) hHeld ?_
      rotate_left
      ·intro wx hSx; (try dsimp only at hSx); go_split_ands; go_simp; try (with_reducible rfl)
      try simp only [Act.put, lq1, lq2, lq3, lq4, lq5, lq6]
      refine wpAnyH_take (i := 2) (v := ?_) rfl (by kernel_rfl) (by kernel_rfl) (by kernel_rfl) (fun _ _ _ h => h) (Or.inl ⟨by rfl, ?_⟩) hHeld ?_
      rotate_left
      ·intro wx hSx; (try dsimp only at hSx); go_split_ands; go_simp; try (with_reducible rfl)
      try simp only [Act.put, lq1, lq2, lq3, lq4, lq5, lq6]
      refine wpAnyH_take (i := 3) (v := ?_) rfl (by kernel_rfl) (by kernel_rfl) (by kernel_rfl) (fun _ _ _ h => h) (Or.inl ⟨by rfl, ?_⟩) hHeld ?_
      rotate_left
      ·intro wx hSx; (try dsimp only at hSx); go_split_ands; go_simp; try (with_reducible rfl)
      try simp only [Act.put, lq1, lq2, lq3, lq4, lq5, lq6]
      refine wpAnyH_take (i := 4) (v := ?_) rfl (by kernel_rfl) (by kernel_rfl) (by kernel_rfl) (fun _ _ _ h => h) (Or.inl ⟨by rfl, ?_⟩) hHeld ?_
      rotate_left
      ·intro wx hSx; (try dsimp only at hSx); go_split_ands; go_simp; try (with_reducible rfl)
      try simp only [Act.put, lq1, lq2, lq3, lq4, lq5, lq6]
      clear a0 a1 a2 b0 v0 v1 v2 v3 v4 v5
      obtain ⟨u0, hu0⟩ : ∃ W, W = wr.drew := ⟨_, rfl⟩
      have z0 : wr.heap.size = u0.heap.size := by rw [hu0]; rfl
      have HZ0 := Lib.hid z0; clear z0
      have r1u : Row u0 _ _ _ := hu0 ▸ r1r.drew
      have r2u : Row u0 _ _ _ := hu0 ▸ r2r.drew
      have hbu : Row u0 _ _ _ := hu0 ▸ hbr.drew
      have r3u : Row u0 _ _ _ := hu0 ▸ HRO.out.drew
      have hBu : Below w.heap.size w u0 := hu0 ▸ hBr.drew
      have HMU := Lib.hid (show MapAt u0 w4.heap.size names.length (numTo names names.length) from hu0 ▸ HMP.out.of_block rfl)
      have HSU := Lib.hid (show ∀ G : Foot, Same G wr u0 from fun G => hu0 ▸ Same.drewN G wr 1)
      rw [← hu0] at hHeld ⊢
      clear hu0 r1r r2r hbr hBr HRO HMP
      refine wpAnyH_ready (rs := [5]) (by kernel_rfl) (by simp) ?_
      refine AllReadyH.cons (o := _) rfl (fun K hK => ?_) AllReadyH.nil
      go_simp
      refine (moved_any u0 _ _ _ _ _ _ ⟨rfl, rfl, rfl, rfl, rfl, rfl⟩ nn w4.heap.size names.length (numTo names names.length) HMU.out).mono ?_
      rintro e u1 ⟨_, rfl, hb1, hmv⟩
      have hN1 : NodesAt u1 (fun b => (F b ∨ w.heap.size + 3 ≤ b) ∧ b < w4.heap.size) (.slice An g.nodes.length cn) g.nodes := ((HVN.out.on (HWW.out.same (fun b hb => by rcases hb.1 with h | h; (· have := HFF.out b h; omega); (· omega)))).on (HSU.out _)).on (Below.same' hb1 _)
      obtain ⟨caps, rfl, hvis⟩ := visits_moved hmv hN1 HS.out HGO.out (by omega)
      have HVI := Lib.hid hvis; clear hvis hmv hN1
      have r1u := r1u.below hb1 r1u.lt
      have r2u := r2u.below hb1 r2u.lt
      have r3u := r3u.below hb1 r3u.lt
      have hbu := hbu.below hb1 hbu.lt
      have hBu := hBu.trans (hb1.mono hBu.size)
      have HOW3 := Lib.hid (ownsRow_below (show u0.ownsRow (w4.heap.size + 1) 65 2 (.slice Ao lo' co) (names.map (infAt g)).length ((names.map (infAt g)).flatMap infCells) from ⟨HOW2.out.1, HOW2.out.2.imp id (fun ⟨gg, cap, cur, h1, h2, h3, h4⟩ => ⟨gg, cap, cur, h1, h2, ((HSU.out (fun _ => True)).block gg trivial (Array.getElem?_eq_some_iff.1 h3).1).trans h3, h4⟩)⟩) hb1)
      have hs1 := hb1.size
      have hsu := (HSU.out (fun _ => True)).size
      dsimp only
      refine hK.out _ _ ⟨r1u.cell rfl, r1u.cell rfl, r1u.cell rfl, r2u.cell rfl, hbu.cell rfl, hbu.cell rfl, hbu.cell rfl, hbu.cell rfl, hbu.cell rfl, hbu.cell rfl⟩ (fun hHeld => ?_)
      clear hK K
      try simp only [Act.put, lq1, lq2, lq3, lq4, lq5, lq6]
      refine wpAnyH_ready (rs := [6]) (by kernel_rfl) (by simp) ?_
      refine AllReadyH.cons (o := _) rfl (fun K hK => ?_) AllReadyH.nil
      go_simp
      have hkid : ∀ (i : Nat) (n : Nd), g.nodes[i]? = some n → ∀ c ∈ n.next, (i : Int) < c ∧ c < (g.nodes.length : Int) := fun i n hi c hc => HGO.out.span.kids i n (Nat.zero_le _) (lt_of_get hi) hi c hc
      refine (walkN_any g HS.out hkid _ caps _ g.nodes.length nn u1 F _ (HG.out.on (Below.same' hBu F)) HVI.out (by omega) (by omega) (by have := preL_short HGO.out g.nodes.length nn; have := HS.out.nodes; omega)).mono ?_
      rintro e u2 ⟨_, rfl, hb2, gg, cap, L, rfl, hownL, hLn, hfin, hone⟩
      dsimp only
      have r1u := r1u.below hb2 r1u.lt
      have r2u := r2u.below hb2 r2u.lt
      have r3u := r3u.below hb2 r3u.lt
      have hbu := hbu.below hb2 hbu.lt
      have hBu := hBu.trans (hb2.mono hBu.size)
      have HOW4 := Lib.hid (ownsRow_below HOW3.out hb2)
      have HNA2 := Lib.hid ((((HNA.out.keep (G := fun b => w3.heap.size ≤ b ∧ b < w4.heap.size) (fun b hb hl => ⟨hb, hl⟩) (Same.refl _ _)).on (HWW.out.same (fun b hb => by omega))).on (HSU.out _)).on (Below.same' hb1 _) |>.on (Below.same' hb2 _))
      have hs2 := hb2.size
      have HOL := Lib.hid (And.intro hownL (And.intro hLn hfin)); clear hownL hLn hfin hone
      refine hK.out _ _ ⟨r1u.cell rfl, r1u.cell rfl, r1u.cell rfl, r2u.cell rfl, hbu.cell rfl, hbu.cell rfl, hbu.cell rfl, hbu.cell rfl, hbu.cell rfl, hbu.cell rfl⟩ (fun hHeld => ?_)
      clear hK K
      try simp only [Act.put, lq1, lq2, lq3, lq4, lq5, lq6]
      have q1 := r3u.cell (i := 1) rfl
      have y1 := r3u.frozen 1
      have l3u := r3u.lt
      refine wpAnyH_done (by kernel_rfl) ?_ _
      clear hHeld
      show wpList _ _ _ _ _ _
      go_wp2_with fail
      show wpList _ _ _ _ _ _
      go_wp2_with fail
      show Exit.then _ _ .normal _ _
      obtain ⟨W1, hW1⟩ : ∃ W, W = u2.setCell ⟨w.heap.size + 1 + 1, 1, none⟩ (.slice (some ⟨gg, 0, none⟩) L.length cap) := ⟨_, rfl⟩
      rw [← hW1]
      have r3w : Row W1 _ _ _ := hW1 ▸ r3u.set 1 (.slice (some ⟨gg, 0, none⟩) L.length cap)
      have hw1 : Wrote (fun k => k = w.heap.size + 1 + 1) u2 W1 := by
       have h0 : Wrote (fun k => k = w.heap.size + 1 + 1) u2 u2 := Wrote.refl _ _
       rw [hW1]
       exact h0.setCell (p := ⟨w.heap.size + 1 + 1, 1, none⟩) (.inl rfl) _
      clear hW1 q1 y1
      have HB9 := Lib.hid (And.intro hBu hw1); clear hBu hw1
      have l3w := r3w.lt
      have q0 := r3w.cell (i := 0) rfl
      have y0 := r3w.frozen 0
      have q1 := r3w.cell (i := 1) rfl
      have y1 := r3w.frozen 1
      have q2 := r3w.cell (i := 2) rfl
      have y2 := r3w.frozen 2
      clear r1u r2u r3u hbu
      go_wp2_with fail
      obtain ⟨W, hW, hrw, hww⟩ := set3 r3w (.int .i64 g.players) (.slice (some ⟨gg, 0, none⟩) L.length cap) (.slice Ao lo' co)
      rw [← hW]
      clear hW
      clear q0 y0
      have t0 := hrw.cell (i := 0) rfl
      clear q1 y1
      have t1 := hrw.cell (i := 1) rfl
      clear q2 y2
      have t2 := hrw.cell (i := 2) rfl
      refine bodyPost_ret (v := .tuple #[.agg #[.int .i64 g.players, .slice (some ⟨gg, 0, none⟩) L.length cap, .slice Ao lo' co], .slice Am names.length cm, .int .i64 0]) (by simp [results, Try.results16, go_sem, t0, t1, t2]) rfl ?_
      obtain ⟨hBu, hw1⟩ := HB9.out
      obtain ⟨hownL, hLn, hfin⟩ := HOL.out
      have hwB := Wrote.below (Wrote.below hBu hw1 (fun k hk => by omega) (by omega)) hww (fun k hk => by omega) (by have := hw1.size; omega)
      have hsame : ∀ G : Foot, (∀ b, G b → b ≠ w.heap.size + 1 + 1) → Same G u2 W := fun G hG => (hw1.same (fun b hb => hG b hb)).trans (hww.same (fun b hb => hG b hb))
      refine ⟨_, rfl, hwB, ?_⟩
      unfold PartRes
      rw [if_pos HF.out, if_pos HF.out, HF.out]
      refine ⟨_, _, rfl, ⟨_, _, rfl, ?_, ?_⟩, ?_⟩
      ·have h1 := owns_nodes hownL (F := fun b => u1.heap.size ≤ b) (fun b hb => (hownL.lt b hb).1) (fun q hq => (hfin q hq).keep (fun b hb _ => hb.1) (Same.refl _ _))
       have h2 := h1.keep (G := fun b => w.heap.size ≤ b) (fun b hb _ => by omega) (hsame _ (fun b hb => by omega))
       rw [hLn] at h2
       unfold partGm
       rw [HNE.out]
       exact h2
      ·have h1 := owns_infos HOW4.out (F := fun b => w4.heap.size + 1 ≤ b) (fun b hb => (HOW4.out.lt b hb).1)
       have h2 := h1.keep (G := fun b => w.heap.size ≤ b) (fun b hb _ => by omega) (hsame _ (fun b hb => by omega))
       unfold partGm
       rw [HNE.out]
       exact h2
      ·have h2 := HNA2.out.keep (G := fun b => w.heap.size ≤ b) (fun b hb _ => by omega) (hsame _ (fun b hb => by omega))
       rw [HNE.out]
       exact h2
 ·have hd : (er != 0) = true := by simp [he]
  have HF := Lib.hid (show partErr g node = er by rw [HPE.out, if_pos he])
  obtain rfl := HV1.out he
  have HNZ := Lib.hid he; clear he
  have l3 := r3.lt
  unfold noView
  have t0 := r3.cell (i := 0) rfl
  have f0 := r3.frozen 0
  have t1 := r3.cell (i := 1) rfl
  have f1 := r3.frozen 1
  have t2 := r3.cell (i := 2) rfl
  have f2 := r3.frozen 2
  go_wp2
  obtain ⟨W, hW, hrw, hww⟩ := set3 r3 (.int .i64 0) (.slice none 0 0) (.slice none 0 0)
  rw [← hW]
  clear hW
  clear t0 f0
  have t0 := fun o : Obj => (hrw.alloc o).cell (i := 0) rfl
  clear t1 f1
  have t1 := fun o : Obj => (hrw.alloc o).cell (i := 1) rfl
  clear t2 f2
  have t2 := fun o : Obj => (hrw.alloc o).cell (i := 2) rfl
  refine bodyPost_ret (v := .tuple #[.agg #[.int .i64 0, .slice none 0 0, .slice none 0 0], .slice none 0 0, .int .i64 er]) (by simp [results, Try.results16, go_sem, t0, t1, t2]) rfl ?_
  have hq := Wrote.below hB hww (fun k hk => by omega) (by omega)
  have hsw := hww.size
  exact ⟨_, rfl, hq.alloc (by omega) _, PartRes.bad HF.out HNZ.out⟩
theorem part_any (w : World) (F : Foot) (u : Value) (node : Int) (g : Gm) (hg : GameAt w F u g) (hsm : Small g) (hfine : FineIf g) :
  Calls Try.prog 16 #[u, .int .i64 node] w (Ret w (PartRes w.heap.size g node)) :=
 part_any0 w (fun b => F b ∧ b < w.heap.size) u node g (hg.keep (fun b hb hl => ⟨hb, hl⟩) (Same.refl _ _)) hsm hfine (fun _ h => h.2)
end Go.Proofs.Ytafjdoedallnbaa
