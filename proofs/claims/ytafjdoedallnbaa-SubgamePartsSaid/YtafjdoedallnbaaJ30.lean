/- parlourref26.Part -/
import Derived.Test.YtafjdoedallnbaaJ29
import Derived.Test.YtafjdoedallnbaaJ24
import Derived.Test.YtafjdoedallnbaaJ23
import Derived.Deep.CutBlock
namespace Go.Proofs.Ytafjdoedallnbaa
open List renaming getElem_toArray → lq1, getElem_cons_zero → lq2, getElem_cons_succ → lq3, setIfInBounds_toArray → lq4, set_cons_zero → lq5, set_cons_succ → lq6
open Go.RowKit
def partErrR (g : Gm) (node : Int) : Int := if formL g ≠ 0 then formL g else if hasB g.nodes.length node then (if closedL g [node] then 0 else 13) else 2
/-- the part of the nodes from node to e - 1 -/
def fromGm (g : Gm) (node : Int) (names : List Int) (e : Nat) : Gm := ⟨g.players, (List.range' node.toNat (e - node.toNat)).map (movedAt g node (numTo names names.length)), names.map (infAt g)⟩
def endOf (g : Gm) (node : Int) : Nat := ((lookL g.nodes).2.getD node.toNat 0 + 1).toNat
def PartResR (B : Nat) (g : Gm) (node : Int) (v : Value) (w' : World) : Prop := PartR B (partErrR g node) (if partErrR g node = 0 then fromGm g node (setsInL g [node]) (endOf g node) else noGm) (if partErrR g node = 0 then setsInL g [node] else []) v w'
theorem PartResR.bad {B : Nat} {g : Gm} {node : Int} {er : Int} {w' : World} (h : partErrR g node = er) (h0 : er ≠ 0) : PartResR B g node (.tuple #[.agg #[.int .i64 0, .slice none 0 0, .slice none 0 0], .slice none 0 0, .int .i64 er]) w' := by
 unfold PartResR
 rw [h, if_neg h0, if_neg h0]
 exact PartR.empty
/-- where the part of a node ends -/
theorem part_end {g : Gm} (hg : Good g) {r : Nat} (hr : r < g.nodes.length) : r < endOf g r ∧ endOf g r ≤ g.nodes.length ∧ Span g.nodes [(r : Int)] r (endOf g r) ∧ (lookL g.nodes).2[r]? = some ((endOf g r : Int) - 1) ∧ (∀ k, r ≤ k → k < endOf g r → (underL g.nodes [(r : Int)])[k]? = some true) ∧ (endOf g r < g.nodes.length → (underL g.nodes [(r : Int)])[endOf g r]? = some false) := by
 obtain ⟨e, hs, h1, h2, h3⟩ := look_last hg hr
 have he : endOf g r = e := by
  unfold endOf
  rw [Int.toNat_natCast, List.getD_eq_getElem?_getD, h3]
  simp
 rw [he]
 have hu := under_one hg hr h3
 have hget : ∀ k, k < g.nodes.length → (underL g.nodes [(r : Int)])[k]? = some (within2 r ((e : Int) - 1) k) := fun k hk => by
  obtain ⟨b, hb⟩ := getSome (l := underL g.nodes [(r : Int)]) (k := k) (by rw [underL_length]; exact hk)
  have := hu k
  rw [List.getD_eq_getElem?_getD, hb] at this
  simp at this
  rw [hb, this]
 refine ⟨h1, h2, hs, h3, fun k hk hl => ?_, fun hl => ?_⟩
 ·rw [hget k (by omega)]
  unfold within2
  rw [decide_eq_true (by omega), decide_eq_true (by omega)]; rfl
 ·rw [hget e hl]
  unfold within2
  rw [decide_eq_false (p := (e : Int) ≤ e - 1) (by omega), Bool.and_false]
theorem step_app_intK {w : World} {ops : Array Oper} {o : Oper} {a : Act} {K : Act → World → Prop} {Q : Exit → Act → World → Prop} {E : Prop} (hgd : o.guard = none) (s x : Operand)
  (ho : o.op = .call { callee := .builtin .append, args := #[s, x], argTypes := #[26, 26] })
  (base : Nat) (v : Value) (k : Nat) (l : List Int) (hk : l.length = k) (hs : a.eval s = v) (hown : w.ownsRow base 3 1 v k (l.map (Value.int .i64)))
  (B : Nat) (y : Int) (hx : a.eval x = .slice (some ⟨B, 0, none⟩) 1 1) (hB : w.heap[B]? = some (.cells #[.int .i64 y] 3 (0, 0))) (hlen : k ≤ 1000000) (hbase : base ≤ w.heap.size)
  (h : ∀ g cap w', w'.ownsRow base 3 1 (.slice (some ⟨g, 0, none⟩) (k + 1) cap) (k + 1) ((l ++ [y]).map (Value.int .i64)) → w.grownBy w' v.ownBlock → (v.ownBlock = some g ∨ w.heap.size ≤ g) → g < w'.heap.size →
   K (a.put o.dst (.slice (some ⟨g, 0, none⟩) (k + 1) cap)) w') :
  if Region.wanted o (yielded ops a.tmps) = true then Oper.wp Try.prog o a w K Q else E := by
 subst hk
 refine step_app_int hgd s x ho base v l hs hown B y hx hB hlen hbase ?_
 intro g cap w' h1 h2 h3 h4
 refine h g cap w' ?_ h2 h3 h4
 rw [List.map_append]
 exact h1
set_option maxRecDepth 100000 in
set_option maxHeartbeats 6400000 in
theorem partR_any (w : World) (F : Foot) (u : Value) (node : Int) (g : Gm) (hg : GameAt w F u g) (hsm : Small g) :
  Calls Try.prog 17 #[u, .int .i64 node] w (Ret w (PartResR w.heap.size g node)) := by
 have HG := Lib.hid hg
 obtain ⟨vn, vi, rfl, ⟨A, c, rfl, hc, hN⟩, ⟨Ai, ci, rfl, hci, hI⟩⟩ := hg
 have HN := Lib.hid hN; clear hN
 have HI := Lib.hid hI; clear hI
 have hn := hsm.nodes
 have hni := hsm.infos
 have HS := Lib.hid hsm; clear hsm
 go_enter Try.func17, Try.ntmps17
 go_wp2_with fail
 obtain ⟨W1, q1, r1, b1, z1⟩ := row_of_alloc w 25 #[.int .i64 g.players, .slice A g.nodes.length c, .slice Ai g.infos.length ci]
 rw [← q1]
 obtain ⟨W2, q2, r2, b2, z2⟩ := row_of_alloc W1 25 #[.int .i64 0, .slice none 0 0, .slice none 0 0]
 rw [← q2]
 clear q1 q2
 rw [← z1] at r2 b2 z2
 have r1 := r1.below b2 (by omega)
 have hB2 : Below w.heap.size w W2 := b1.trans (b2.mono (by omega))
 have HZ2 := Lib.hid (show w.heap.size + 2 = W2.heap.size by omega)
 clear b1 b2 z1 z2
 refine (formR_any W2 F _ g (HG.out.on (Below.same' hB2 F)) HS.out).mono ?_
 rintro e w1 ⟨_, rfl, hb1, rfl⟩
 have hB : Below w.heap.size w w1 := hB2.trans (hb1.mono hB2.size)
 have r1 := r1.below hb1 r1.lt
 have r2 := r2.below hb1 r2.lt
 have hs1 := hb1.size
 rw [← HZ2.out] at hs1
 clear hb1 hB2 HZ2
 have HPE := Lib.hid (show partErrR g node = if formL g ≠ 0 then formL g else if hasB g.nodes.length node then (if closedL g [node] then 0 else 13) else 2 from rfl)
 have HGD := Lib.hid (fun h : formL g = 0 => good_of h)
 generalize formL g = er at *
 dsimp only
 have l2 := r2.lt
 by_cases he : er = 0
 ·have hgd := HGD.out he
  have HE2 := Lib.hid (show partErrR g node = if hasB g.nodes.length node then (if closedL g [node] then 0 else 13) else 2 by rw [HPE.out, if_neg (by simpa using he)])
  have HGO := Lib.hid hgd
  have hp := hgd.pos
  subst he
  clear hgd HGD HPE
  have x1 := r1.cell (i := 1) rfl
  have l1 := r1.lt
  by_cases q0 : node < 0
  ·have HF := Lib.hid (show partErrR g node = 2 by rw [HE2.out, if_neg (by simp [hasB]; omega)])
   have t0 := r2.cell (i := 0) rfl
   have f0 := r2.frozen 0
   have t1 := r2.cell (i := 1) rfl
   have f1 := r2.frozen 1
   have t2 := r2.cell (i := 2) rfl
   have f2 := r2.frozen 2
   go_wp2
   obtain ⟨W, hW, hrw, hww⟩ := set3 r2 (.int .i64 0) (.slice none 0 0) (.slice none 0 0)
   rw [← hW]
   clear hW
   clear t0 f0
   have t0 := hrw.cell (i := 0) rfl
   clear t1 f1
   have t1 := hrw.cell (i := 1) rfl
   clear t2 f2
   have t2 := hrw.cell (i := 2) rfl
   refine bodyPost_ret (v := .tuple #[.agg #[.int .i64 0, .slice none 0 0, .slice none 0 0], .slice none 0 0, .int .i64 2]) (by simp [results, Try.results17, go_sem, t0, t1, t2]) rfl ?_
   have hq := Wrote.below hB hww (fun k hk => by omega) (by have := hB.size; omega)
   exact ⟨_, rfl, hq, PartResR.bad HF.out (by decide)⟩
  ·have d0 : decide (node < 0) = false := decide_eq_false q0
   by_cases q1 : (g.nodes.length : Int) ≤ node
   ·have HF := Lib.hid (show partErrR g node = 2 by rw [HE2.out, if_neg (by simp [hasB]; omega)])
    have t0 := r2.cell (i := 0) rfl
    have f0 := r2.frozen 0
    have t1 := r2.cell (i := 1) rfl
    have f1 := r2.frozen 1
    have t2 := r2.cell (i := 2) rfl
    have f2 := r2.frozen 2
    go_wp2
    obtain ⟨W, hW, hrw, hww⟩ := set3 r2 (.int .i64 0) (.slice none 0 0) (.slice none 0 0)
    rw [← hW]
    clear hW
    clear t0 f0
    have t0 := hrw.cell (i := 0) rfl
    clear t1 f1
    have t1 := hrw.cell (i := 1) rfl
    clear t2 f2
    have t2 := hrw.cell (i := 2) rfl
    refine bodyPost_ret (v := .tuple #[.agg #[.int .i64 0, .slice none 0 0, .slice none 0 0], .slice none 0 0, .int .i64 2]) (by simp [results, Try.results17, go_sem, t0, t1, t2]) rfl ?_
    have hq := Wrote.below hB hww (fun k hk => by omega) (by have := hB.size; omega)
    exact ⟨_, rfl, hq, PartResR.bad HF.out (by decide)⟩
   ·have d1 : decide ((g.nodes.length : Int) ≤ node) = false := decide_eq_false q1
    have HE3 := Lib.hid (show partErrR g node = if closedL g [node] then 0 else 13 by rw [HE2.out, if_pos (by simp [hasB]; omega)])
    clear HE2
    have x0 := r1.cell (i := 0) rfl
    have x2 := r1.cell (i := 2) rfl
    go_wp2_with fail
    obtain ⟨w2, hw2, hrn, hb2, _⟩ := row_of_alloc w1 3 #[.int .i64 node]
    rw [← hw2]
    clear hw2
    have hB2 := hB.trans (hb2.mono hB.size)
    refine (setsIn_any _ (fun _ => True) _ _ g [node] (HG.out.keep (fun _ _ _ => trivial) (Below.same' hB2 F)) (Row.ints (l := [node]) hrn trivial (c := 1) (by simp)) HS.out hp HGO.out.kidsIn HGO.out.infos (by simp) (fun x hx => by simp at hx; omega)).mono ?_
    rintro e w3 ⟨_, rfl, hb3, vs, rfl, hvs⟩
    have hB3 := hB2.trans (hb3.mono hB2.size)
    have r1 := (r1.below hb2 r1.lt).below hb3 (by have := hb2.size; omega)
    have r2 := (r2.below hb2 r2.lt).below hb3 (by have := hb2.size; omega)
    have hs3 : w1.heap.size ≤ w3.heap.size := by have := hb2.size; have := hb3.size; omega
    have HVS := Lib.hid (hvs.keep (G := fun b => w1.heap.size ≤ b ∧ b < w3.heap.size) (fun b hb hl => ⟨by have := hb2.size; omega, hl⟩) (Same.refl _ _))
    clear hvs hrn hb2 hb3 hB hB2 x0 x1 x2
    generalize closedL g [node] = cl at *
    dsimp only
    have l1 := r1.lt
    have l2 := r2.lt
    cases cl
    ·have HF := Lib.hid (show partErrR g node = 13 by rw [HE3.out]; rfl)
     have t0 := r2.cell (i := 0) rfl
     have f0 := r2.frozen 0
     have t1 := r2.cell (i := 1) rfl
     have f1 := r2.frozen 1
     have t2 := r2.cell (i := 2) rfl
     have f2 := r2.frozen 2
     go_wp2
     obtain ⟨W, hW, hrw, hww⟩ := set3 r2 (.int .i64 0) (.slice none 0 0) (.slice none 0 0)
     rw [← hW]
     clear hW
     clear t0 f0
     have t0 := hrw.cell (i := 0) rfl
     clear t1 f1
     have t1 := hrw.cell (i := 1) rfl
     clear t2 f2
     have t2 := hrw.cell (i := 2) rfl
     refine bodyPost_ret (v := .tuple #[.agg #[.int .i64 0, .slice none 0 0, .slice none 0 0], .slice none 0 0, .int .i64 13]) (by simp [results, Try.results17, go_sem, t0, t1, t2]) rfl ?_
     have hq := Wrote.below hB3 hww (fun k hk => by omega) (by have := hB3.size; omega)
     exact ⟨_, rfl, hq, PartResR.bad HF.out (by decide)⟩
    ·have HF := Lib.hid (show partErrR g node = 0 by rw [HE3.out]; rfl)
     clear HE3
     obtain ⟨nn, rfl⟩ := Int.eq_ofNat_of_zero_le (show 0 ≤ node by omega)
     obtain ⟨he1, he2, _, _, hin, hend⟩ := part_end HGO.out (r := nn) (by omega)
     have hnl : (setsInL g [(nn : Int)]).length ≤ 100 := by unfold setsInL; have := setsInTo_length (underL g.nodes [(nn : Int)]) (setsL g) g.infos.length; omega
     have HNI := Lib.hid (show ∀ s ∈ setsInL g [(nn : Int)], 0 ≤ s ∧ s < (g.infos.length : Int) by
      intro s hs
      obtain ⟨q, l, rfl, hq, _⟩ := mem_setsIn.1 hs
      have := lt_of_get hq
      rw [show (setsL g).length = g.infos.length from setsTo_length _ _ _] at this
      omega)
     have hul := underL_length g.nodes [(nn : Int)]
     have x0 := r1.cell (i := 0) rfl
     have x1 := r1.cell (i := 1) rfl
     have x2 := r1.cell (i := 2) rfl
     go_wp2_with fail
     obtain ⟨w4, hw4, hrn, hb4, _⟩ := row_of_alloc w3 3 #[.int .i64 (nn : Int)]
     rw [← hw4]
     clear hw4
     have hB4 := hB3.trans (hb4.mono hB3.size)
     refine (under_any _ (fun _ => True) _ _ g [(nn : Int)] (HG.out.keep (fun _ _ _ => trivial) (Below.same' hB4 F)) (Row.ints (l := [(nn : Int)]) hrn trivial (c := 1) (by simp)) HS.out hp HGO.out.kidsIn (by simp) (fun x hx => by simp at hx; omega)).mono ?_
     rintro e w5 ⟨vu, rfl, hb5, hvu⟩
     have hB5 := hB4.trans (hb5.mono hB4.size)
     have r1 := (r1.below hb4 r1.lt).below hb5 (by have := hb4.size; omega)
     have r2 := (r2.below hb4 r2.lt).below hb5 (by have := hb4.size; omega)
     have hs5 : w3.heap.size ≤ w5.heap.size := by have := hb4.size; have := hb5.size; omega
     have HVU := Lib.hid (hvu.keep (G := fun b => w3.heap.size ≤ b ∧ b < w5.heap.size) (fun b hb hl => ⟨by have := hb4.size; omega, hl⟩) (Same.refl _ _))
     have HVS5 := Lib.hid ((HVS.out.on (Below.same' hb4 _)).on (Below.same' hb5 _))
     clear hvu hrn hb4 hb5 hB3 hB4 x0 x1 x2 HVS
     generalize hne : setsInL g [(nn : Int)] = names at *
     have HNE := Lib.hid hne; clear hne
     generalize hee : endOf g (nn : Int) = en at *
     have HEE := Lib.hid hee; clear hee
     generalize underL g.nodes [(nn : Int)] = inn at *
     obtain ⟨Au, cu, rfl, hcu, hu5⟩ := HVU.out
     obtain ⟨bu, ou, rfl, hbuF, hbu, hux⟩ := hu5 (by omega)
     have HIN := Lib.hid (fun k (h1 : nn ≤ k) (h2 : k < en) => hux k true (hin k h1 h2))
     have HEN := Lib.hid (fun (h : en < g.nodes.length) => hux en false (hend h))
     clear hux hin hend hu5 HVU
     rw [hul] at hcu ⊢
     clear hul
     have HVS6 := Lib.hid HVS5.out
     obtain ⟨Am, cm, rfl, hcm, hm5⟩ := HVS5.out
     have HM5 := Lib.hid hm5; clear hm5 HVS5
     dsimp only
     have l1 := r1.lt
     have l2 := r2.lt
     have t0 := r2.cell (i := 0) rfl
     have f0 := r2.frozen 0
     have g0 := r1.cell (i := 0) rfl
     go_upto_block 0 with fail
     go_cut [11, 12, 13, 14, 15] from 51 to 126 (fun _ _ _ _ _ wx => ∃ (L : List NV) (vo : Value) (G : Foot), L.map NV.n = (List.range' nn (en - nn)).map (movedAt g nn (numTo names names.length)) ∧ wx.ownsRow w5.heap.size 45 6 vo L.length (L.flatMap NV.cells) ∧ (∀ q ∈ L, q.fine wx G) ∧ (∀ b, G b → w5.heap.size ≤ b ∧ vo.ownBlock ≠ some b ∧ b < wx.heap.size) ∧ Row wx (w.heap.size + 1) 25 [.int .i64 g.players, vo, .slice none 0 0] ∧ Wrote (fun b => b = w.heap.size + 1) w5 wx)
     case first =>
      go_wp2_with fail
      go_loopw [11, 12, 13, 14, 15] (fun i _ _ _ _ wr => ∃ (k : Nat) (L : List NV) (vo : Value) (G : Foot), nn ≤ k ∧ k ≤ en ∧ i = .int .i64 k ∧ L.map NV.n = (List.range' nn (k - nn)).map (movedAt g nn (numTo names names.length)) ∧ wr.ownsRow w5.heap.size 45 6 vo L.length (L.flatMap NV.cells) ∧ (∀ q ∈ L, q.fine wr G) ∧ (∀ b, G b → w5.heap.size ≤ b ∧ vo.ownBlock ≠ some b ∧ b < wr.heap.size) ∧ Row wr (w.heap.size + 1) 25 [.int .i64 g.players, vo, .slice none 0 0] ∧ Wrote (fun b => b = w.heap.size + 1) w5 wr) (fun i _ _ _ _ _ => en - (intOf i).toNat)
      case atStart =>
       have hw0 : Wrote (fun b => b = w.heap.size + 1) w5 w5 := Wrote.refl _ _
       exact ⟨nn, [], .slice none 0 0, fun _ => False, by omega, by omega, rfl, by simp, World.ownsRow_nil _ _ _ _, fun q hq => (by cases hq), fun b hb => hb.elim, r2.set 0 _, hw0.setCell (p := ⟨w.heap.size + 1, 0, none⟩) (.inl rfl) _⟩
      case round =>
       clear t0 f0 g0
       obtain ⟨k, L, vo, G, hk1, hk2, rfl, hLn, hown, hfine, hG, hrs, hww⟩ := hrel
       have HO := Lib.hid hown; clear hown
       have HL := Lib.hid hLn; clear hLn
       have HFN := Lib.hid hfine; clear hfine
       have HGG := Lib.hid hG; clear hG
       have HWW := Lib.hid hww
       have HRS := Lib.hid hrs
       have r1r := r1.wrote hww (by omega)
       have x1 := r1r.cell (i := 1) rfl
       have l1r := r1r.lt
       have hsw := hww.size
       have lbu : bu < wr.heap.size := by omega
       by_cases hlt : k < en
       ·obtain ⟨b, o, rfl, _, hb, hcell⟩ := HN.out (by omega)
        obtain ⟨x, hx⟩ := getSome (l := g.nodes) (k := k) (by omega)
        obtain ⟨e0, e1, e2, ⟨v3, e3, i3⟩, ⟨v4, e4, i4⟩, ⟨v5, e5, i5⟩⟩ := hcell k x hx
        have hm := List.mem_of_getElem? hx
        have s3 := HS.out.next x hm
        have s4 := HS.out.weights x hm
        have s5 := HS.out.pay x hm
        have HKD := Lib.hid (HGO.out.kidsIn x hm)
        have H3 := Lib.hid i3; have H4 := Lib.hid i4; have H5 := Lib.hid i5
        obtain ⟨A3, c3, rfl, hc3, h3⟩ := i3
        have H3S := Lib.hid h3; clear h3
        obtain ⟨A4, c4, rfl, hc4, _⟩ := i4
        obtain ⟨A5, c5, rfl, hc5, _⟩ := i5
        have hBr : Below w.heap.size w wr := Wrote.below hB5 hww (fun k hk => by omega) hB5.size
        rw [← below_old hBr _ _ hb] at e0 e1 e2 e3 e4 e5
        have eu := HIN.out k hk1 hlt
        unfold boolE at eu
        rw [Nat.mul_one, ← hww.cell bu _ hbu (by omega)] at eu
        have HX := Lib.hid hx; clear hx hcell hm hww hrs r1r
        have lb : b < wr.heap.size := by have := hBr.size; omega
        go_upto_region 15 with fail
        obtain ⟨wv, hwv, hnx, hb1, hz1⟩ := row_of_alloc wr 45 #[.int .i64 x.kind, .int .i64 x.player, .int .i64 x.info, .slice A3 x.next.length c3, .slice A4 x.weights.length c4, .slice A5 x.pay.length c5]
        rw [← hwv]
        have HB1 := Lib.hid (hBr.trans (hb1.mono hBr.size))
        have hz1' : wr.heap.size < wv.heap.size := hnx.lt
        have HBB := Lib.hid hb1
        clear hwv hz1 hb1
        go_cut [13] from 51 to 126 (fun v13 wx => ∃ bo A4' c4' A5' c5', v13 = .pointer (some ⟨bo, 0, none⟩) ∧ Row wx bo 45 [.int .i64 x.kind, .int .i64 x.player, .int .i64 0, .slice none 0 0, .slice A4' x.weights.length c4', .slice A5' x.pay.length c5'] ∧ IntsAt wx (fun b => wv.heap.size ≤ b ∧ b < wx.heap.size ∧ b ≠ bo) (.slice A4' x.weights.length c4') x.weights ∧ IntsAt wx (fun b => wv.heap.size ≤ b ∧ b < wx.heap.size ∧ b ≠ bo) (.slice A5' x.pay.length c5') x.pay ∧ Row wx wr.heap.size 45 [.int .i64 x.kind, .int .i64 x.player, .int .i64 x.info, .slice A3 x.next.length c3, .slice A4 x.weights.length c4, .slice A5 x.pay.length c5] ∧ Below wv.heap.size wv wx ∧ wv.heap.size ≤ bo)
        case first =>
         refine wp_peelMany (fun w' => w'.cell? ⟨wr.heap.size, 0, none⟩ = some (.int .i64 x.kind) ∧ w'.cell? ⟨wr.heap.size, 1, none⟩ = some (.int .i64 x.player) ∧ w'.cell? ⟨wr.heap.size, 4, none⟩ = some (.slice A4 x.weights.length c4) ∧ w'.cell? ⟨wr.heap.size, 5, none⟩ = some (.slice A5 x.pay.length c5)) 14 1 (by kernel_rfl) rfl (by kernel_rfl) ?_
         have hHeld : (fun w' : World => w'.cell? ⟨wr.heap.size, 0, none⟩ = some (.int .i64 x.kind) ∧ w'.cell? ⟨wr.heap.size, 1, none⟩ = some (.int .i64 x.player) ∧ w'.cell? ⟨wr.heap.size, 4, none⟩ = some (.slice A4 x.weights.length c4) ∧ w'.cell? ⟨wr.heap.size, 5, none⟩ = some (.slice A5 x.pay.length c5)) wv.drew := ⟨hnx.cell rfl, hnx.cell rfl, hnx.cell rfl, hnx.cell rfl⟩
         simp only [List.take_succ_cons, List.take_zero]
         refine wpAnyH_take (i := 0) (v := ?_) rfl (by kernel_rfl) (by kernel_rfl) (by kernel_rfl) (fun _ _ _ h => h) (Or.inl ⟨by rfl, ?_⟩) hHeld ?_
         rotate_left
         ·intro wx hSx; (try dsimp only at hSx); go_split_ands; go_simp; try (with_reducible rfl)
         try simp only [Act.put, lq1, lq2, lq3, lq4, lq5, lq6]
         refine wpAnyH_take (i := 1) (v := ?_) rfl (by kernel_rfl) (by kernel_rfl) (by kernel_rfl) (fun _ _ _ h => h) (Or.inl ⟨by rfl, ?_⟩) hHeld ?_
         rotate_left
         ·intro wx hSx; (try dsimp only at hSx); go_split_ands; go_simp; try (with_reducible rfl)
         try simp only [Act.put, lq1, lq2, lq3, lq4, lq5, lq6]
         refine wpAnyH_take (i := 2) (v := ?_) rfl (by kernel_rfl) (by kernel_rfl) (by kernel_rfl) (fun _ _ _ h => h) (Or.inl ⟨by rfl, ?_⟩) hHeld ?_
         rotate_left
         ·intro wx hSx; (try dsimp only at hSx); go_split_ands; go_simp; try (with_reducible rfl)
         try simp only [Act.put, lq1, lq2, lq3, lq4, lq5, lq6]
         refine wpAnyH_take (i := 3) (v := ?_) rfl (by kernel_rfl) (by kernel_rfl) (by kernel_rfl) (fun _ _ _ h => h) (Or.inl ⟨by rfl, ?_⟩) hHeld ?_
         rotate_left
         ·intro wx hSx; (try dsimp only at hSx); go_split_ands; go_simp; try (with_reducible rfl)
         try simp only [Act.put, lq1, lq2, lq3, lq4, lq5, lq6]
         refine wpAnyH_take (i := 5) (v := ?_) rfl (by kernel_rfl) (by kernel_rfl) (by kernel_rfl) (fun _ _ _ h => h) (Or.inl ⟨by rfl, ?_⟩) hHeld ?_
         rotate_left
         ·intro wx hSx; (try dsimp only at hSx); go_split_ands; go_simp; try (with_reducible rfl)
         try simp only [Act.put, lq1, lq2, lq3, lq4, lq5, lq6]
         refine wpAnyH_take (i := 6) (v := ?_) rfl (by kernel_rfl) (by kernel_rfl) (by kernel_rfl) (fun _ _ _ h => h) (Or.inl ⟨by rfl, ?_⟩) hHeld ?_
         rotate_left
         ·intro wx hSx; (try dsimp only at hSx); go_split_ands; go_simp; try (with_reducible rfl)
         try simp only [Act.put, lq1, lq2, lq3, lq4, lq5, lq6]
         refine wpAnyH_take (i := 9) (v := ?_) rfl (by kernel_rfl) (by kernel_rfl) (by kernel_rfl) (fun _ _ _ h => h) (Or.inl ⟨by rfl, ?_⟩) hHeld ?_
         rotate_left
         ·intro wx hSx; (try dsimp only at hSx); go_split_ands; go_simp; try (with_reducible rfl)
         try simp only [Act.put, lq1, lq2, lq3, lq4, lq5, lq6]
         refine wpAnyH_take (i := 10) (v := ?_) rfl (by kernel_rfl) (by kernel_rfl) (by kernel_rfl) (fun _ _ _ h => h) (Or.inl ⟨by rfl, ?_⟩) hHeld ?_
         rotate_left
         ·intro wx hSx; (try dsimp only at hSx); go_split_ands; go_simp; try (with_reducible rfl)
         try simp only [Act.put, lq1, lq2, lq3, lq4, lq5, lq6]
         obtain ⟨w0, hw0⟩ : ∃ W, W = wv.drew := ⟨_, rfl⟩
         have hnx0 : Row w0 _ _ _ := hw0 ▸ hnx.drew
         have hV0 : Below wv.heap.size wv w0 := hw0 ▸ (Below.refl wv.heap.size wv).drew
         have hs0 := hV0.size
         rw [← hw0] at hHeld ⊢
         clear hw0 hnx e0 e1 e2 e3 e4 e5 eu x1
         clear r1 r2 hB5 hBr
         obtain ⟨wb, rfl⟩ : ∃ wb : World, wb = wv := ⟨_, rfl⟩
         refine wpAnyH_ready (rs := [4, 8, 13]) (by decide +kernel) (by simp) ?_
         refine (AllReadyH.cons (o := _) rfl (fun K hK => ?_) (AllReadyH.cons (o := _) rfl (fun K hK => ?_) (AllReadyH.cons (o := _) rfl (fun K hK => ?_) AllReadyH.nil)))
         ·go_simp
          obtain ⟨w1, hw, hr4_1, hb, hz⟩ := row_of_alloc w0 3 #[]
          rw [← hw]
          clear hw hz
          have g4 := hnx0.lt
          have sz1 := hb.size
          have hnx1 := hnx0.below hb hnx0.lt
          have hV1 := hV0.trans (hb.mono hV0.size)
          clear hb
          refine hK.out _ _ ⟨hnx1.cell rfl, hnx1.cell rfl, hnx1.cell rfl, hnx1.cell rfl⟩ (fun hHeld => ?_)
          clear hK K
          try simp only [Act.put, lq1, lq2, lq3, lq4, lq5, lq6]
          refine wpAnyH_ready (rs := [7, 8, 13]) (by decide +kernel) (by simp) ?_
          refine (AllReadyH.cons (o := _) rfl (fun K hK => ?_) (AllReadyH.cons (o := _) rfl (fun K hK => ?_) (AllReadyH.cons (o := _) rfl (fun K hK => ?_) AllReadyH.nil)))
          ·refine ifT rfl ?_
           refine oper_app_ints _ _ rfl _ _ x.weights (by rfl) (by rfl) ((H4.out.on (Below.same' HB1.out F)).on (Below.same' hV1 F)) (by omega) ?_
           intro A7 c7 w2 hb hi7_2
           have g7 := hnx1.lt
           have l4_7 := hr4_1.lt
           have hr4_2 := hr4_1.below hb hr4_1.lt
           have sz2 := hb.size
           have hnx2 := hnx1.below hb hnx1.lt
           have hV2 := hV1.trans (hb.mono hV1.size)
           clear hb
           refine hK.out _ _ ⟨hnx2.cell rfl, hnx2.cell rfl, hnx2.cell rfl, hnx2.cell rfl⟩ (fun hHeld => ?_)
           clear hK K
           try simp only [Act.put, lq1, lq2, lq3, lq4, lq5, lq6]
           refine wpAnyH_ready (rs := [8, 13]) (by decide +kernel) (by simp) ?_
           refine (AllReadyH.cons (o := _) rfl (fun K hK => ?_) (AllReadyH.cons (o := _) rfl (fun K hK => ?_) AllReadyH.nil))
           ·go_simp
            obtain ⟨w3, hw, hr8_3, hb, hz⟩ := row_of_alloc w2 3 #[]
            rw [← hw]
            clear hw hz
            have g8 := hnx2.lt
            have l4_8 := hr4_2.lt
            have hr4_3 := hr4_2.below hb hr4_2.lt
            have hi7_3 := hi7_2.on (Below.same' hb _)
            have sz3 := hb.size
            have hnx3 := hnx2.below hb hnx2.lt
            have hV3 := hV2.trans (hb.mono hV2.size)
            clear hb
            refine hK.out _ _ ⟨hnx3.cell rfl, hnx3.cell rfl, hnx3.cell rfl, hnx3.cell rfl⟩ (fun hHeld => ?_)
            clear hK K
            try simp only [Act.put, lq1, lq2, lq3, lq4, lq5, lq6]
            refine wpAnyH_ready (rs := [11, 13]) (by decide +kernel) (by simp) ?_
            refine (AllReadyH.cons (o := _) rfl (fun K hK => ?_) (AllReadyH.cons (o := _) rfl (fun K hK => ?_) AllReadyH.nil))
            ·refine ifT rfl ?_
             refine oper_app_ints _ _ rfl _ _ x.pay (by rfl) (by rfl) ((H5.out.on (Below.same' HB1.out F)).on (Below.same' hV3 F)) (by omega) ?_
             intro A11 c11 w4 hb hi11_4
             have g11 := hnx3.lt
             have l4_11 := hr4_3.lt
             have hr4_4 := hr4_3.below hb hr4_3.lt
             have hi7_4 := hi7_3.on (Below.same' hb _)
             have l8_11 := hr8_3.lt
             have hr8_4 := hr8_3.below hb hr8_3.lt
             have sz4 := hb.size
             have hnx4 := hnx3.below hb hnx3.lt
             have hV4 := hV3.trans (hb.mono hV3.size)
             clear hb
             refine hK.out _ _ ⟨hnx4.cell rfl, hnx4.cell rfl, hnx4.cell rfl, hnx4.cell rfl⟩ (fun hHeld => ?_)
             clear hK K
             try simp only [Act.put, lq1, lq2, lq3, lq4, lq5, lq6]
             refine wpAnyH_take (i := 12) (v := ?_) rfl (by kernel_rfl) (by kernel_rfl) (by kernel_rfl) (fun _ _ _ h => h) (Or.inl ⟨by rfl, ?_⟩) hHeld ?_
             rotate_left
             ·intro wx hSx; (try dsimp only at hSx); go_split_ands; go_simp; try (with_reducible rfl)
             try simp only [Act.put, lq1, lq2, lq3, lq4, lq5, lq6]
             refine wpAnyH_ready (rs := [13]) (by decide +kernel) (by simp) ?_
             refine (AllReadyH.cons (o := _) rfl (fun K hK => ?_) AllReadyH.nil)
             ·go_simp
              obtain ⟨w5, hw, hr13_5, hb, hz⟩ := row_of_alloc w4 45 #[.int .i64 0, .int .i64 0, .int .i64 0, .slice none 0 0, .slice none 0 0, .slice none 0 0]
              rw [← hw]
              clear hw hz
              have g13 := hnx4.lt
              have l4_13 := hr4_4.lt
              have hr4_5 := hr4_4.below hb hr4_4.lt
              have hi7_5 := hi7_4.on (Below.same' hb _)
              have l8_13 := hr8_4.lt
              have hr8_5 := hr8_4.below hb hr8_4.lt
              have hi11_5 := hi11_4.on (Below.same' hb _)
              have sz5 := hb.size
              have hnx5 := hnx4.below hb hnx4.lt
              have hV5 := hV4.trans (hb.mono hV4.size)
              clear hb
              refine hK.out _ _ ⟨hnx5.cell rfl, hnx5.cell rfl, hnx5.cell rfl, hnx5.cell rfl⟩ (fun hHeld => ?_)
              clear hK K
              try simp only [Act.put, lq1, lq2, lq3, lq4, lq5, lq6]
              have r0 := hr13_5.cell (i := 0) rfl
              have f0 := hr13_5.frozen 0
              have r1 := hr13_5.cell (i := 1) rfl
              have f1 := hr13_5.frozen 1
              have r2 := hr13_5.cell (i := 2) rfl
              have f2 := hr13_5.frozen 2
              have r3 := hr13_5.cell (i := 3) rfl
              have f3 := hr13_5.frozen 3
              have r4 := hr13_5.cell (i := 4) rfl
              have f4 := hr13_5.frozen 4
              have r5 := hr13_5.cell (i := 5) rfl
              have f5 := hr13_5.frozen 5
              refine wpAnyH_done (by kernel_rfl) ?_ _
              clear hHeld
              show wpList _ _ _ _ _ _
              go_wp2_with fail
              obtain ⟨W, hW, hrw, hww⟩ := set6 hr13_5 (.int .i64 x.kind) (.int .i64 x.player) (.int .i64 0) (.slice none 0 0) (.slice A7 x.weights.length c7) (.slice A11 x.pay.length c11)
              rw [← hW]
              clear hW
              clear r0 f0
              clear r1 f1
              clear r2 f2
              clear r3 f3
              clear r4 f4
              clear r5 f5
              have szw := hww.size
              have l13 := hr13_5.lt
              show Exit.then _ _ .normal _ _
              go_wp2_with fail
              go_meet
              refine ⟨_, A7, c7, A11, c11, rfl, hrw, ?_, ?_, hnx5.wrote hww (by omega), Wrote.below hV5 hww (fun k hk => by omega) hV5.size, by omega⟩
              ·exact hi7_5.keep (fun b hb _ => by omega) (hww.same (fun b hb => by omega))
              ·exact hi11_5.keep (fun b hb _ => by omega) (hww.same (fun b hb => by omega))
            ·go_simp
             obtain ⟨w4, hw, hr13_4, hb, hz⟩ := row_of_alloc w3 45 #[.int .i64 0, .int .i64 0, .int .i64 0, .slice none 0 0, .slice none 0 0, .slice none 0 0]
             rw [← hw]
             clear hw hz
             have g13 := hnx3.lt
             have l4_13 := hr4_3.lt
             have hr4_4 := hr4_3.below hb hr4_3.lt
             have hi7_4 := hi7_3.on (Below.same' hb _)
             have l8_13 := hr8_3.lt
             have hr8_4 := hr8_3.below hb hr8_3.lt
             have sz4 := hb.size
             have hnx4 := hnx3.below hb hnx3.lt
             have hV4 := hV3.trans (hb.mono hV3.size)
             clear hb
             refine hK.out _ _ ⟨hnx4.cell rfl, hnx4.cell rfl, hnx4.cell rfl, hnx4.cell rfl⟩ (fun hHeld => ?_)
             clear hK K
             try simp only [Act.put, lq1, lq2, lq3, lq4, lq5, lq6]
             refine wpAnyH_ready (rs := [11]) (by decide +kernel) (by simp) ?_
             refine (AllReadyH.cons (o := _) rfl (fun K hK => ?_) AllReadyH.nil)
             ·refine ifT rfl ?_
              refine oper_app_ints _ _ rfl _ _ x.pay (by rfl) (by rfl) ((H5.out.on (Below.same' HB1.out F)).on (Below.same' hV4 F)) (by omega) ?_
              intro A11 c11 w5 hb hi11_5
              have g11 := hnx4.lt
              have l4_11 := hr4_4.lt
              have hr4_5 := hr4_4.below hb hr4_4.lt
              have hi7_5 := hi7_4.on (Below.same' hb _)
              have l8_11 := hr8_4.lt
              have hr8_5 := hr8_4.below hb hr8_4.lt
              have l13_11 := hr13_4.lt
              have hr13_5 := hr13_4.below hb hr13_4.lt
              have sz5 := hb.size
              have hnx5 := hnx4.below hb hnx4.lt
              have hV5 := hV4.trans (hb.mono hV4.size)
              clear hb
              refine hK.out _ _ ⟨hnx5.cell rfl, hnx5.cell rfl, hnx5.cell rfl, hnx5.cell rfl⟩ (fun hHeld => ?_)
              clear hK K
              try simp only [Act.put, lq1, lq2, lq3, lq4, lq5, lq6]
              refine wpAnyH_take (i := 12) (v := ?_) rfl (by kernel_rfl) (by kernel_rfl) (by kernel_rfl) (fun _ _ _ h => h) (Or.inl ⟨by rfl, ?_⟩) hHeld ?_
              rotate_left
              ·intro wx hSx; (try dsimp only at hSx); go_split_ands; go_simp; try (with_reducible rfl)
              try simp only [Act.put, lq1, lq2, lq3, lq4, lq5, lq6]
              have r0 := hr13_5.cell (i := 0) rfl
              have f0 := hr13_5.frozen 0
              have r1 := hr13_5.cell (i := 1) rfl
              have f1 := hr13_5.frozen 1
              have r2 := hr13_5.cell (i := 2) rfl
              have f2 := hr13_5.frozen 2
              have r3 := hr13_5.cell (i := 3) rfl
              have f3 := hr13_5.frozen 3
              have r4 := hr13_5.cell (i := 4) rfl
              have f4 := hr13_5.frozen 4
              have r5 := hr13_5.cell (i := 5) rfl
              have f5 := hr13_5.frozen 5
              refine wpAnyH_done (by kernel_rfl) ?_ _
              clear hHeld
              show wpList _ _ _ _ _ _
              go_wp2_with fail
              obtain ⟨W, hW, hrw, hww⟩ := set6 hr13_5 (.int .i64 x.kind) (.int .i64 x.player) (.int .i64 0) (.slice none 0 0) (.slice A7 x.weights.length c7) (.slice A11 x.pay.length c11)
              rw [← hW]
              clear hW
              clear r0 f0
              clear r1 f1
              clear r2 f2
              clear r3 f3
              clear r4 f4
              clear r5 f5
              have szw := hww.size
              have l13 := hr13_5.lt
              show Exit.then _ _ .normal _ _
              go_wp2_with fail
              go_meet
              refine ⟨_, A7, c7, A11, c11, rfl, hrw, ?_, ?_, hnx5.wrote hww (by omega), Wrote.below hV5 hww (fun k hk => by omega) hV5.size, by omega⟩
              ·exact hi7_5.keep (fun b hb _ => by omega) (hww.same (fun b hb => by omega))
              ·exact hi11_5.keep (fun b hb _ => by omega) (hww.same (fun b hb => by omega))
           ·go_simp
            obtain ⟨w3, hw, hr13_3, hb, hz⟩ := row_of_alloc w2 45 #[.int .i64 0, .int .i64 0, .int .i64 0, .slice none 0 0, .slice none 0 0, .slice none 0 0]
            rw [← hw]
            clear hw hz
            have g13 := hnx2.lt
            have l4_13 := hr4_2.lt
            have hr4_3 := hr4_2.below hb hr4_2.lt
            have hi7_3 := hi7_2.on (Below.same' hb _)
            have sz3 := hb.size
            have hnx3 := hnx2.below hb hnx2.lt
            have hV3 := hV2.trans (hb.mono hV2.size)
            clear hb
            refine hK.out _ _ ⟨hnx3.cell rfl, hnx3.cell rfl, hnx3.cell rfl, hnx3.cell rfl⟩ (fun hHeld => ?_)
            clear hK K
            try simp only [Act.put, lq1, lq2, lq3, lq4, lq5, lq6]
            refine wpAnyH_ready (rs := [8]) (by decide +kernel) (by simp) ?_
            refine (AllReadyH.cons (o := _) rfl (fun K hK => ?_) AllReadyH.nil)
            ·go_simp
             obtain ⟨w4, hw, hr8_4, hb, hz⟩ := row_of_alloc w3 3 #[]
             rw [← hw]
             clear hw hz
             have g8 := hnx3.lt
             have l4_8 := hr4_3.lt
             have hr4_4 := hr4_3.below hb hr4_3.lt
             have hi7_4 := hi7_3.on (Below.same' hb _)
             have l13_8 := hr13_3.lt
             have hr13_4 := hr13_3.below hb hr13_3.lt
             have sz4 := hb.size
             have hnx4 := hnx3.below hb hnx3.lt
             have hV4 := hV3.trans (hb.mono hV3.size)
             clear hb
             refine hK.out _ _ ⟨hnx4.cell rfl, hnx4.cell rfl, hnx4.cell rfl, hnx4.cell rfl⟩ (fun hHeld => ?_)
             clear hK K
             try simp only [Act.put, lq1, lq2, lq3, lq4, lq5, lq6]
             refine wpAnyH_ready (rs := [11]) (by decide +kernel) (by simp) ?_
             refine (AllReadyH.cons (o := _) rfl (fun K hK => ?_) AllReadyH.nil)
             ·refine ifT rfl ?_
              refine oper_app_ints _ _ rfl _ _ x.pay (by rfl) (by rfl) ((H5.out.on (Below.same' HB1.out F)).on (Below.same' hV4 F)) (by omega) ?_
              intro A11 c11 w5 hb hi11_5
              have g11 := hnx4.lt
              have l4_11 := hr4_4.lt
              have hr4_5 := hr4_4.below hb hr4_4.lt
              have hi7_5 := hi7_4.on (Below.same' hb _)
              have l13_11 := hr13_4.lt
              have hr13_5 := hr13_4.below hb hr13_4.lt
              have l8_11 := hr8_4.lt
              have hr8_5 := hr8_4.below hb hr8_4.lt
              have sz5 := hb.size
              have hnx5 := hnx4.below hb hnx4.lt
              have hV5 := hV4.trans (hb.mono hV4.size)
              clear hb
              refine hK.out _ _ ⟨hnx5.cell rfl, hnx5.cell rfl, hnx5.cell rfl, hnx5.cell rfl⟩ (fun hHeld => ?_)
              clear hK K
              try simp only [Act.put, lq1, lq2, lq3, lq4, lq5, lq6]
              refine wpAnyH_take (i := 12) (v := ?_) rfl (by kernel_rfl) (by kernel_rfl) (by kernel_rfl) (fun _ _ _ h => h) (Or.inl ⟨by rfl, ?_⟩) hHeld ?_
              rotate_left
              ·intro wx hSx; (try dsimp only at hSx); go_split_ands; go_simp; try (with_reducible rfl)
              try simp only [Act.put, lq1, lq2, lq3, lq4, lq5, lq6]
              have r0 := hr13_5.cell (i := 0) rfl
              have f0 := hr13_5.frozen 0
              have r1 := hr13_5.cell (i := 1) rfl
              have f1 := hr13_5.frozen 1
              have r2 := hr13_5.cell (i := 2) rfl
              have f2 := hr13_5.frozen 2
              have r3 := hr13_5.cell (i := 3) rfl
              have f3 := hr13_5.frozen 3
              have r4 := hr13_5.cell (i := 4) rfl
              have f4 := hr13_5.frozen 4
              have r5 := hr13_5.cell (i := 5) rfl
              have f5 := hr13_5.frozen 5
              refine wpAnyH_done (by kernel_rfl) ?_ _
              clear hHeld
              show wpList _ _ _ _ _ _
              go_wp2_with fail
              obtain ⟨W, hW, hrw, hww⟩ := set6 hr13_5 (.int .i64 x.kind) (.int .i64 x.player) (.int .i64 0) (.slice none 0 0) (.slice A7 x.weights.length c7) (.slice A11 x.pay.length c11)
              rw [← hW]
              clear hW
              clear r0 f0
              clear r1 f1
              clear r2 f2
              clear r3 f3
              clear r4 f4
              clear r5 f5
              have szw := hww.size
              have l13 := hr13_5.lt
              show Exit.then _ _ .normal _ _
              go_wp2_with fail
              go_meet
              refine ⟨_, A7, c7, A11, c11, rfl, hrw, ?_, ?_, hnx5.wrote hww (by omega), Wrote.below hV5 hww (fun k hk => by omega) hV5.size, by omega⟩
              ·exact hi7_5.keep (fun b hb _ => by omega) (hww.same (fun b hb => by omega))
              ·exact hi11_5.keep (fun b hb _ => by omega) (hww.same (fun b hb => by omega))
          ·go_simp
           obtain ⟨w2, hw, hr8_2, hb, hz⟩ := row_of_alloc w1 3 #[]
           rw [← hw]
           clear hw hz
           have g8 := hnx1.lt
           have l4_8 := hr4_1.lt
           have hr4_2 := hr4_1.below hb hr4_1.lt
           have sz2 := hb.size
           have hnx2 := hnx1.below hb hnx1.lt
           have hV2 := hV1.trans (hb.mono hV1.size)
           clear hb
           refine hK.out _ _ ⟨hnx2.cell rfl, hnx2.cell rfl, hnx2.cell rfl, hnx2.cell rfl⟩ (fun hHeld => ?_)
           clear hK K
           try simp only [Act.put, lq1, lq2, lq3, lq4, lq5, lq6]
           refine wpAnyH_ready (rs := [7, 13]) (by decide +kernel) (by simp) ?_
           refine (AllReadyH.cons (o := _) rfl (fun K hK => ?_) (AllReadyH.cons (o := _) rfl (fun K hK => ?_) AllReadyH.nil))
           ·refine ifT rfl ?_
            refine oper_app_ints _ _ rfl _ _ x.weights (by rfl) (by rfl) ((H4.out.on (Below.same' HB1.out F)).on (Below.same' hV2 F)) (by omega) ?_
            intro A7 c7 w3 hb hi7_3
            have g7 := hnx2.lt
            have l4_7 := hr4_2.lt
            have hr4_3 := hr4_2.below hb hr4_2.lt
            have l8_7 := hr8_2.lt
            have hr8_3 := hr8_2.below hb hr8_2.lt
            have sz3 := hb.size
            have hnx3 := hnx2.below hb hnx2.lt
            have hV3 := hV2.trans (hb.mono hV2.size)
            clear hb
            refine hK.out _ _ ⟨hnx3.cell rfl, hnx3.cell rfl, hnx3.cell rfl, hnx3.cell rfl⟩ (fun hHeld => ?_)
            clear hK K
            try simp only [Act.put, lq1, lq2, lq3, lq4, lq5, lq6]
            refine wpAnyH_ready (rs := [11, 13]) (by decide +kernel) (by simp) ?_
            refine (AllReadyH.cons (o := _) rfl (fun K hK => ?_) (AllReadyH.cons (o := _) rfl (fun K hK => ?_) AllReadyH.nil))
            ·refine ifT rfl ?_
             refine oper_app_ints _ _ rfl _ _ x.pay (by rfl) (by rfl) ((H5.out.on (Below.same' HB1.out F)).on (Below.same' hV3 F)) (by omega) ?_
             intro A11 c11 w4 hb hi11_4
             have g11 := hnx3.lt
             have l4_11 := hr4_3.lt
             have hr4_4 := hr4_3.below hb hr4_3.lt
             have l8_11 := hr8_3.lt
             have hr8_4 := hr8_3.below hb hr8_3.lt
             have hi7_4 := hi7_3.on (Below.same' hb _)
             have sz4 := hb.size
             have hnx4 := hnx3.below hb hnx3.lt
             have hV4 := hV3.trans (hb.mono hV3.size)
             clear hb
             refine hK.out _ _ ⟨hnx4.cell rfl, hnx4.cell rfl, hnx4.cell rfl, hnx4.cell rfl⟩ (fun hHeld => ?_)
             clear hK K
             try simp only [Act.put, lq1, lq2, lq3, lq4, lq5, lq6]
             refine wpAnyH_take (i := 12) (v := ?_) rfl (by kernel_rfl) (by kernel_rfl) (by kernel_rfl) (fun _ _ _ h => h) (Or.inl ⟨by rfl, ?_⟩) hHeld ?_
             rotate_left
             ·intro wx hSx; (try dsimp only at hSx); go_split_ands; go_simp; try (with_reducible rfl)
             try simp only [Act.put, lq1, lq2, lq3, lq4, lq5, lq6]
             refine wpAnyH_ready (rs := [13]) (by decide +kernel) (by simp) ?_
             refine (AllReadyH.cons (o := _) rfl (fun K hK => ?_) AllReadyH.nil)
             ·go_simp
              obtain ⟨w5, hw, hr13_5, hb, hz⟩ := row_of_alloc w4 45 #[.int .i64 0, .int .i64 0, .int .i64 0, .slice none 0 0, .slice none 0 0, .slice none 0 0]
              rw [← hw]
              clear hw hz
              have g13 := hnx4.lt
              have l4_13 := hr4_4.lt
              have hr4_5 := hr4_4.below hb hr4_4.lt
              have l8_13 := hr8_4.lt
              have hr8_5 := hr8_4.below hb hr8_4.lt
              have hi7_5 := hi7_4.on (Below.same' hb _)
              have hi11_5 := hi11_4.on (Below.same' hb _)
              have sz5 := hb.size
              have hnx5 := hnx4.below hb hnx4.lt
              have hV5 := hV4.trans (hb.mono hV4.size)
              clear hb
              refine hK.out _ _ ⟨hnx5.cell rfl, hnx5.cell rfl, hnx5.cell rfl, hnx5.cell rfl⟩ (fun hHeld => ?_)
              clear hK K
              try simp only [Act.put, lq1, lq2, lq3, lq4, lq5, lq6]
              have r0 := hr13_5.cell (i := 0) rfl
              have f0 := hr13_5.frozen 0
              have r1 := hr13_5.cell (i := 1) rfl
              have f1 := hr13_5.frozen 1
              have r2 := hr13_5.cell (i := 2) rfl
              have f2 := hr13_5.frozen 2
              have r3 := hr13_5.cell (i := 3) rfl
              have f3 := hr13_5.frozen 3
              have r4 := hr13_5.cell (i := 4) rfl
              have f4 := hr13_5.frozen 4
              have r5 := hr13_5.cell (i := 5) rfl
              have f5 := hr13_5.frozen 5
              refine wpAnyH_done (by kernel_rfl) ?_ _
              clear hHeld
              show wpList _ _ _ _ _ _
              go_wp2_with fail
              obtain ⟨W, hW, hrw, hww⟩ := set6 hr13_5 (.int .i64 x.kind) (.int .i64 x.player) (.int .i64 0) (.slice none 0 0) (.slice A7 x.weights.length c7) (.slice A11 x.pay.length c11)
              rw [← hW]
              clear hW
              clear r0 f0
              clear r1 f1
              clear r2 f2
              clear r3 f3
              clear r4 f4
              clear r5 f5
              have szw := hww.size
              have l13 := hr13_5.lt
              show Exit.then _ _ .normal _ _
              go_wp2_with fail
              go_meet
              refine ⟨_, A7, c7, A11, c11, rfl, hrw, ?_, ?_, hnx5.wrote hww (by omega), Wrote.below hV5 hww (fun k hk => by omega) hV5.size, by omega⟩
              ·exact hi7_5.keep (fun b hb _ => by omega) (hww.same (fun b hb => by omega))
              ·exact hi11_5.keep (fun b hb _ => by omega) (hww.same (fun b hb => by omega))
            ·go_simp
             obtain ⟨w4, hw, hr13_4, hb, hz⟩ := row_of_alloc w3 45 #[.int .i64 0, .int .i64 0, .int .i64 0, .slice none 0 0, .slice none 0 0, .slice none 0 0]
             rw [← hw]
             clear hw hz
             have g13 := hnx3.lt
             have l4_13 := hr4_3.lt
             have hr4_4 := hr4_3.below hb hr4_3.lt
             have l8_13 := hr8_3.lt
             have hr8_4 := hr8_3.below hb hr8_3.lt
             have hi7_4 := hi7_3.on (Below.same' hb _)
             have sz4 := hb.size
             have hnx4 := hnx3.below hb hnx3.lt
             have hV4 := hV3.trans (hb.mono hV3.size)
             clear hb
             refine hK.out _ _ ⟨hnx4.cell rfl, hnx4.cell rfl, hnx4.cell rfl, hnx4.cell rfl⟩ (fun hHeld => ?_)
             clear hK K
             try simp only [Act.put, lq1, lq2, lq3, lq4, lq5, lq6]
             refine wpAnyH_ready (rs := [11]) (by decide +kernel) (by simp) ?_
             refine (AllReadyH.cons (o := _) rfl (fun K hK => ?_) AllReadyH.nil)
             ·refine ifT rfl ?_
              refine oper_app_ints _ _ rfl _ _ x.pay (by rfl) (by rfl) ((H5.out.on (Below.same' HB1.out F)).on (Below.same' hV4 F)) (by omega) ?_
              intro A11 c11 w5 hb hi11_5
              have g11 := hnx4.lt
              have l4_11 := hr4_4.lt
              have hr4_5 := hr4_4.below hb hr4_4.lt
              have l8_11 := hr8_4.lt
              have hr8_5 := hr8_4.below hb hr8_4.lt
              have hi7_5 := hi7_4.on (Below.same' hb _)
              have l13_11 := hr13_4.lt
              have hr13_5 := hr13_4.below hb hr13_4.lt
              have sz5 := hb.size
              have hnx5 := hnx4.below hb hnx4.lt
              have hV5 := hV4.trans (hb.mono hV4.size)
              clear hb
              refine hK.out _ _ ⟨hnx5.cell rfl, hnx5.cell rfl, hnx5.cell rfl, hnx5.cell rfl⟩ (fun hHeld => ?_)
              clear hK K
              try simp only [Act.put, lq1, lq2, lq3, lq4, lq5, lq6]
              refine wpAnyH_take (i := 12) (v := ?_) rfl (by kernel_rfl) (by kernel_rfl) (by kernel_rfl) (fun _ _ _ h => h) (Or.inl ⟨by rfl, ?_⟩) hHeld ?_
              rotate_left
              ·intro wx hSx; (try dsimp only at hSx); go_split_ands; go_simp; try (with_reducible rfl)
              try simp only [Act.put, lq1, lq2, lq3, lq4, lq5, lq6]
              have r0 := hr13_5.cell (i := 0) rfl
              have f0 := hr13_5.frozen 0
              have r1 := hr13_5.cell (i := 1) rfl
              have f1 := hr13_5.frozen 1
              have r2 := hr13_5.cell (i := 2) rfl
              have f2 := hr13_5.frozen 2
              have r3 := hr13_5.cell (i := 3) rfl
              have f3 := hr13_5.frozen 3
              have r4 := hr13_5.cell (i := 4) rfl
              have f4 := hr13_5.frozen 4
              have r5 := hr13_5.cell (i := 5) rfl
              have f5 := hr13_5.frozen 5
              refine wpAnyH_done (by kernel_rfl) ?_ _
              clear hHeld
              show wpList _ _ _ _ _ _
              go_wp2_with fail
              obtain ⟨W, hW, hrw, hww⟩ := set6 hr13_5 (.int .i64 x.kind) (.int .i64 x.player) (.int .i64 0) (.slice none 0 0) (.slice A7 x.weights.length c7) (.slice A11 x.pay.length c11)
              rw [← hW]
              clear hW
              clear r0 f0
              clear r1 f1
              clear r2 f2
              clear r3 f3
              clear r4 f4
              clear r5 f5
              have szw := hww.size
              have l13 := hr13_5.lt
              show Exit.then _ _ .normal _ _
              go_wp2_with fail
              go_meet
              refine ⟨_, A7, c7, A11, c11, rfl, hrw, ?_, ?_, hnx5.wrote hww (by omega), Wrote.below hV5 hww (fun k hk => by omega) hV5.size, by omega⟩
              ·exact hi7_5.keep (fun b hb _ => by omega) (hww.same (fun b hb => by omega))
              ·exact hi11_5.keep (fun b hb _ => by omega) (hww.same (fun b hb => by omega))
           ·go_simp
            obtain ⟨w3, hw, hr13_3, hb, hz⟩ := row_of_alloc w2 45 #[.int .i64 0, .int .i64 0, .int .i64 0, .slice none 0 0, .slice none 0 0, .slice none 0 0]
            rw [← hw]
            clear hw hz
            have g13 := hnx2.lt
            have l4_13 := hr4_2.lt
            have hr4_3 := hr4_2.below hb hr4_2.lt
            have l8_13 := hr8_2.lt
            have hr8_3 := hr8_2.below hb hr8_2.lt
            have sz3 := hb.size
            have hnx3 := hnx2.below hb hnx2.lt
            have hV3 := hV2.trans (hb.mono hV2.size)
            clear hb
            refine hK.out _ _ ⟨hnx3.cell rfl, hnx3.cell rfl, hnx3.cell rfl, hnx3.cell rfl⟩ (fun hHeld => ?_)
            clear hK K
            try simp only [Act.put, lq1, lq2, lq3, lq4, lq5, lq6]
            refine wpAnyH_ready (rs := [7]) (by decide +kernel) (by simp) ?_
            refine (AllReadyH.cons (o := _) rfl (fun K hK => ?_) AllReadyH.nil)
            ·refine ifT rfl ?_
             refine oper_app_ints _ _ rfl _ _ x.weights (by rfl) (by rfl) ((H4.out.on (Below.same' HB1.out F)).on (Below.same' hV3 F)) (by omega) ?_
             intro A7 c7 w4 hb hi7_4
             have g7 := hnx3.lt
             have l4_7 := hr4_3.lt
             have hr4_4 := hr4_3.below hb hr4_3.lt
             have l8_7 := hr8_3.lt
             have hr8_4 := hr8_3.below hb hr8_3.lt
             have l13_7 := hr13_3.lt
             have hr13_4 := hr13_3.below hb hr13_3.lt
             have sz4 := hb.size
             have hnx4 := hnx3.below hb hnx3.lt
             have hV4 := hV3.trans (hb.mono hV3.size)
             clear hb
             refine hK.out _ _ ⟨hnx4.cell rfl, hnx4.cell rfl, hnx4.cell rfl, hnx4.cell rfl⟩ (fun hHeld => ?_)
             clear hK K
             try simp only [Act.put, lq1, lq2, lq3, lq4, lq5, lq6]
             refine wpAnyH_ready (rs := [11]) (by decide +kernel) (by simp) ?_
             refine (AllReadyH.cons (o := _) rfl (fun K hK => ?_) AllReadyH.nil)
             ·refine ifT rfl ?_
              refine oper_app_ints _ _ rfl _ _ x.pay (by rfl) (by rfl) ((H5.out.on (Below.same' HB1.out F)).on (Below.same' hV4 F)) (by omega) ?_
              intro A11 c11 w5 hb hi11_5
              have g11 := hnx4.lt
              have l4_11 := hr4_4.lt
              have hr4_5 := hr4_4.below hb hr4_4.lt
              have l8_11 := hr8_4.lt
              have hr8_5 := hr8_4.below hb hr8_4.lt
              have l13_11 := hr13_4.lt
              have hr13_5 := hr13_4.below hb hr13_4.lt
              have hi7_5 := hi7_4.on (Below.same' hb _)
              have sz5 := hb.size
              have hnx5 := hnx4.below hb hnx4.lt
              have hV5 := hV4.trans (hb.mono hV4.size)
              clear hb
              refine hK.out _ _ ⟨hnx5.cell rfl, hnx5.cell rfl, hnx5.cell rfl, hnx5.cell rfl⟩ (fun hHeld => ?_)
              clear hK K
              try simp only [Act.put, lq1, lq2, lq3, lq4, lq5, lq6]
              refine wpAnyH_take (i := 12) (v := ?_) rfl (by kernel_rfl) (by kernel_rfl) (by kernel_rfl) (fun _ _ _ h => h) (Or.inl ⟨by rfl, ?_⟩) hHeld ?_
              rotate_left
              ·intro wx hSx; (try dsimp only at hSx); go_split_ands; go_simp; try (with_reducible rfl)
              try simp only [Act.put, lq1, lq2, lq3, lq4, lq5, lq6]
              have r0 := hr13_5.cell (i := 0) rfl
              have f0 := hr13_5.frozen 0
              have r1 := hr13_5.cell (i := 1) rfl
              have f1 := hr13_5.frozen 1
              have r2 := hr13_5.cell (i := 2) rfl
              have f2 := hr13_5.frozen 2
              have r3 := hr13_5.cell (i := 3) rfl
              have f3 := hr13_5.frozen 3
              have r4 := hr13_5.cell (i := 4) rfl
              have f4 := hr13_5.frozen 4
              have r5 := hr13_5.cell (i := 5) rfl
              have f5 := hr13_5.frozen 5
              refine wpAnyH_done (by kernel_rfl) ?_ _
              clear hHeld
              show wpList _ _ _ _ _ _
              go_wp2_with fail
              obtain ⟨W, hW, hrw, hww⟩ := set6 hr13_5 (.int .i64 x.kind) (.int .i64 x.player) (.int .i64 0) (.slice none 0 0) (.slice A7 x.weights.length c7) (.slice A11 x.pay.length c11)
              rw [← hW]
              clear hW
              clear r0 f0
              clear r1 f1
              clear r2 f2
              clear r3 f3
              clear r4 f4
              clear r5 f5
              have szw := hww.size
              have l13 := hr13_5.lt
              show Exit.then _ _ .normal _ _
              go_wp2_with fail
              go_meet
              refine ⟨_, A7, c7, A11, c11, rfl, hrw, ?_, ?_, hnx5.wrote hww (by omega), Wrote.below hV5 hww (fun k hk => by omega) hV5.size, by omega⟩
              ·exact hi7_5.keep (fun b hb _ => by omega) (hww.same (fun b hb => by omega))
              ·exact hi11_5.keep (fun b hb _ => by omega) (hww.same (fun b hb => by omega))
          ·go_simp
           obtain ⟨w2, hw, hr13_2, hb, hz⟩ := row_of_alloc w1 45 #[.int .i64 0, .int .i64 0, .int .i64 0, .slice none 0 0, .slice none 0 0, .slice none 0 0]
           rw [← hw]
           clear hw hz
           have g13 := hnx1.lt
           have l4_13 := hr4_1.lt
           have hr4_2 := hr4_1.below hb hr4_1.lt
           have sz2 := hb.size
           have hnx2 := hnx1.below hb hnx1.lt
           have hV2 := hV1.trans (hb.mono hV1.size)
           clear hb
           refine hK.out _ _ ⟨hnx2.cell rfl, hnx2.cell rfl, hnx2.cell rfl, hnx2.cell rfl⟩ (fun hHeld => ?_)
           clear hK K
           try simp only [Act.put, lq1, lq2, lq3, lq4, lq5, lq6]
           refine wpAnyH_ready (rs := [7, 8]) (by decide +kernel) (by simp) ?_
           refine (AllReadyH.cons (o := _) rfl (fun K hK => ?_) (AllReadyH.cons (o := _) rfl (fun K hK => ?_) AllReadyH.nil))
           ·refine ifT rfl ?_
            refine oper_app_ints _ _ rfl _ _ x.weights (by rfl) (by rfl) ((H4.out.on (Below.same' HB1.out F)).on (Below.same' hV2 F)) (by omega) ?_
            intro A7 c7 w3 hb hi7_3
            have g7 := hnx2.lt
            have l4_7 := hr4_2.lt
            have hr4_3 := hr4_2.below hb hr4_2.lt
            have l13_7 := hr13_2.lt
            have hr13_3 := hr13_2.below hb hr13_2.lt
            have sz3 := hb.size
            have hnx3 := hnx2.below hb hnx2.lt
            have hV3 := hV2.trans (hb.mono hV2.size)
            clear hb
            refine hK.out _ _ ⟨hnx3.cell rfl, hnx3.cell rfl, hnx3.cell rfl, hnx3.cell rfl⟩ (fun hHeld => ?_)
            clear hK K
            try simp only [Act.put, lq1, lq2, lq3, lq4, lq5, lq6]
            refine wpAnyH_ready (rs := [8]) (by decide +kernel) (by simp) ?_
            refine (AllReadyH.cons (o := _) rfl (fun K hK => ?_) AllReadyH.nil)
            ·go_simp
             obtain ⟨w4, hw, hr8_4, hb, hz⟩ := row_of_alloc w3 3 #[]
             rw [← hw]
             clear hw hz
             have g8 := hnx3.lt
             have l4_8 := hr4_3.lt
             have hr4_4 := hr4_3.below hb hr4_3.lt
             have l13_8 := hr13_3.lt
             have hr13_4 := hr13_3.below hb hr13_3.lt
             have hi7_4 := hi7_3.on (Below.same' hb _)
             have sz4 := hb.size
             have hnx4 := hnx3.below hb hnx3.lt
             have hV4 := hV3.trans (hb.mono hV3.size)
             clear hb
             refine hK.out _ _ ⟨hnx4.cell rfl, hnx4.cell rfl, hnx4.cell rfl, hnx4.cell rfl⟩ (fun hHeld => ?_)
             clear hK K
             try simp only [Act.put, lq1, lq2, lq3, lq4, lq5, lq6]
             refine wpAnyH_ready (rs := [11]) (by decide +kernel) (by simp) ?_
             refine (AllReadyH.cons (o := _) rfl (fun K hK => ?_) AllReadyH.nil)
             ·refine ifT rfl ?_
              refine oper_app_ints _ _ rfl _ _ x.pay (by rfl) (by rfl) ((H5.out.on (Below.same' HB1.out F)).on (Below.same' hV4 F)) (by omega) ?_
              intro A11 c11 w5 hb hi11_5
              have g11 := hnx4.lt
              have l4_11 := hr4_4.lt
              have hr4_5 := hr4_4.below hb hr4_4.lt
              have l13_11 := hr13_4.lt
              have hr13_5 := hr13_4.below hb hr13_4.lt
              have hi7_5 := hi7_4.on (Below.same' hb _)
              have l8_11 := hr8_4.lt
              have hr8_5 := hr8_4.below hb hr8_4.lt
              have sz5 := hb.size
              have hnx5 := hnx4.below hb hnx4.lt
              have hV5 := hV4.trans (hb.mono hV4.size)
              clear hb
              refine hK.out _ _ ⟨hnx5.cell rfl, hnx5.cell rfl, hnx5.cell rfl, hnx5.cell rfl⟩ (fun hHeld => ?_)
              clear hK K
              try simp only [Act.put, lq1, lq2, lq3, lq4, lq5, lq6]
              refine wpAnyH_take (i := 12) (v := ?_) rfl (by kernel_rfl) (by kernel_rfl) (by kernel_rfl) (fun _ _ _ h => h) (Or.inl ⟨by rfl, ?_⟩) hHeld ?_
              rotate_left
              ·intro wx hSx; (try dsimp only at hSx); go_split_ands; go_simp; try (with_reducible rfl)
              try simp only [Act.put, lq1, lq2, lq3, lq4, lq5, lq6]
              have r0 := hr13_5.cell (i := 0) rfl
              have f0 := hr13_5.frozen 0
              have r1 := hr13_5.cell (i := 1) rfl
              have f1 := hr13_5.frozen 1
              have r2 := hr13_5.cell (i := 2) rfl
              have f2 := hr13_5.frozen 2
              have r3 := hr13_5.cell (i := 3) rfl
              have f3 := hr13_5.frozen 3
              have r4 := hr13_5.cell (i := 4) rfl
              have f4 := hr13_5.frozen 4
              have r5 := hr13_5.cell (i := 5) rfl
              have f5 := hr13_5.frozen 5
              refine wpAnyH_done (by kernel_rfl) ?_ _
              clear hHeld
              show wpList _ _ _ _ _ _
              go_wp2_with fail
              obtain ⟨W, hW, hrw, hww⟩ := set6 hr13_5 (.int .i64 x.kind) (.int .i64 x.player) (.int .i64 0) (.slice none 0 0) (.slice A7 x.weights.length c7) (.slice A11 x.pay.length c11)
              rw [← hW]
              clear hW
              clear r0 f0
              clear r1 f1
              clear r2 f2
              clear r3 f3
              clear r4 f4
              clear r5 f5
              have szw := hww.size
              have l13 := hr13_5.lt
              show Exit.then _ _ .normal _ _
              go_wp2_with fail
              go_meet
              refine ⟨_, A7, c7, A11, c11, rfl, hrw, ?_, ?_, hnx5.wrote hww (by omega), Wrote.below hV5 hww (fun k hk => by omega) hV5.size, by omega⟩
              ·exact hi7_5.keep (fun b hb _ => by omega) (hww.same (fun b hb => by omega))
              ·exact hi11_5.keep (fun b hb _ => by omega) (hww.same (fun b hb => by omega))
           ·go_simp
            obtain ⟨w3, hw, hr8_3, hb, hz⟩ := row_of_alloc w2 3 #[]
            rw [← hw]
            clear hw hz
            have g8 := hnx2.lt
            have l4_8 := hr4_2.lt
            have hr4_3 := hr4_2.below hb hr4_2.lt
            have l13_8 := hr13_2.lt
            have hr13_3 := hr13_2.below hb hr13_2.lt
            have sz3 := hb.size
            have hnx3 := hnx2.below hb hnx2.lt
            have hV3 := hV2.trans (hb.mono hV2.size)
            clear hb
            refine hK.out _ _ ⟨hnx3.cell rfl, hnx3.cell rfl, hnx3.cell rfl, hnx3.cell rfl⟩ (fun hHeld => ?_)
            clear hK K
            try simp only [Act.put, lq1, lq2, lq3, lq4, lq5, lq6]
            refine wpAnyH_ready (rs := [7]) (by decide +kernel) (by simp) ?_
            refine (AllReadyH.cons (o := _) rfl (fun K hK => ?_) AllReadyH.nil)
            ·refine ifT rfl ?_
             refine oper_app_ints _ _ rfl _ _ x.weights (by rfl) (by rfl) ((H4.out.on (Below.same' HB1.out F)).on (Below.same' hV3 F)) (by omega) ?_
             intro A7 c7 w4 hb hi7_4
             have g7 := hnx3.lt
             have l4_7 := hr4_3.lt
             have hr4_4 := hr4_3.below hb hr4_3.lt
             have l13_7 := hr13_3.lt
             have hr13_4 := hr13_3.below hb hr13_3.lt
             have l8_7 := hr8_3.lt
             have hr8_4 := hr8_3.below hb hr8_3.lt
             have sz4 := hb.size
             have hnx4 := hnx3.below hb hnx3.lt
             have hV4 := hV3.trans (hb.mono hV3.size)
             clear hb
             refine hK.out _ _ ⟨hnx4.cell rfl, hnx4.cell rfl, hnx4.cell rfl, hnx4.cell rfl⟩ (fun hHeld => ?_)
             clear hK K
             try simp only [Act.put, lq1, lq2, lq3, lq4, lq5, lq6]
             refine wpAnyH_ready (rs := [11]) (by decide +kernel) (by simp) ?_
             refine (AllReadyH.cons (o := _) rfl (fun K hK => ?_) AllReadyH.nil)
             ·refine ifT rfl ?_
              refine oper_app_ints _ _ rfl _ _ x.pay (by rfl) (by rfl) ((H5.out.on (Below.same' HB1.out F)).on (Below.same' hV4 F)) (by omega) ?_
              intro A11 c11 w5 hb hi11_5
              have g11 := hnx4.lt
              have l4_11 := hr4_4.lt
              have hr4_5 := hr4_4.below hb hr4_4.lt
              have l13_11 := hr13_4.lt
              have hr13_5 := hr13_4.below hb hr13_4.lt
              have l8_11 := hr8_4.lt
              have hr8_5 := hr8_4.below hb hr8_4.lt
              have hi7_5 := hi7_4.on (Below.same' hb _)
              have sz5 := hb.size
              have hnx5 := hnx4.below hb hnx4.lt
              have hV5 := hV4.trans (hb.mono hV4.size)
              clear hb
              refine hK.out _ _ ⟨hnx5.cell rfl, hnx5.cell rfl, hnx5.cell rfl, hnx5.cell rfl⟩ (fun hHeld => ?_)
              clear hK K
              try simp only [Act.put, lq1, lq2, lq3, lq4, lq5, lq6]
              refine wpAnyH_take (i := 12) (v := ?_) rfl (by kernel_rfl) (by kernel_rfl) (by kernel_rfl) (fun _ _ _ h => h) (Or.inl ⟨by rfl, ?_⟩) hHeld ?_
              rotate_left
              ·intro wx hSx; (try dsimp only at hSx); go_split_ands; go_simp; try (with_reducible rfl)
              try simp only [Act.put, lq1, lq2, lq3, lq4, lq5, lq6]
              have r0 := hr13_5.cell (i := 0) rfl
              have f0 := hr13_5.frozen 0
              have r1 := hr13_5.cell (i := 1) rfl
              have f1 := hr13_5.frozen 1
              have r2 := hr13_5.cell (i := 2) rfl
              have f2 := hr13_5.frozen 2
              have r3 := hr13_5.cell (i := 3) rfl
              have f3 := hr13_5.frozen 3
              have r4 := hr13_5.cell (i := 4) rfl
              have f4 := hr13_5.frozen 4
              have r5 := hr13_5.cell (i := 5) rfl
              have f5 := hr13_5.frozen 5
              refine wpAnyH_done (by kernel_rfl) ?_ _
              clear hHeld
              show wpList _ _ _ _ _ _
              go_wp2_with fail
              obtain ⟨W, hW, hrw, hww⟩ := set6 hr13_5 (.int .i64 x.kind) (.int .i64 x.player) (.int .i64 0) (.slice none 0 0) (.slice A7 x.weights.length c7) (.slice A11 x.pay.length c11)
              rw [← hW]
              clear hW
              clear r0 f0
              clear r1 f1
              clear r2 f2
              clear r3 f3
              clear r4 f4
              clear r5 f5
              have szw := hww.size
              have l13 := hr13_5.lt
              show Exit.then _ _ .normal _ _
              go_wp2_with fail
              go_meet
              refine ⟨_, A7, c7, A11, c11, rfl, hrw, ?_, ?_, hnx5.wrote hww (by omega), Wrote.below hV5 hww (fun k hk => by omega) hV5.size, by omega⟩
              ·exact hi7_5.keep (fun b hb _ => by omega) (hww.same (fun b hb => by omega))
              ·exact hi11_5.keep (fun b hb _ => by omega) (hww.same (fun b hb => by omega))
         ·go_simp
          obtain ⟨w1, hw, hr8_1, hb, hz⟩ := row_of_alloc w0 3 #[]
          rw [← hw]
          clear hw hz
          have g8 := hnx0.lt
          have sz1 := hb.size
          have hnx1 := hnx0.below hb hnx0.lt
          have hV1 := hV0.trans (hb.mono hV0.size)
          clear hb
          refine hK.out _ _ ⟨hnx1.cell rfl, hnx1.cell rfl, hnx1.cell rfl, hnx1.cell rfl⟩ (fun hHeld => ?_)
          clear hK K
          try simp only [Act.put, lq1, lq2, lq3, lq4, lq5, lq6]
          refine wpAnyH_ready (rs := [4, 13]) (by decide +kernel) (by simp) ?_
          refine (AllReadyH.cons (o := _) rfl (fun K hK => ?_) (AllReadyH.cons (o := _) rfl (fun K hK => ?_) AllReadyH.nil))
          ·go_simp
           obtain ⟨w2, hw, hr4_2, hb, hz⟩ := row_of_alloc w1 3 #[]
           rw [← hw]
           clear hw hz
           have g4 := hnx1.lt
           have l8_4 := hr8_1.lt
           have hr8_2 := hr8_1.below hb hr8_1.lt
           have sz2 := hb.size
           have hnx2 := hnx1.below hb hnx1.lt
           have hV2 := hV1.trans (hb.mono hV1.size)
           clear hb
           refine hK.out _ _ ⟨hnx2.cell rfl, hnx2.cell rfl, hnx2.cell rfl, hnx2.cell rfl⟩ (fun hHeld => ?_)
           clear hK K
           try simp only [Act.put, lq1, lq2, lq3, lq4, lq5, lq6]
           refine wpAnyH_ready (rs := [7, 13]) (by decide +kernel) (by simp) ?_
           refine (AllReadyH.cons (o := _) rfl (fun K hK => ?_) (AllReadyH.cons (o := _) rfl (fun K hK => ?_) AllReadyH.nil))
           ·refine ifT rfl ?_
            refine oper_app_ints _ _ rfl _ _ x.weights (by rfl) (by rfl) ((H4.out.on (Below.same' HB1.out F)).on (Below.same' hV2 F)) (by omega) ?_
            intro A7 c7 w3 hb hi7_3
            have g7 := hnx2.lt
            have l8_7 := hr8_2.lt
            have hr8_3 := hr8_2.below hb hr8_2.lt
            have l4_7 := hr4_2.lt
            have hr4_3 := hr4_2.below hb hr4_2.lt
            have sz3 := hb.size
            have hnx3 := hnx2.below hb hnx2.lt
            have hV3 := hV2.trans (hb.mono hV2.size)
            clear hb
            refine hK.out _ _ ⟨hnx3.cell rfl, hnx3.cell rfl, hnx3.cell rfl, hnx3.cell rfl⟩ (fun hHeld => ?_)
            clear hK K
            try simp only [Act.put, lq1, lq2, lq3, lq4, lq5, lq6]
            refine wpAnyH_ready (rs := [11, 13]) (by decide +kernel) (by simp) ?_
            refine (AllReadyH.cons (o := _) rfl (fun K hK => ?_) (AllReadyH.cons (o := _) rfl (fun K hK => ?_) AllReadyH.nil))
            ·refine ifT rfl ?_
             refine oper_app_ints _ _ rfl _ _ x.pay (by rfl) (by rfl) ((H5.out.on (Below.same' HB1.out F)).on (Below.same' hV3 F)) (by omega) ?_
             intro A11 c11 w4 hb hi11_4
             have g11 := hnx3.lt
             have l8_11 := hr8_3.lt
             have hr8_4 := hr8_3.below hb hr8_3.lt
             have l4_11 := hr4_3.lt
             have hr4_4 := hr4_3.below hb hr4_3.lt
             have hi7_4 := hi7_3.on (Below.same' hb _)
             have sz4 := hb.size
             have hnx4 := hnx3.below hb hnx3.lt
             have hV4 := hV3.trans (hb.mono hV3.size)
             clear hb
             refine hK.out _ _ ⟨hnx4.cell rfl, hnx4.cell rfl, hnx4.cell rfl, hnx4.cell rfl⟩ (fun hHeld => ?_)
             clear hK K
             try simp only [Act.put, lq1, lq2, lq3, lq4, lq5, lq6]
             refine wpAnyH_take (i := 12) (v := ?_) rfl (by kernel_rfl) (by kernel_rfl) (by kernel_rfl) (fun _ _ _ h => h) (Or.inl ⟨by rfl, ?_⟩) hHeld ?_
             rotate_left
             ·intro wx hSx; (try dsimp only at hSx); go_split_ands; go_simp; try (with_reducible rfl)
             try simp only [Act.put, lq1, lq2, lq3, lq4, lq5, lq6]
             refine wpAnyH_ready (rs := [13]) (by decide +kernel) (by simp) ?_
             refine (AllReadyH.cons (o := _) rfl (fun K hK => ?_) AllReadyH.nil)
             ·go_simp
              obtain ⟨w5, hw, hr13_5, hb, hz⟩ := row_of_alloc w4 45 #[.int .i64 0, .int .i64 0, .int .i64 0, .slice none 0 0, .slice none 0 0, .slice none 0 0]
              rw [← hw]
              clear hw hz
              have g13 := hnx4.lt
              have l8_13 := hr8_4.lt
              have hr8_5 := hr8_4.below hb hr8_4.lt
              have l4_13 := hr4_4.lt
              have hr4_5 := hr4_4.below hb hr4_4.lt
              have hi7_5 := hi7_4.on (Below.same' hb _)
              have hi11_5 := hi11_4.on (Below.same' hb _)
              have sz5 := hb.size
              have hnx5 := hnx4.below hb hnx4.lt
              have hV5 := hV4.trans (hb.mono hV4.size)
              clear hb
              refine hK.out _ _ ⟨hnx5.cell rfl, hnx5.cell rfl, hnx5.cell rfl, hnx5.cell rfl⟩ (fun hHeld => ?_)
              clear hK K
              try simp only [Act.put, lq1, lq2, lq3, lq4, lq5, lq6]
              have r0 := hr13_5.cell (i := 0) rfl
              have f0 := hr13_5.frozen 0
              have r1 := hr13_5.cell (i := 1) rfl
              have f1 := hr13_5.frozen 1
              have r2 := hr13_5.cell (i := 2) rfl
              have f2 := hr13_5.frozen 2
              have r3 := hr13_5.cell (i := 3) rfl
              have f3 := hr13_5.frozen 3
              have r4 := hr13_5.cell (i := 4) rfl
              have f4 := hr13_5.frozen 4
              have r5 := hr13_5.cell (i := 5) rfl
              have f5 := hr13_5.frozen 5
              refine wpAnyH_done (by kernel_rfl) ?_ _
              clear hHeld
              show wpList _ _ _ _ _ _
              go_wp2_with fail
              obtain ⟨W, hW, hrw, hww⟩ := set6 hr13_5 (.int .i64 x.kind) (.int .i64 x.player) (.int .i64 0) (.slice none 0 0) (.slice A7 x.weights.length c7) (.slice A11 x.pay.length c11)
              rw [← hW]
              clear hW
              clear r0 f0
              clear r1 f1
              clear r2 f2
              clear r3 f3
              clear r4 f4
              clear r5 f5
              have szw := hww.size
              have l13 := hr13_5.lt
              show Exit.then _ _ .normal _ _
              go_wp2_with fail
              go_meet
              refine ⟨_, A7, c7, A11, c11, rfl, hrw, ?_, ?_, hnx5.wrote hww (by omega), Wrote.below hV5 hww (fun k hk => by omega) hV5.size, by omega⟩
              ·exact hi7_5.keep (fun b hb _ => by omega) (hww.same (fun b hb => by omega))
              ·exact hi11_5.keep (fun b hb _ => by omega) (hww.same (fun b hb => by omega))
            ·go_simp
             obtain ⟨w4, hw, hr13_4, hb, hz⟩ := row_of_alloc w3 45 #[.int .i64 0, .int .i64 0, .int .i64 0, .slice none 0 0, .slice none 0 0, .slice none 0 0]
             rw [← hw]
             clear hw hz
             have g13 := hnx3.lt
             have l8_13 := hr8_3.lt
             have hr8_4 := hr8_3.below hb hr8_3.lt
             have l4_13 := hr4_3.lt
             have hr4_4 := hr4_3.below hb hr4_3.lt
             have hi7_4 := hi7_3.on (Below.same' hb _)
             have sz4 := hb.size
             have hnx4 := hnx3.below hb hnx3.lt
             have hV4 := hV3.trans (hb.mono hV3.size)
             clear hb
             refine hK.out _ _ ⟨hnx4.cell rfl, hnx4.cell rfl, hnx4.cell rfl, hnx4.cell rfl⟩ (fun hHeld => ?_)
             clear hK K
             try simp only [Act.put, lq1, lq2, lq3, lq4, lq5, lq6]
             refine wpAnyH_ready (rs := [11]) (by decide +kernel) (by simp) ?_
             refine (AllReadyH.cons (o := _) rfl (fun K hK => ?_) AllReadyH.nil)
             ·refine ifT rfl ?_
              refine oper_app_ints _ _ rfl _ _ x.pay (by rfl) (by rfl) ((H5.out.on (Below.same' HB1.out F)).on (Below.same' hV4 F)) (by omega) ?_
              intro A11 c11 w5 hb hi11_5
              have g11 := hnx4.lt
              have l8_11 := hr8_4.lt
              have hr8_5 := hr8_4.below hb hr8_4.lt
              have l4_11 := hr4_4.lt
              have hr4_5 := hr4_4.below hb hr4_4.lt
              have hi7_5 := hi7_4.on (Below.same' hb _)
              have l13_11 := hr13_4.lt
              have hr13_5 := hr13_4.below hb hr13_4.lt
              have sz5 := hb.size
              have hnx5 := hnx4.below hb hnx4.lt
              have hV5 := hV4.trans (hb.mono hV4.size)
              clear hb
              refine hK.out _ _ ⟨hnx5.cell rfl, hnx5.cell rfl, hnx5.cell rfl, hnx5.cell rfl⟩ (fun hHeld => ?_)
              clear hK K
              try simp only [Act.put, lq1, lq2, lq3, lq4, lq5, lq6]
              refine wpAnyH_take (i := 12) (v := ?_) rfl (by kernel_rfl) (by kernel_rfl) (by kernel_rfl) (fun _ _ _ h => h) (Or.inl ⟨by rfl, ?_⟩) hHeld ?_
              rotate_left
              ·intro wx hSx; (try dsimp only at hSx); go_split_ands; go_simp; try (with_reducible rfl)
              try simp only [Act.put, lq1, lq2, lq3, lq4, lq5, lq6]
              have r0 := hr13_5.cell (i := 0) rfl
              have f0 := hr13_5.frozen 0
              have r1 := hr13_5.cell (i := 1) rfl
              have f1 := hr13_5.frozen 1
              have r2 := hr13_5.cell (i := 2) rfl
              have f2 := hr13_5.frozen 2
              have r3 := hr13_5.cell (i := 3) rfl
              have f3 := hr13_5.frozen 3
              have r4 := hr13_5.cell (i := 4) rfl
              have f4 := hr13_5.frozen 4
              have r5 := hr13_5.cell (i := 5) rfl
              have f5 := hr13_5.frozen 5
              refine wpAnyH_done (by kernel_rfl) ?_ _
              clear hHeld
              show wpList _ _ _ _ _ _
              go_wp2_with fail
              obtain ⟨W, hW, hrw, hww⟩ := set6 hr13_5 (.int .i64 x.kind) (.int .i64 x.player) (.int .i64 0) (.slice none 0 0) (.slice A7 x.weights.length c7) (.slice A11 x.pay.length c11)
              rw [← hW]
              clear hW
              clear r0 f0
              clear r1 f1
              clear r2 f2
              clear r3 f3
              clear r4 f4
              clear r5 f5
              have szw := hww.size
              have l13 := hr13_5.lt
              show Exit.then _ _ .normal _ _
              go_wp2_with fail
              go_meet
              refine ⟨_, A7, c7, A11, c11, rfl, hrw, ?_, ?_, hnx5.wrote hww (by omega), Wrote.below hV5 hww (fun k hk => by omega) hV5.size, by omega⟩
              ·exact hi7_5.keep (fun b hb _ => by omega) (hww.same (fun b hb => by omega))
              ·exact hi11_5.keep (fun b hb _ => by omega) (hww.same (fun b hb => by omega))
           ·go_simp
            obtain ⟨w3, hw, hr13_3, hb, hz⟩ := row_of_alloc w2 45 #[.int .i64 0, .int .i64 0, .int .i64 0, .slice none 0 0, .slice none 0 0, .slice none 0 0]
            rw [← hw]
            clear hw hz
            have g13 := hnx2.lt
            have l8_13 := hr8_2.lt
            have hr8_3 := hr8_2.below hb hr8_2.lt
            have l4_13 := hr4_2.lt
            have hr4_3 := hr4_2.below hb hr4_2.lt
            have sz3 := hb.size
            have hnx3 := hnx2.below hb hnx2.lt
            have hV3 := hV2.trans (hb.mono hV2.size)
            clear hb
            refine hK.out _ _ ⟨hnx3.cell rfl, hnx3.cell rfl, hnx3.cell rfl, hnx3.cell rfl⟩ (fun hHeld => ?_)
            clear hK K
            try simp only [Act.put, lq1, lq2, lq3, lq4, lq5, lq6]
            refine wpAnyH_ready (rs := [7]) (by decide +kernel) (by simp) ?_
            refine (AllReadyH.cons (o := _) rfl (fun K hK => ?_) AllReadyH.nil)
            ·refine ifT rfl ?_
             refine oper_app_ints _ _ rfl _ _ x.weights (by rfl) (by rfl) ((H4.out.on (Below.same' HB1.out F)).on (Below.same' hV3 F)) (by omega) ?_
             intro A7 c7 w4 hb hi7_4
             have g7 := hnx3.lt
             have l8_7 := hr8_3.lt
             have hr8_4 := hr8_3.below hb hr8_3.lt
             have l4_7 := hr4_3.lt
             have hr4_4 := hr4_3.below hb hr4_3.lt
             have l13_7 := hr13_3.lt
             have hr13_4 := hr13_3.below hb hr13_3.lt
             have sz4 := hb.size
             have hnx4 := hnx3.below hb hnx3.lt
             have hV4 := hV3.trans (hb.mono hV3.size)
             clear hb
             refine hK.out _ _ ⟨hnx4.cell rfl, hnx4.cell rfl, hnx4.cell rfl, hnx4.cell rfl⟩ (fun hHeld => ?_)
             clear hK K
             try simp only [Act.put, lq1, lq2, lq3, lq4, lq5, lq6]
             refine wpAnyH_ready (rs := [11]) (by decide +kernel) (by simp) ?_
             refine (AllReadyH.cons (o := _) rfl (fun K hK => ?_) AllReadyH.nil)
             ·refine ifT rfl ?_
              refine oper_app_ints _ _ rfl _ _ x.pay (by rfl) (by rfl) ((H5.out.on (Below.same' HB1.out F)).on (Below.same' hV4 F)) (by omega) ?_
              intro A11 c11 w5 hb hi11_5
              have g11 := hnx4.lt
              have l8_11 := hr8_4.lt
              have hr8_5 := hr8_4.below hb hr8_4.lt
              have l4_11 := hr4_4.lt
              have hr4_5 := hr4_4.below hb hr4_4.lt
              have l13_11 := hr13_4.lt
              have hr13_5 := hr13_4.below hb hr13_4.lt
              have hi7_5 := hi7_4.on (Below.same' hb _)
              have sz5 := hb.size
              have hnx5 := hnx4.below hb hnx4.lt
              have hV5 := hV4.trans (hb.mono hV4.size)
              clear hb
              refine hK.out _ _ ⟨hnx5.cell rfl, hnx5.cell rfl, hnx5.cell rfl, hnx5.cell rfl⟩ (fun hHeld => ?_)
              clear hK K
              try simp only [Act.put, lq1, lq2, lq3, lq4, lq5, lq6]
              refine wpAnyH_take (i := 12) (v := ?_) rfl (by kernel_rfl) (by kernel_rfl) (by kernel_rfl) (fun _ _ _ h => h) (Or.inl ⟨by rfl, ?_⟩) hHeld ?_
              rotate_left
              ·intro wx hSx; (try dsimp only at hSx); go_split_ands; go_simp; try (with_reducible rfl)
              try simp only [Act.put, lq1, lq2, lq3, lq4, lq5, lq6]
              have r0 := hr13_5.cell (i := 0) rfl
              have f0 := hr13_5.frozen 0
              have r1 := hr13_5.cell (i := 1) rfl
              have f1 := hr13_5.frozen 1
              have r2 := hr13_5.cell (i := 2) rfl
              have f2 := hr13_5.frozen 2
              have r3 := hr13_5.cell (i := 3) rfl
              have f3 := hr13_5.frozen 3
              have r4 := hr13_5.cell (i := 4) rfl
              have f4 := hr13_5.frozen 4
              have r5 := hr13_5.cell (i := 5) rfl
              have f5 := hr13_5.frozen 5
              refine wpAnyH_done (by kernel_rfl) ?_ _
              clear hHeld
              show wpList _ _ _ _ _ _
              go_wp2_with fail
              obtain ⟨W, hW, hrw, hww⟩ := set6 hr13_5 (.int .i64 x.kind) (.int .i64 x.player) (.int .i64 0) (.slice none 0 0) (.slice A7 x.weights.length c7) (.slice A11 x.pay.length c11)
              rw [← hW]
              clear hW
              clear r0 f0
              clear r1 f1
              clear r2 f2
              clear r3 f3
              clear r4 f4
              clear r5 f5
              have szw := hww.size
              have l13 := hr13_5.lt
              show Exit.then _ _ .normal _ _
              go_wp2_with fail
              go_meet
              refine ⟨_, A7, c7, A11, c11, rfl, hrw, ?_, ?_, hnx5.wrote hww (by omega), Wrote.below hV5 hww (fun k hk => by omega) hV5.size, by omega⟩
              ·exact hi7_5.keep (fun b hb _ => by omega) (hww.same (fun b hb => by omega))
              ·exact hi11_5.keep (fun b hb _ => by omega) (hww.same (fun b hb => by omega))
          ·go_simp
           obtain ⟨w2, hw, hr13_2, hb, hz⟩ := row_of_alloc w1 45 #[.int .i64 0, .int .i64 0, .int .i64 0, .slice none 0 0, .slice none 0 0, .slice none 0 0]
           rw [← hw]
           clear hw hz
           have g13 := hnx1.lt
           have l8_13 := hr8_1.lt
           have hr8_2 := hr8_1.below hb hr8_1.lt
           have sz2 := hb.size
           have hnx2 := hnx1.below hb hnx1.lt
           have hV2 := hV1.trans (hb.mono hV1.size)
           clear hb
           refine hK.out _ _ ⟨hnx2.cell rfl, hnx2.cell rfl, hnx2.cell rfl, hnx2.cell rfl⟩ (fun hHeld => ?_)
           clear hK K
           try simp only [Act.put, lq1, lq2, lq3, lq4, lq5, lq6]
           refine wpAnyH_ready (rs := [4]) (by decide +kernel) (by simp) ?_
           refine (AllReadyH.cons (o := _) rfl (fun K hK => ?_) AllReadyH.nil)
           ·go_simp
            obtain ⟨w3, hw, hr4_3, hb, hz⟩ := row_of_alloc w2 3 #[]
            rw [← hw]
            clear hw hz
            have g4 := hnx2.lt
            have l8_4 := hr8_2.lt
            have hr8_3 := hr8_2.below hb hr8_2.lt
            have l13_4 := hr13_2.lt
            have hr13_3 := hr13_2.below hb hr13_2.lt
            have sz3 := hb.size
            have hnx3 := hnx2.below hb hnx2.lt
            have hV3 := hV2.trans (hb.mono hV2.size)
            clear hb
            refine hK.out _ _ ⟨hnx3.cell rfl, hnx3.cell rfl, hnx3.cell rfl, hnx3.cell rfl⟩ (fun hHeld => ?_)
            clear hK K
            try simp only [Act.put, lq1, lq2, lq3, lq4, lq5, lq6]
            refine wpAnyH_ready (rs := [7]) (by decide +kernel) (by simp) ?_
            refine (AllReadyH.cons (o := _) rfl (fun K hK => ?_) AllReadyH.nil)
            ·refine ifT rfl ?_
             refine oper_app_ints _ _ rfl _ _ x.weights (by rfl) (by rfl) ((H4.out.on (Below.same' HB1.out F)).on (Below.same' hV3 F)) (by omega) ?_
             intro A7 c7 w4 hb hi7_4
             have g7 := hnx3.lt
             have l8_7 := hr8_3.lt
             have hr8_4 := hr8_3.below hb hr8_3.lt
             have l13_7 := hr13_3.lt
             have hr13_4 := hr13_3.below hb hr13_3.lt
             have l4_7 := hr4_3.lt
             have hr4_4 := hr4_3.below hb hr4_3.lt
             have sz4 := hb.size
             have hnx4 := hnx3.below hb hnx3.lt
             have hV4 := hV3.trans (hb.mono hV3.size)
             clear hb
             refine hK.out _ _ ⟨hnx4.cell rfl, hnx4.cell rfl, hnx4.cell rfl, hnx4.cell rfl⟩ (fun hHeld => ?_)
             clear hK K
             try simp only [Act.put, lq1, lq2, lq3, lq4, lq5, lq6]
             refine wpAnyH_ready (rs := [11]) (by decide +kernel) (by simp) ?_
             refine (AllReadyH.cons (o := _) rfl (fun K hK => ?_) AllReadyH.nil)
             ·refine ifT rfl ?_
              refine oper_app_ints _ _ rfl _ _ x.pay (by rfl) (by rfl) ((H5.out.on (Below.same' HB1.out F)).on (Below.same' hV4 F)) (by omega) ?_
              intro A11 c11 w5 hb hi11_5
              have g11 := hnx4.lt
              have l8_11 := hr8_4.lt
              have hr8_5 := hr8_4.below hb hr8_4.lt
              have l13_11 := hr13_4.lt
              have hr13_5 := hr13_4.below hb hr13_4.lt
              have l4_11 := hr4_4.lt
              have hr4_5 := hr4_4.below hb hr4_4.lt
              have hi7_5 := hi7_4.on (Below.same' hb _)
              have sz5 := hb.size
              have hnx5 := hnx4.below hb hnx4.lt
              have hV5 := hV4.trans (hb.mono hV4.size)
              clear hb
              refine hK.out _ _ ⟨hnx5.cell rfl, hnx5.cell rfl, hnx5.cell rfl, hnx5.cell rfl⟩ (fun hHeld => ?_)
              clear hK K
              try simp only [Act.put, lq1, lq2, lq3, lq4, lq5, lq6]
              refine wpAnyH_take (i := 12) (v := ?_) rfl (by kernel_rfl) (by kernel_rfl) (by kernel_rfl) (fun _ _ _ h => h) (Or.inl ⟨by rfl, ?_⟩) hHeld ?_
              rotate_left
              ·intro wx hSx; (try dsimp only at hSx); go_split_ands; go_simp; try (with_reducible rfl)
              try simp only [Act.put, lq1, lq2, lq3, lq4, lq5, lq6]
              have r0 := hr13_5.cell (i := 0) rfl
              have f0 := hr13_5.frozen 0
              have r1 := hr13_5.cell (i := 1) rfl
              have f1 := hr13_5.frozen 1
              have r2 := hr13_5.cell (i := 2) rfl
              have f2 := hr13_5.frozen 2
              have r3 := hr13_5.cell (i := 3) rfl
              have f3 := hr13_5.frozen 3
              have r4 := hr13_5.cell (i := 4) rfl
              have f4 := hr13_5.frozen 4
              have r5 := hr13_5.cell (i := 5) rfl
              have f5 := hr13_5.frozen 5
              refine wpAnyH_done (by kernel_rfl) ?_ _
              clear hHeld
              show wpList _ _ _ _ _ _
              go_wp2_with fail
              obtain ⟨W, hW, hrw, hww⟩ := set6 hr13_5 (.int .i64 x.kind) (.int .i64 x.player) (.int .i64 0) (.slice none 0 0) (.slice A7 x.weights.length c7) (.slice A11 x.pay.length c11)
              rw [← hW]
              clear hW
              clear r0 f0
              clear r1 f1
              clear r2 f2
              clear r3 f3
              clear r4 f4
              clear r5 f5
              have szw := hww.size
              have l13 := hr13_5.lt
              show Exit.then _ _ .normal _ _
              go_wp2_with fail
              go_meet
              refine ⟨_, A7, c7, A11, c11, rfl, hrw, ?_, ?_, hnx5.wrote hww (by omega), Wrote.below hV5 hww (fun k hk => by omega) hV5.size, by omega⟩
              ·exact hi7_5.keep (fun b hb _ => by omega) (hww.same (fun b hb => by omega))
              ·exact hi11_5.keep (fun b hb _ => by omega) (hww.same (fun b hb => by omega))
         ·go_simp
          obtain ⟨w1, hw, hr13_1, hb, hz⟩ := row_of_alloc w0 45 #[.int .i64 0, .int .i64 0, .int .i64 0, .slice none 0 0, .slice none 0 0, .slice none 0 0]
          rw [← hw]
          clear hw hz
          have g13 := hnx0.lt
          have sz1 := hb.size
          have hnx1 := hnx0.below hb hnx0.lt
          have hV1 := hV0.trans (hb.mono hV0.size)
          clear hb
          refine hK.out _ _ ⟨hnx1.cell rfl, hnx1.cell rfl, hnx1.cell rfl, hnx1.cell rfl⟩ (fun hHeld => ?_)
          clear hK K
          try simp only [Act.put, lq1, lq2, lq3, lq4, lq5, lq6]
          refine wpAnyH_ready (rs := [4, 8]) (by decide +kernel) (by simp) ?_
          refine (AllReadyH.cons (o := _) rfl (fun K hK => ?_) (AllReadyH.cons (o := _) rfl (fun K hK => ?_) AllReadyH.nil))
          ·go_simp
           obtain ⟨w2, hw, hr4_2, hb, hz⟩ := row_of_alloc w1 3 #[]
           rw [← hw]
           clear hw hz
           have g4 := hnx1.lt
           have l13_4 := hr13_1.lt
           have hr13_2 := hr13_1.below hb hr13_1.lt
           have sz2 := hb.size
           have hnx2 := hnx1.below hb hnx1.lt
           have hV2 := hV1.trans (hb.mono hV1.size)
           clear hb
           refine hK.out _ _ ⟨hnx2.cell rfl, hnx2.cell rfl, hnx2.cell rfl, hnx2.cell rfl⟩ (fun hHeld => ?_)
           clear hK K
           try simp only [Act.put, lq1, lq2, lq3, lq4, lq5, lq6]
           refine wpAnyH_ready (rs := [7, 8]) (by decide +kernel) (by simp) ?_
           refine (AllReadyH.cons (o := _) rfl (fun K hK => ?_) (AllReadyH.cons (o := _) rfl (fun K hK => ?_) AllReadyH.nil))
           ·refine ifT rfl ?_
            refine oper_app_ints _ _ rfl _ _ x.weights (by rfl) (by rfl) ((H4.out.on (Below.same' HB1.out F)).on (Below.same' hV2 F)) (by omega) ?_
            intro A7 c7 w3 hb hi7_3
            have g7 := hnx2.lt
            have l13_7 := hr13_2.lt
            have hr13_3 := hr13_2.below hb hr13_2.lt
            have l4_7 := hr4_2.lt
            have hr4_3 := hr4_2.below hb hr4_2.lt
            have sz3 := hb.size
            have hnx3 := hnx2.below hb hnx2.lt
            have hV3 := hV2.trans (hb.mono hV2.size)
            clear hb
            refine hK.out _ _ ⟨hnx3.cell rfl, hnx3.cell rfl, hnx3.cell rfl, hnx3.cell rfl⟩ (fun hHeld => ?_)
            clear hK K
            try simp only [Act.put, lq1, lq2, lq3, lq4, lq5, lq6]
            refine wpAnyH_ready (rs := [8]) (by decide +kernel) (by simp) ?_
            refine (AllReadyH.cons (o := _) rfl (fun K hK => ?_) AllReadyH.nil)
            ·go_simp
             obtain ⟨w4, hw, hr8_4, hb, hz⟩ := row_of_alloc w3 3 #[]
             rw [← hw]
             clear hw hz
             have g8 := hnx3.lt
             have l13_8 := hr13_3.lt
             have hr13_4 := hr13_3.below hb hr13_3.lt
             have l4_8 := hr4_3.lt
             have hr4_4 := hr4_3.below hb hr4_3.lt
             have hi7_4 := hi7_3.on (Below.same' hb _)
             have sz4 := hb.size
             have hnx4 := hnx3.below hb hnx3.lt
             have hV4 := hV3.trans (hb.mono hV3.size)
             clear hb
             refine hK.out _ _ ⟨hnx4.cell rfl, hnx4.cell rfl, hnx4.cell rfl, hnx4.cell rfl⟩ (fun hHeld => ?_)
             clear hK K
             try simp only [Act.put, lq1, lq2, lq3, lq4, lq5, lq6]
             refine wpAnyH_ready (rs := [11]) (by decide +kernel) (by simp) ?_
             refine (AllReadyH.cons (o := _) rfl (fun K hK => ?_) AllReadyH.nil)
             ·refine ifT rfl ?_
              refine oper_app_ints _ _ rfl _ _ x.pay (by rfl) (by rfl) ((H5.out.on (Below.same' HB1.out F)).on (Below.same' hV4 F)) (by omega) ?_
              intro A11 c11 w5 hb hi11_5
              have g11 := hnx4.lt
              have l13_11 := hr13_4.lt
              have hr13_5 := hr13_4.below hb hr13_4.lt
              have l4_11 := hr4_4.lt
              have hr4_5 := hr4_4.below hb hr4_4.lt
              have hi7_5 := hi7_4.on (Below.same' hb _)
              have l8_11 := hr8_4.lt
              have hr8_5 := hr8_4.below hb hr8_4.lt
              have sz5 := hb.size
              have hnx5 := hnx4.below hb hnx4.lt
              have hV5 := hV4.trans (hb.mono hV4.size)
              clear hb
              refine hK.out _ _ ⟨hnx5.cell rfl, hnx5.cell rfl, hnx5.cell rfl, hnx5.cell rfl⟩ (fun hHeld => ?_)
              clear hK K
              try simp only [Act.put, lq1, lq2, lq3, lq4, lq5, lq6]
              refine wpAnyH_take (i := 12) (v := ?_) rfl (by kernel_rfl) (by kernel_rfl) (by kernel_rfl) (fun _ _ _ h => h) (Or.inl ⟨by rfl, ?_⟩) hHeld ?_
              rotate_left
              ·intro wx hSx; (try dsimp only at hSx); go_split_ands; go_simp; try (with_reducible rfl)
              try simp only [Act.put, lq1, lq2, lq3, lq4, lq5, lq6]
              have r0 := hr13_5.cell (i := 0) rfl
              have f0 := hr13_5.frozen 0
              have r1 := hr13_5.cell (i := 1) rfl
              have f1 := hr13_5.frozen 1
              have r2 := hr13_5.cell (i := 2) rfl
              have f2 := hr13_5.frozen 2
              have r3 := hr13_5.cell (i := 3) rfl
              have f3 := hr13_5.frozen 3
              have r4 := hr13_5.cell (i := 4) rfl
              have f4 := hr13_5.frozen 4
              have r5 := hr13_5.cell (i := 5) rfl
              have f5 := hr13_5.frozen 5
              refine wpAnyH_done (by kernel_rfl) ?_ _
              clear hHeld
              show wpList _ _ _ _ _ _
              go_wp2_with fail
              obtain ⟨W, hW, hrw, hww⟩ := set6 hr13_5 (.int .i64 x.kind) (.int .i64 x.player) (.int .i64 0) (.slice none 0 0) (.slice A7 x.weights.length c7) (.slice A11 x.pay.length c11)
              rw [← hW]
              clear hW
              clear r0 f0
              clear r1 f1
              clear r2 f2
              clear r3 f3
              clear r4 f4
              clear r5 f5
              have szw := hww.size
              have l13 := hr13_5.lt
              show Exit.then _ _ .normal _ _
              go_wp2_with fail
              go_meet
              refine ⟨_, A7, c7, A11, c11, rfl, hrw, ?_, ?_, hnx5.wrote hww (by omega), Wrote.below hV5 hww (fun k hk => by omega) hV5.size, by omega⟩
              ·exact hi7_5.keep (fun b hb _ => by omega) (hww.same (fun b hb => by omega))
              ·exact hi11_5.keep (fun b hb _ => by omega) (hww.same (fun b hb => by omega))
           ·go_simp
            obtain ⟨w3, hw, hr8_3, hb, hz⟩ := row_of_alloc w2 3 #[]
            rw [← hw]
            clear hw hz
            have g8 := hnx2.lt
            have l13_8 := hr13_2.lt
            have hr13_3 := hr13_2.below hb hr13_2.lt
            have l4_8 := hr4_2.lt
            have hr4_3 := hr4_2.below hb hr4_2.lt
            have sz3 := hb.size
            have hnx3 := hnx2.below hb hnx2.lt
            have hV3 := hV2.trans (hb.mono hV2.size)
            clear hb
            refine hK.out _ _ ⟨hnx3.cell rfl, hnx3.cell rfl, hnx3.cell rfl, hnx3.cell rfl⟩ (fun hHeld => ?_)
            clear hK K
            try simp only [Act.put, lq1, lq2, lq3, lq4, lq5, lq6]
            refine wpAnyH_ready (rs := [7]) (by decide +kernel) (by simp) ?_
            refine (AllReadyH.cons (o := _) rfl (fun K hK => ?_) AllReadyH.nil)
            ·refine ifT rfl ?_
             refine oper_app_ints _ _ rfl _ _ x.weights (by rfl) (by rfl) ((H4.out.on (Below.same' HB1.out F)).on (Below.same' hV3 F)) (by omega) ?_
             intro A7 c7 w4 hb hi7_4
             have g7 := hnx3.lt
             have l13_7 := hr13_3.lt
             have hr13_4 := hr13_3.below hb hr13_3.lt
             have l4_7 := hr4_3.lt
             have hr4_4 := hr4_3.below hb hr4_3.lt
             have l8_7 := hr8_3.lt
             have hr8_4 := hr8_3.below hb hr8_3.lt
             have sz4 := hb.size
             have hnx4 := hnx3.below hb hnx3.lt
             have hV4 := hV3.trans (hb.mono hV3.size)
             clear hb
             refine hK.out _ _ ⟨hnx4.cell rfl, hnx4.cell rfl, hnx4.cell rfl, hnx4.cell rfl⟩ (fun hHeld => ?_)
             clear hK K
             try simp only [Act.put, lq1, lq2, lq3, lq4, lq5, lq6]
             refine wpAnyH_ready (rs := [11]) (by decide +kernel) (by simp) ?_
             refine (AllReadyH.cons (o := _) rfl (fun K hK => ?_) AllReadyH.nil)
             ·refine ifT rfl ?_
              refine oper_app_ints _ _ rfl _ _ x.pay (by rfl) (by rfl) ((H5.out.on (Below.same' HB1.out F)).on (Below.same' hV4 F)) (by omega) ?_
              intro A11 c11 w5 hb hi11_5
              have g11 := hnx4.lt
              have l13_11 := hr13_4.lt
              have hr13_5 := hr13_4.below hb hr13_4.lt
              have l4_11 := hr4_4.lt
              have hr4_5 := hr4_4.below hb hr4_4.lt
              have l8_11 := hr8_4.lt
              have hr8_5 := hr8_4.below hb hr8_4.lt
              have hi7_5 := hi7_4.on (Below.same' hb _)
              have sz5 := hb.size
              have hnx5 := hnx4.below hb hnx4.lt
              have hV5 := hV4.trans (hb.mono hV4.size)
              clear hb
              refine hK.out _ _ ⟨hnx5.cell rfl, hnx5.cell rfl, hnx5.cell rfl, hnx5.cell rfl⟩ (fun hHeld => ?_)
              clear hK K
              try simp only [Act.put, lq1, lq2, lq3, lq4, lq5, lq6]
              refine wpAnyH_take (i := 12) (v := ?_) rfl (by kernel_rfl) (by kernel_rfl) (by kernel_rfl) (fun _ _ _ h => h) (Or.inl ⟨by rfl, ?_⟩) hHeld ?_
              rotate_left
              ·intro wx hSx; (try dsimp only at hSx); go_split_ands; go_simp; try (with_reducible rfl)
              try simp only [Act.put, lq1, lq2, lq3, lq4, lq5, lq6]
              have r0 := hr13_5.cell (i := 0) rfl
              have f0 := hr13_5.frozen 0
              have r1 := hr13_5.cell (i := 1) rfl
              have f1 := hr13_5.frozen 1
              have r2 := hr13_5.cell (i := 2) rfl
              have f2 := hr13_5.frozen 2
              have r3 := hr13_5.cell (i := 3) rfl
              have f3 := hr13_5.frozen 3
              have r4 := hr13_5.cell (i := 4) rfl
              have f4 := hr13_5.frozen 4
              have r5 := hr13_5.cell (i := 5) rfl
              have f5 := hr13_5.frozen 5
              refine wpAnyH_done (by kernel_rfl) ?_ _
              clear hHeld
              show wpList _ _ _ _ _ _
              go_wp2_with fail
              obtain ⟨W, hW, hrw, hww⟩ := set6 hr13_5 (.int .i64 x.kind) (.int .i64 x.player) (.int .i64 0) (.slice none 0 0) (.slice A7 x.weights.length c7) (.slice A11 x.pay.length c11)
              rw [← hW]
              clear hW
              clear r0 f0
              clear r1 f1
              clear r2 f2
              clear r3 f3
              clear r4 f4
              clear r5 f5
              have szw := hww.size
              have l13 := hr13_5.lt
              show Exit.then _ _ .normal _ _
              go_wp2_with fail
              go_meet
              refine ⟨_, A7, c7, A11, c11, rfl, hrw, ?_, ?_, hnx5.wrote hww (by omega), Wrote.below hV5 hww (fun k hk => by omega) hV5.size, by omega⟩
              ·exact hi7_5.keep (fun b hb _ => by omega) (hww.same (fun b hb => by omega))
              ·exact hi11_5.keep (fun b hb _ => by omega) (hww.same (fun b hb => by omega))
          ·go_simp
           obtain ⟨w2, hw, hr8_2, hb, hz⟩ := row_of_alloc w1 3 #[]
           rw [← hw]
           clear hw hz
           have g8 := hnx1.lt
           have l13_8 := hr13_1.lt
           have hr13_2 := hr13_1.below hb hr13_1.lt
           have sz2 := hb.size
           have hnx2 := hnx1.below hb hnx1.lt
           have hV2 := hV1.trans (hb.mono hV1.size)
           clear hb
           refine hK.out _ _ ⟨hnx2.cell rfl, hnx2.cell rfl, hnx2.cell rfl, hnx2.cell rfl⟩ (fun hHeld => ?_)
           clear hK K
           try simp only [Act.put, lq1, lq2, lq3, lq4, lq5, lq6]
           refine wpAnyH_ready (rs := [4]) (by decide +kernel) (by simp) ?_
           refine (AllReadyH.cons (o := _) rfl (fun K hK => ?_) AllReadyH.nil)
           ·go_simp
            obtain ⟨w3, hw, hr4_3, hb, hz⟩ := row_of_alloc w2 3 #[]
            rw [← hw]
            clear hw hz
            have g4 := hnx2.lt
            have l13_4 := hr13_2.lt
            have hr13_3 := hr13_2.below hb hr13_2.lt
            have l8_4 := hr8_2.lt
            have hr8_3 := hr8_2.below hb hr8_2.lt
            have sz3 := hb.size
            have hnx3 := hnx2.below hb hnx2.lt
            have hV3 := hV2.trans (hb.mono hV2.size)
            clear hb
            refine hK.out _ _ ⟨hnx3.cell rfl, hnx3.cell rfl, hnx3.cell rfl, hnx3.cell rfl⟩ (fun hHeld => ?_)
            clear hK K
            try simp only [Act.put, lq1, lq2, lq3, lq4, lq5, lq6]
            refine wpAnyH_ready (rs := [7]) (by decide +kernel) (by simp) ?_
            refine (AllReadyH.cons (o := _) rfl (fun K hK => ?_) AllReadyH.nil)
            ·refine ifT rfl ?_
             refine oper_app_ints _ _ rfl _ _ x.weights (by rfl) (by rfl) ((H4.out.on (Below.same' HB1.out F)).on (Below.same' hV3 F)) (by omega) ?_
             intro A7 c7 w4 hb hi7_4
             have g7 := hnx3.lt
             have l13_7 := hr13_3.lt
             have hr13_4 := hr13_3.below hb hr13_3.lt
             have l8_7 := hr8_3.lt
             have hr8_4 := hr8_3.below hb hr8_3.lt
             have l4_7 := hr4_3.lt
             have hr4_4 := hr4_3.below hb hr4_3.lt
             have sz4 := hb.size
             have hnx4 := hnx3.below hb hnx3.lt
             have hV4 := hV3.trans (hb.mono hV3.size)
             clear hb
             refine hK.out _ _ ⟨hnx4.cell rfl, hnx4.cell rfl, hnx4.cell rfl, hnx4.cell rfl⟩ (fun hHeld => ?_)
             clear hK K
             try simp only [Act.put, lq1, lq2, lq3, lq4, lq5, lq6]
             refine wpAnyH_ready (rs := [11]) (by decide +kernel) (by simp) ?_
             refine (AllReadyH.cons (o := _) rfl (fun K hK => ?_) AllReadyH.nil)
             ·refine ifT rfl ?_
              refine oper_app_ints _ _ rfl _ _ x.pay (by rfl) (by rfl) ((H5.out.on (Below.same' HB1.out F)).on (Below.same' hV4 F)) (by omega) ?_
              intro A11 c11 w5 hb hi11_5
              have g11 := hnx4.lt
              have l13_11 := hr13_4.lt
              have hr13_5 := hr13_4.below hb hr13_4.lt
              have l8_11 := hr8_4.lt
              have hr8_5 := hr8_4.below hb hr8_4.lt
              have l4_11 := hr4_4.lt
              have hr4_5 := hr4_4.below hb hr4_4.lt
              have hi7_5 := hi7_4.on (Below.same' hb _)
              have sz5 := hb.size
              have hnx5 := hnx4.below hb hnx4.lt
              have hV5 := hV4.trans (hb.mono hV4.size)
              clear hb
              refine hK.out _ _ ⟨hnx5.cell rfl, hnx5.cell rfl, hnx5.cell rfl, hnx5.cell rfl⟩ (fun hHeld => ?_)
              clear hK K
              try simp only [Act.put, lq1, lq2, lq3, lq4, lq5, lq6]
              refine wpAnyH_take (i := 12) (v := ?_) rfl (by kernel_rfl) (by kernel_rfl) (by kernel_rfl) (fun _ _ _ h => h) (Or.inl ⟨by rfl, ?_⟩) hHeld ?_
              rotate_left
              ·intro wx hSx; (try dsimp only at hSx); go_split_ands; go_simp; try (with_reducible rfl)
              try simp only [Act.put, lq1, lq2, lq3, lq4, lq5, lq6]
              have r0 := hr13_5.cell (i := 0) rfl
              have f0 := hr13_5.frozen 0
              have r1 := hr13_5.cell (i := 1) rfl
              have f1 := hr13_5.frozen 1
              have r2 := hr13_5.cell (i := 2) rfl
              have f2 := hr13_5.frozen 2
              have r3 := hr13_5.cell (i := 3) rfl
              have f3 := hr13_5.frozen 3
              have r4 := hr13_5.cell (i := 4) rfl
              have f4 := hr13_5.frozen 4
              have r5 := hr13_5.cell (i := 5) rfl
              have f5 := hr13_5.frozen 5
              refine wpAnyH_done (by kernel_rfl) ?_ _
              clear hHeld
              show wpList _ _ _ _ _ _
              go_wp2_with fail
              obtain ⟨W, hW, hrw, hww⟩ := set6 hr13_5 (.int .i64 x.kind) (.int .i64 x.player) (.int .i64 0) (.slice none 0 0) (.slice A7 x.weights.length c7) (.slice A11 x.pay.length c11)
              rw [← hW]
              clear hW
              clear r0 f0
              clear r1 f1
              clear r2 f2
              clear r3 f3
              clear r4 f4
              clear r5 f5
              have szw := hww.size
              have l13 := hr13_5.lt
              show Exit.then _ _ .normal _ _
              go_wp2_with fail
              go_meet
              refine ⟨_, A7, c7, A11, c11, rfl, hrw, ?_, ?_, hnx5.wrote hww (by omega), Wrote.below hV5 hww (fun k hk => by omega) hV5.size, by omega⟩
              ·exact hi7_5.keep (fun b hb _ => by omega) (hww.same (fun b hb => by omega))
              ·exact hi11_5.keep (fun b hb _ => by omega) (hww.same (fun b hb => by omega))
        case rest =>
         obtain ⟨bo, A4', c4', A5', c5', rfl, hbo, j4, j5, hnx', hbb, gbo⟩ := hcut
         obtain ⟨wy, rfl⟩ : ∃ wy : World, wy = wc := ⟨_, rfl⟩
         clear hnx e0 e1 e2 e3 e4 e5 eu x1
         have HJ := Lib.hid (And.intro j4 j5); clear j4 j5
         have HBY := Lib.hid (And.intro hbb hBr); clear hbb hBr
         have hbol := hbo.lt
         have hnxl := hnx'.lt
         have hsy := HBY.out.1.size
         have H1N := Lib.hid (And.intro r1 r2); clear r1 r2
         obtain ⟨wp, rfl⟩ : ∃ wp : World, wp = wr := ⟨_, rfl⟩
         go_wp2_with fail
         go_loopw [14] (fun i wr => ∃ (j : Nat) (v3 : Value), j ≤ x.next.length ∧ i = .int .i64 j ∧ Row wr bo 45 [.int .i64 x.kind, .int .i64 x.player, .int .i64 0, v3, .slice A4' x.weights.length c4', .slice A5' x.pay.length c5'] ∧ wr.ownsRow wy.heap.size 3 1 v3 j (((x.next.take j).map (fun c => c - (nn : Int))).map (Value.int .i64)) ∧ Wrote (fun b => b = bo) wy wr) (fun i _ => x.next.length - (intOf i).toNat)
         case atStart => exact ⟨0, .slice none 0 0, by omega, rfl, hbo, World.ownsRow_nil _ _ _ _, Wrote.refl _ _⟩
         case round =>
          clear hbo
          obtain ⟨j, v3, hj, rfl, hbo, hown, hww⟩ := hrel
          have HO3 := Lib.hid hown; clear hown
          have HW3 := Lib.hid hww
          have hnx2 := hnx'.wrote hww (by omega)
          have hsw2 := hww.size
          have lbo := hbo.lt
          have lnx := hnx2.lt
          have x3 := hnx2.cell (i := 3) rfl
          by_cases hjt : j < x.next.length
          ·obtain ⟨b3, o3, rfl, hF3, hb3, hx3⟩ := H3S.out (by omega)
           obtain ⟨c0, hc0⟩ := getSome hjt
           have xc := hx3 j c0 hc0
           unfold intE at xc
           have hb3' : b3 < wv.heap.size := by have := HB1.out.size; omega
           rw [Nat.mul_one, ← below_old HB1.out _ _ hb3, ← below_old HBY.out.1 _ _ hb3', ← hww.cell b3 _ (by omega) (by omega)] at xc
           obtain ⟨hk01, hk02⟩ := HKD.out c0 (List.mem_of_getElem? hc0)
           have y3 := hbo.cell (i := 3) rfl
           have hwr0 : IntKind.i64.wrap (c0 - (nn : Int)) = c0 - (nn : Int) := IntWalk.i64_in _ (by omega)
           have HC0 := Lib.hid hc0; clear hc0 hx3
           have HBO := Lib.hid (And.intro hbo hnx2); clear hbo hnx2 hww
           go_upto_region 19 with fail
           refine wp_peelMany (fun w' => w'.cell? ⟨bo, 3, none⟩ = some v3 ∧ w'.cell? ⟨wp.heap.size, 3, none⟩ = some (.slice (some ⟨b3, o3, none⟩) x.next.length c3) ∧ w'.cell? ⟨b3, o3 + j, none⟩ = some (.int .i64 c0)) 11 2 (by kernel_rfl) rfl (by kernel_rfl) ?_
           have hHeld : (fun w' : World => w'.cell? ⟨bo, 3, none⟩ = some v3 ∧ w'.cell? ⟨wp.heap.size, 3, none⟩ = some (.slice (some ⟨b3, o3, none⟩) x.next.length c3) ∧ w'.cell? ⟨b3, o3 + j, none⟩ = some (.int .i64 c0)) wr.drew := ⟨y3, x3, xc⟩
           simp only [List.take_succ_cons, List.take_zero]
           refine wpAnyH_take (i := 0) (v := ?_) rfl (by kernel_rfl) (by kernel_rfl) (by kernel_rfl) (fun _ _ _ h => h) (Or.inl ⟨by rfl, ?_⟩) hHeld ?_
           rotate_left
           ·intro wx hSx; (try dsimp only at hSx); go_split_ands; go_simp; try (with_reducible rfl)
           try simp only [Act.put, lq1, lq2, lq3, lq4, lq5, lq6]
           refine wpAnyH_take (i := 1) (v := ?_) rfl (by kernel_rfl) (by kernel_rfl) (by kernel_rfl) (fun _ _ _ h => h) (Or.inl ⟨by rfl, ?_⟩) hHeld ?_
           rotate_left
           ·intro wx hSx; (try dsimp only at hSx); go_split_ands; go_simp; try (with_reducible rfl)
           try simp only [Act.put, lq1, lq2, lq3, lq4, lq5, lq6]
           refine wpAnyH_take (i := 2) (v := ?_) rfl (by kernel_rfl) (by kernel_rfl) (by kernel_rfl) (fun _ _ _ h => h) (Or.inl ⟨by rfl, ?_⟩) hHeld ?_
           rotate_left
           ·intro wx hSx; (try dsimp only at hSx); go_split_ands; go_simp; try (with_reducible rfl)
           try simp only [Act.put, lq1, lq2, lq3, lq4, lq5, lq6]
           refine wpAnyH_take (i := 3) (v := ?_) rfl (by kernel_rfl) (by kernel_rfl) (by kernel_rfl) (fun _ _ _ h => h) (Or.inl ⟨by rfl, ?_⟩) hHeld ?_
           rotate_left
           ·intro wx hSx; (try dsimp only at hSx); go_split_ands; go_simp; try (with_reducible rfl)
           try simp only [Act.put, lq1, lq2, lq3, lq4, lq5, lq6]
           refine wpAnyH_take (i := 4) (v := ?_) rfl (by kernel_rfl) (by kernel_rfl) (by kernel_rfl) (fun _ _ _ h => h) (Or.inl ⟨by rfl, ?_⟩) hHeld ?_
           rotate_left
           ·intro wx hSx; (try dsimp only at hSx); go_split_ands; go_simp; try (with_reducible rfl)
           try simp only [Act.put, lq1, lq2, lq3, lq4, lq5, lq6]
           refine wpAnyH_take (i := 5) (v := ?_) rfl (by kernel_rfl) (by kernel_rfl) (by kernel_rfl) (fun _ _ _ h => h) (Or.inl ⟨by rfl, ?_⟩) hHeld ?_
           rotate_left
           ·intro wx hSx; (try dsimp only at hSx); go_split_ands; go_simp; try (with_reducible rfl)
           try simp only [Act.put, lq1, lq2, lq3, lq4, lq5, lq6]
           refine wpAnyH_take (i := 6) (v := ?_) rfl (by kernel_rfl) (by kernel_rfl) (by kernel_rfl) (fun _ _ _ h => h) (Or.inl ⟨by rfl, ?_⟩) hHeld ?_
           rotate_left
           ·intro wx hSx; (try dsimp only at hSx); go_split_ands; go_simp; try (with_reducible rfl)
           try simp only [Act.put, lq1, lq2, lq3, lq4, lq5, lq6]
           refine wpAnyH_take (i := 7) (v := ?_) rfl (by kernel_rfl) (by kernel_rfl) (by kernel_rfl) (fun _ _ _ h => h) (Or.inl ⟨by rfl, ?_⟩) hHeld ?_
           rotate_left
           ·intro wx hSx; (try dsimp only at hSx); go_split_ands; go_simp; try (with_reducible rfl)
           try simp only [Act.put, lq1, lq2, lq3, lq4, lq5, lq6]
           refine wpAnyH_take (i := 8) (v := ?_) rfl (by kernel_rfl) (by kernel_rfl) (by kernel_rfl) (fun _ _ _ h => h) (Or.inl ⟨by rfl, ?_⟩) hHeld ?_
           rotate_left
           ·intro wx hSx; (try dsimp only at hSx); go_split_ands; go_simp; try (with_reducible rfl)
           try simp only [Act.put, lq1, lq2, lq3, lq4, lq5, lq6]
           have lb3 : b3 < wr.heap.size := by omega
           have lnx2 : wp.heap.size < wr.heap.size := lnx
           refine wpAnyH_ready (rs := [9]) (by kernel_rfl) (by simp) ?_
           refine AllReadyH.cons (o := _) rfl (fun K hK => ?_) AllReadyH.nil
           go_simp
           obtain ⟨W6, hw6, hnb', hb6', hz6⟩ := row_of_alloc wr 3 #[.int .i64 (c0 - (nn : Int))]
           rw [← hw6]
           clear hw6
           obtain ⟨w6, hw6⟩ : ∃ W, W = W6.drew := ⟨_, rfl⟩
           have hnb : Row w6 wr.heap.size _ _ := hw6 ▸ hnb'.drew
           have hb6 : Below wr.heap.size wr w6 := hw6 ▸ hb6'.drew
           rw [← hw6]
           clear hw6 hnb' hb6' hz6
           have h6 : (fun w' : World => w'.cell? ⟨bo, 3, none⟩ = some v3 ∧ w'.cell? ⟨wp.heap.size, 3, none⟩ = some (.slice (some ⟨b3, o3, none⟩) x.next.length c3) ∧ w'.cell? ⟨b3, o3 + j, none⟩ = some (.int .i64 c0)) w6 := ⟨(below_old hb6 _ _ lbo).trans y3, (below_old hb6 _ _ lnx).trans x3, (below_old hb6 _ _ lb3).trans xc⟩
           refine hK.out _ _ h6 (fun hHeld => ?_)
           clear hK K
           try simp only [Act.put, lq1, lq2, lq3, lq4, lq5, lq6]
           have hs6 := hb6.size
           have HOW6 := Lib.hid (ownsRow_below HO3.out hb6)
           have hvo : ∀ b, v3.ownBlock = some b → wy.heap.size ≤ b ∧ b < wr.heap.size := fun b hb => HO3.out.lt b hb
           have HV3 := Lib.hid hvo; clear hvo
           have HB6 := Lib.hid (And.intro hb6 h6); clear hb6 h6
           have HPL := Lib.hid (show ((x.next.take j).map (fun c => c - (nn : Int))).length = j by simp; omega)
           generalize hpre : (x.next.take j).map (fun c => c - (nn : Int)) = pre at *
           have HPR := Lib.hid hpre; clear hpre
           refine wpAnyH_ready (rs := [10]) (by kernel_rfl) (by simp) ?_
           refine AllReadyH.cons (o := _) rfl (fun K hK => ?_) AllReadyH.nil
           refine step_app_intK (by rfl) _ _ (by rfl) wy.heap.size v3 j pre HPL.out (by rfl) HOW6.out wr.heap.size (c0 - (nn : Int)) (by rfl) hnb (by omega) (by omega) ?_
           intro gg cap w7 hown7 hgrow hat hlt7
           have hbk7 : ∀ b, b < wy.heap.size → w7.heap[b]? = w6.heap[b]? := fun b hb => hgrow.block b (by omega) (fun e => by have := (HV3.out b e.symm).1; omega)
           obtain ⟨hb6, h6⟩ := HB6.out
           obtain ⟨hbo5, hnx5⟩ := HBO.out
           have hbo7 : Row w7 bo _ _ := (hbo5.below hb6 hbo5.lt).of_block (hbk7 _ (by omega))
           have hnx7 : Row w7 wp.heap.size _ _ := (hnx5.below hb6 hnx5.lt).of_block (hbk7 _ (by omega))
           refine hK.out _ _ ⟨hbo7.cell rfl, hnx7.cell rfl, (World.cell?_of_block (hbk7 b3 (by omega))).trans h6.2.2⟩ (fun hHeld => ?_)
           clear hK K
           try simp only [Act.put, lq1, lq2, lq3, lq4, lq5, lq6]
           have q3 := hbo7.cell (i := 3) rfl
           have y3' := hbo7.frozen 3
           have lo7 := hbo7.lt
           have HR7 := Lib.hid (And.intro hbo7 (And.intro hown7 (And.intro hgrow (And.intro hat hb6)))); clear hbo7 hnx7 hown7 hgrow hat hb6 h6 hbo5 hnx5 hbk7
           refine wpAnyH_done (by kernel_rfl) ?_ _
           clear hHeld y3 xc x3
           show wpList _ _ _ _ _ _
           go_wp2_with fail
           show wpList _ _ _ _ _ _
           go_wp2_with fail
           show Exit.inBlock _ _ .normal _ _
           go_wp2_with fail
           go_roundw
           case rel =>
            obtain ⟨hbo7, hown7, hgrow, hat, hb6⟩ := HR7.out
            have hsz7 := hgrow.size
            have hgb : wy.heap.size ≤ gg := by
             rcases hat with h | h
             ·exact (HV3.out gg h).1
             ·omega
            have hww7 : Wrote (fun b => b = bo) wy w7 := ⟨hgrow.os.trans (hb6.os.trans HW3.out.os), hgrow.tape.trans (hb6.tape.trans HW3.out.tape), hgrow.output.trans (hb6.output.trans HW3.out.output), by omega, fun b hb hne => (hgrow.block b (by omega) (fun e => by have := (HV3.out b e.symm).1; omega)).trans ((hb6.block b (by omega)).trans (HW3.out.block b hb hne))⟩
            refine ⟨j + 1, _, by omega, by go_num, hbo7.set 3 _, ?_, hww7.setCell (p := ⟨bo, 3, none⟩) (.inl rfl) _⟩
            have e : (x.next.take (j + 1)).map (fun c => c - (nn : Int)) = pre ++ [c0 - (nn : Int)] := by
             rw [take_snoc HC0.out, List.map_append, HPR.out]; rfl
            rw [e]
            exact ⟨hown7.1, hown7.2.imp id (fun ⟨g3, cap3, cur, h1, h2, h3, h4⟩ => ⟨g3, cap3, cur, h1, h2, (Below.heap_setCell _ _ _ _ (by simp; omega)).trans h3, h4⟩)⟩
           case measure => simp [intOf] <;> omega
          ·obtain rfl : j = x.next.length := by omega
           have HO4 := Lib.hid (show wr.ownsRow wy.heap.size 3 1 v3 (x.next.map (fun c => c - (nn : Int))).length ((x.next.map (fun c => c - (nn : Int))).map (Value.int .i64)) by have h := HO3.out; rw [List.take_length] at h; rw [List.length_map]; exact h)
           clear HO3
           obtain ⟨Av, lv, cv, rfl⟩ : ∃ Ao lo co, v3 = .slice Ao lo co := by
            rcases HO4.out.2 with ⟨h, _⟩ | ⟨gg, cap, cur, h, _⟩
            ·exact ⟨_, _, _, h⟩
            ·exact ⟨_, _, _, h⟩
           obtain ⟨wq, rfl⟩ : ∃ wq : World, wq = wr := ⟨_, rfl⟩
           clear x3
           clear hww
           have x3 := hnx2.cell (i := 3) rfl
           have hold : ∀ b o, b < w5.heap.size → b ≠ w.heap.size + 1 → wq.cell? ⟨b, o, none⟩ = w5.cell? ⟨b, o, none⟩ := fun b o hb hne => by
            rw [HW3.out.cell b _ (by omega) (by omega), below_old HBY.out.1 _ _ (by omega), below_old HBB.out _ _ (by omega), HWW.out.cell b _ hb hne]
           have HOLD := Lib.hid hold; clear hold
           go_upto_block 4 with fail
           clear x3
           go_cut [15] from 51 to 126 (fun _ wx => Row wx bo 45 [.int .i64 x.kind, .int .i64 x.player, .int .i64 (if x.kind = 2 then numTo names names.length x.info else 0), .slice Av lv cv, .slice A4' x.weights.length c4', .slice A5' x.pay.length c5'] ∧ Wrote (fun b => b = bo) wq wx)
           case first =>
            go_wp2_with fail
            go_loopw [15] (fun i wr => ∃ j : Nat, j ≤ names.length ∧ i = .int .i64 j ∧ Row wr bo 45 [.int .i64 x.kind, .int .i64 x.player, .int .i64 (if x.kind = 2 then numTo names j x.info else 0), .slice Av lv cv, .slice A4' x.weights.length c4', .slice A5' x.pay.length c5'] ∧ Wrote (fun b => b = bo) wq wr) (fun i _ => names.length - (intOf i).toNat)
            case atStart => exact ⟨0, by omega, rfl, by simpa [numTo] using hbo, Wrote.refl _ _⟩
            case round =>
             clear hbo
             obtain ⟨j, hj', rfl, hbo, hww⟩ := hrel
             have HBO := Lib.hid (And.intro hbo hww)
             have hnx3 := hnx2.wrote hww (by omega)
             have hsw3 := hww.size
             have lbo3 := hbo.lt
             have lnx3 := hnx3.lt
             have k0 := hnx3.cell (i := 0) rfl
             by_cases hkd : x.kind = 2
             ·have hd : (x.kind == 2) = true := by simp [hkd]
              have HKD2 := Lib.hid hkd
              by_cases hjt : j < names.length
              ·obtain ⟨bq, oq, rfl, hFq, hbq, hxq⟩ := HM5.out (by omega)
               obtain ⟨s0, hs0⟩ := getSome hjt
               have es := hxq j s0 hs0
               unfold intE at es
               rw [Nat.mul_one, ← HOLD.out bq _ hbq (by omega), ← hww.cell bq _ (by omega) (by omega)] at es
               have k2 := hnx3.cell (i := 2) rfl
               have t2 := hbo.cell (i := 2) rfl
               have f2 := hbo.frozen 2
               have lbq : bq < wr.heap.size := by omega
               have HNT := Lib.hid (show numTo names (j + 1) x.info = if s0 = x.info then (j : Int) else numTo names j x.info by simp [numTo, hs0])
               clear hs0 hxq
               generalize (if x.kind = 2 then numTo names j x.info else 0) = vj at t2
               by_cases he : s0 = x.info
               ·have hde : (s0 == x.info) = true := by simp [he]
                have HE := Lib.hid he
                clear hkd hww hbo hnx3 he
                go_wp2_with fail
                go_quiet (fail)
                go_wp2_with fail
                go_roundw
                case rel =>
                 obtain ⟨h1, h2⟩ := HBO.out
                 refine ⟨j + 1, by omega, by go_num, ?_, ?_⟩
                 ·rw [if_pos HKD2.out, HNT.out, if_pos HE.out]
                  exact Row.set (w := wr.drewN _) h1 2 _
                 ·have h3 : Wrote (fun b => b = bo) wq (wr.drewN nq) := ⟨h2.os, h2.tape, h2.output, h2.size, h2.block⟩
                  exact h3.setCell (p := ⟨bo, 2, none⟩) (.inl rfl) _
                case measure => simp [intOf] <;> omega
               ·have hde : (s0 == x.info) = false := by simp [he]
                have HE := Lib.hid he
                clear hkd hww hbo hnx3 he
                go_wp2_with fail
                go_quiet (fail)
                go_wp2_with fail
                go_roundw
                case rel =>
                 obtain ⟨h1, h2⟩ := HBO.out
                 refine ⟨j + 1, by omega, by go_num, ?_, ?_⟩
                 ·rw [if_pos HKD2.out] at h1
                  rw [if_pos HKD2.out, HNT.out, if_neg HE.out]
                  exact h1
                 ·exact ⟨h2.os, h2.tape, h2.output, h2.size, h2.block⟩
                case measure => simp [intOf] <;> omega
              ·obtain rfl : j = names.length := by omega
               clear hkd hww hbo hnx3
               go_wp2_with fail
               go_meet
               exact HBO.out
             ·have hd : (x.kind == 2) = false := by simp [hkd]
              have HKD2 := Lib.hid hkd
              clear hkd hww hbo hnx3
              go_wp2_with fail
              go_meet
              obtain ⟨h1, h2⟩ := HBO.out
              rw [if_neg HKD2.out] at h1 ⊢
              exact ⟨h1, h2⟩
           case rest =>
            obtain ⟨hbo', hwc⟩ := hcut
            obtain ⟨we, rfl⟩ : ∃ we : World, we = wc := ⟨_, rfl⟩
            have hse := hwc.size
            have hblk : ∀ b, b < wp.heap.size → we.heap[b]? = wp.heap[b]? := fun b hb => by
             rw [hwc.block b (by omega) (by omega), HW3.out.block b (by omega) (by omega), HBY.out.1.block b (by omega), HBB.out.block b hb]
            have lrs := HRS.out.lt
            have hrsE : Row we (w.heap.size + 1) _ _ := HRS.out.of_block (hblk _ lrs)
            have hvo : ∀ b, vo.ownBlock = some b → w5.heap.size ≤ b ∧ b < wp.heap.size := fun b hb => HO.out.lt b hb
            have HVO := Lib.hid hvo; clear hvo
            have HOE := Lib.hid (show we.ownsRow w5.heap.size 45 6 vo L.length (L.flatMap NV.cells) from ⟨HO.out.1, HO.out.2.imp id (fun ⟨gg, cap, cur, h1, h2, h3, h4⟩ => ⟨gg, cap, cur, h1, h2, (hblk gg (HO.out.lt gg (by rw [h1]; rfl)).2).trans h3, h4⟩)⟩)
            have HBK := Lib.hid hblk; clear hblk
            have HWC := Lib.hid hwc; clear hwc
            have hLl : L.length ≤ 100 := by have h := congrArg List.length HL.out; simp at h; omega
            have HQ := Lib.hid (show ∀ f, f = numTo names names.length → movedAt g nn f k = movedNode nn f x from fun f _ => by unfold movedAt; rw [HX.out])
            generalize hinf : (if x.kind = 2 then numTo names names.length x.info else 0) = inf at *
            have HINF := Lib.hid hinf; clear hinf
            have q0 := hbo'.cell (i := 0) rfl
            have q1 := hbo'.cell (i := 1) rfl
            have q2 := hbo'.cell (i := 2) rfl
            have q3 := hbo'.cell (i := 3) rfl
            have q4 := hbo'.cell (i := 4) rfl
            have q5 := hbo'.cell (i := 5) rfl
            have p1 := hrsE.cell (i := 1) rfl
            have lbe := hbo'.lt
            have lre := hrsE.lt
            have HBE := Lib.hid hbo'; clear hbo' hbo hnx' hnx2
            go_wp2_with (at_builtin; refine wpl_app_node rfl _ _ rfl w5.heap.size vo L rfl (HOE.out.alloc _) we.heap.size ⟨⟨x.kind, x.player, inf, x.next.map (fun c => c - (nn : Int)), x.weights, x.pay⟩, .slice Av lv cv, .slice A4' x.weights.length c4', .slice A5' x.pay.length c5'⟩ rfl (heap_alloc_new _ _) ⟨rfl, rfl, rfl⟩ (by omega) (by simp; omega) ?_; intro gg cap w9 hown9 hgrow hat hlt9; have hrs9 := (hrsE.alloc (.cells #[.int .i64 x.kind, .int .i64 x.player, .int .i64 inf, .slice Av lv cv, .slice A4' x.weights.length c4', .slice A5' x.pay.length c5'] 45)).of_block (hgrow.block (w.heap.size + 1) (by simp; omega) (fun e => by have := (HVO.out (w.heap.size + 1) e.symm).1; omega)); have r1 := hrs9.cell (i := 1) rfl; have f1 := hrs9.frozen 1; have HO9 := Lib.hid hown9; have HGR := Lib.hid hgrow; have HAT := Lib.hid hat; clear hown9 hgrow hat)
            go_roundw
            case rel =>
             have hgr := HGR.out
             have hsz := hgr.size
             simp only [World.size_alloc] at hsz
             have hgb : ∀ b, b < we.heap.size → vo.ownBlock ≠ some b → w9.heap[b]? = we.heap[b]? := fun b hb hne => by
              rw [hgr.block b (by simp; omega) (fun e => hne e.symm)]; exact Below.heap_alloc _ _ _ hb
             have hkeep : ∀ (H : Foot), (∀ b, H b → b ≠ w.heap.size + 1 ∧ vo.ownBlock ≠ some b) → ∀ (u : Value), Same (fun b => H b ∧ b < we.heap.size) we (w9.setCell ⟨w.heap.size + 1, 1, none⟩ u) := fun H hH u =>
              ⟨by simp; omega, fun b hb hl => by rw [Below.heap_setCell _ _ _ _ (hH b hb.1).1]; exact hgb b hl (hH b hb.1).2⟩
             obtain ⟨j4, j5⟩ := HJ.out
             have hqe : ∀ (H : Foot), (∀ b, H b → b ≠ bo) → Same H wy we := fun H hH => (HW3.out.same (fun b hb => hH b hb)).trans (HWC.out.same (fun b hb => hH b hb))
             have hg9 : w5.heap.size ≤ gg := by
              rcases HAT.out with h | h
              ·exact (HVO.out gg h).1
              ·simp at h; omega
             refine ⟨k + 1, L ++ [⟨⟨x.kind, x.player, inf, x.next.map (fun c => c - (nn : Int)), x.weights, x.pay⟩, .slice Av lv cv, .slice A4' x.weights.length c4', .slice A5' x.pay.length c5'⟩], .slice (some ⟨gg, 0, none⟩) (L.length + 1) cap, fun b => (G b ∨ (wv.heap.size ≤ b ∧ b ≠ bo)) ∧ b < we.heap.size, by omega, by omega, by go_num, ?_, ?_, ?_, ?_, hrs9.set 1 _, ?_⟩
             ·rw [List.map_append, HL.out, show k + 1 - nn = (k - nn) + 1 by omega, List.range'_1_concat, List.map_append, show nn + (k - nn) = k by omega]
              congr 1
              simp only [List.map_cons, List.map_nil]
              rw [HQ.out _ rfl]
              unfold movedNode
              rw [HINF.out]
             ·exact ⟨HO9.out.1, HO9.out.2.imp id (fun ⟨g', cap', cur, h1, h2, h3, h4⟩ => ⟨g', cap', cur, h1, h2, by rw [Below.heap_setCell _ _ _ _ (show g' ≠ w.heap.size + 1 by omega)]; exact h3, h4⟩)⟩
             ·intro q hq
              rcases List.mem_append.1 hq with hq | hq
              ·have h1 := (HFN.out q hq).keep (G := fun b => G b ∧ b < wp.heap.size) (fun b hb hl => ⟨hb, hl⟩) (Same.refl _ _)
               have h2 := h1.keep (G := fun b => (G b ∧ b < wp.heap.size) ∧ b < we.heap.size) (fun b hb _ => ⟨hb, by omega⟩) (⟨by omega, fun b hb hl => HBK.out b hb.2⟩ : Same (fun b => G b ∧ b < wp.heap.size) wp we)
               exact h2.keep (fun b hb _ => ⟨.inl hb.1.1, hb.2⟩) (hkeep (fun b => G b ∧ b < wp.heap.size) (fun b hb => ⟨by have := (HGG.out b hb.1).1; omega, (HGG.out b hb.1).2.1⟩) _)
              ·simp only [List.mem_cons, List.not_mem_nil, or_false] at hq
               subst hq
               have hs := hkeep (fun b => wv.heap.size ≤ b ∧ b ≠ bo) (fun b hb => ⟨by omega, fun e => by have := (HVO.out b e).2; omega⟩) (.slice (some ⟨gg, 0, none⟩) (L.length + 1) cap)
               have ho4 : Own wq wy.heap.size 3 (.slice Av lv cv) ((x.next.map (fun c => c - (nn : Int))).map (Value.int .i64)) := by unfold Own; rw [List.length_map]; exact HO4.out
               have hi3 := Own.ints (F := fun b => wy.heap.size ≤ b ∧ b < wq.heap.size) ho4 (fun b hb => HO4.out.lt b hb)
               have k3 := hi3.keep (G := fun b => (wv.heap.size ≤ b ∧ b ≠ bo) ∧ b < we.heap.size) (fun b hb _ => by omega) (HWC.out.same (fun b hb => by omega))
               have k4 := j4.keep (G := fun b => (wv.heap.size ≤ b ∧ b ≠ bo) ∧ b < we.heap.size) (fun b hb _ => by omega) (hqe _ (fun b hb => by omega))
               have k5 := j5.keep (G := fun b => (wv.heap.size ≤ b ∧ b ≠ bo) ∧ b < we.heap.size) (fun b hb _ => by omega) (hqe _ (fun b hb => by omega))
               exact ⟨k3.keep (fun b hb _ => ⟨.inr hb.1, hb.2⟩) hs, k4.keep (fun b hb _ => ⟨.inr hb.1, hb.2⟩) hs, k5.keep (fun b hb _ => ⟨.inr hb.1, hb.2⟩) hs⟩
             ·intro b hb
              have hgx : gg ≠ b := by
               rintro rfl
               rcases HAT.out with h | h
               ·rcases hb.1 with h1 | h1
                ·exact (HGG.out gg h1).2.1 h
                ·have := (HVO.out gg h).2; omega
               ·simp at h; omega
              refine ⟨?_, fun e => hgx (by simpa [Value.ownBlock] using e), by simp; omega⟩
              rcases hb.1 with h1 | h1
              ·exact (HGG.out b h1).1
              ·omega
             ·have h3 : Wrote (fun b => b = w.heap.size + 1) w5 w9 := ⟨hgr.os.trans (HWC.out.os.trans (HW3.out.os.trans (HBY.out.1.os.trans (HBB.out.os.trans HWW.out.os)))), hgr.tape.trans (HWC.out.tape.trans (HW3.out.tape.trans (HBY.out.1.tape.trans (HBB.out.tape.trans HWW.out.tape)))), hgr.output.trans (HWC.out.output.trans (HW3.out.output.trans (HBY.out.1.output.trans (HBB.out.output.trans HWW.out.output)))), by omega, fun b hb hne => (hgb b (by omega) (fun e => by have := (HVO.out b e).1; omega)).trans ((HBK.out b (by omega)).trans (HWW.out.block b hb hne))⟩
              exact h3.setCell (p := ⟨w.heap.size + 1, 1, none⟩) (.inl rfl) _
            case measure => simp [intOf] <;> omega
       ·obtain rfl : k = en := by omega
        by_cases hN : k < g.nodes.length
        ·have e0 := HEN.out hN
         unfold boolE at e0
         rw [Nat.mul_one, ← hww.cell bu _ hbu (by omega)] at e0
         clear hww hrs
         go_wp2_with fail
         go_meet
         exact ⟨L, vo, G, HL.out, HO.out, HFN.out, HGG.out, HRS.out, HWW.out⟩
        ·clear hww hrs
         go_wp2_with fail
         go_meet
         exact ⟨L, vo, G, HL.out, HO.out, HFN.out, HGG.out, HRS.out, HWW.out⟩
     case rest =>
      obtain ⟨L, vo, G, hLn, hown, hfine, hG, hrs, hwz⟩ := hcut
      clear t0 f0 g0
      obtain ⟨wz, rfl⟩ : ∃ wz : World, wz = wc := ⟨_, rfl⟩
      have HO := Lib.hid hown; clear hown
      have HL := Lib.hid hLn; clear hLn
      have HFN := Lib.hid hfine; clear hfine
      have HGG := Lib.hid hG; clear hG
      have hsz := hwz.size
      have r1z := r1.wrote hwz (by omega)
      have HWZ := Lib.hid hwz; clear hwz
      have HBZ := Lib.hid (show Below w.heap.size w wz from Wrote.below hB5 HWZ.out (fun k hk => by omega) hB5.size)
      clear r1 r2 hB5
      obtain ⟨Ao, lo', co, rfl⟩ : ∃ Ao lo co, vo = .slice Ao lo co := by
       rcases HO.out.2 with ⟨h, _⟩ | ⟨gg, cap, cur, h, _⟩
       ·exact ⟨_, _, _, h⟩
       ·exact ⟨_, _, _, h⟩
      have lrz := hrs.lt
      go_wp2_with fail
      go_loopw [16] (fun i wr => ∃ (k : Nat) (vo2 : Value), k ≤ names.length ∧ i = .int .i64 k ∧ Row wr (w.heap.size + 1) 25 [.int .i64 g.players, .slice Ao lo' co, vo2] ∧ wr.ownsRow wz.heap.size 65 2 vo2 k (((names.take k).map (infAt g)).flatMap infCells) ∧ Wrote (fun b => b = w.heap.size + 1) wz wr) (fun i _ => names.length - (intOf i).toNat)
      case atStart => exact ⟨0, .slice none 0 0, by omega, rfl, hrs, World.ownsRow_nil _ _ _ _, Wrote.refl _ _⟩
      case round =>
       clear hrs
       obtain ⟨k, vo2, hk, rfl, hro, hown, hww⟩ := hrel
       have HOW := Lib.hid hown; clear hown
       have HWW := Lib.hid hww
       have lo := hro.lt
       have hsw := hww.size
       have r1w := r1z.wrote hww (by omega)
       have l1w := r1w.lt
       by_cases hlt : k < names.length
       ·obtain ⟨bq, oq, rfl, hFq, hbq, hxq⟩ := HM5.out (by omega)
        obtain ⟨s0, hs0⟩ := getSome hlt
        have e0 := hxq k s0 hs0
        unfold intE at e0
        rw [Nat.mul_one, ← HWZ.out.cell bq _ hbq (by omega), ← hww.cell bq _ (by omega) (by omega)] at e0
        obtain ⟨hs1', hs2'⟩ := HNI.out s0 (List.mem_of_getElem? hs0)
        obtain ⟨sn, rfl⟩ := Int.eq_ofNat_of_zero_le hs1'
        obtain ⟨bi, oi, rfl, hFi, hbi, hxi⟩ := HI.out (by omega)
        obtain ⟨yi, hyi⟩ := getSome (l := g.infos) (k := sn) (by omega)
        obtain ⟨ci0, ci1⟩ := hxi sn yi hyi
        have HYI := Lib.hid hyi
        clear hxi hyi
        have hBw : Below w.heap.size w wr := Wrote.below HBZ.out hww (fun k hk => by omega) HBZ.out.size
        have c0 : wr.cell? ⟨bi, oi + sn * 2, none⟩ = some (.int .i64 yi.player) := by rw [below_old hBw _ _ hbi]; simpa using ci0
        have c1 : wr.cell? ⟨bi, oi + sn * 2 + 1, none⟩ = some (.int .i64 yi.actions) := by rw [below_old hBw _ _ hbi]; simpa using ci1
        clear ci0 ci1
        have HS0 := Lib.hid hs0; clear hs0 hxq
        have d0 := hro.cell (i := 2) rfl
        have d1 := r1w.cell (i := 2) rfl
        have lbq : bq < wr.heap.size := by omega
        have lbi : bi < wr.heap.size := by have := hBw.size; omega
        have HALL := Lib.hid (And.intro hro (And.intro r1w hBw)); clear hro r1w hBw hww
        go_upto_region 29 with fail
        refine wp_peelMany (fun w' => w'.cell? ⟨w.heap.size + 1, 2, none⟩ = some vo2 ∧ w'.cell? ⟨w.heap.size, 2, none⟩ = some (.slice (some ⟨bi, oi, none⟩) g.infos.length ci) ∧ w'.cell? ⟨bq, oq + k, none⟩ = some (.int .i64 (sn : Int)) ∧ w'.cell? ⟨bi, oi + sn * 2, none⟩ = some (.int .i64 yi.player) ∧ w'.cell? ⟨bi, oi + sn * 2 + 1, none⟩ = some (.int .i64 yi.actions)) 12 2 (by kernel_rfl) rfl (by kernel_rfl) ?_
        have hHeld : (fun w' : World => w'.cell? ⟨w.heap.size + 1, 2, none⟩ = some vo2 ∧ w'.cell? ⟨w.heap.size, 2, none⟩ = some (.slice (some ⟨bi, oi, none⟩) g.infos.length ci) ∧ w'.cell? ⟨bq, oq + k, none⟩ = some (.int .i64 (sn : Int)) ∧ w'.cell? ⟨bi, oi + sn * 2, none⟩ = some (.int .i64 yi.player) ∧ w'.cell? ⟨bi, oi + sn * 2 + 1, none⟩ = some (.int .i64 yi.actions)) wr.drew := ⟨d0, d1, e0, c0, c1⟩
        simp only [List.take_succ_cons, List.take_zero]
        refine wpAnyH_take (i := 0) (v := ?_) rfl (by kernel_rfl) (by kernel_rfl) (by kernel_rfl) (fun _ _ _ h => h) (Or.inl ⟨by rfl, ?_⟩) hHeld ?_
        rotate_left
        ·intro wx hSx; (try dsimp only at hSx); go_split_ands; go_simp; try (with_reducible rfl)
        try simp only [Act.put, lq1, lq2, lq3, lq4, lq5, lq6]
        refine wpAnyH_take (i := 1) (v := ?_) rfl (by kernel_rfl) (by kernel_rfl) (by kernel_rfl) (fun _ _ _ h => h) (Or.inl ⟨by rfl, ?_⟩) hHeld ?_
        rotate_left
        ·intro wx hSx; (try dsimp only at hSx); go_split_ands; go_simp; try (with_reducible rfl)
        try simp only [Act.put, lq1, lq2, lq3, lq4, lq5, lq6]
        refine wpAnyH_take (i := 2) (v := ?_) rfl (by kernel_rfl) (by kernel_rfl) (by kernel_rfl) (fun _ _ _ h => h) (Or.inl ⟨by rfl, ?_⟩) hHeld ?_
        rotate_left
        ·intro wx hSx; (try dsimp only at hSx); go_split_ands; go_simp; try (with_reducible rfl)
        try simp only [Act.put, lq1, lq2, lq3, lq4, lq5, lq6]
        refine wpAnyH_take (i := 3) (v := ?_) rfl (by kernel_rfl) (by kernel_rfl) (by kernel_rfl) (fun _ _ _ h => h) (Or.inl ⟨by rfl, ?_⟩) hHeld ?_
        rotate_left
        ·intro wx hSx; (try dsimp only at hSx); go_split_ands; go_simp; try (with_reducible rfl)
        try simp only [Act.put, lq1, lq2, lq3, lq4, lq5, lq6]
        refine wpAnyH_take (i := 4) (v := ?_) rfl (by kernel_rfl) (by kernel_rfl) (by kernel_rfl) (fun _ _ _ h => h) (Or.inl ⟨by rfl, ?_⟩) hHeld ?_
        rotate_left
        ·intro wx hSx; (try dsimp only at hSx); go_split_ands; go_simp; try (with_reducible rfl)
        try simp only [Act.put, lq1, lq2, lq3, lq4, lq5, lq6]
        refine wpAnyH_take (i := 5) (v := ?_) rfl (by kernel_rfl) (by kernel_rfl) (by kernel_rfl) (fun _ _ _ h => h) (Or.inl ⟨by rfl, ?_⟩) hHeld ?_
        rotate_left
        ·intro wx hSx; (try dsimp only at hSx); go_split_ands; go_simp; try (with_reducible rfl)
        try simp only [Act.put, lq1, lq2, lq3, lq4, lq5, lq6]
        refine wpAnyH_take (i := 6) (v := ?_) rfl (by kernel_rfl) (by kernel_rfl) (by kernel_rfl) (fun _ _ _ h => h) (Or.inl ⟨by rfl, ?_⟩) hHeld ?_
        rotate_left
        ·intro wx hSx; (try dsimp only at hSx); go_split_ands; go_simp; try (with_reducible rfl)
        try simp only [Act.put, lq1, lq2, lq3, lq4, lq5, lq6]
        refine wpAnyH_take (i := 7) (v := ?_) rfl (by kernel_rfl) (by kernel_rfl) (by kernel_rfl) (fun _ _ _ h => h) (Or.inl ⟨by rfl, ?_⟩) hHeld ?_
        rotate_left
        ·intro wx hSx; (try dsimp only at hSx); go_split_ands; go_simp; try (with_reducible rfl)
        try simp only [Act.put, lq1, lq2, lq3, lq4, lq5, lq6]
        refine wpAnyH_take (i := 8) (v := ?_) rfl (by kernel_rfl) (by kernel_rfl) (by kernel_rfl) (fun _ _ _ h => h) (Or.inl ⟨by rfl, ?_⟩) hHeld ?_
        rotate_left
        ·intro wx hSx; (try dsimp only at hSx); go_split_ands; go_simp; try (with_reducible rfl)
        try simp only [Act.put, lq1, lq2, lq3, lq4, lq5, lq6]
        refine wpAnyH_take (i := 9) (v := ?_) rfl (by kernel_rfl) (by kernel_rfl) (by kernel_rfl) (fun _ _ _ h => h) (Or.inl ⟨by rfl, ?_⟩) hHeld ?_
        rotate_left
        ·intro wx hSx; (try dsimp only at hSx); go_split_ands; go_simp; try (with_reducible rfl)
        try simp only [Act.put, lq1, lq2, lq3, lq4, lq5, lq6]
        refine wpAnyH_ready (rs := [10]) (by kernel_rfl) (by simp) ?_
        refine AllReadyH.cons (o := _) rfl (fun K hK => ?_) AllReadyH.nil
        go_simp
        obtain ⟨W6, hw6, hnb', hb6', hz6⟩ := row_of_alloc wr 65 #[.int .i64 yi.player, .int .i64 yi.actions]
        rw [← hw6]
        clear hw6
        obtain ⟨w6, hw6⟩ : ∃ W, W = W6.drew := ⟨_, rfl⟩
        have hnb : Row w6 wr.heap.size _ _ := hw6 ▸ hnb'.drew
        have hb6 : Below wr.heap.size wr w6 := hw6 ▸ hb6'.drew
        rw [← hw6]
        clear hw6 hnb' hb6' hz6
        have h6 : (fun w' : World => w'.cell? ⟨w.heap.size + 1, 2, none⟩ = some vo2 ∧ w'.cell? ⟨w.heap.size, 2, none⟩ = some (.slice (some ⟨bi, oi, none⟩) g.infos.length ci) ∧ w'.cell? ⟨bq, oq + k, none⟩ = some (.int .i64 (sn : Int)) ∧ w'.cell? ⟨bi, oi + sn * 2, none⟩ = some (.int .i64 yi.player) ∧ w'.cell? ⟨bi, oi + sn * 2 + 1, none⟩ = some (.int .i64 yi.actions)) w6 :=
         ⟨(below_old hb6 _ _ lo).trans d0, (below_old hb6 _ _ l1w).trans d1, (below_old hb6 _ _ lbq).trans e0, (below_old hb6 _ _ lbi).trans c0, (below_old hb6 _ _ lbi).trans c1⟩
        refine hK.out _ _ h6 (fun hHeld => ?_)
        clear hK K
        try simp only [Act.put, lq1, lq2, lq3, lq4, lq5, lq6]
        have hs6 := hb6.size
        have HOW6 := Lib.hid (ownsRow_below HOW.out hb6)
        have hvo : ∀ b, vo2.ownBlock = some b → wz.heap.size ≤ b ∧ b < wr.heap.size := fun b hb => HOW.out.lt b hb
        have HVO := Lib.hid hvo; clear hvo
        have HB6 := Lib.hid (And.intro hb6 h6); clear hb6 h6
        refine wpAnyH_ready (rs := [11]) (by kernel_rfl) (by simp) ?_
        refine AllReadyH.cons (o := _) rfl (fun K hK => ?_) AllReadyH.nil
        refine step_app_inf (by rfl) _ _ (by rfl) wz.heap.size vo2 k ((names.take k).map (infAt g)) (by rfl) HOW6.out wr.heap.size yi (by rfl) hnb (by omega) (by omega) ?_
        intro gg cap w7 hown7 hgrow hat hlt7
        have hbk7 : ∀ b, b < wz.heap.size → w7.heap[b]? = w6.heap[b]? := fun b hb => hgrow.block b (by omega) (fun e => by have := (HVO.out b e.symm).1; omega)
        obtain ⟨hb6, h6⟩ := HB6.out
        obtain ⟨hro5, r15, hB5⟩ := HALL.out
        have hro7 : Row w7 (w.heap.size + 1) _ _ := (hro5.below hb6 hro5.lt).of_block (hbk7 _ (by omega))
        have r17 : Row w7 w.heap.size _ _ := (r15.below hb6 r15.lt).of_block (hbk7 _ (by omega))
        refine hK.out _ _ ⟨hro7.cell rfl, r17.cell rfl, (World.cell?_of_block (hbk7 bq (by omega))).trans h6.2.2.1, (World.cell?_of_block (hbk7 bi (by have := HBZ.out.size; omega))).trans h6.2.2.2.1, (World.cell?_of_block (hbk7 bi (by have := HBZ.out.size; omega))).trans h6.2.2.2.2⟩ (fun hHeld => ?_)
        clear hK K
        try simp only [Act.put, lq1, lq2, lq3, lq4, lq5, lq6]
        have q2 := hro7.cell (i := 2) rfl
        have y2 := hro7.frozen 2
        have lo7 := hro7.lt
        have HR7 := Lib.hid (And.intro hro7 (And.intro hown7 (And.intro hgrow (And.intro hat hb6)))); clear hro7 r17 hown7 hgrow hat hb6 h6 hro5 r15 hB5 hbk7
        refine wpAnyH_done (by kernel_rfl) ?_ _
        clear hHeld d0 d1 e0 c0 c1
        show wpList _ _ _ _ _ _
        go_wp2_with fail
        show wpList _ _ _ _ _ _
        go_wp2_with fail
        show Exit.inBlock _ _ .normal _ _
        go_wp2_with fail
        go_roundw
        case rel =>
         obtain ⟨hro7, hown7, hgrow, hat, hb6⟩ := HR7.out
         have hsz7 := hgrow.size
         have hww7 : Wrote (fun b => b = w.heap.size + 1) wz w7 := ⟨hgrow.os.trans (hb6.os.trans HWW.out.os), hgrow.tape.trans (hb6.tape.trans HWW.out.tape), hgrow.output.trans (hb6.output.trans HWW.out.output), by omega, fun b hb hne => (hgrow.block b (by omega) (fun e => by have := (HVO.out b e.symm).1; omega)).trans ((hb6.block b (by omega)).trans (HWW.out.block b hb hne))⟩
         refine ⟨k + 1, _, by omega, by go_num, hro7.set 2 _, ?_, hww7.setCell (p := ⟨w.heap.size + 1, 2, none⟩) (.inl rfl) _⟩
         have e : (names.take (k + 1)).map (infAt g) = (names.take k).map (infAt g) ++ [yi] := by
          rw [take_snoc HS0.out, List.map_append]
          simp [infAt, HYI.out]
         rw [e]
         exact ⟨hown7.1, hown7.2.imp id (fun ⟨g3, cap3, cur, h1, h2, h3, h4⟩ => ⟨g3, cap3, cur, h1, h2, (Below.heap_setCell _ _ _ _ (by simp; omega)).trans h3, h4⟩)⟩
        case measure => simp [intOf] <;> omega
       ·obtain rfl : k = names.length := by omega
        have HOW2 := Lib.hid (show wr.ownsRow wz.heap.size 65 2 vo2 (names.map (infAt g)).length ((names.map (infAt g)).flatMap infCells) by have h := HOW.out; rw [List.take_length] at h; rw [List.length_map]; exact h)
        clear HOW
        obtain ⟨Ao2, lo2, co2, rfl⟩ : ∃ Ao lo co, vo2 = .slice Ao lo co := by
         rcases HOW2.out.2 with ⟨h, _⟩ | ⟨gg, cap, cur, h, _⟩
         ·exact ⟨_, _, _, h⟩
         ·exact ⟨_, _, _, h⟩
        have q0 := hro.cell (i := 0) rfl
        have y0 := hro.frozen 0
        have q1 := hro.cell (i := 1) rfl
        have y1 := hro.frozen 1
        have q2 := hro.cell (i := 2) rfl
        have y2 := hro.frozen 2
        clear hww
        go_wp2_with fail
        obtain ⟨W, hW, hrw, hww⟩ := set3 hro (.int .i64 g.players) (.slice Ao lo' co) (.slice Ao2 lo2 co2)
        rw [← hW]
        clear hW
        clear q0 y0
        have t0 := hrw.cell (i := 0) rfl
        clear q1 y1
        have t1 := hrw.cell (i := 1) rfl
        clear q2 y2
        have t2 := hrw.cell (i := 2) rfl
        refine bodyPost_ret (v := .tuple #[.agg #[.int .i64 g.players, .slice Ao lo' co, .slice Ao2 lo2 co2], .slice Am names.length cm, .int .i64 0]) (by simp [results, Try.results17, go_sem, t0, t1, t2]) rfl ?_
        have hwB : Below w.heap.size w W := Wrote.below (Wrote.below HBZ.out HWW.out (fun k hk => by omega) HBZ.out.size) hww (fun k hk => by omega) (by have := HBZ.out.size; omega)
        have hzb := HBZ.out.size
        have hsame : ∀ G : Foot, (∀ b, G b → b ≠ w.heap.size + 1) → Same G wr W := fun G hG => hww.same (fun b hb => hG b hb)
        refine ⟨_, rfl, hwB, ?_⟩
        unfold PartResR
        rw [if_pos HF.out, if_pos HF.out, HF.out]
        refine ⟨_, _, rfl, ⟨_, _, rfl, ?_, ?_⟩, ?_⟩
        ·have h1 := owns_nodes HO.out (F := fun b => w5.heap.size ≤ b) (fun b hb => (HO.out.lt b hb).1) (fun q hq => (HFN.out q hq).keep (fun b hb _ => (HGG.out b hb).1) (Same.refl _ _))
         have h2 := (h1.keep (G := fun b => w5.heap.size ≤ b) (fun b hb _ => hb) (HWW.out.same (fun b hb => by omega))).keep (G := fun b => w.heap.size ≤ b) (fun b hb _ => by omega) (hsame _ (fun b hb => by omega))
         rw [HL.out] at h2
         unfold fromGm
         rw [HNE.out, HEE.out, Int.toNat_natCast]
         exact h2
        ·have h1 := owns_infos HOW2.out (F := fun b => wz.heap.size ≤ b) (fun b hb => (HOW2.out.lt b hb).1)
         have h2 := h1.keep (G := fun b => w.heap.size ≤ b) (fun b hb _ => by omega) (hsame _ (fun b hb => by omega))
         unfold fromGm
         rw [HNE.out]
         exact h2
        ·have h2 := ((HVS6.out.on (HWZ.out.same (fun b hb => by omega))).on (HWW.out.same (fun b hb => by omega))).keep (G := fun b => w.heap.size ≤ b) (fun b hb _ => by omega) (hsame _ (fun b hb => by omega))
         rw [HNE.out]
         exact h2
 ·have hd : (er != 0) = true := by simp [he]
  have HF := Lib.hid (show partErrR g node = er by rw [HPE.out, if_pos he])
  have HNZ := Lib.hid he; clear he
  have t0 := r2.cell (i := 0) rfl
  have f0 := r2.frozen 0
  have t1 := r2.cell (i := 1) rfl
  have f1 := r2.frozen 1
  have t2 := r2.cell (i := 2) rfl
  have f2 := r2.frozen 2
  go_wp2
  obtain ⟨W, hW, hrw, hww⟩ := set3 r2 (.int .i64 0) (.slice none 0 0) (.slice none 0 0)
  rw [← hW]
  clear hW
  clear t0 f0
  have t0 := hrw.cell (i := 0) rfl
  clear t1 f1
  have t1 := hrw.cell (i := 1) rfl
  clear t2 f2
  have t2 := hrw.cell (i := 2) rfl
  refine bodyPost_ret (v := .tuple #[.agg #[.int .i64 0, .slice none 0 0, .slice none 0 0], .slice none 0 0, .int .i64 er]) (by simp [results, Try.results17, go_sem, t0, t1, t2]) rfl ?_
  have hq := Wrote.below hB hww (fun k hk => by omega) (by have := hB.size; omega)
  exact ⟨_, rfl, hq, PartResR.bad HF.out HNZ.out⟩
end Go.Proofs.Ytafjdoedallnbaa
