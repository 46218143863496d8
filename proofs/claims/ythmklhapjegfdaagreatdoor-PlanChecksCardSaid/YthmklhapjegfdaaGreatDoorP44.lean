/- parlourlaw16.awake. -/
import Derived.Test.YthmklhapjegfdaaGreatDoorP41
import Derived.Test.YthmklhapjegfdaaGreatDoorP40
import Derived.Test.YthmklhapjegfdaaGreatDoorP43
set_option linter.all false
set_option maxRecDepth 100000
set_option maxHeartbeats 12800000
namespace Go.Proofs.YthmklhapjegfdaaGreatDoor
open Lib renaming hid → Ae
open List renaming getElem_toArray → lq1, getElem_cons_zero → lq2, getElem_cons_succ → lq3, setIfInBounds_toArray → lq4, set_cons_zero → lq5, set_cons_succ → lq6
open Go.RowKit
def Fact.pR (l:List Raw):Fact:=⟨fun v w=>AB w (fun _=>True) v l,fun _ _ _ h hb=>h.on (Below.same' hb _)⟩
def Fact.rows (m:List (List Raw)):Fact:=⟨fun v w=>Ag w (fun _=>True) v m,fun _ _ _ h hb=>h.on (Below.same' hb _)⟩
def Fact.seqs (l:List (Int×Int)):Fact:=⟨fun v w=>Az w (fun _=>True) v l,fun _ _ _ h hb=>h.on (Below.same' hb _)⟩
theorem aag {w:World} {b:Nat} {L:List RV} (h:Row w b 83 (L.flatMap RV.cells)) (hf:∀ q∈L,q.fine w (fun _=>True)):AB w (fun _=>True) (.slice (some ⟨b,0,none⟩) L.length L.length) (L.map RV.r):=by
 refine⟨_,_,by rw[List.length_map],by rw[List.length_map]; exact Nat.le_refl _,fun _=>⟨b,0,rfl,trivial,h.lt,fun k r hk=>?_⟩⟩;rw[List.getElem?_map] at hk;cases hq:L[k]? with
 | none=>rw[hq] at hk; cases hk
 | some q =>
  rw[hq] at hk; cases hk;have hf:=hf q (List.mem_of_getElem? hq);have e:=fun j (hj:j < 3)=>kE (f:=RV.cells) (s:=3) (fun _=>rfl) L k j q hq hj
  refine⟨h.cell (by have:=e 0 aB; rw[Nat.zero_add]; exact this),⟨_,h.cell (by have:=e 1 aB; rw[Nat.zero_add]; exact this),hf.1⟩,⟨_,h.cell (by have:=e 2 aB; rw[Nat.zero_add]; exact this),hf.2⟩⟩
theorem all2 {p:RV→Prop} {a b:RV} (ha:p a) (hb:p b):∀ q∈[a,b],p q:=by
 intro q hq;simp only[List.mem_cons,List.not_mem_nil,or_false] at hq;rcases hq with rfl | rfl
 ·exact ha
 ·exact hb
theorem all3 {p:RV→Prop} {a:RV} (ha:p a):∀ q∈[a,a,a],p q:=by
 intro q hq;simp only[List.mem_cons,List.not_mem_nil,or_false,or_self] at hq;rw[hq]; exact ha
theorem ahC {w:World} {b:Nat} {L:List (Int×Int)} (h:Row w b 89 (kQ L)):Az w (fun _=>True) (.slice (some ⟨b,0,none⟩) L.length L.length) L:=by
 have h':Row w b 89 (kQ L ++ []):=by rw[List.append_nil]; exact h
 exact h'.pairs (G:=fun _=>True) trivial (Nat.le_refl _)
theorem ou (w:World) (hT:Bz w):Calls Tryz.prog 19 #[] w (Ret w fun v _=>v = .bool true):=by
 have HT:=Ae hT;clear hT;go_in
 have hB:=Below.refl w.heap.size w;go_wp2_with fail
 refine(adC w).mono ?_;rintro e wg ⟨vg,rfl,hb,hu⟩;replace HT:=Ae (HT.out.on hb);replace hB:=hB.trans (hb.mono hB.size);have HG:=Ae (hu.keep (G:=(fun _=>True)) (fun _ _ _=>trivial) (Same.refl _ _));obtain⟨vn,vi,rfl,⟨A,c,rfl,_,_⟩,⟨Ai,ci,rfl,_,_⟩⟩:=hu;clear hb;dsimp only;go_upto_region 2 with(fail)
 obtain⟨Wb,hWb,rx,hb,hz⟩:=aO wg 25 #[.int .i64 gW.aA,.slice A gW.nodes.length c,.slice Ai gW.infos.length ci];rw[← hWb];clear hWb;obtain⟨gb,hgb⟩:=named wg.heap.size;rw[← hgb] at rx ⊢;replace HG:=Ae (HG.out.on (Below.same' hb _));replace HT:=Ae (HT.out.on hb);replace hB:=hB.trans (hb.mono hB.size);have x0:=rx.cell (i:=0) rfl; have x1:=rx.cell (i:=1) rfl; have x2:=rx.cell (i:=2) rfl;clear rx hb hz hgb;go_wp2_with fail
 refine(yB Wb (fun _=>True) _ gW HG.out rD).mono ?_;rintro e wu ⟨_,rfl,hb,t,rfl,hu⟩;replace x0:=ah x0 hb;replace x1:=ah x1 hb;replace x2:=ah x2 hb;replace HG:=Ae (HG.out.on (Below.same' hb _));replace HT:=Ae (HT.out.on hb);replace hB:=hB.trans (hb.mono hB.size);rw[abX] at hu;rw[qm];have HM:=Ae (Ag.keep (G:=(fun _=>True)) hu (fun _ _ _=>trivial) (Same.refl _ _));obtain⟨Am,cm,rfl,_,_⟩:=hu;clear hb;dsimp only;go_wp2_with fail
 refine(aeE wu (fun _=>True) _ _ gW _ HG.out rD HM.out HT.out aB ahz afT abY).mono ?_;rintro e wo ⟨_,rfl,hb,t,rfl,hu⟩;replace x0:=ah x0 hb;replace x1:=ah x1 hb;replace x2:=ah x2 hb;replace HG:=Ae (HG.out.on (Below.same' hb _));replace HM:=Ae (Ag.on HM.out (Below.same' hb _));replace HT:=Ae (HT.out.on hb);replace hB:=hB.trans (hb.mono hB.size);rw[adr] at hu;rw[abb];have HR:=Ae (Ag.keep (G:=(fun _=>True)) hu (fun _ _ _=>trivial) (Same.refl _ _));obtain⟨Ar,cr,rfl,_,_⟩:=hu;clear HM;clear hb;dsimp only;go_wp2_with fail
 refine(oq wo (fun _=>True) _ gW HG.out rD).mono ?_;rintro e wp ⟨_,rfl,hb,t,rfl,hu⟩;replace x0:=ah x0 hb;replace x1:=ah x1 hb;replace x2:=ah x2 hb;replace HG:=Ae (HG.out.on (Below.same' hb _));replace HR:=Ae (Ag.on HR.out (Below.same' hb _));replace HT:=Ae (HT.out.on hb);replace hB:=hB.trans (hb.mono hB.size);rw[aax] at hu;rw[ads];have HP:=Ae (Az.keep (G:=(fun _=>True)) hu (fun _ _ _=>trivial) (Same.refl _ _));obtain⟨Ap,cp,rfl⟩:=hu.open;clear hu HG;clear hb;dsimp only;clear x0 x1 x2;go_wp2_with fail
 refine(oV wp 1 6 aB aB aB aB).mono ?_;rintro e wr ⟨u6,rfl,hb,hu⟩;replace HR:=Ae (Ag.on HR.out (Below.same' hb _));replace HP:=Ae (Az.on HP.out (Below.same' hb _));replace HT:=Ae (HT.out.on hb);replace hB:=hB.trans (hb.mono hB.size);have hu2:AL wr (fun _=>True) u6 (aG (mkRat 1 6)):=hu.mono fun _ _ _=>trivial
 obtain⟨q6,hq6⟩:=named (aG (mkRat 1 6));obtain⟨q2,hq2⟩:=named (aG (mkRat 1 2));rw[← hq6] at hu2;have hrq:aaf.map (List.map aG) = [[q2,q2],[q2,q2],[q6,q6,q6]]:=by rw[hq2,hq6]; rfl
 have hsq:=adu;rw[hrq] at hsq HR;have HSH:=Ae hsq; have HQ2:=Ae hq2;clear hq2 hq6 hrq hsq hu;obtain⟨A6,c6,B6,d6,rfl,hf6⟩:=AL.opened hu2;have HF6:=Ae hf6;clear hu2 hf6;clear hb;dsimp only;go_upto_region 6 with(fail)
 obtain⟨Wc,hWc,rx,hb,hz⟩:=aO wr 83 #[.bool q6.neg,.slice A6 q6.num.length c6,.slice B6 q6.den.length d6];rw[← hWc];clear hWc;obtain⟨qb,hqb⟩:=named wr.heap.size;rw[← hqb] at rx ⊢;replace HR:=Ae (Ag.on HR.out (Below.same' hb _));replace HP:=Ae (Az.on HP.out (Below.same' hb _));replace HT:=Ae (HT.out.on hb);replace hB:=hB.trans (hb.mono hB.size);replace HF6:=Ae (RV.fine.below HF6.out hb);have x0:=rx.cell (i:=0) rfl; have x1:=rx.cell (i:=1) rfl; have x2:=rx.cell (i:=2) rfl;clear rx hb hz hqb;refine wp_region_held_drew (S:=fun w'=>w'.cell? ⟨qb,0,none⟩=some (.bool q6.neg)∧w'.cell? ⟨qb,1,none⟩=some (.slice A6 q6.num.length c6)∧w'.cell? ⟨qb,2,none⟩=some (.slice B6 q6.den.length d6)) aj ⟨x0,x1,x2⟩ (fun hHeld=>?_);have hb:Below Wc.heap.size Wc Wc.drew:=aH (Below.refl _ Wc) 1;replace x0:=ah x0 hb;replace x1:=ah x1 hb;replace x2:=ah x2 hb;replace HR:=Ae (Ag.on HR.out (Below.same' hb _));replace HP:=Ae (Az.on HP.out (Below.same' hb _));replace HT:=Ae (HT.out.on hb);replace hB:=hB.trans (hb.mono hB.size);replace HF6:=Ae (RV.fine.below HF6.out hb);clear hb;generalize Wc.drew=wn at *;refine tk0 [0,1,2,3,4,5,6,7,8,9,10,11,18,19,20] ?_;iterate 15 (refine tk (v:=?_) rfl aj aj aj (fun _ _ _ h=>h) (Or.inl ⟨by rfl,?_⟩) hHeld ?_;rotate_left;(focus intro wx hSx;(try dsimp only at hSx);go_split_ands;go_simp;try with_reducible rfl);try simp only[Act.put,lq1,lq2,lq3,lq4,lq5,lq6])
 refine tk1 ?_;refine iE (js:=[12,13,14,15,16,17,21,22,23,24,25,26,27,28,29,30,31,32,33]) ((Hold.cell (qb) 0 (.bool q6.neg)).and ((Hold.cell (qb) 1 (.slice A6 q6.num.length c6)).and ((Hold.cell (qb) 2 (.slice B6 q6.den.length d6)).and (Hold.below wn.heap.size wn)))) [(12,(Fact.raw (fun _=>True) q2)),(13,(Fact.raw (fun _=>True) q2)),(14,(Fact.pR [q2,q2])),(15,(Fact.raw (fun _=>True) q2)),(16,(Fact.raw (fun _=>True) q2)),(17,(Fact.pR [q2,q2])),(21,(Fact.pR [q6,q6,q6])),(22,(Fact.rows [[q2,q2],[q2,q2],[q6,q6,q6]])),(23,(Fact.eq (.bool true))),(24,(Fact.eq (.bool true))),(25,(Fact.eq (.bool true))),(26,(Fact.eq (.slice Ap 3 cp))),(27,(Fact.eq (.agg #[.int .i64 (-1),.int .i64 (-1)]))),(28,(Fact.eq (.agg #[.int .i64 (-1),.int .i64 (-1)]))),(29,(Fact.eq (.agg #[.int .i64 0,.int .i64 1]))),(30,(Fact.seqs [(-1,-1),(-1,-1),(0,1)])),(31,(Fact.eq (.bool true))),(32,(Fact.eq (.bool true))),(33,(Fact.eq (.bool true)))] aj ⟨x0,x1,x2,⟨Nat.le_refl _,Below.refl _ _⟩⟩ (fun _ h=>⟨h.1,h.2.1,h.2.2.1⟩) ?_;refine Flow.cons (o:=_) rfl (fun wk hS hf K hK=>?_) (fun v12=>?_)
 ·go_simp;refine(oV wk 1 2 aB aB aB aB).mono ?_;rintro e w' ⟨u,rfl,hb,hu⟩;exact hK.out _ _ hb (show AL _ _ _ q2 by rw[HQ2.out]; exact hu.mono fun _ _ _=>trivial)
 try simp only[Act.put,lq1,lq2,lq3,lq4,lq5,lq6]
 refine Flow.cons (o:=_) rfl (fun wk hS hf K hK=>?_) (fun v13=>?_)
 ·go_simp;refine(oV wk 1 2 aB aB aB aB).mono ?_;rintro e w' ⟨u,rfl,hb,hu⟩;exact hK.out _ _ hb (show AL _ _ _ q2 by rw[HQ2.out]; exact hu.mono fun _ _ _=>trivial)
 try simp only[Act.put,lq1,lq2,lq3,lq4,lq5,lq6]
 refine Flow.cons (o:=_) rfl (fun wk hS hf K hK=>?_) (fun v14=>?_)
 ·have f12:=aS (f:=(Fact.raw (fun _=>True) q2)) (hf (12,v12) ay aj) rfl;have f13:=aS (f:=(Fact.raw (fun _=>True) q2)) (hf (13,v13) ay aj) rfl;obtain⟨A1,c1,B1,d1,rfl,hf1⟩:=AL.opened f12;obtain⟨A2,c2,B2,d2,rfl,hf2⟩:=AL.opened f13;go_simp;obtain⟨W1,hw,hr,hb,hz⟩:=bH wk 83 #[.bool q2.neg,.slice A1 q2.num.length c1,.slice B1 q2.den.length d1,.bool q2.neg,.slice A2 q2.num.length c2,.slice B2 q2.den.length d2];rw[← hw];exact hK.out _ _ hb (aag (L:=[⟨q2,.slice A1 q2.num.length c1,.slice B1 q2.den.length d1⟩,⟨q2,.slice A2 q2.num.length c2,.slice B2 q2.den.length d2⟩]) hr (all2 (RV.fine.below hf1 hb) (RV.fine.below hf2 hb)))
 try simp only[Act.put,lq1,lq2,lq3,lq4,lq5,lq6]
 refine Flow.cons (o:=_) rfl (fun wk hS hf K hK=>?_) (fun v15=>?_)
 ·go_simp;refine(oV wk 1 2 aB aB aB aB).mono ?_;rintro e w' ⟨u,rfl,hb,hu⟩;exact hK.out _ _ hb (show AL _ _ _ q2 by rw[HQ2.out]; exact hu.mono fun _ _ _=>trivial)
 try simp only[Act.put,lq1,lq2,lq3,lq4,lq5,lq6]
 refine Flow.cons (o:=_) rfl (fun wk hS hf K hK=>?_) (fun v16=>?_)
 ·go_simp;refine(oV wk 1 2 aB aB aB aB).mono ?_;rintro e w' ⟨u,rfl,hb,hu⟩;exact hK.out _ _ hb (show AL _ _ _ q2 by rw[HQ2.out]; exact hu.mono fun _ _ _=>trivial)
 try simp only[Act.put,lq1,lq2,lq3,lq4,lq5,lq6]
 refine Flow.cons (o:=_) rfl (fun wk hS hf K hK=>?_) (fun v17=>?_)
 ·have f15:=aS (f:=(Fact.raw (fun _=>True) q2)) (hf (15,v15) ay aj) rfl;have f16:=aS (f:=(Fact.raw (fun _=>True) q2)) (hf (16,v16) ay aj) rfl;obtain⟨A1,c1,B1,d1,rfl,hf1⟩:=AL.opened f15;obtain⟨A2,c2,B2,d2,rfl,hf2⟩:=AL.opened f16;go_simp;obtain⟨W1,hw,hr,hb,hz⟩:=bH wk 83 #[.bool q2.neg,.slice A1 q2.num.length c1,.slice B1 q2.den.length d1,.bool q2.neg,.slice A2 q2.num.length c2,.slice B2 q2.den.length d2];rw[← hw];exact hK.out _ _ hb (aag (L:=[⟨q2,.slice A1 q2.num.length c1,.slice B1 q2.den.length d1⟩,⟨q2,.slice A2 q2.num.length c2,.slice B2 q2.den.length d2⟩]) hr (all2 (RV.fine.below hf1 hb) (RV.fine.below hf2 hb)))
 try simp only[Act.put,lq1,lq2,lq3,lq4,lq5,lq6]
 refine Flow.cons (o:=_) rfl (fun wk hS hf K hK=>?_) (fun v21=>?_)
 ·have hf6:=RV.fine.keep (G:=fun _=>True) HF6.out (fun _ _ _=>trivial) (Below.same' hS.2.2.2.2 _);go_simp;obtain⟨W1,hw,hr,hb,hz⟩:=bH wk 83 #[.bool q6.neg,.slice A6 q6.num.length c6,.slice B6 q6.den.length d6,.bool q6.neg,.slice A6 q6.num.length c6,.slice B6 q6.den.length d6,.bool q6.neg,.slice A6 q6.num.length c6,.slice B6 q6.den.length d6];rw[← hw];exact hK.out _ _ hb (aag (L:=[⟨q6,.slice A6 q6.num.length c6,.slice B6 q6.den.length d6⟩,⟨q6,.slice A6 q6.num.length c6,.slice B6 q6.den.length d6⟩,⟨q6,.slice A6 q6.num.length c6,.slice B6 q6.den.length d6⟩]) hr (all3 (RV.fine.below hf6 hb)))
 try simp only[Act.put,lq1,lq2,lq3,lq4,lq5,lq6]
 refine Flow.cons (o:=_) rfl (fun wk hS hf K hK=>?_) (fun v22=>?_)
 ·have f14:=aS (f:=(Fact.pR [q2,q2])) (hf (14,v14) ay aj) rfl;have f17:=aS (f:=(Fact.pR [q2,q2])) (hf (17,v17) ay aj) rfl;have f21:=aS (f:=(Fact.pR [q6,q6,q6])) (hf (21,v21) ay aj) rfl;have g14:=f14; have g17:=f17; have g21:=f21;obtain⟨A4,c4,rfl,_,_⟩:=g14;obtain⟨A5,c5,rfl,_,_⟩:=g17;obtain⟨A7,c7,rfl,_,_⟩:=g21;go_simp;obtain⟨W1,hw,hr,hb,hz⟩:=bH wk 64 #[.slice A4 2 c4,.slice A5 2 c5,.slice A7 3 c7];rw[← hw];exact hK.out _ _ hb (aiR hr trivial (AB.on f14 (Below.same' hb _)) (AB.on f17 (Below.same' hb _)) (AB.on f21 (Below.same' hb _)))
 try simp only[Act.put,lq1,lq2,lq3,lq4,lq5,lq6]
 refine Flow.cons (o:=_) rfl (fun wk hS hf K hK=>?_) (fun v23=>?_)
 ·have f22:=aS (f:=(Fact.rows [[q2,q2],[q2,q2],[q6,q6,q6]])) (hf (22,v22) ay aj) rfl;have g22:=f22;obtain⟨A8,c8,rfl,_,_⟩:=g22;have hr0:=Ag.on HR.out (Below.same' hS.2.2.2.2 _);go_simp;refine(lF wk (fun _=>True) _ _ _ _ hr0 f22 HSH.out HSH.out).mono ?_;rintro e w' ⟨_,rfl,hb,rfl⟩;exact hK.out _ _ hb (by rw[decide_eq_true rfl]; rfl)
 try simp only[Act.put,lq1,lq2,lq3,lq4,lq5,lq6]
 refine Flow.cons (o:=_) rfl (fun wk hS hf K hK=>?_) (fun v24=>?_)
 ·have f23:=aS (f:=(Fact.eq (.bool true))) (hf (23,v23) ay aj) rfl;obtain rfl:v23=_:=f23;go_simp;exact hK.out _ _ (Below.refl _ _) rfl
 try simp only[Act.put,lq1,lq2,lq3,lq4,lq5,lq6]
 refine Flow.cons (o:=_) rfl (fun wk hS hf K hK=>?_) (fun v25=>?_)
 ·have f24:=aS (f:=(Fact.eq (.bool true))) (hf (24,v24) ay aj) rfl;obtain rfl:v24=_:=f24;go_simp;exact hK.out _ _ (Below.refl _ _) rfl
 try simp only[Act.put,lq1,lq2,lq3,lq4,lq5,lq6]
 refine Flow.cons (o:=_) rfl (fun wk hS hf K hK=>?_) (fun v26=>?_)
 ·have f25:=aS (f:=(Fact.eq (.bool true))) (hf (25,v25) ay aj) rfl;obtain rfl:v25=_:=f25;go_simp;exact hK.out _ _ (Below.refl _ _) rfl
 try simp only[Act.put,lq1,lq2,lq3,lq4,lq5,lq6]
 refine Flow.cons (o:=_) rfl (fun wk hS hf K hK=>?_) (fun v27=>?_)
 ·have f25:=aS (f:=(Fact.eq (.bool true))) (hf (25,v25) ay aj) rfl;obtain rfl:v25=_:=f25;go_simp;exact hK.out _ _ (Below.refl _ _) rfl
 try simp only[Act.put,lq1,lq2,lq3,lq4,lq5,lq6]
 refine Flow.cons (o:=_) rfl (fun wk hS hf K hK=>?_) (fun v28=>?_)
 ·have f25:=aS (f:=(Fact.eq (.bool true))) (hf (25,v25) ay aj) rfl;obtain rfl:v25=_:=f25;go_simp;exact hK.out _ _ (Below.refl _ _) rfl
 try simp only[Act.put,lq1,lq2,lq3,lq4,lq5,lq6]
 refine Flow.cons (o:=_) rfl (fun wk hS hf K hK=>?_) (fun v29=>?_)
 ·have f25:=aS (f:=(Fact.eq (.bool true))) (hf (25,v25) ay aj) rfl;obtain rfl:v25=_:=f25;go_simp;exact hK.out _ _ (Below.refl _ _) rfl
 try simp only[Act.put,lq1,lq2,lq3,lq4,lq5,lq6]
 refine Flow.cons (o:=_) rfl (fun wk hS hf K hK=>?_) (fun v30=>?_)
 ·have f25:=aS (f:=(Fact.eq (.bool true))) (hf (25,v25) ay aj) rfl;have f27:=aS (f:=(Fact.eq (.agg #[.int .i64 (-1),.int .i64 (-1)]))) (hf (27,v27) ay aj) rfl;have f28:=aS (f:=(Fact.eq (.agg #[.int .i64 (-1),.int .i64 (-1)]))) (hf (28,v28) ay aj) rfl;have f29:=aS (f:=(Fact.eq (.agg #[.int .i64 0,.int .i64 1]))) (hf (29,v29) ay aj) rfl;obtain rfl:v25=_:=f25;obtain rfl:v27=_:=f27;obtain rfl:v28=_:=f28;obtain rfl:v29=_:=f29;go_simp;obtain⟨W1,hw,hr,hb,hz⟩:=bH wk 89 #[.int .i64 (-1),.int .i64 (-1),.int .i64 (-1),.int .i64 (-1),.int .i64 0,.int .i64 1];rw[← hw];exact hK.out _ _ hb (ahC (L:=[(-1,-1),(-1,-1),(0,1)]) hr)
 try simp only[Act.put,lq1,lq2,lq3,lq4,lq5,lq6]
 refine Flow.cons (o:=_) rfl (fun wk hS hf K hK=>?_) (fun v31=>?_)
 ·have f25:=aS (f:=(Fact.eq (.bool true))) (hf (25,v25) ay aj) rfl;have f26:=aS (f:=(Fact.eq (.slice Ap 3 cp))) (hf (26,v26) ay aj) rfl;have f30:=aS (f:=(Fact.seqs [(-1,-1),(-1,-1),(0,1)])) (hf (30,v30) ay aj) rfl;obtain rfl:v25=_:=f25;obtain rfl:v26=_:=f26;have g30:=f30;obtain⟨A9,c9,rfl,_,_⟩:=g30;have hp0:=Az.on HP.out (Below.same' hS.2.2.2.2 _);go_simp;refine(wI wk (fun _=>True) _ _ _ _ hp0 f30 aB).mono ?_;rintro e w' ⟨_,rfl,hb,rfl⟩;exact hK.out _ _ hb (by rw[decide_eq_true rfl]; rfl)
 try simp only[Act.put,lq1,lq2,lq3,lq4,lq5,lq6]
 refine Flow.cons (o:=_) rfl (fun wk hS hf K hK=>?_) (fun v32=>?_)
 ·have f25:=aS (f:=(Fact.eq (.bool true))) (hf (25,v25) ay aj) rfl;have f31:=aS (f:=(Fact.eq (.bool true))) (hf (31,v31) ay aj) rfl;obtain rfl:v25=_:=f25;obtain rfl:v31=_:=f31;go_simp;exact hK.out _ _ (Below.refl _ _) rfl
 try simp only[Act.put,lq1,lq2,lq3,lq4,lq5,lq6]
 refine Flow.cons (o:=_) rfl (fun wk hS hf K hK=>?_) (fun v33=>?_)
 ·have f32:=aS (f:=(Fact.eq (.bool true))) (hf (32,v32) ay aj) rfl;obtain rfl:v32=_:=f32;go_simp;exact hK.out _ _ (Below.refl _ _) rfl
 try simp only[Act.put,lq1,lq2,lq3,lq4,lq5,lq6]
 refine Flow.nil (fun wE hS hf=>?_);have f33:=aS (f:=(Fact.eq (.bool true))) (hf (33,v33) ay) rfl;obtain rfl:v33=_:=f33;have hbE:=hB.trans (hS.2.2.2.2.mono hB.size);clear hf hS x0 x1 x2;show Exit.then _ _ .normal _ _;go_wp2
 go_ret;exact⟨_,rfl,hbE,rfl⟩
end Go.Proofs.YthmklhapjegfdaaGreatDoor
