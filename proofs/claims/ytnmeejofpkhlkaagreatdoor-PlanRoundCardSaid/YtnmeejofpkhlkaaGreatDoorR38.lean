/- parlourlaw16.awake. -/
import Derived.Test.YtnmeejofpkhlkaaGreatDoorR35
import Derived.Test.YtnmeejofpkhlkaaGreatDoorR34
import Derived.Test.YtnmeejofpkhlkaaGreatDoorR37
set_option linter.all false
set_option maxRecDepth 100000
set_option maxHeartbeats 12800000
namespace Go.Proofs.YtnmeejofpkhlkaaGreatDoor
open Lib renaming hid → Ag
open List renaming getElem_toArray → lq1, getElem_cons_zero → lq2, getElem_cons_succ → lq3, setIfInBounds_toArray → lq4, set_cons_zero → lq5, set_cons_succ → lq6
open Go.RowKit
def Fact.raws (l:List Raw):Fact:=⟨fun v w=>RawsAt w (fun _=>True) v l,fun _ _ _ h hb=>h.on (Below.same' hb _)⟩
def Fact.rows (m:List (List Raw)):Fact:=⟨fun v w=>RawRowsAt w (fun _=>True) v m,fun _ _ _ h hb=>h.on (Below.same' hb _)⟩
def Fact.seqs (l:List (Int×Int)):Fact:=⟨fun v w=>AB w (fun _=>True) v l,fun _ _ _ h hb=>h.on (Below.same' hb _)⟩
theorem fM {w:World} {b:Nat} {L:List RV} (h:Row w b 42 (L.flatMap RV.cells)) (hf:∀ q∈L,q.fine w (fun _=>True)):RawsAt w (fun _=>True) (.slice (some ⟨b,0,none⟩) L.length L.length) (L.map RV.r):=by
 refine⟨_,_,by rw[List.length_map],by rw[List.length_map]; exact Nat.le_refl _,fun _=>⟨b,0,rfl,trivial,h.lt,fun k r hk=>?_⟩⟩;rw[List.getElem?_map] at hk;cases hq:L[k]? with
 | none=>rw[hq] at hk; cases hk
 | some q =>
  rw[hq] at hk;cases hk;have hf:=hf q (List.mem_of_getElem? hq);have e:=fun j (hj:j < 3)=>mV (f:=RV.cells) (s:=3) (fun _=>rfl) L k j q hq hj
  refine⟨h.cell (by have:=e 0 ay; rw[Nat.zero_add]; exact this),⟨_,h.cell (by have:=e 1 ay; rw[Nat.zero_add]; exact this),hf.1⟩,⟨_,h.cell (by have:=e 2 ay; rw[Nat.zero_add]; exact this),hf.2⟩⟩
theorem all2 {p:RV→Prop} {a b:RV} (ha:p a) (hb:p b):∀ q∈[a,b],p q:=by
 intro q hq;simp only[List.mem_cons,List.not_mem_nil,or_false] at hq;rcases hq with rfl | rfl
 ·exact ha
 ·exact hb
theorem all3 {p:RV→Prop} {a:RV} (ha:p a):∀ q∈[a,a,a],p q:=by
 intro q hq;simp only[List.mem_cons,List.not_mem_nil,or_false,or_self] at hq;rw[hq];exact ha
theorem ajm {w:World} {b:Nat} {L:List (Int×Int)} (h:Row w b 60 (lN L)):AB w (fun _=>True) (.slice (some ⟨b,0,none⟩) L.length L.length) L:=by
 have h':Row w b 60 (lN L ++ []):=by rw[List.append_nil];exact h
 exact h'.pairs (G:=fun _=>True) trivial (Nat.le_refl _)
theorem aeL (w:World) (hT:Bz w):Calls Tryz.prog 62 #[] w (Ret w fun v _=>v = .bool true):=by
 have HT:=Ag hT;clear hT;go_in;have hB:=Below.refl w.heap.size w;go_wp2_with fail
 refine(aai w).mono ?_;rintro e wg ⟨vg,rfl,hb,hu⟩;refine ZM ?_;clear HT hB;intro HT hB;have HG:=Ag (hu.keep (G:=(fun _=>True)) (fun _ _ _=>trivial) (Same.refl _ _));obtain⟨vn,vi,rfl,⟨A,c,rfl,_,_⟩,⟨Ai,ci,rfl,_,_⟩⟩:=hu;clear hb;dsimp only;go_upto_region 2 with(fail)
 obtain⟨Wb,hWb,rx,hb,hz⟩:=aO wg 27 #[.int .i64 bg.aA,.slice A bg.nodes.length c,.slice Ai bg.infos.length ci];rw[← hWb];clear hWb;obtain⟨gb,hgb⟩:=named wg.heap.size;rw[← hgb] at rx ⊢;refine YR ?_;clear HG HT hB;intro HG HT hB;refine Zi ?_;intro x0 x1 x2;clear rx hb hz hgb;go_wp2_with fail
 refine(aeB Wb (fun _=>True) _ bg HG.out fE).mono ?_;rintro e wu ⟨_,rfl,hb,t,rfl,hu⟩;refine Yg ?_;clear x0 x1 x2;intro x0 x1 x2;refine YR ?_;clear HG HT hB;intro HG HT hB;rw[ade] at hu;rw[oW];have HM:=Ag (RawRowsAt.keep (G:=(fun _=>True)) hu (fun _ _ _=>trivial) (Same.refl _ _));obtain⟨Am,cm,rfl,_,_⟩:=hu;clear hb;dsimp only;go_wp2_with fail
 refine(rD wu (fun _=>True) _ _ bg _ HG.out fE HM.out HT.out ay ajh ahA adf).mono ?_;rintro e wo ⟨_,rfl,hb,t,rfl,hu⟩;refine Yg ?_;clear x0 x1 x2;intro x0 x1 x2;replace HG:=Ag (HG.out.on (Below.same' hb _));replace HM:=Ag (RawRowsAt.on HM.out (Below.same' hb _));refine ZM ?_;clear HT hB;intro HT hB;rw[aeH] at hu;rw[acd];refine zbM ?_;intro HR;obtain⟨Ar,cr,rfl,_,_⟩:=hu;clear HM;clear hb;dsimp only;go_wp2_with fail
 refine(lH wo (fun _=>True) _ bg HG.out fE).mono ?_;rintro e wp ⟨_,rfl,hb,t,rfl,hu⟩;refine Yg ?_;clear x0 x1 x2;intro x0 x1 x2;replace HG:=Ag (HG.out.on (Below.same' hb _));replace HR:=Ag (RawRowsAt.on HR.out (Below.same' hb _));refine ZM ?_;clear HT hB;intro HT hB;rw[abr] at hu;rw[aeI];have HP:=Ag (AB.keep (G:=(fun _=>True)) hu (fun _ _ _=>trivial) (Same.refl _ _));obtain⟨Ap,cp,rfl⟩:=hu.open;clear hu HG;clear hb;dsimp only;clear x0 x1 x2;go_wp2_with fail
 refine(fP wp 1 6 ay ay ay ay).mono ?_;rintro e wr ⟨u6,rfl,hb,hu⟩;refine zbu ?_;clear HR HP HT hB;intro HR HP;intro HT hB;have hu2:Ak wr (fun _=>True) u6 (aG (mkRat 1 6)):=hu.mono fun _ _ _=>trivial
 obtain⟨q6,hq6⟩:=named (aG (mkRat 1 6));obtain⟨q2,hq2⟩:=named (aG (mkRat 1 2));rw[← hq6] at hu2;have hrq:aaY.map (List.map aG) = [[q2,q2],[q2,q2],[q6,q6,q6]]:=by rw[hq2,hq6];rfl
 have hsq:=aeJ;rw[hrq] at hsq HR;have HSH:=Ag hsq;have HQ2:=Ag hq2;clear hq2 hq6 hrq hsq hu;obtain⟨A6,c6,B6,d6,rfl,hf6⟩:=Ak.opened hu2;have HF6:=Ag hf6;clear hu2 hf6;clear hb;dsimp only;go_upto_region 6 with(fail)
 obtain⟨Wc,hWc,rx,hb,hz⟩:=aO wr 42 #[.bool q6.neg,.slice A6 q6.num.length c6,.slice B6 q6.den.length d6];rw[← hWc];clear hWc;obtain⟨qb,hqb⟩:=named wr.heap.size;rw[← hqb] at rx ⊢;refine zbu ?_;clear HR HP HT hB;intro HR HP;intro HT hB;replace HF6:=Ag (RV.fine.below HF6.out hb);refine Zi ?_;intro x0 x1 x2;clear rx hb hz hqb;refine wp_region_held_drew (S:=fun w'=>w'.cell? ⟨qb,0,none⟩=some (.bool q6.neg)∧w'.cell? ⟨qb,1,none⟩=some (.slice A6 q6.num.length c6)∧w'.cell? ⟨qb,2,none⟩=some (.slice B6 q6.den.length d6)) ah ⟨x0,x1,x2⟩ (fun hHeld=>?_);have hb:Below Wc.heap.size Wc Wc.drew:=aI (Below.refl _ Wc) 1;refine Yg ?_;clear x0 x1 x2;intro x0 x1 x2;refine zbu ?_;clear HR HP HT hB;intro HR HP;intro HT hB;replace HF6:=Ag (RV.fine.below HF6.out hb);clear hb;generalize Wc.drew=wn at *;refine tkm [0,1,2,3,4,5,6,7,8,9,10,11,18,19,20] ?_;refine lG (js:=[12,13,14,15,16,17,21,22,23,24,25,26,27,28,29,30,31,32,33]) ((Hold.cell (qb) 0 (.bool q6.neg)).and ((Hold.cell (qb) 1 (.slice A6 q6.num.length c6)).and ((Hold.cell (qb) 2 (.slice B6 q6.den.length d6)).and (Hold.below wn.heap.size wn)))) [(12,(Fact.raw (fun _=>True) q2)),(13,(Fact.raw (fun _=>True) q2)),(14,(Fact.raws [q2,q2])),(15,(Fact.raw (fun _=>True) q2)),(16,(Fact.raw (fun _=>True) q2)),(17,(Fact.raws [q2,q2])),(21,(Fact.raws [q6,q6,q6])),(22,(Fact.rows [[q2,q2],[q2,q2],[q6,q6,q6]])),(23,(Fact.eq (.bool true))),(24,(Fact.eq (.bool true))),(25,(Fact.eq (.bool true))),(26,(Fact.eq (.slice Ap 3 cp))),(27,(Fact.eq (.agg #[.int .i64 (-1),.int .i64 (-1)]))),(28,(Fact.eq (.agg #[.int .i64 (-1),.int .i64 (-1)]))),(29,(Fact.eq (.agg #[.int .i64 0,.int .i64 1]))),(30,(Fact.seqs [(-1,-1),(-1,-1),(0,1)])),(31,(Fact.eq (.bool true))),(32,(Fact.eq (.bool true))),(33,(Fact.eq (.bool true)))] ah ⟨x0,x1,x2,⟨Nat.le_refl _,Below.refl _ _⟩⟩ (fun _ h=>⟨h.1,h.2.1,h.2.2.1⟩) ?_;refine Flow.cons (o:=_) rfl (fun wk hS hf K hK=>?_) (fun v12=>?_)
 ·go_simp;exact Z4
 refine Zb ?_;refine Flow.cons (o:=_) rfl (fun wk hS hf K hK=>?_) (fun v13=>?_)
 ·go_simp;exact Z4
 refine Zb ?_;refine Flow.cons (o:=_) rfl (fun wk hS hf K hK=>?_) (fun v14=>?_)
 ·have f12:=aJ (f:=(Fact.raw (fun _=>True) q2)) (hf (12,v12) aB ah) rfl;have f13:=aJ (f:=(Fact.raw (fun _=>True) q2)) (hf (13,v13) aB ah) rfl;obtain⟨A1,c1,B1,d1,rfl,hf1⟩:=Ak.opened f12;obtain⟨A2,c2,B2,d2,rfl,hf2⟩:=Ak.opened f13;go_simp;exact Yd
 refine Zb ?_;refine Flow.cons (o:=_) rfl (fun wk hS hf K hK=>?_) (fun v15=>?_)
 ·go_simp;exact Z4
 refine Zb ?_;refine Flow.cons (o:=_) rfl (fun wk hS hf K hK=>?_) (fun v16=>?_)
 ·go_simp;exact Z4
 refine Zb ?_;refine Flow.cons (o:=_) rfl (fun wk hS hf K hK=>?_) (fun v17=>?_)
 ·have f15:=aJ (f:=(Fact.raw (fun _=>True) q2)) (hf (15,v15) aB ah) rfl;have f16:=aJ (f:=(Fact.raw (fun _=>True) q2)) (hf (16,v16) aB ah) rfl;obtain⟨A1,c1,B1,d1,rfl,hf1⟩:=Ak.opened f15;obtain⟨A2,c2,B2,d2,rfl,hf2⟩:=Ak.opened f16;go_simp;exact Yd
 refine Zb ?_;refine Flow.cons (o:=_) rfl (fun wk hS hf K hK=>?_) (fun v21=>?_)
 ·have hf6:=RV.fine.keep (G:=fun _=>True) HF6.out (fun _ _ _=>trivial) (Below.same' hS.2.2.2.2 _);go_simp;obtain⟨W1,hw,hr,hb,hz⟩:=bH wk 42 #[.bool q6.neg,.slice A6 q6.num.length c6,.slice B6 q6.den.length d6,.bool q6.neg,.slice A6 q6.num.length c6,.slice B6 q6.den.length d6,.bool q6.neg,.slice A6 q6.num.length c6,.slice B6 q6.den.length d6];rw[← hw];exact hK.out _ _ hb (fM (L:=[⟨q6,.slice A6 q6.num.length c6,.slice B6 q6.den.length d6⟩,⟨q6,.slice A6 q6.num.length c6,.slice B6 q6.den.length d6⟩,⟨q6,.slice A6 q6.num.length c6,.slice B6 q6.den.length d6⟩]) hr (all3 (RV.fine.below hf6 hb)))
 refine Zb ?_;refine Flow.cons (o:=_) rfl (fun wk hS hf K hK=>?_) (fun v22=>?_)
 ·have f14:=aJ (f:=(Fact.raws [q2,q2])) (hf (14,v14) aB ah) rfl;have f17:=aJ (f:=(Fact.raws [q2,q2])) (hf (17,v17) aB ah) rfl;have f21:=aJ (f:=(Fact.raws [q6,q6,q6])) (hf (21,v21) aB ah) rfl;have g14:=f14;have g17:=f17;have g21:=f21;obtain⟨A4,c4,rfl,_,_⟩:=g14;obtain⟨A5,c5,rfl,_,_⟩:=g17;obtain⟨A7,c7,rfl,_,_⟩:=g21;go_simp;obtain⟨W1,hw,hr,hb,hz⟩:=bH wk 38 #[.slice A4 2 c4,.slice A5 2 c5,.slice A7 3 c7];rw[← hw];exact hK.out _ _ hb (abS hr trivial (RawsAt.on f14 (Below.same' hb _)) (RawsAt.on f17 (Below.same' hb _)) (RawsAt.on f21 (Below.same' hb _)))
 refine Zb ?_;refine Flow.cons (o:=_) rfl (fun wk hS hf K hK=>?_) (fun v23=>?_)
 ·have f22:=aJ (f:=(Fact.rows [[q2,q2],[q2,q2],[q6,q6,q6]])) (hf (22,v22) aB ah) rfl;have g22:=f22;obtain⟨A8,c8,rfl,_,_⟩:=g22;have hr0:=RawRowsAt.on HR.out (Below.same' hS.2.2.2.2 _);go_simp;refine(jy wk (fun _=>True) _ _ _ _ hr0 f22 HSH.out HSH.out).mono ?_;exact zaR
 refine Zb ?_;refine Flow.cons (o:=_) rfl (fun wk hS hf K hK=>?_) (fun v24=>?_)
 ·have f23:=aJ (f:=(Fact.eq (.bool true))) (hf (23,v23) aB ah) rfl;obtain rfl:v23=_:=f23;go_simp;exact Zv
 refine Zb ?_;refine Flow.cons (o:=_) rfl (fun wk hS hf K hK=>?_) (fun v25=>?_)
 ·refine zb3 ?_;intro f24;obtain rfl:v24=_:=f24;go_simp;exact Zv
 refine Zb ?_;refine Flow.cons (o:=_) rfl (fun wk hS hf K hK=>?_) (fun v26=>?_)
 ·refine Y3 ?_;intro f25;obtain rfl:v25=_:=f25;go_simp;exact Zv
 refine Zb ?_;refine Flow.cons (o:=_) rfl (fun wk hS hf K hK=>?_) (fun v27=>?_)
 ·refine Y3 ?_;intro f25;obtain rfl:v25=_:=f25;go_simp;exact Zv
 refine Zb ?_;refine Flow.cons (o:=_) rfl (fun wk hS hf K hK=>?_) (fun v28=>?_)
 ·refine Y3 ?_;intro f25;obtain rfl:v25=_:=f25;go_simp;exact Zv
 refine Zb ?_;refine Flow.cons (o:=_) rfl (fun wk hS hf K hK=>?_) (fun v29=>?_)
 ·refine Y3 ?_;intro f25;obtain rfl:v25=_:=f25;go_simp;exact Zv
 refine Zb ?_;refine Flow.cons (o:=_) rfl (fun wk hS hf K hK=>?_) (fun v30=>?_)
 ·refine Y3 ?_;intro f25;have f27:=aJ (f:=(Fact.eq (.agg #[.int .i64 (-1),.int .i64 (-1)]))) (hf (27,v27) aB ah) rfl;have f28:=aJ (f:=(Fact.eq (.agg #[.int .i64 (-1),.int .i64 (-1)]))) (hf (28,v28) aB ah) rfl;have f29:=aJ (f:=(Fact.eq (.agg #[.int .i64 0,.int .i64 1]))) (hf (29,v29) aB ah) rfl;obtain rfl:v25=_:=f25;obtain rfl:v27=_:=f27;obtain rfl:v28=_:=f28;obtain rfl:v29=_:=f29;go_simp;obtain⟨W1,hw,hr,hb,hz⟩:=bH wk 60 #[.int .i64 (-1),.int .i64 (-1),.int .i64 (-1),.int .i64 (-1),.int .i64 0,.int .i64 1];rw[← hw];exact hK.out _ _ hb (ajm (L:=[(-1,-1),(-1,-1),(0,1)]) hr)
 refine Zb ?_;refine Flow.cons (o:=_) rfl (fun wk hS hf K hK=>?_) (fun v31=>?_)
 ·refine Y3 ?_;intro f25;have f26:=aJ (f:=(Fact.eq (.slice Ap 3 cp))) (hf (26,v26) aB ah) rfl;have f30:=aJ (f:=(Fact.seqs [(-1,-1),(-1,-1),(0,1)])) (hf (30,v30) aB ah) rfl;obtain rfl:v25=_:=f25;obtain rfl:v26=_:=f26;have g30:=f30;obtain⟨A9,c9,rfl,_,_⟩:=g30;have hp0:=AB.on HP.out (Below.same' hS.2.2.2.2 _);go_simp;refine(adb wk (fun _=>True) _ _ _ _ hp0 f30 ay).mono ?_;exact zaR
 refine Zb ?_;refine Flow.cons (o:=_) rfl (fun wk hS hf K hK=>?_) (fun v32=>?_)
 ·refine Y3 ?_;intro f25;have f31:=aJ (f:=(Fact.eq (.bool true))) (hf (31,v31) aB ah) rfl;obtain rfl:v25=_:=f25;obtain rfl:v31=_:=f31;go_simp;exact Zv
 refine Zb ?_;refine Flow.cons (o:=_) rfl (fun wk hS hf K hK=>?_) (fun v33=>?_)
 ·have f32:=aJ (f:=(Fact.eq (.bool true))) (hf (32,v32) aB ah) rfl;obtain rfl:v32=_:=f32;go_simp;exact Zv
 refine Zb ?_;refine Flow.nil (fun wE hS hf=>?_);have f33:=aJ (f:=(Fact.eq (.bool true))) (hf (33,v33) aB) rfl;obtain rfl:v33=_:=f33;have hbE:=hB.trans (hS.2.2.2.2.mono hB.size);clear hf hS x0 x1 x2;refine Yb ?_;go_wp2
 go_ret;exact⟨_,rfl,hbE,rfl⟩
end Go.Proofs.YtnmeejofpkhlkaaGreatDoor
