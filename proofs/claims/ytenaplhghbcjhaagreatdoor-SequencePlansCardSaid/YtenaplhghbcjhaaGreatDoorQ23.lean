import Derived.Test.YtenaplhghbcjhaaGreatDoorQ19
import Derived.Test.YtenaplhghbcjhaaGreatDoorQ22
set_option linter.all false
set_option maxRecDepth 100000
set_option maxHeartbeats 0
namespace Go.Proofs.YtenaplhghbcjhaaGreatDoor
open Go.RowKit.Below renaming refl->GR
open Below renaming same'->GL
open Go renaming Value->GN
open Go.Value renaming bool->G7,slice->Gw
open List renaming getElem?_map->GY,length_append->G9,length_map->Gz,map->Iq,map_append->Hf,mem_of_getElem?->Gx,take_of_length_le->G8
open Nat renaming le_refl->Gy,zero_le->Hg
open Same renaming refl->GZ
open Tryz renaming infoRat->JR
open Go.Proofs.Tryz renaming prog->GI,underlying40->Ie
open Go.World renaming alloc->G5,cell?_of_block->Hu
open List renaming getElem_toArray → lq1, getElem_cons_zero → lq2, getElem_cons_succ → lq3, setIfInBounds_toArray → lq4, set_cons_zero → lq5, set_cons_succ → lq6
open Go.RowKit
def Fact.empty:Fact:=⟨λv _=>∃ b,v = Gw (some ⟨b,0,none⟩) 0 0,λ_ _ _ h _=>h⟩
theorem aiw (w:World) (F:Gq) (v:GN) (r:Raw) (hv:Ak w F v r) (l1:r.num.length<=500000) (l2:r.den.length<=500000) :
  Calls GI 21 #[v] w (Ret w λu w'=>Ak w' (λb=>w.heap.size<=b) u r):=by
 have hv0:=hv.old;clear hv;obtain⟨vn,vd,rfl,hn,hd⟩:=hv0;have HN:=Ag hn;have HD:=Ag hd;obtain⟨A,c,rfl,_,_⟩:=hn;obtain⟨B,d,rfl,_,_⟩:=hd;go_in;go_wp2_with fail
 generalize hW:G5 _ _=W;obtain⟨rx,rz,hB,hz⟩:=gW hW;clear hW;replace HN:=Ag (HN.o.below hB);replace HD:=Ag (HD.o.below hB);have hz:w.heap.size+2<=W.heap.size:=hz;refine Zd ?_;intro x0 x1 x2;clear rx;refine aP (λw'=>w'.cell? ⟨w.heap.size,0,none⟩=some (G7 r.neg)/\w'.cell? ⟨w.heap.size,1,none⟩=some (Gw A r.num.length c)/\w'.cell? ⟨w.heap.size,2,none⟩=some (Gw B r.den.length d)) 11 1 aj rfl aj ⟨x0,x1,x2⟩ λhHeld=>?_
 refine Zo ?_;refine Yx ?_;intro hb;refine Zx ?_;clear x0 x1 x2;intro x0 x1 x2;replace HN:=Ag (HN.o.below hb);replace HD:=Ag (HD.o.below hb);refine ZA ?_;clear rz hz hB hb;intro rz hz hB;generalize W.drew=wn at *;refine tkm [0,1,3,4,7,8] ?_;refine jH (js:=[2,5,6,9,10]) ((Hold.cell (w.heap.size) 0 (G7 r.neg)).and ((Hold.cell (w.heap.size) 1 (Gw A r.num.length c)).and ((Hold.cell (w.heap.size) 2 (Gw B r.den.length d)).and ((Hold.of (Fact.limbs (Old F w.heap.size) r.num) (Gw A r.num.length c)).and ((Hold.of (Fact.limbs (Old F w.heap.size) r.den) (Gw B r.den.length d)).and (Hold.below (w.heap.size+2) wn)))))) [(2,Fact.empty),(5,Fact.limbs (λb=>w.heap.size+2<=b) r.num),(6,Fact.empty),(9,Fact.limbs (λb=>w.heap.size+2<=b) r.den),(10,Fact.raw (λb=>w.heap.size+2<=b) r)] aj ⟨x0,x1,x2,HN.o,HD.o,⟨hz,(GR _ _).mono (Gy _)⟩⟩ (λ_ h=>⟨h.1,h.2.1,h.2.2.1⟩) ?_;refine Flow.cons (o:=_) rfl (λwk hS hf K hK=>?_) (λv2=>?_)
 ·go_simp;exact hK.out _ _ ((GR _ _).alloc (Gy _) _) ⟨_,rfl⟩
 refine Zb ?_;refine Flow.cons (o:=_) rfl (λwk hS hf K hK=>?_) (λv5=>?_)
 ·have f2:=aX (hf (2,v2) aA aj) rfl;obtain⟨b2,rfl⟩:=f2;refine ant rfl ?_;refine rJ (F:=Old F w.heap.size) _ _ 40 Ie rfl (some ⟨b2,0,none⟩) (λ_ h=>by cases h; exact⟨_,rfl⟩) _ r.num rfl rfl hS.2.2.2.1 FI ?_;exact zc4
 refine Zb ?_;refine Flow.cons (o:=_) rfl (λwk hS hf K hK=>?_) (λv6=>?_)
 ·go_simp;exact hK.out _ _ ((GR _ _).alloc (Gy _) _) ⟨_,rfl⟩
 refine Zb ?_;refine Flow.cons (o:=_) rfl (λwk hS hf K hK=>?_) (λv9=>?_)
 ·have f6:=aX (hf (6,v6) aA aj) rfl;obtain⟨b6,rfl⟩:=f6;refine ant rfl ?_;refine rJ (F:=Old F w.heap.size) _ _ 40 Ie rfl (some ⟨b6,0,none⟩) (λ_ h=>by cases h; exact⟨_,rfl⟩) _ r.den rfl rfl hS.2.2.2.2.1 FI ?_;exact zc4
 refine Zb ?_;refine Flow.cons (o:=_) rfl (λwk hS hf K hK=>?_) (λv10=>?_)
 ·have f5:=aX (hf (5,v5) aA aj) rfl;have f9:=aX (hf (9,v9) aA aj) rfl;have g4:=f5;have g5:=f9;obtain⟨A4,c4,rfl,_,_⟩:=g4;obtain⟨A5,c5,rfl,_,_⟩:=g5;go_simp;exact hK.out _ _ (GR _ _) (Ak.make rfl f5 f9)
 refine Zb ?_;refine Flow.nil (λwE hS hf=>?_);have f10:=aX (hf (10,v10) aA) rfl;have hBe:=hS.2.2.2.2.2.2;have f11:=f10;obtain⟨vn6,vd6,hv6,hn6,hd6⟩:=f11;obtain⟨A6,c6,rfl,_,_⟩:=hn6;obtain⟨B6,d6,rfl,_,_⟩:=hd6;dsimp only at hv6;subst hv6;have hrz:=rz.of_block (hBe.block _ FI);have hBE:Below w.heap.size w wE:=hB.trans (hBe.mono FI);have HF:=Ag f10;clear hf hS f10 x0 x1 x2 rz;refine zdr ?_;refine zcg ?_;intro q0 y0 q1 y1 q2 y2;go_wp2
 refine Z4 ?_;go_wp2
 obtain⟨Wz,hWz,hrz,hwz,hkz⟩:=aY hrz (G7 r.neg) (Gw A6 r.num.length c6) (Gw B6 r.den.length d6);refine Zg ?_;clear hWz q0 q1 q2 y0 y1 y2;intro t0 t1 t2;refine bodyPost_ret (v:=.agg #[G7 r.neg,Gw A6 r.num.length c6,Gw B6 r.den.length d6]) (by simp[results,Tryz.results21,go_sem,t0,t1,t2]) rfl ?_;exact⟨_,rfl,hwz _ _ FI hBE,Ak.keep HF.o (λb hb _=>Nat.le_trans (Nat.le_add_right _ 2) hb) (hkz _ (λh=>by omega))⟩
theorem ac3 (w:World) (F:Gq) (v:GN) (l:List Raw) (hv:Gs w F v l) (hs:Bd l) :
  Calls GI 7 #[v] w (Ret w λv w'=>Gs w' (λb=>w.heap.size<=b) v l):=by
 have HV:=Ag hv;have HS:=Ag hs;have hl:=hs.1;obtain⟨A,c,rfl,hc,_⟩:=hv;clear hs;go_in;go_wp2
 go_loopw [3,4] (λu i wr=>∃ (k:Nat) (L:List RV),k<=l.length/\i = .int .i64 (k:Int)/\L.length=k/\L.map RV.r=l.take k/\Bj wr w.heap.size 42 (λb=>w.heap.size<=b) u L/\Below w.heap.size w wr) (λ_ i _=>l.length - (intOf i).toNat)
 case atStart=>exact⟨0,[],FI,rfl,rfl,rfl,Bj.nil _ _ _ _,GR _ _⟩
 case round =>
  obtain⟨k,L,hk,rfl,hLl,hLr,hown,hbel⟩:=hrel;have HO:=Ag hown;have HL:=Ag hLr;have HLL:=Ag hLl;clear hown hLr hLl;by_cases hlt:k < l.length
  ·obtain⟨x,hxk⟩:=Gl hlt;obtain⟨bb,o,cc,vn,vd,e1,hF1,hlt1,x0,x1,x2,i1,i2⟩:=Gs.at HV.o hxk;injection e1 with e11 e12 e13
   subst e11;clear e12 e13;have V1:=Ag ((show Ak w F _ x from⟨vn,vd,rfl,i1,i2⟩).below hbel);obtain⟨An,cn,rfl,_,_⟩:=i1;obtain⟨Ad,cd,rfl,_,_⟩:=i2;have L1:=Ag (HS.o.2 x (Gx hxk));have HXK:=Ag hxk;have hold:=aK hbel;clear hxk;have hz:=hbel.size;go_wp2_with fail
   refine(aiw wr F _ x V1.o L1.o.1 L1.o.2).mono ?_;rintro e w2 ⟨vm,rfl,hb2,hu⟩;obtain⟨q,hq,rfl,hqf⟩:=Ak.rv hu;have fC:=hbel.trans (hb2.mono hbel.size);have HO2:=Ag (HO.o.below hb2);have HF:=Ag (show q.fine w2 (Apart (λb=>w.heap.size<=b) u3) from hqf.keep (λb hb _=>⟨FI,λe=>by have:=(HO.o.row.lt b e).2; omega⟩) (GZ _ _));have HQ:=Ag hq;clear hqf hu hq hb2 hold hbel x0 x1 x2;dsimp only[RV.cells];go_wp2_with (at_builtin; refine wV (F:=λb=>w.heap.size<=b) rfl _ _ 29 42 Tryz.underlying29 JR rfl w.heap.size (Gy _) u3 L rfl q (by have:=HLL.o; omega) rfl HO2.o HF.o fC ?_; intro g cap w' hown' bG hlt'; have HO':=Ag hown')
   go_roundw
   case rel=>exact⟨k+1,L ++ [q],FI,by go_num,by rw[G9,HLL.o]; rfl,by rw[Hf,HL.o,Gv HXK.o,List.map_cons,List.map_nil,HQ.o],HO'.o,bG⟩
   case measure=>exact zMs
  ·go_wp2
   go_ret;refine zdM ?_;intro h5;exact h5
theorem Tryz.infoRats:(Tryz.prog.info? 28).map (λi=>(i.zero,i.size,i.bytes))=some (some (Gw none 0 0),rG.n,24):=aj
theorem agR (xs ys:List Rat):nH (xs++ys)=if nH xs≠0 then nH xs else nH ys:=by grind [nH]
theorem al2 (x:Rat):nH [x]=fP x:=by grind [nH,fP]
theorem aez {x:Rat} (h:fP x=0):dR x=ak x:=by grind [fP,dR]
theorem al3 {xs:List Rat} {x:Rat} (hx:x∈xs) (h:fP x=5):nH xs=5:=by grind [nH,fP]
def aaD (m:List (List Rat)):List (List Raw):=if nH m.flatten≠0 then [] else m.map (Iq ak)
theorem akr {m:List (List Rat)} {k:Nat} {l:List Rat} (h:m[k]? = some l):(m.take (k+1)).flatten=(m.take k).flatten++l:=by rw[Gv h,List.flatten_append]; simp
theorem aks (w:World) (F:Gq) (v:GN) (m:List (List Rat)) (hv:Gt w F v (m.map (Iq ay))) (hl:m.length<=1000) (hr:∀ l∈m,l.length<=1000) (hf:∀ l∈m,∀ x∈l,rl x<=100000) :
  Calls GI 75 #[v] w (Ret w λu w'=>∃ t,u = .tuple #[t,.int .i64 (nH m.flatten)]/\Gt w' (λb=>w.heap.size<=b) t (aaD m)):=by
 have HV:=Ag hv;obtain⟨A,c,rfl,hc,_⟩:=hv;obtain⟨n,hn⟩:=Gp m.length;have hnn:(m.map (Iq ay)).length=n:=by rw[Gz,hn]
 rw[hnn] at hc HV ⊢;have HR:=Ag hr;have HF:=Ag hf;rw[<-hn] at hl;have HNL:=Ag hn;clear hr hf hn hnn;go_in;go_wp2_with (at_make; refine fG _ rfl _ _ 27 rfl 28 (Gw none 0 0) 24 Tryz.underlying27 Tryz.infoRats rfl n rfl rfl FI FI ?_; intro w1 hb1 hz1 hm1)
 obtain⟨bo,hbo⟩:=Gp w.heap.size;rw[<-hbo] at hm1 ⊢;have hbo1:bo < w1.heap.size:=FI;have hbow:w.heap.size<=bo:=FI;have HM1:=Ag (show Row w1 bo 28 (restN [] n) by rw[restN_nil]; exact hm1);have HB1:=Ag hb1;clear hm1 hb1 hz1 hbo;go_loopw [16] (λi wr=>∃ (k:Nat) (vs:List GN),k<=n/\i = .int .i64 (k:Int)/\vs.length=k/\Row wr bo 28 (restN vs n)/\DoneRows wr (λb=>w1.heap.size<=b) vs ((m.take k).map (Iq ak))/\nH (m.take k).flatten=0/\Below w.heap.size w wr/\w1.heap.size<=wr.heap.size) (λi _=>n - (intOf i).toNat)
 case atStart=>exact⟨0,[],Hg _,rfl,rfl,HM1.o,DoneRows.nil _ _,rfl,HB1.o,Gy _⟩
 case round =>
  clear HM1 HB1;obtain⟨k,vs,hk,rfl,hvl,hrow,hdone,herr,hB,hz⟩:=hrel;obtain⟨wa,rfl⟩:=Gp wr;have HD:=Ag hdone;have HE:=Ag herr;have HVL:=Ag hvl;clear hdone herr hvl;by_cases hlt:k < n
  ·obtain⟨row,hrw⟩:=Gl (l:=m) (k:=k) (by rw[<-HNL.o]; exact hlt);obtain⟨b,o,cc,u,e2,_,hbw,x0,i1⟩:=Gt.at HV.o (k:=k) (l:=row.map ay) (by rw[GY,hrw]; rfl);injection e2 with e21 e22 e23
   subst e21;clear e22 e23;have HU:=Ag i1;obtain⟨Ar,cr,rfl,_,_⟩:=i1;obtain⟨rn,hrn⟩:=Gp row.length;have hrn2:(row.map ay).length=rn:=by rw[Gz,hrn]
   rw[hrn2] at x0 HU;have hmem:=Gx hrw;have hrl:rn<=1000:=by rw[hrn];exact HR.o row hmem
   have HRF:=Ag (HF.o row hmem);have HRW:=Ag hrw;have HRN:=Ag hrn;rw[<-aK hB _ _ hbw] at x0;have HRO:=Ag (show Row wa bo 28 (nowN vs (Gw none 0 0) n) by rw[nowN_nil (by rw[HVL.o]; exact hlt)]; exact hrow);have HBA:=Ag hB;clear hrw hrn hrn2 hmem hrow hB;go_wp2
   go_loopw [23] (λi wr=>∃ (j:Nat) (L:List RV) (u:GN),j<=rn/\i = .int .i64 (j:Int)/\L.length=j/\L.map RV.r=(row.take j).map ak/\Row wr bo 28 (nowN vs u n)/\OwnSl ratK wr wa.heap.size 42 (λb=>wa.heap.size<=b) u L/\nH (row.take j)=0/\DoneRows wr (λb=>w1.heap.size<=b/\b < wa.heap.size) vs ((m.take k).map (Iq ak))/\Below w.heap.size w wr/\wa.heap.size<=wr.heap.size) (λi _=>rn - (intOf i).toNat)
   case atStart=>exact⟨0,[],Gw none 0 0,Hg _,rfl,rfl,rfl,HRO.o,OwnSl.nil _ _ _ _ _,rfl,HD.o.keep (λb hb hl=>⟨hb,hl⟩) (GZ _ _),HBA.o,Gy _⟩
   case round =>
    clear x0 HRO HBA HD;obtain⟨j,L,u,hj,rfl,hLl,hLm,hrow,hown,herr,hdone,hB,hz2⟩:=hrel;obtain⟨wb,rfl⟩:=Gp wr;have HD:=Ag hdone;have HO:=Ag hown;have HLL:=Ag hLl;have HLM:=Ag hLm;have HER:=Ag herr;clear hdone hown hLl hLm herr;by_cases hjt:j < rn
    ·obtain⟨x,hx⟩:=Gl (l:=row) (k:=j) (by rw[<-HRN.o]; exact hjt);obtain⟨eb,eo,cc,vn,vd,e2,hFe,hew,e0,e1,e2',hfn,hfd⟩:=Gs.at HU.o (k:=j) (r:=ay x) (by rw[GY,hx]; rfl);injection e2 with e21 e22 e23
     subst e21;clear e22 e23;have HX:=Ag (show Ak w F (.agg #[G7 (ay x).neg,vn,vd]) (ay x) from Ak.make rfl hfn hfd);obtain⟨An,cn,rfl,_,_⟩:=hfn;obtain⟨Ad,cd,rfl,_,_⟩:=hfd;have hold:=aK hB;rw[<-hold _ _ hew] at e0 e1 e2';have hrlx:=HRF.o x (Gx hx);have HXJ:=Ag hx;clear hx hold;have hBs:=hB.size;go_wp2_with fail
     generalize hW2:G5 _ _=W2;obtain⟨rz,hB2,hzz⟩:=aI hW2;replace HX:=Ag ((Ak.on HX.o (GL hB F)).below hB2);replace HO:=Ag (HO.o.below hB2);replace HD:=Ag (HD.o.keep (λ_ h _=>h) (GL hB2 _));replace hrow:=hrow.below hB2 hrow.lt;replace hB:=hB.trans (hB2.mono hB.size);have hz3:=hB2.size;have q0:=rz.cell (i:=0) rfl;have q1:=rz.cell (i:=1) rfl;have q2:=rz.cell (i:=2) rfl;have HUB:=Ag (λb (e:u.ownBlock=some b)=>(HO.o.row.lt b e).2);clear hW2 hB2 hzz rz e0 e1 e2';go_wp2_with fail
     refine(acX W2 F _ x HX.o hrlx).mono ?_;rintro e w3 ⟨t,rfl,hb,u3,rfl,hu3⟩;replace HO:=Ag (HO.o.below hb);replace HD:=Ag (HD.o.keep (λ_ h _=>h) (GL hb _));replace hrow:=hrow.below hb hrow.lt;refine ZM ?_;clear hB;intro hB;have hz4:=hb.size;obtain⟨A1,c1,B1,d1,rfl,bH⟩:=hu3.opened;clear hu3 hb q0 q1 q2 HX;obtain⟨oe,hoe⟩:=Gp (fP x);have hcs:oe=0\/oe=5:=by rw[hoe];exact anr
     rw[<-hoe];have HOE:=Ag hoe;clear hoe;have HFN:=Ag bH;clear bH;dsimp only;go_upto_region 9 with(fail)
     generalize hW4:G5 _ _=W4;obtain⟨rr,hb4,hzz⟩:=aI hW4;replace HO:=Ag (HO.o.below hb4);replace HD:=Ag (HD.o.keep (λ_ h _=>h) (GL hb4 _));replace HFN:=Ag (RV.fine.keep HFN.o (λ_ h _=>h) (GL hb4 _));replace hrow:=hrow.below hb4 hrow.lt;replace hB:=hB.trans (hb4.mono hB.size);have hz5:=hb4.size;have q0:=rr.cell (i:=0) rfl;have q1:=rr.cell (i:=1) rfl;have q2:=rr.cell (i:=2) rfl;clear hW4 hb4 rr;rcases hcs with rfl | rfl
     ·have hcu:=hrow.cell (i:=k) (show(nowN vs u n)[k]? = some u by rw[<-HVL.o]; exact nowN_get);have hcf:=hrow.frozen k;go_wp2_with fail
      refine aP (λw'=>w'.cell? ⟨bo,k,none⟩=some u/\w'.cell? ⟨w3.heap.size,0,none⟩=some (G7 (dR x).neg)/\w'.cell? ⟨w3.heap.size,1,none⟩=some (Gw A1 (dR x).num.length c1)/\w'.cell? ⟨w3.heap.size,2,none⟩=some (Gw B1 (dR x).den.length d1)) 10 1 aj rfl aj ⟨hcu,q0,q1,q2⟩ λhHeld=>?_
      refine Zo ?_;have hb:Below W4.heap.size W4 W4.drew:=aG (GR _ W4) 1;obtain⟨wn,hwn⟩:=Gp W4.drew;rw[<-hwn] at hb hHeld ⊢;replace HO:=Ag (HO.o.below hb);replace HD:=Ag (HD.o.keep (λ_ h _=>h) (GL hb _));replace HFN:=Ag (RV.fine.keep HFN.o (λ_ h _=>h) (GL hb _));replace hrow:=hrow.below hb hrow.lt;refine ZM ?_;clear hB;intro hB;have hz6:=hb.size;obtain⟨hcu,q0,q1,q2⟩:=id hHeld;clear hb hwn;refine tkm [0,1,2,3,4,5,6] ?_;refine tk2 7 aj rfl λK hK=>?_
      go_simp;refine hK.out _ _ ⟨ah hcu ((GR _ _).alloc (Gy _) _),ah q0 ((GR _ _).alloc (Gy _) _),ah q1 ((GR _ _).alloc (Gy _) _),ah q2 ((GR _ _).alloc (Gy _) _)⟩ (λhHeld=>?_);clear hK K;refine Zb ?_;refine tk2 8 aj rfl λK hK=>?_
      refine mQ (K:=ratK) (F:=λb=>wa.heap.size<=b) rfl _ _ 28 42 56 _ Tryz.underlying28 JR rfl au rfl wa.heap.size (by omega:wa.heap.size<=wn.heap.size) u L rfl ⟨dR x,Gw A1 (dR x).num.length c1,Gw B1 (dR x).den.length d1⟩ _ rfl (by have:=HLL.o; omega) rfl HO.o (RV.fine.keep HFN.o (λb hb _=>⟨FI,λe=>by have:=HUB.o b e; omega⟩) (GZ _ _)) (GR _ _) ?_;intro gg cap w5 hown5 oh adX jr;have xu:Row w5 bo _ _:=hrow.of_block (jr.2 bo (λe=>by have:=(HO.o.row.lt bo e).1; omega) hrow.lt);have HD5:=Ag (HD.o.keep (λ_ h _=>h) (jr.mono λb hb e=>by have:=(HO.o.row.lt b e).1; omega));have hB5:=hB.trans (oh.mono (show w.heap.size<=wa.heap.size by omega));have aix:=xu.cell (i:=k) (show(nowN vs u n)[k]? = some u by rw[<-HVL.o]; exact nowN_get);have aow:=xu.frozen k;have hblk:=jr.2 w3.heap.size (λe=>by have:=HUB.o _ e; omega) FI;have HO5:=Ag hown5;refine hK.out _ _ ⟨aix,(Hu hblk).trans q0,(Hu hblk).trans q1,(Hu hblk).trans q2⟩ (λhHeld=>?_);clear hrow hB hcu hcf q0 q1 q2 hown5 hblk jr oh;clear hK K;refine Zb ?_;refine tkm [9] ?_;refine Zp ?_;clear hHeld;go_wp2
      refine ZW ?_;go_wp2
      go_roundw
      case rel =>
       have hro:dR x=ak x:=aez HOE.o.symm;have hS:∀ (G:Gq),(∀ b,G b->b≠bo)->Same G w5 (w5.setCell ⟨bo,k,none⟩ (Gw (some ⟨gg,0,none⟩) (L.length+1) cap)):=λG hG=>Same.setCell G w5 (p:=⟨bo,k,none⟩) (λh=>hG bo h rfl) _
       refine⟨j+1,L ++ [⟨dR x,Gw A1 (dR x).num.length c1,Gw B1 (dR x).den.length d1⟩],Gw (some ⟨gg,0,none⟩) (L.length+1) cap,FI,by go_num,by rw[G9,HLL.o]; rfl,?_,?_,HO5.o.same (hS _ λb hb=>by omega),?_,HD5.o.keep (λ_ h _=>h) (hS _ λb hb=>by omega),hB5.setCell (p:=⟨bo,k,none⟩) hbow _,aB⟩
       ·rw[Hf,HLM.o,Gv HXJ.o,Hf];show _ ++ [dR x]=_ ++ [ak x];rw[hro]
       ·have:=xu.set k (Gw (some ⟨gg,0,none⟩) (L.length+1) cap);rwa [<-HVL.o,nowN_set,HVL.o] at this
       ·rw[Gv HXJ.o,agR,HER.o,al2,<-HOE.o];rfl
      case measure=>exact zMs
     ·have h5:=al3 (xs:=m.flatten) (x:=x) (List.mem_flatten.2 ⟨row,Gx HRW.o,Gx HXJ.o⟩) HOE.o.symm;have HE5:=Ag h5;clear h5;go_wp2
      go_ret2;refine⟨_,rfl,hB,_,by rw[HE5.o]; rfl,?_⟩;unfold aaD;rw[LH (by rw[HE5.o]; decide)];exact Gt.nil _ _
    ·have hje:j=rn:=FI;subst hje;go_wp2
     go_roundw
     case rel =>
      refine⟨k+1,vs ++ [u],FI,by go_num,by rw[G9,HVL.o]; rfl,hrow,?_,?_,hB,FI⟩
      ·have h1:=HO.o.raws (G:=λb=>w1.heap.size<=b) (λb hb=>by omega) (λb hb=>by omega);rw[HLM.o,G8 (by rw[HRN.o]; exact Gy _)] at h1;have h2:=(HD.o.keep (G:=λb=>w1.heap.size<=b) (λb hb _=>hb.1) (GZ _ _)).snoc h1;rw[Gv HRW.o,Hf];exact h2
      ·rw[akr HRW.o,agR,HE.o];have h1:=HER.o;rw[G8 (by rw[HRN.o]; exact Gy _)] at h1;rw[h1];rfl
     case measure=>exact zMs
  ·go_wp2
   go_ret2;have hke:k=n:=FI;subst hke;have h1:=HD.o;rw[HNL.o,G8 (Gy _)] at h1;have h2:=hrow;rw[restN_full (by rw[HVL.o]; exact Gy _)] at h2;refine⟨_,rfl,hB,_,by have:=HE.o; rw[HNL.o,G8 (Gy _)] at this; rw[this]; rfl,?_⟩;have h3:=DoneRows.rows (G:=λb=>w.heap.size<=b) h1 h2 hbow (λb hb=>by omega) (c:=k) (by rw[Gz,HNL.o]; exact Gy _);rw[Gz,<-HNL.o] at h3;unfold aaD;rw[LG (by have:=HE.o; rw[HNL.o,G8 (Gy _)] at this; simpa using this)];exact h3
