import Derived.Test.YtenaplhghbcjhaaGreatDoorQ38
set_option linter.all false
set_option maxRecDepth 100000
set_option maxHeartbeats 0
namespace Go.Proofs.YtenaplhghbcjhaaGreatDoor
open Go.RowKit.Below renaming refl->GR
open Below renaming same'->GL,wrote->I9
open Go.IntKind renaming i64->GU
open Go renaming Value->GN,World->GK
open Go.Value renaming bool->G7,int->GV,slice->Gw
open Gs renaming keep->IX,on->Iy
open Gt renaming keep->JK
open Int renaming toNat_natCast->Ic
open List renaming ext_getElem?->IW,getD_eq_getElem?_getD->GH,getElem?_eq_none->Ij,getElem?_map->GY,getElem?_of_mem->H9,getElem?_range->Kq,getElem?_set_ne->G6,getElem?_set_self->Hq,length->JB,length_append->G9,length_map->Gz,length_range->Je,length_replicate->Io,length_set->Hy,map->Iq,map_append->Hf,map_cons->Ju,mem_of_getElem?->Gx,range->Ig,replicate->GX
open Nat renaming add_zero->Jb,le_refl->Gy,le_trans->He,lt_of_lt_of_le->Hz,zero_add->I5,zero_le->Hg,zero_mul->Jc
open Option renaming getD_some->Jt
open Option.some renaming inj->IE
open Rat renaming add_zero->JX
open Same renaming refl->GZ
open Tryz renaming infoRat->JR
open Go.Proofs.Tryz renaming prog->GI,underlying28->JU,underlying29->KR
open Go.World renaming alloc->G5
open Go.World.ownsRow renaming cellAt->J7
open Wrote renaming below->Ht,refl->Ir
open List renaming getElem_toArray → lq1, getElem_cons_zero → lq2, getElem_cons_succ → lq3, setIfInBounds_toArray → lq4, set_cons_zero → lq5, set_cons_succ → lq6
open Go.RowKit
variable {F:Gq} {x y:List Rat} {l xr yr:List Raw} {b c d i j k p pl r:Nat} {et t:TypeId}
theorem amI (w:GK) (B0:Nat) (F:Gq) (g:Gm) (fb:Nat) (vn vi vp:GN) (V M:Nat->GN) (h:BZ w B0 F g fb vn vi vp V M) (hsm:Small g) (hf:aQ g=0) (h2:g.aC=2) :
  Calls GI 39 #[.pointer (some ⟨fb,0,none⟩)] w (Ret w λv w'=>∃ L:List EV,OwnSl adC w' w.heap.size 94 (λ_=>True) v L/\BM g g.F7.length L):=by
 have HSM:=Ag hsm; have HFO:=Ag hf; have HP2:=Ag h2;have hn100:=hsm.F7;have HGD:=Ag (gQ hf);have hpos:=(gQ hf).pos;have HNE:=Ag (dP hf).1;have AV:=Ag h.row; have hfl:=h.row.lt;have EU:=Ag (show ∀ p,p < 2->∃ kb,M p = .map (some kb)/\AP w kb (aN g (p:Int)) from λp hp=>by
  obtain⟨kb,h1,_,h2⟩:=(h.ad4 p hp).num;exact⟨kb,h1,h2⟩)
 have amx:=h.game;obtain⟨vn',vi',e,⟨A,c,rfl,hc,hN⟩,⟨Ai,ci,rfl,_,_⟩⟩:=amx;simp only[Value.agg.injEq,Array.mk.injEq,List.cons.injEq,and_true,true_and] at e;obtain⟨rfl,rfl⟩:=e;obtain⟨gb,go,rfl,hFg,hgl,hcell⟩:=hN hpos;have HC:=Ag hcell;have r1:=AV.o.cell (i:=1) rfl;obtain⟨n,hn⟩:=Gp g.F7.length;have HN:=Ag hn;rw[<-hn] at hpos hn100 r1;clear hsm hf h2 h hcell hn hN hc;go_in
 go_upto_region 2 with(at_make; refine akV _ rfl _ _ 90 rfl 94 _ adC.n 96 Tryz.underlying90 Tryz.infoEnd FI n rfl rfl FI ?_; intro w1 hb1 hz1 hr1)
 obtain⟨bl,hbl⟩:=Gp w.heap.size;rw[<-hbl] at hr1 ⊢;have hbw:w.heap.size<=bl:=FI;have aiY:bl < w1.heap.size:=hr1.lt;have hfb:fb < bl:=FI;have hst:BJ n bl w1.heap.size (λ_=>ev0) (Gw none 0 0) [] w1:=⟨⟨_,Bg.made n,hr1⟩,λc hc=>ahp _ _,OwnSl.nil _ _ _ _ _⟩;have HST:=Ag hst;have HB:=Ag hb1;clear hr1 hst hb1 hz1 r1 hbl;have hw1:=lG w1 1 au au;refine zaQ ?_;clear hw1;intro one hw1 Bh;go_wp2_with fail
 refine hw1.mono ?_;rintro e w2 ⟨v9,rfl,hb,hu⟩;obtain⟨A1,c1,B1,d1,rfl,bH⟩:=hu.opened;obtain⟨q,hq⟩:∃ q:RV,q=⟨ay one,Gw A1 (ay one).num.length c1,Gw B1 (ay one).den.length d1⟩:=⟨_,rfl⟩;rw[<-hq] at bH;have HQ:=Ag (show q.r=ay 1 by rw[hq,Bh.o]);replace HST:=Ag (HST.o.below hb);replace HB:=Ag (HB.o.trans (hb.mono HB.o.size));have hz2:=hb.size;have hst:=HST.o;have e0:=hst.cell (c:=0) (j:=2) hpos FI rfl;have e1:=hst.cell (c:=0) (j:=3) hpos FI rfl;have e2:=hst.cell (c:=0) (j:=4) hpos FI rfl;simp only[Jc,I5] at e0 e1 e2;have f0:=hst.frozen 2;have f1:=hst.frozen 3;have f2:=hst.frozen 4;obtain⟨W3,hW3⟩:=Gp ((((w2.setCell ⟨bl,2,none⟩ (G7 q.r.neg)).setCell ⟨bl,3,none⟩ q.vn).setCell ⟨bl,4,none⟩ q.vd));have afO:Wrote (λb=>b=bl) w2 W3:=hW3▸(((Ir (λb=>b=bl) w2).setCell (p:=⟨bl,2,none⟩) (.inl rfl) _).setCell (p:=⟨bl,3,none⟩) (.inl rfl) _).setCell (p:=⟨bl,4,none⟩) (.inl rfl) _;have hst3:BJ n bl w1.heap.size (qm (λ_=>ev0) 0 { ev0 with q:=q }) (Gw none 0 0) [] W3:=hst.write afO aiY (λcs h1 h2=>⟨_,h1.set3 hpos q,by rw[hW3,Jc,I5,I5,I5]; exact((h2.set 2 _).set 3 _).set 4 _⟩) ⟨bH.keep (λb hb _=>⟨FI,by intro h; cases h⟩) (GZ _ _),(ahp w2 _).2⟩;have hin:Cb g 0 0 (qm (λ_=>ev0) 0 { ev0 with q:=q }):=Cb.start HFO.o (by rw[eP]; rfl) (by rw[eP]; rfl) (by rw[eP]; exact HQ.o);have FT:=Ag hst3;have HIN:=Ag hin;replace HB:=Ag (Ht HB.o afO (λb hb=>by omega) HB.o.size);rw[hq] at hW3;have HW3:=Ag hW3;obtain⟨T0,hT0⟩:=Gp (qm (λ_=>ev0) 0 { ev0 with q:=q });rw[<-hT0] at FT HIN;have r1:=(AV.o.below HB.o hfl).cell (i:=1) rfl;rw[<-HN.o] at r1;have hz3:=afO.size;clear hst hst3 hin afO bH hu hw1 hb hq HQ hT0 HST hW3;dsimp only;go_upto_region 3 with(fail)
 rw[<-HW3.o];clear e0 e1 e2 f0 f1 f2 HW3;go_wp2_with fail
 clear r1;go_loopw [4,29] (λov iv wr=>∃ (i:Nat) (T:Nat->EV) (L:List EV),i<=n/\iv = GV GU (i:Int)/\BJ n bl w1.heap.size T ov L wr/\Cb g i 0 T/\BM g i L/\Below w.heap.size w wr/\w1.heap.size<=wr.heap.size) (λ_ iv _=>n - (intOf iv).toNat)
 case atStart=>exact⟨0,T0,[],Hg _,rfl,FT.o,HIN.o,⟨rfl,λk c h=>by cases k <;> cases h⟩,HB.o,FI⟩
 case round =>
  clear FT HIN HB;obtain⟨i,T,L,hi,rfl,hst,hin,aaW,hB,hwz⟩:=hrel;obtain⟨wa,rfl⟩:=Gp wr;have HST:=Ag hst;have HIN:=Ag hin;have HVS:=Ag aaW;have HBA:=Ag hB;clear hst hin aaW;by_cases hlt:i < n
  case neg =>
   obtain rfl:i=n:=FI;go_wp2_with fail
   go_ret;exact⟨_,rfl,HBA.o,L,(HST.o.own.widen (λ_ _ _=>trivial)).aoN FI,by rw[<-HN.o]; exact HVS.o⟩
  obtain⟨nd,hnd⟩:=Gl (l:=g.F7) (k:=i) (by rw[<-HN.o]; exact hlt);have hne:=HC.o i nd hnd;refine zaE ?_;intro n0 n1 n2 v3 n3 h3 v4 n4 h4 v5 n5 h5;have H3:=Ag h3;have H4:=Ag h4;have H5:=Ag h5;obtain⟨A3,c3,rfl,_,_⟩:=h3;obtain⟨A4,c4,rfl,_,_⟩:=h4;obtain⟨A5,c5,rfl,_,_⟩:=h5;replace n0:=ah n0 hB;replace n1:=ah n1 hB;replace n2:=ah n2 hB;replace n3:=ah n3 hB;replace n4:=ah n4 hB;replace n5:=ah n5 hB;have HND:=Ag hnd;have FU:=Ag (show g.F7.getD i default=nd by rw[GH,hnd]; rfl);have hnw:=aaX HNE.o (Gx hnd);have hnx:=HSM.o.next nd (Gx hnd);have HNW:=Ag hnw.2;have hnwl:=hnw.1;clear hnd hne hnw;go_upto_region 7 with(fail)
  generalize hW1:G5 _ _=W1;obtain⟨rn,hbn,hzn⟩:=aI hW1;obtain⟨nb,hnb⟩:=Gp wa.heap.size;rw[<-hnb] at rn ⊢;have q1:bl < nb:=FI;have q2:w1.heap.size<=nb:=FI;have HRN:=Ag rn;replace HST:=Ag (HST.o.below hbn);have hB1:=hB.trans (hbn.mono hB.size);have HBB:=Ag hB1;have q3:nb < W1.heap.size:=rn.lt;have m0:=rn.cell (i:=0) rfl;clear hW1 hzn hnb rn hbn n0 n1 n2 n3 n4 n5 hB hB1 HBA;have hself:=HIN.o.self HGD.o (by rw[<-HN.o]; exact hlt);obtain⟨ti,hti⟩:=Gp (T i);have bH:=HST.o.fine i hlt;rw[<-hti] at hself bH;obtain⟨a0,a1,⟨qr,qvn,qvd⟩,py,pl⟩:=ti;obtain⟨hs0,hs1,hs2⟩:=hself;dsimp only at hs0 hs1 hs2;obtain⟨hfq,hfp⟩:=bH;have HTI:=Ag hti;have HS0:=Ag hs0;have HS1:=Ag hs1;have HS2:=Ag hs2;have HFQ:=Ag hfq;have HFP:=Ag hfp;have akW:Aj W1 _ qvn qr.num/\Aj W1 _ qvd qr.den:=hfq;have aoO:AL W1 _ py pl:=hfp;obtain⟨⟨An,cn,rfl,_,_⟩,⟨Ad,cd,rfl,_,_⟩⟩:=akW;obtain⟨Ap,cp,rfl,_,_⟩:=aoO;have y0:=HST.o.cell (c:=i) (j:=0) hlt FI (u:=GV GU a0) (by rw[<-hti]; rfl);have y1:=HST.o.cell (c:=i) (j:=1) hlt FI (u:=GV GU a1) (by rw[<-hti]; rfl);have y2:=HST.o.cell (c:=i) (j:=2) hlt FI (u:=G7 qr.neg) (by rw[<-hti]; rfl);have y3:=HST.o.cell (c:=i) (j:=3) hlt FI (u:=Gw An qr.num.length cn) (by rw[<-hti]; rfl);have y4:=HST.o.cell (c:=i) (j:=4) hlt FI (u:=Gw Ad qr.den.length cd) (by rw[<-hti]; rfl);have y5:=HST.o.cell (c:=i) (j:=5) hlt FI (u:=Gw Ap pl.length cp) (by rw[<-hti]; rfl);rw[Jb] at y0;have m5:=HRN.o.cell (i:=5) rfl;clear hti hs0 hs1 hs2 hfq hfp;by_cases hk3:nd.kind=3
  ·have t3:(nd.kind==3)=true:=by simp[hk3]
   have f5:=HST.o.frozen (i*6+5);have hfe:EV.fine W1 (λb=>b≠bl/\u4.ownBlock≠some b) ⟨a0,a1,⟨qr,Gw An qr.num.length cn,Gw Ad qr.den.length cd⟩,Gw A5 nd.pay.length c5,nd.pay⟩ :=
    ⟨HFQ.o,AL.keep (G:=λb=>b≠bl/\u4.ownBlock≠some b) H5.o (λb _ hl=>⟨FI,λe=>by have:=(HST.o.own.row.lt b e).1; omega⟩) (GL HBB.o F)⟩
   obtain⟨e5,he5⟩:∃ x:EV,x=⟨a0,a1,⟨qr,Gw An qr.num.length cn,Gw Ad qr.den.length cd⟩,Gw A5 nd.pay.length c5,nd.pay⟩:=⟨_,rfl⟩;rw[<-he5] at hfe;obtain⟨W5,hW5⟩:=Gp (W1.setCell ⟨bl,i*6+5,none⟩ (Gw A5 nd.pay.length c5));have uF:Wrote (λb=>b=bl) W1 W5:=hW5▸(Ir (λb=>b=bl) W1).setCell (p:=⟨bl,i*6+5,none⟩) (.inl rfl) _;have hst5:=HST.o.write (d:=i) (e:=e5) uF aiY (λcs h1 h2=>⟨_,h1.set1 hlt (by omega:5 < 6) (Gw A5 nd.pay.length c5) e5 (by rw[he5,<-HTI.o]; rfl),by rw[hW5]; exact h2.set _ _⟩) hfe;have hin5:Cb g i 0 (qm T i e5):=HIN.o.same λc=>by
    by_cases ec:c=i
    ·subst ec;rw[eP,he5,<-HTI.o];exact⟨rfl,rfl,rfl⟩
    ·rw[iK _ _ ec];exact⟨rfl,rfl,rfl⟩
   have Bq:=Ag hst5;have Eb:=Ag hin5;have HW5:=Ag hW5;have HE5:=Ag he5;have z0:=(HRN.o.wrote uF FI).cell (i:=0) rfl;have BX:=Ag (HRN.o.wrote uF FI);have HB5:=Ag (Ht HBB.o uF (λb hb=>by omega) HBB.o.size);have q5:=uF.size;have hw5:=uF.cell;have HK3:=Ag hk3;have HIN0:=HIN;clear hfe hst5 hin5 uF hW5 he5 hw5 hk3;go_upto_region 9 with(fail)
   rw[<-HW5.o];have HFE:=Ag (Bq.o.fine i hlt);rw[eP] at HFE;have y0:=Bq.o.cell (c:=i) (j:=0) hlt FI (u:=GV GU a0) (by rw[eP,HE5.o]; rfl);have y1:=Bq.o.cell (c:=i) (j:=1) hlt FI (u:=GV GU a1) (by rw[eP,HE5.o]; rfl);have y2:=Bq.o.cell (c:=i) (j:=2) hlt FI (u:=G7 qr.neg) (by rw[eP,HE5.o]; rfl);have y3:=Bq.o.cell (c:=i) (j:=3) hlt FI (u:=Gw An qr.num.length cn) (by rw[eP,HE5.o]; rfl);have y4:=Bq.o.cell (c:=i) (j:=4) hlt FI (u:=Gw Ad qr.den.length cd) (by rw[eP,HE5.o]; rfl);have y5:=Bq.o.cell (c:=i) (j:=5) hlt FI (u:=Gw A5 nd.pay.length c5) (by rw[eP,HE5.o]; rfl);rw[Jb] at y0;clear f5 m0 m5 z0;have HCC:=Ag (show(#[GV GU a0,GV GU a1,G7 qr.neg,Gw An qr.num.length cn,Gw Ad qr.den.length cd,Gw A5 nd.pay.length c5]:Array GN)=(adC.cells e5).toArray by rw[HE5.o]; rfl);have hLl:L.length<=100:=by have h1:=HVS.o.1;have h2:=vX g i;omega
   have hz5:w1.heap.size<=W5.heap.size:=FI;have hunb:u4.ownBlock≠some nb:=Bq.o.own.apart BX.o au;have HFK:=Ag (show adC.fine W5 (Apart (λb=>b≠bl) u4) e5 from HFE.o.keep (λb hb _=>hb) (GZ _ _));go_wp2_with (at_builtin; refine jI (K:=adC) (F:=λb=>b≠bl) (W:=W5) rfl _ _ 90 94 96 _ Tryz.underlying90 Tryz.infoEnd rfl au rfl w1.heap.size hz5 u4 L rfl e5 _ HCC.o FI rfl Bq.o.own HFK.o ?_; intro g3 cap3 wq hown3 hwq hat hlt3; have m4:=(BX.o.wrote hwq hunb).cell (i:=4) rfl)
   have anQ:=Bq.o.app (v':=Gw (some ⟨g3,0,none⟩) (L.length+1) cap3) aiY hown3 hwq rfl hat;have DT:=Ag anQ;have EY:=Eb;have Eo:=Ag (BX.o.wrote hwq hunb);have EZ:=Ag (HVS.o.snoc (e:=e5) (by rw[FU.o]; exact HK3.o) (by rw[HE5.o]; exact HS0.o) (by rw[HE5.o]; exact HS1.o) (by rw[HE5.o]; exact HS2.o) (by rw[HE5.o,FU.o]));have HB6:=Ag (Ht HB5.o hwq (λb hb=>by have:=(Bq.o.own.row.lt b hb).1; omega) HB5.o.size);have hz6:w1.heap.size<=wq.heap.size:=by have:=hwq.size;omega
   obtain⟨TS,hTS⟩:=Gp (qm T i e5);obtain⟨LS,hLS⟩:=Gp (L ++ [e5]);rw[<-hTS,<-hLS] at anQ;replace DT:=Ag anQ;rw[<-hTS] at EY;rw[<-hLS] at EZ;clear anQ hown3 hwq hat hlt3 hTS hLS Bq Eb HVS BX HB5 HRN HBB HST HIN HIN0 HFE HFK HCC HTI HE5 HW5;obtain⟨WS,hWS⟩:=Gp wq;rw[<-hWS] at DT Eo HB6 hz6 m4 ⊢;clear hWS;clear y0 y1 y2 y3 y4 y5;go_wp2_with fail
   clear m4;go_loopw [7,53] (λsv iv wr=>∃ k:Nat,k<=nd.weights.length/\sv = GV GU (rE (nd.weights.take k))/\iv = GV GU (k:Int)/\WS=wr) (λ_ iv _=>nd.weights.length - (intOf iv).toNat)
   case atStart=>exact⟨0,Hg _,rfl,rfl,rfl⟩
   case round =>
    obtain⟨k,hk,rfl,rfl,rfl⟩:=hrel;refine zbN ?_;intro hsr hsl;by_cases hkl:k < nd.weights.length
    case pos =>
     obtain⟨x,hx⟩:=Gl hkl;obtain⟨wb4,wo4,e4,_,_,nY⟩:=iU H4.o FI;subst e4;have ew:=ah (nY k _ hx) HB6.o;refine YA ?_;clear hsr hx nY;intro hxb sk hsr HSX aoP;go_wp2_with fail
     go_roundw
     case rel=>exact⟨k+1,FI,by rw[HSX.o],by go_num,trivial⟩
     case measure=>exact zMs
    obtain rfl:k=nd.weights.length:=FI;refine zdl ?_;clear hsr;intro tot htot hsr EG;have m3:=Eo.o.cell (i:=3) rfl;clear htot hk hkl hsl;go_wp2_with fail
    clear m3;go_loopw [64] (λjv wr=>∃ (j:Nat) (T:Nat->EV),j<=nd.next.length/\jv = GV GU (j:Int)/\BJ n bl w1.heap.size T (Gw (some ⟨g3,0,none⟩) (L.length+1) cap3) LS wr/\Cb g i j T/\Row wr nb 51 [GV GU nd.kind,GV GU nd.aH,GV GU nd.info,Gw A3 nd.next.length c3,Gw A4 nd.weights.length c4,Gw A5 nd.pay.length c5]/\Below w.heap.size w wr/\w1.heap.size<=wr.heap.size) (λjv _=>nd.next.length - (intOf jv).toNat)
    case atStart=>exact⟨0,TS,Hg _,rfl,DT.o,EY.o,Eo.o,HB6.o,hz6⟩
    case round =>
     obtain⟨j,T,hj,rfl,hst,hin,hrn,hB,hwz⟩:=hrel;obtain⟨we,rfl⟩:=Gp wr;have HST:=Ag hst;have HIN:=Ag hin;have HRN:=Ag hrn;have HBE:=Ag hB;have hnel:nb < we.heap.size:=hrn.lt;clear hst hin hrn;by_cases hjl:j < nd.next.length
     case neg =>
      obtain rfl:j=nd.next.length:=FI;have Dq:=Ag (HIN.o.next HND.o);go_wp2_with fail
      go_roundw
      case rel=>exact⟨i+1,T,LS,FI,by go_num,HST.o,Dq.o,EZ.o,HBE.o,hwz⟩
      case measure=>exact zMs
     exfalso
     have h:=(acg HNE.o (Gx HND.o) HK3.o).2.2;rw[h] at hjl;simp at hjl
  have t3:(nd.kind==3)=false:=by simpa using hk3
  have HK3:=Ag hk3;have m4:=HRN.o.cell (i:=4) rfl;have DT:=HST;have EY:=HIN;have Eo:=HRN;have HB6:=HBB;have EZ:=Ag (HVS.o.other (by rw[FU.o]; exact HK3.o));have hz6:w1.heap.size<=W1.heap.size:=FI;obtain⟨TS,hTS⟩:=Gp T;obtain⟨LS,hLS⟩:=Gp L;rw[<-hTS] at DT EY;rw[<-hLS] at DT EZ;clear hTS hLS HST HIN HVS HRN HBB HTI hk3 m5;obtain⟨WS,hWS⟩:=Gp W1;rw[<-hWS] at DT Eo HB6 hz6 m0 m4 ⊢;clear hWS;clear y0 y1 y2 y3 y4 y5;go_wp2_with fail
  clear m4 m0;go_loopw [7,53] (λsv iv wr=>∃ k:Nat,k<=nd.weights.length/\sv = GV GU (rE (nd.weights.take k))/\iv = GV GU (k:Int)/\WS=wr) (λ_ iv _=>nd.weights.length - (intOf iv).toNat)
  case atStart=>exact⟨0,Hg _,rfl,rfl,rfl⟩
  case round =>
   obtain⟨k,hk,rfl,rfl,rfl⟩:=hrel;refine zbN ?_;intro hsr hsl;by_cases hkl:k < nd.weights.length
   case pos =>
    obtain⟨x,hx⟩:=Gl hkl;obtain⟨wb4,wo4,e4,_,_,nY⟩:=iU H4.o FI;subst e4;have ew:=ah (nY k _ hx) HB6.o;refine YA ?_;clear hsr hx nY;intro hxb sk hsr HSX aoP;go_wp2_with fail
    go_roundw
    case rel=>exact⟨k+1,FI,by rw[HSX.o],by go_num,trivial⟩
    case measure=>exact zMs
   obtain rfl:k=nd.weights.length:=FI;refine zdl ?_;clear hsr;intro tot htot hsr EG;have m3:=Eo.o.cell (i:=3) rfl;clear htot hk hkl hsl;go_wp2_with fail
   clear m3;go_loopw [64] (λjv wr=>∃ (j:Nat) (T:Nat->EV),j<=nd.next.length/\jv = GV GU (j:Int)/\BJ n bl w1.heap.size T (u4) LS wr/\Cb g i j T/\Row wr nb 51 [GV GU nd.kind,GV GU nd.aH,GV GU nd.info,Gw A3 nd.next.length c3,Gw A4 nd.weights.length c4,Gw A5 nd.pay.length c5]/\Below w.heap.size w wr/\w1.heap.size<=wr.heap.size) (λjv _=>nd.next.length - (intOf jv).toNat)
   case atStart=>exact⟨0,TS,Hg _,rfl,DT.o,EY.o,Eo.o,HB6.o,hz6⟩
   case round =>
    obtain⟨j,T,hj,rfl,hst,hin,hrn,hB,hwz⟩:=hrel;obtain⟨we,rfl⟩:=Gp wr;have HST:=Ag hst;have HIN:=Ag hin;have HRN:=Ag hrn;have HBE:=Ag hB;have hnel:nb < we.heap.size:=hrn.lt;clear hst hin hrn;by_cases hjl:j < nd.next.length
    case neg =>
     obtain rfl:j=nd.next.length:=FI;have Dq:=Ag (HIN.o.next HND.o);go_wp2_with fail
     go_roundw
     case rel=>exact⟨i+1,T,LS,FI,by go_num,HST.o,Dq.o,EZ.o,HBE.o,hwz⟩
     case measure=>exact zMs
    obtain⟨x,hx⟩:=Gl hjl;have hk:=HGD.o.span.kids i nd (Hg _) (by rw[<-HN.o]; exact hlt) HND.o x (Gx hx);obtain⟨d,rfl⟩:∃ d:Nat,x=(d:Int):=⟨x.toNat,FI⟩;have hdN:d < n:=by rw[HN.o];omega
    have hdi:i < d:=FI;obtain⟨b3,o3,e3,_,hb3,rQ⟩:=iU H3.o FI;subst e3;have ec:=ah (rQ j _ hx) HBE.o;have HXD:=Ag hx;have hself:=HIN.o.self HGD.o (by rw[<-HN.o]; exact hlt);obtain⟨ti,hti⟩:=Gp (T i);have bH:=HST.o.fine i hlt;rw[<-hti] at hself bH;have HFT:=Ag bH;obtain⟨a0,a1,⟨qr,qvn,qvd⟩,py,pl⟩:=ti;obtain⟨hs0,hs1,hs2⟩:=hself;dsimp only at hs0 hs1 hs2;obtain⟨hfq,hfp⟩:=bH;have akW:Aj we _ qvn qr.num/\Aj we _ qvd qr.den:=hfq;have aoO:AL we _ py pl:=hfp;clear hfq hfp;obtain⟨⟨An,cn,rfl,_,_⟩,⟨Ad,cd,rfl,_,_⟩⟩:=akW;obtain⟨Ap,cp,rfl,_,_⟩:=aoO;have hqr:=hs2;subst hqr;obtain⟨ei,hei⟩:∃ x:EV,x=⟨a0,a1,⟨ay (eX chB g.F7 [] i),Gw An (ay (eX chB g.F7 [] i)).num.length cn,Gw Ad (ay (eX chB g.F7 [] i)).den.length cd⟩,Gw Ap pl.length cp,pl⟩:=⟨_,rfl⟩;rw[<-hei] at hti HFT;obtain⟨y,hy⟩:=Gp (eX chB g.F7 [] i);rw[<-hy] at hei;have HTI:=Ag hti;have HS0:=Ag hs0;have HS1:=Ag hs1;have HYE:=Ag hy;have HEI:=Ag hei;have y0:=HST.o.cell (c:=i) (j:=0) hlt FI (u:=GV GU a0) (by rw[<-hti,hei]; rfl);have f0:=HST.o.frozen (d*6);obtain⟨z0,hz0⟩:=Gl (l:=(T d).cells) (k:=0) (by show 0 < 6; omega);have x0:=HST.o.cell (c:=d) (j:=0) hdN FI hz0;have y1:=HST.o.cell (c:=i) (j:=1) hlt FI (u:=GV GU a1) (by rw[<-hti,hei]; rfl);have f1:=HST.o.frozen (d*6+1);obtain⟨z1,hz1⟩:=Gl (l:=(T d).cells) (k:=1) (by show 1 < 6; omega);have x1:=HST.o.cell (c:=d) (j:=1) hdN FI hz1;have y2:=HST.o.cell (c:=i) (j:=2) hlt FI (u:=G7 (ay y).neg) (by rw[<-hti,hei]; rfl);have f2:=HST.o.frozen (d*6+2);obtain⟨z2,hz2⟩:=Gl (l:=(T d).cells) (k:=2) (by show 2 < 6; omega);have x2:=HST.o.cell (c:=d) (j:=2) hdN FI hz2;have y3:=HST.o.cell (c:=i) (j:=3) hlt FI (u:=Gw An (ay y).num.length cn) (by rw[<-hti,hei]; rfl);have f3:=HST.o.frozen (d*6+3);obtain⟨z3,hz3⟩:=Gl (l:=(T d).cells) (k:=3) (by show 3 < 6; omega);have x3:=HST.o.cell (c:=d) (j:=3) hdN FI hz3;have y4:=HST.o.cell (c:=i) (j:=4) hlt FI (u:=Gw Ad (ay y).den.length cd) (by rw[<-hti,hei]; rfl);have f4:=HST.o.frozen (d*6+4);obtain⟨z4,hz4⟩:=Gl (l:=(T d).cells) (k:=4) (by show 4 < 6; omega);have x4:=HST.o.cell (c:=d) (j:=4) hdN FI hz4;have y5:=HST.o.cell (c:=i) (j:=5) hlt FI (u:=Gw Ap pl.length cp) (by rw[<-hti,hei]; rfl);have f5:=HST.o.frozen (d*6+5);obtain⟨z5,hz5⟩:=Gl (l:=(T d).cells) (k:=5) (by show 5 < 6; omega);have x5:=HST.o.cell (c:=d) (j:=5) hdN FI hz5;rw[Jb] at y0 x0;have m0:=HRN.o.cell (i:=0) rfl;have m3:=HRN.o.cell (i:=3) rfl;clear hti hs0 hs1 hs2 hei hy hx rQ hz0 hz1 hz2 hz3 hz4 hz5 hk hB;go_upto_region 20 with(fail)
    obtain⟨W5,hW5⟩:=Gp (((((((we).setCell ⟨bl,d*6,none⟩ (GV GU a0)).setCell ⟨bl,d*6+1,none⟩ (GV GU a1)).setCell ⟨bl,d*6+2,none⟩ (G7 (ay y).neg)).setCell ⟨bl,d*6+3,none⟩ (Gw An (ay y).num.length cn)).setCell ⟨bl,d*6+4,none⟩ (Gw Ad (ay y).den.length cd)).setCell ⟨bl,d*6+5,none⟩ (Gw Ap pl.length cp));have uF:Wrote (λb=>b=bl) we W5:=hW5▸(((((((Ir (λb=>b=bl) we).setCell (p:=⟨bl,d*6,none⟩) (.inl rfl) _).setCell (p:=⟨bl,d*6+1,none⟩) (.inl rfl) _).setCell (p:=⟨bl,d*6+2,none⟩) (.inl rfl) _).setCell (p:=⟨bl,d*6+3,none⟩) (.inl rfl) _).setCell (p:=⟨bl,d*6+4,none⟩) (.inl rfl) _).setCell (p:=⟨bl,d*6+5,none⟩) (.inl rfl) _);have hst5:=HST.o.write (d:=d) (e:=ei) uF aiY (λcs h1 h2=>⟨_,h1.anP hdN ei,by rw[hW5,HEI.o]; exact(((((h2.set _ _).set _ _).set _ _).set _ _).set _ _).set _ _⟩) HFT.o;have Bq:=Ag hst5;have CV:=Ag uF;rw[<-hW5];have akX:=HRN.o.wrote uF FI;have BX:=Ag akX;have HB5:=Ag (Ht HBE.o uF (λb hb=>by omega) HBE.o.size);have hz5:=uF.size;have HVB:=Ag (λb (e:(u4).ownBlock=some b)=>(hst5.own.row.lt b e));have m0:=akX.cell (i:=0) rfl;have m1:=akX.cell (i:=1) rfl;have m2:=akX.cell (i:=2) rfl;have m4:=akX.cell (i:=4) rfl;clear hW5 uF hst5 akX y0 y1 y2 y3 y4 y5 x0 x1 x2 x3 x4 x5 f0 f1 f2 f3 f4 f5 m3 ec z0 z1 z2 z3 z4 z5;by_cases hk2:nd.kind=2
    case pos =>
     have t2:(nd.kind==2)=true:=by simp[hk2]
     have HK2:=Ag hk2;obtain⟨_,_,hp0,hp1,_,_⟩:=kF HNE.o (Gx HND.o) hk2;obtain⟨hi0,hi1,hi2⟩:=ajs HFO.o HND.o hk2;obtain⟨inf,bU,hac,_⟩:=mD HFO.o (Gx HND.o) hk2;obtain⟨pp,hpp⟩:∃ pp:Nat,nd.aH=(pp:Int):=⟨nd.aH.toNat,FI⟩;obtain⟨s,hs⟩:∃ s:Nat,nd.info=(s:Int):=⟨nd.info.toNat,FI⟩;have hpp2:pp < 2:=by have:=HP2.o;omega
     have hppi:(pp:Int) < 2:=FI;rw[hs,Ic] at bU hi1 hi2;have hsm:=qK (g:=g) (p:=(pp:Int)) (a:=j) hi1 (by rw[hi2,hpp]) (by rw[GH,bU,Jt,hac]; omega);obtain⟨kn,hkn⟩:=Gp (iP (aN g (pp:Int)) ((s:Int),(j:Int)));have HKN:=Ag hkn;have D6:=Ag hsm;have HPP:=Ag hpp;have HSS:=Ag hs;obtain⟨kb,hkb,hkm⟩:=EU.o pp hpp2;have hkl:=hkm.lt;have AX:=hkm.below HB5.o hkl;have z1:=(AV.o.below HB5.o hfl).cell (uX hpp2);rw[hkb] at z1;rw[hpp] at m1;rw[hs] at m2;have hB:=GR W5.heap.size W5;clear hk2 hp0 hp1 hi0 hi1 hi2 bU hac hpp hs hsm hkn hkb hkm m4;go_wp2_with fail
     clear hB;refine aP (λw'=>w'.cell? ⟨nb,1,none⟩=some (GV GU (pp:Int))/\w'.cell? ⟨nb,2,none⟩=some (GV GU (s:Int))/\w'.cell? ⟨fb,5+pp,none⟩=some (.map (some kb))/\AP w' kb (aN g (pp:Int))) 19 1 aj rfl aj ⟨m1,m2,z1,AX⟩ λhHeld=>?_
     refine zcz ?_;intro hb;replace m1:=ah m1 hb;replace m2:=ah m2 hb;replace z1:=ah z1 hb;replace Bq:=Ag (Bq.o.below hb);replace BX:=Ag (BX.o.below hb BX.o.lt);replace AX:=AX.below hb AX.lt;replace HB5:=Ag (HB5.o.trans (hb.mono HB5.o.size));replace hz5:=He hz5 hb.size;clear hb;generalize W5.drew=wn at *;refine tkm [0,1,2,3,4,5,6,7,8,9,10,11,12,13,14] ?_;refine wpAnyH_take (i:=15) (v:=GV GU (kn:Int)) rfl aj aj aj (λ_ _ _ h=>h) (Or.inl ⟨by rfl,?_⟩) hHeld ?_
     ·intro wx hSx;have hlk:=nU (w:=wx) (b:=kb) (l:=aN g (pp:Int)) (s:=((s:Int),(j:Int))) (by simpa using hSx.2.2.2) D6.o;unfold qg at hlk;rw[<-HKN.o] at hlk;clear hSx;go_simp
     refine Zb ?_;refine tkm [16,17,18] ?_;refine Zp ?_;clear hHeld;obtain⟨zz,hzz⟩:=Gl (l:=(qm T d ei d).cells) (k:=pp) (by show pp < 6; omega);have c0:=Bq.o.cell (c:=d) (j:=pp) hdN FI hzz;have f0:=Bq.o.frozen (d*6+pp);obtain⟨Wz,hWz⟩:=Gp (wn.setCell ⟨bl,d*6+pp,none⟩ (GV GU (kn:Int)));have aaP:Wrote (λb=>b=bl) wn Wz:=hWz▸(Ir (λb=>b=bl) wn).setCell (p:=⟨bl,d*6+pp,none⟩) (.inl rfl) _;obtain⟨e2,he2⟩:∃ x:EV,x=if pp=0 then { ei with a0:=(kn:Int) } else { ei with a1:=(kn:Int) }:=⟨_,rfl⟩
     have hcs:e2.cells=(qm T d ei d).cells.set pp (GV GU (kn:Int)):=by
      rw[eP,he2];rcases (show pp=0\/pp=1 by omega) with rfl | rfl <;> rfl
     have hf2:e2.fine wn (λb=>b≠bl/\(u4).ownBlock≠some b):=by
      have h:=Bq.o.fine d hdN;rw[eP] at h;rw[he2];split <;> exact⟨h.1,h.2⟩
     have afN:=Bq.o.write (d:=d) (e:=e2) aaP aiY (λcs h1 h2=>⟨_,h1.set1 hdN (by omega:pp < 6) (GV GU (kn:Int)) e2 hcs,by rw[hWz]; exact h2.set _ _⟩) hf2;have adD:Cb g i (j+1) (qm (qm T d ei) d e2):=HIN.o.kid HGD.o HND.o HXD.o (λc hc=>by rw[iK _ _ hc,iK _ _ hc]) (by
      rw[eP,acj HGD.o HND.o HXD.o,acj HGD.o HND.o HXD.o,rF HGD.o chB [] HND.o HXD.o,LG (show ¬ chB nd=true by unfold chB; rw[HK2.o]; decide),HPP.o,HSS.o,HK2.o,<-HYE.o,he2];rcases (show pp=0\/pp=1 by omega) with rfl | rfl
      ·rw[LH rfl,LH ⟨rfl,rfl⟩,LG FI,HEI.o,HKN.o];exact⟨rfl,HS1.o,rfl⟩
      ·rw[LG FI,LG FI,LH ⟨rfl,rfl⟩,HEI.o,HKN.o]; exact⟨HS0.o,rfl,rfl⟩)
     have En:=Ag afN;have Dq:=Ag adD;have HWZ:=Ag hWz;have Fa:=Ag (BX.o.wrote aaP FI);have HB9:=Ag (Ht HB5.o aaP (λb hb=>by omega) HB5.o.size);have hz9:=aaP.size;clear afN adD hWz aaP he2 hcs hf2 m0 m1 m2 z1 AX hzz;go_wp2
     refine zbP ?_;go_wp2
     go_roundw
     case rel=>exact⟨j+1,_,FI,by go_num,En.o,Dq.o,Fa.o,HB9.o,FI⟩
     case measure=>exact zMs
    have t2:(nd.kind==2)=false:=by simpa using hk2
    have HK2:=Ag hk2;clear hk2;have hk1:=amH HNE.o (Gx HND.o) HK2.o HK3.o;obtain⟨hwl,_,_,hwb⟩:=kX HNE.o (Gx HND.o) hk1;have hjw:j < nd.weights.length:=FI;obtain⟨xw,hxw⟩:=Gl hjw;have hxb:=hwb xw (Gx hxw);have amJ:1<=tot/\tot<=60000:=by have:=EG.o;omega
    obtain⟨wb4,wo4,e4,_,_,nY⟩:=iU H4.o FI;subst e4;have ew:=ah (nY j _ hxw) HB5.o;have HRD:=Ag (show eX chB g.F7 [] d=y*((xw:Rat) / (tot:Rat)) by
     rw[rF HGD.o chB [] HND.o HXD.o,LH (show chB nd=true by unfold chB; rw[hk1]; decide),<-HYE.o,qG HK2.o,GH,GY,hxw,EG.o]; rfl)
    have hgr:=aej HGD.o chB [] (λn hn hc x hx=>by
     have hk:n.kind=1:=by unfold chB at hc;simpa using hc
     rw[qG FI] at hx;obtain⟨z,hz,rfl⟩:=List.mem_map.1 hx;obtain⟨hp1,hp2',hp3',hp4⟩:=kX HNE.o hn hk;have h1:=oK (l:=n.weights) hp4;exact yF (hp4 z hz) ⟨FI,FI⟩) i (by rw[<-HN.o]; exact hlt)
    rw[<-HYE.o] at hgr;have hyl:rl y<=20000:=FI;have hfi:=Bq.o.fine i hlt;rw[iK _ _ (by omega:i≠d),<-HTI.o] at hfi;have HYV:=Ag (show NmV W5 (λb=>b≠bl/\(u4).ownBlock≠some b) (.agg #[G7 (ay y).neg,Gw An (ay y).num.length cn,Gw Ad (ay y).den.length cd]) y by
     rw[HEI.o] at hfi;exact Ak.make rfl hfi.1.1 hfi.1.2)
    have y2:=Bq.o.cell (c:=i) (j:=2) hlt FI (u:=G7 (ay y).neg) (by rw[iK _ _ (by omega:i≠d),<-HTI.o,HEI.o]; rfl);have y3:=Bq.o.cell (c:=i) (j:=3) hlt FI (u:=Gw An (ay y).num.length cn) (by rw[iK _ _ (by omega:i≠d),<-HTI.o,HEI.o]; rfl);have y4:=Bq.o.cell (c:=i) (j:=4) hlt FI (u:=Gw Ad (ay y).den.length cd) (by rw[iK _ _ (by omega:i≠d),<-HTI.o,HEI.o]; rfl);clear hwl hwb hxw nY hgr hfi hk1;go_wp2_with fail
    have akY:=Gy W5.heap.size;refine aP (λw'=>w'.cell? ⟨bl,i*6+2,none⟩=some (G7 (ay y).neg)/\w'.cell? ⟨bl,i*6+3,none⟩=some (Gw An (ay y).num.length cn)/\w'.cell? ⟨bl,i*6+4,none⟩=some (Gw Ad (ay y).den.length cd)/\w'.cell? ⟨nb,4,none⟩=some (Gw (some ⟨wb4,wo4,none⟩) nd.weights.length c4)/\w'.cell? ⟨wb4,wo4+j,none⟩=some (GV GU xw)) 17 1 aj rfl aj ⟨y2,y3,y4,m4,ew⟩ λhHeld=>?_
    refine zcz ?_;intro hb;refine Y3 ?_;clear y2 y3 y4 m4 ew Bq BX HYV HB5 hz5 akY;intro y2 y3 y4 m4 ew Bq BX HYV HB5 hz5 akY;clear hb;generalize W5.drew=wn at *;refine tkm [0,1,2,3,4,5,6,7,8,9,10,11,12] ?_;refine tk2 13 aj rfl λK hK=>?_
    go_simp;refine(aeu wn xw tot FI FI FI FI FI).mono ?_;rintro e wn ⟨v9,rfl,hb,hu⟩;obtain⟨fr,hfr⟩:∃ z:Rat,z=(xw:Rat) / (tot:Rat):=⟨_,rfl⟩;rw[<-hfr] at hu HRD;have FV:=Ag (show rl fr<=20000 by rw[hfr]; exact He (yF hxb amJ) FI);have HFR:=Ag (hu.mono (G:=(λb=>b≠bl/\(u4).ownBlock≠some b)) (λb hb _=>⟨FI,λe=>by have:=HVB.o b e; omega⟩));obtain⟨A7,c7,B7,d7,rfl,-⟩:=hu.opened;clear hu hfr;refine Y3 ?_;clear y2 y3 y4 m4 ew Bq BX HYV HB5 hz5 akY;intro y2 y3 y4 m4 ew Bq BX HYV HB5 hz5 akY;clear hb;dsimp only;clear hHeld;refine hK.out _ _ ⟨y2,y3,y4,m4,ew⟩ (λhHeld=>?_);clear hK K;refine Zb ?_;refine tk2 14 aj rfl λK hK=>?_
    go_simp;refine(uN wn (λb=>b≠bl/\(u4).ownBlock≠some b) _ _ y fr HYV.o HFR.o hyl FV.o).mono ?_;rintro e wn ⟨v9,rfl,hb,hu⟩;obtain⟨pr,hpr⟩:∃ z:Rat,z=y*fr:=⟨_,rfl⟩;rw[<-hpr] at hu HRD;have HPR:=Ag (hu.mono (G:=(λb=>b≠bl/\(u4).ownBlock≠some b)) (λb hb _=>hb.elim id λh=>⟨FI,λe=>by have:=HVB.o b e; omega⟩));obtain⟨A8,c8,B8,d8,rfl,-⟩:=hu.opened;clear hu hpr;refine Y3 ?_;clear y2 y3 y4 m4 ew Bq BX HYV HB5 hz5 akY;intro y2 y3 y4 m4 ew Bq BX HYV HB5 hz5 akY;replace HFR:=Ag (Ak.below HFR.o hb);clear hb;dsimp only;clear hHeld;refine hK.out _ _ ⟨y2,y3,y4,m4,ew⟩ (λhHeld=>?_);clear hK K;refine Zb ?_;refine tkm [15,16] ?_;refine Zp ?_;clear hHeld;obtain⟨q8,hq8⟩:∃ x:RV,x=⟨ay pr,Gw A8 (ay pr).num.length c8,Gw B8 (ay pr).den.length d8⟩:=⟨_,rfl⟩;obtain⟨zz2,hzz2⟩:=Gl (l:=(qm T d ei d).cells) (k:=2) (by show 2 < 6; omega);have x2:=Bq.o.cell (c:=d) (j:=2) hdN FI hzz2;have f2:=Bq.o.frozen (d*6+2);obtain⟨zz3,hzz3⟩:=Gl (l:=(qm T d ei d).cells) (k:=3) (by show 3 < 6; omega);have x3:=Bq.o.cell (c:=d) (j:=3) hdN FI hzz3;have f3:=Bq.o.frozen (d*6+3);obtain⟨zz4,hzz4⟩:=Gl (l:=(qm T d ei d).cells) (k:=4) (by show 4 < 6; omega);have x4:=Bq.o.cell (c:=d) (j:=4) hdN FI hzz4;have f4:=Bq.o.frozen (d*6+4);obtain⟨Wz,hWz⟩:=Gp (((wn.setCell ⟨bl,d*6+2,none⟩ (G7 q8.r.neg)).setCell ⟨bl,d*6+3,none⟩ q8.vn).setCell ⟨bl,d*6+4,none⟩ q8.vd);have aaP:Wrote (λb=>b=bl) wn Wz:=hWz▸(((Ir (λb=>b=bl) wn).setCell (p:=⟨bl,d*6+2,none⟩) (.inl rfl) _).setCell (p:=⟨bl,d*6+3,none⟩) (.inl rfl) _).setCell (p:=⟨bl,d*6+4,none⟩) (.inl rfl) _;have hf2:EV.fine wn (λb=>b≠bl/\(u4).ownBlock≠some b) { qm T d ei d with q:=q8 }:=by
     have h:=Bq.o.fine d hdN;refine⟨?_,h.2⟩;show q8.fine wn _;rw[hq8];exact Ak.uz HPR.o
    have afN:=Bq.o.write (d:=d) (e:={ qm T d ei d with q:=q8 }) aaP aiY (λcs h1 h2=>⟨_,h1.set3 hdN q8,by rw[hWz]; exact((h2.set _ _).set _ _).set _ _⟩) hf2;have adD:Cb g i (j+1) (qm (qm T d ei) d { qm T d ei d with q:=q8 }):=HIN.o.kid HGD.o HND.o HXD.o (λc hc=>by rw[iK _ _ hc,iK _ _ hc]) (by
     rw[eP,eP,acj HGD.o HND.o HXD.o,acj HGD.o HND.o HXD.o,LG (λh=>HK2.o h.1),LG (λh=>HK2.o h.1),HRD.o,HEI.o,hq8];exact⟨HS0.o,HS1.o,rfl⟩)
    rw[hq8] at hWz;have En:=Ag afN;have Dq:=Ag adD;have HWZ:=Ag hWz;have Fa:=Ag (BX.o.wrote aaP FI);have HB9:=Ag (Ht HB5.o aaP (λb hb=>by omega) HB5.o.size);have hz9:=aaP.size;clear afN adD hWz aaP hq8 hf2 m0 m1 m2 m4 y2 y3 y4 ew hzz2 hzz3 hzz4;go_wp2
    refine zbP ?_;go_wp2
    go_roundw
    case rel=>exact⟨j+1,_,FI,by go_num,En.o,Dq.o,Fa.o,HB9.o,FI⟩
    case measure=>exact zMs
def qL (g:Gm) (xr yr:List Raw) (pl:Int):Int:=if seatE g pl≠0 then seatE g pl else if qh g xr yr≠0 then qh g xr yr else fP (nT g (xr.map gK) (yr.map gK) pl.toNat)
def lS (g:Gm) (xr yr:List Raw) (pl:Int):Raw:=if seatE g pl≠0 then ⟨false,[],[]⟩ else if qh g xr yr≠0 then ⟨false,[],[]⟩ else dR (nT g (xr.map gK) (yr.map gK) pl.toNat)
def pW (g:Gm) (x y:List Rat) (pl k:Nat):Rat:=jm (((endIdx g g.F7.length).take k).map (uD g x y pl))
theorem ad6 {g:Gm} (h:(endIdx g g.F7.length)[k]? = some c):pW g x y pl (k+1)=pW g x y pl k+uD g x y pl c:=by
 unfold pW;rw[Gv h,Hf,Ju,List.map_nil,oG]
theorem afP (g:Gm) (x y:List Rat) (pl:Nat):pW g x y pl (endIdx g g.F7.length).length=nT g x y pl:=by grind [pW,nT,ahq]
theorem adE {g:Gm} (hf:aQ g=0) (hi:i < g.F7.length):rl (eX chB g.F7 [] i)<=1+4*i:=by
 have hne:=(dP hf).1;refine aej (gQ hf) chB [] (λn hn hc x hx=>?_) i hi;have hk:n.kind=1:=by unfold chB at hc;simpa using hc
 rw[qG FI] at hx;obtain⟨z,hz,rfl⟩:=List.mem_map.1 hx;obtain⟨hp1,hp2',hp3',hp4⟩:=kX hne hn hk;have h1:=oK (l:=n.weights) hp4;grind [yF]
theorem afQ {z:Int} (h:-1000000<=z/\z<=1000000):rl (z:Rat)<=2:=by grind [ae0,dig]
theorem amK {g:Gm} (hf:aQ g=0) (hi:i < g.F7.length) (hk:(g.F7.getD i default).kind=3) (pl:Nat):rl (aiK g pl i)<=2:=by
 obtain⟨n,hn⟩:=Gl hi;have e:g.F7.getD i default=n:=by rw[GH,hn];rfl
 rw[e] at hk;unfold aiK;rw[e];refine afQ ?_;obtain⟨_,h2,_⟩:=acg (dP hf).1 (Gx hn) hk;rw[GH];cases e2:n.pay[pl]? with
 | none=>grind
 | some z=>exact h2 z (Gx e2)
theorem akZ {g:Gm} (hf:aQ g=0) (hN:g.F7.length<=60) (hx:∀ z∈x,rl z<=4) (hy:∀ z∈y,rl z<=4) (hc:c∈endIdx g g.F7.length):rl (uD g x y pl c)<=251:=by grind [vY,uD,aaR,adE,amK,jQ,chB]
theorem amL:∀ {l:List Rat} {c:Nat},(∀ z∈l,rl z<=c)->rl (jm l)<=1+l.length*(c+1):=by
 intro l c h;have e:l=(Ig l.length).map λi=>l.getD i 0:=(aeH l l.length rfl).symm
 rw[e,abu];rw[Gz,Je];refine aci _ λi hi=>?_
 grind
theorem aiZ {g:Gm} (hf:aQ g=0) (hN:g.F7.length<=60) (hx:∀ z∈x,rl z<=4) (hy:∀ z∈y,rl z<=4) (pl k:Nat):rl (pW g x y pl k)<=20000:=by
 have h:=amL (l:=((endIdx g g.F7.length).take k).map (uD g x y pl)) (c:=251) (λz hz=>by
  obtain⟨c,hc,rfl⟩:=List.mem_map.1 hz;exact akZ hf hN hx hy (List.mem_of_mem_take hc))
 grind [vX,pW]
theorem vZ {g:Gm} {f:Nat->Rat} (hN:g.F7.length<=60) (hk:k<=g.F7.length) (hc:c<=300) (h:∀ (i:Nat) (n:Nd),g.F7[i]? = some n->n.kind=3->i < k->rl (f i)<=c):rl (iI g f k)<=18061:=by
 have h1:=aeD k h;have h2:k*(c+1)<=60*301:=Nat.mul_le_mul FI FI;omega
theorem afR {g:Gm} (hf:aQ g=0) (hN:g.F7.length<=60) {n:Nd} (hn:g.F7[i]? = some n) (hk:n.kind=3) (pl:Nat):rl (aaL g pl i)<=243:=by grind [aaL,adE,amK,jQ,chB]
theorem adF {g:Gm} (pl r c:Nat):∀ k,k<=g.F7.length->fE g pl k r c=iI g (λi=>if atS g 0 i=r/\atS g 1 i=c then aaL g pl i else 0) k
 | 0,_=>rfl
 | k+1,hk=>by
  have ih:=adF (g:=g) pl r c k FI;obtain⟨n,hn⟩:=Gl (l:=g.F7) (k:=k) FI;rw[fE,hn];by_cases h3:n.kind=3
  ·rw[kM hn h3,<-ih];by_cases h:atS g 0 k=r/\atS g 1 k=c
   ·simp only[h3,h,and_self,true_and,if_true]
   ·rw[LG h,JX];simp only[h3,true_and];rw[LG h]
  ·rw[jL hn h3,<-ih];simp only[h3,false_and,if_false]
theorem afS:rl (0:Rat)<=1:=by rw[lK]; omega
theorem ahr {g:Gm} (hf:aQ g=0) (hN:g.F7.length<=60) (pl r c:Nat) (hk:k<=g.F7.length):rl (fE g pl k r c)<=18061:=by
 rw[adF pl r c k hk];refine vZ hN hk (c:=243) FI λi n hn h3 _=>?_
 grind [afR,afS]
def sG (g:Gm) (pl k r:Nat) (y:List Rat) (c:Nat):Rat:=nZ c λj=>fE g pl k r j*y.getD j 0
theorem x9 {g:Gm} (pl r c:Nat) (y:List Rat):∀ k,k<=g.F7.length->sG g pl k r y c=iI g (λi=>if atS g 0 i=r/\atS g 1 i < c then aaL g pl i*y.getD (atS g 1 i) 0 else 0) k
 | 0,_=>by
  unfold sG;rw[fM (h:=λ_=>0) c λj _=>by show(0:Rat)*_=0; exact Rat.zero_mul _];exact oP _
 | k+1,hk=>by
  have ih:=x9 (g:=g) pl r c y k FI;unfold sG at ih ⊢;obtain⟨n,hn⟩:=Gl (l:=g.F7) (k:=k) FI;by_cases h3:n.kind=3
  ·rw[kM hn h3,<-ih];by_cases hr:atS g 0 k=r
   ·have h:=uU (f:=λj=>fE g pl k r j*y.getD j 0) (h:=λj=>fE g pl (k+1) r j*y.getD j 0) (v:=aaL g pl k*y.getD (atS g 1 k) 0) (k:=atS g 1 k) (λj hj=>by
     have e:fE g pl (k+1) r j=fE g pl k r j:=by
      rw[fE,hn];exact LG λe=>hj e.2.2.symm
     simp only[e]) (by
     have e:fE g pl (k+1) r (atS g 1 k)=fE g pl k r (atS g 1 k)+aaL g pl k:=by
      rw[fE,hn];exact LH ⟨h3,hr,rfl⟩
     simp only[e];rw[Rat.add_mul]) c
    rw[h];congr 1
    by_cases hc:atS g 1 k < c
    ·rw[LH hc,LH ⟨hr,hc⟩]
    ·rw[LG hc,LG (λe=>hc e.2)]
   ·rw[LG (λe=>hr e.1),JX];refine fM c λj _=>?_
    have e:fE g pl (k+1) r j=fE g pl k r j:=by
     rw[fE,hn];exact LG λe=>hr e.2.1
    rw[e]
  ·rw[jL hn h3,<-ih];refine fM c λj _=>?_
   have e:fE g pl (k+1) r j=fE g pl k r j:=by
    rw[fE,hn];exact LG λe=>h3 e.1
   rw[e]
theorem aeO {g:Gm} (hf:aQ g=0) (hN:g.F7.length<=60) (pl r c:Nat) (hy:∀ z∈y,rl z<=4):rl (sG g pl g.F7.length r y c)<=18061:=by
 rw[x9 pl r c y _ (Gy _)];refine vZ hN (Gy _) (c:=247) FI λi n hn h3 _=>?_
 grind [afR,jQ,afS]
def ab2 (g:Gm) (pl w:Nat) (x y:List Rat) (h:Nat):Rat:=nZ h λr=>x.getD r 0*sG g pl g.F7.length r y w
theorem ak0 {g:Gm} (hf:aQ g=0) (x y:List Rat) (pl:Nat):ab2 g pl (aN g 1).length x y (aN g 0).length=nT g x y pl:=aeE hf x y pl g.F7.length (Gy _)
theorem aeP {g:Gm} (f:Nat->Nat->Rat) (a:Nat->Rat) (h:Nat):∀ k,k<=g.F7.length->nZ h (λr=>a r*iI g (λi=>if atS g 0 i=r then f r i else 0) k)=iI g (λi=>if atS g 0 i < h then a (atS g 0 i)*f (atS g 0 i) i else 0) k
 | 0,_=>by
  rw[fM (h:=λ_=>0) h λj _=>by show a j*(0:Rat)=0; exact Rat.mul_zero _];exact oP _
 | k+1,hk=>by
  have ih:=aeP (g:=g) f a h k FI;obtain⟨n,hn⟩:=Gl (l:=g.F7) (k:=k) FI;by_cases h3:n.kind=3
  ·rw[kM hn h3,<-ih];have h:=uU (f:=λr=>a r*iI g (λi=>if atS g 0 i=r then f r i else 0) k) (h:=λr=>a r*iI g (λi=>if atS g 0 i=r then f r i else 0) (k+1)) (v:=a (atS g 0 k)*f (atS g 0 k) k) (k:=atS g 0 k) (λr hr=>by
    rw[kM hn h3,LG (Ne.symm hr),JX]) (by
    rw[kM hn h3,LH rfl,Rat.mul_add]) h
   rw[h]
  ·rw[jL hn h3,<-ih];refine fM h λr _=>?_
   rw[jL hn h3]
theorem amM {g:Gm} (hf:aQ g=0) (hN:g.F7.length<=60) (pl w h:Nat) (hx:∀ z∈x,rl z<=4) (hy:∀ z∈y,rl z<=4):rl (ab2 g pl w x y h)<=18061:=by
 have e:ab2 g pl w x y h=iI g (λi=>if atS g 0 i < h then x.getD (atS g 0 i) 0*(if atS g 1 i < w then aaL g pl i*y.getD (atS g 1 i) 0 else 0) else 0) g.F7.length:=by
   unfold ab2;rw[<-aeP (λ_ i=>if atS g 1 i < w then aaL g pl i*y.getD (atS g 1 i) 0 else 0) (λr=>x.getD r 0) h _ (Gy _)];refine fM h λr _=>?_
   grind [x9]
 rw[e];refine vZ hN (Gy _) (c:=251) FI λi n hn h3 _=>?_
 grind [afR,jQ,afS]
theorem ai0 (w:GK) (F Fx Fy:Gq) (vg vx vy:GN) (g:Gm) (xr yr:List Raw) (hg:AB w F vg g) (hsm:Small g) (hx:Gs w Fx vx xr) (hy:Gs w Fy vy yr) (hfx:Bc xr) (hfy:Bc yr) (hx4:Bf xr) (hy4:Bf yr) :
  Calls GI 11 #[vg,vx,vy] w (Ret w λv w'=>∃ t,v = .tuple #[t,GV GU (oU g xr yr)]/\Gt w' (λ_=>True) t (iY g xr yr)):=by
 refine zdN ?_;intro HSM HFX HFY HX4 HY4;have hni:=hsm.F8;have HG:=Ag hg;obtain⟨vn,vi,rfl,⟨A,c,rfl,hc,_⟩,⟨Ai,ci,rfl,hci,hI⟩⟩:=hg;have HI:=Ag hI;refine Yj ?_;intro HX HY;obtain⟨Ax,cx,rfl,_,_⟩:=hx;obtain⟨Ay,cy,rfl,_,_⟩:=hy;refine zbq ?_;intro HE HO;obtain⟨oe,hoe⟩:=Gp (oU g xr yr);obtain⟨oo,hoo⟩:=Gp (iY g xr yr);rw[<-hoe] at HE ⊢;rw[<-hoo] at HO ⊢;clear hsm hfx hfy hx4 hy4 hoe hoo hI;go_in;go_wp2_with fail
 generalize hW:G5 _ _=W;obtain⟨rx,hB,hz⟩:=aI hW;clear hW hz;refine Yt ?_;clear HG HX HY;intro x0 x1 x2 HG HX HY;go_wp2_with fail
 clear x0 x1 x2;refine(aeM W F _ _ _ _ _ g xr yr HG.o HSM.o HX.o HY.o HFX.o HFY.o HX4.o HY4.o).mono ?_;rintro e w1 ⟨_,rfl,hb,vp,rfl,Ap,np,cp,rfl⟩;have HBO:=Ag (show lJ g xr yr=0->fQ g=0/\qh g xr yr=0 from λh=>by
  unfold lJ at h;split at h
  ·rename_i h1; exact absurd h h1
  ·rename_i h1; exact⟨Classical.not_not.1 h1,h⟩)
 obtain⟨fe,hfe⟩:=Gp (lJ g xr yr);rw[<-hfe] at HE HO HBO ⊢;replace rx:=rx.below hb rx.lt;refine Zl ?_;clear hB HG HX HY;intro hB HG HX HY;refine Zd ?_;intro x0 x1 x2;clear hb;clear hfe;dsimp only;by_cases h0:fe=0
 case neg =>
  refine zaq ?_;intro t0 H0;clear h0;go_wp2_with fail
  go_ret2;refine zdL ?_;intro e0;refine⟨_,rfl,hB,_,by rw[e0]; rfl,?_⟩;rw[HO.o,LH H0.o];exact Gt.nil _ _
 subst h0;obtain⟨hlk,hve⟩:=HBO.o (by trivial);obtain⟨hform,hpl2,hpar⟩:=pU hlk;obtain⟨xs,ys,rfl,rfl,zY⟩:=aaT hve HX4.o HY4.o;have HVO:=Ag zY; have HFO:=Ag hform; have HP2:=Ag hpl2; have HPA:=Ag hpar;have HOK:=Ag (zY.plan hform hpl2);have HSL:=Ag (λp=>show(aN g p).length<=1001 from by
  have h1:=dL (g:=g) (p:=p) (λi hi=>dJ hform i hi) g.F8.length (Gy _);unfold aN; omega)
 refine zcp ?_;clear HE HO;intro HE HO;rw[eU,eU] at HE HO;rw[Gz] at HX HY ⊢;rw[Gz];clear hlk hve hform hpl2 hpar zY HBO HFX HFY HX4 HY4;go_wp2_with fail
 have HRX:=Ag rx;have hbx:=GR w1.heap.size w1;refine wp_region_held_drew (S:=λw'=>w'.cell? ⟨w.heap.size,0,none⟩=some (GV GU g.aC)/\w'.cell? ⟨w.heap.size,1,none⟩=some (Gw A g.F7.length c)/\w'.cell? ⟨w.heap.size,2,none⟩=some (Gw Ai g.F8.length ci)) aj ⟨x0,x1,x2⟩ (λhHeld=>?_);have hb:Below w1.heap.size w1 w1.drew:=aG (GR _ w1) 1;refine Zx ?_;clear x0 x1 x2;intro x0 x1 x2;refine zdg ?_;clear HG;intro HG;replace hbx:=hbx.trans (hb.mono hbx.size);clear hb;generalize w1.drew=wn at *;refine tkm [0,2] ?_;refine tk2 1 aj rfl λK hK=>?_
 go_simp;refine(oQ wn F _ g 0 HG.o HSM.o HFO.o).mono ?_;rintro e wn ⟨_,rfl,hb,hvl⟩;have HL0:=Ag (AA.keep (G:=λ_=>True) hvl (λ_ _ _=>trivial) (GZ _ _));obtain⟨Al0,cl0,rfl⟩:=hvl.open;clear hvl;refine Zx ?_;clear x0 x1 x2;intro x0 x1 x2;refine zdg ?_;clear HG;intro HG;replace hbx:=hbx.trans (hb.mono hbx.size);clear hb;refine ZJ ?_;clear hHeld hK K;intro hHeld;refine tk2 3 aj rfl λK hK=>?_
 go_simp;refine(oQ wn F _ g 1 HG.o HSM.o HFO.o).mono ?_;rintro e wn ⟨_,rfl,hb,hvl⟩;have HL1:=Ag (AA.keep (G:=λ_=>True) hvl (λ_ _ _=>trivial) (GZ _ _));obtain⟨Al1,cl1,rfl⟩:=hvl.open;clear hvl;refine Zx ?_;clear x0 x1 x2;intro x0 x1 x2;refine zdg ?_;clear HG;intro HG;replace hbx:=hbx.trans (hb.mono hbx.size);replace HL0:=Ag (AA.on HL0.o (GL hb _));clear hb;refine ZJ ?_;clear hHeld hK K;intro hHeld;refine tkm [4,5] ?_;refine Z8 ?_;clear hHeld;obtain⟨W2,hW2⟩:=Gp wn;rw[<-hW2] at HG HL0 HL1 hbx ⊢;replace HRX:=Ag (HRX.o.below hbx HRX.o.lt);replace HX:=Ag (Iy HX.o (GL hbx _));replace HY:=Ag (Iy HY.o (GL hbx _));have HB:=Ag (hB.trans (hbx.mono hB.size));clear x0 x1 x2 hbx hB hW2 rx;go_wp2_with fail
 go_loopw [12,13] (λur iv wr=>∃ (i:Nat) (L:List (GN×List Raw)),i<=g.F8.length/\iv = GV GU (i:Int)/\L.map Prod.snd=(sF g xs ys i).map (Iq ak)/\OwnSl rG wr W2.heap.size 28 (λ_=>True) ur L/\Below W2.heap.size W2 wr) (λ_ iv _=>g.F8.length - (intOf iv).toNat)
 case atStart=>exact⟨0,[],Hg _,rfl,rfl,OwnSl.nil _ _ _ _ _,GR _ _⟩
 case round =>
  obtain⟨i,L,hi,rfl,hmap,hown,hbel⟩:=hrel;obtain⟨wa,rfl⟩:=Gp wr;have HMP:=Ag hmap;have HOWN:=Ag hown;have hkz:=hbel.size;have x2:=(HRX.o.below hbel HRX.o.lt).cell (i:=2) rfl;clear hmap hown;by_cases hlt:i < g.F8.length
  case neg =>
   obtain rfl:i=g.F8.length:=FI;have x0:=(HRX.o.below hbel HRX.o.lt).cell (i:=0) rfl;have x1:=(HRX.o.below hbel HRX.o.lt).cell (i:=1) rfl;have hL:L.length=g.F8.length:=by
    have h:=congrArg JB HMP.o;rw[Gz,Gz] at h;rw[h];exact qR g xs ys
   have hrows:=HOWN.o.rows (G:=λ_=>True) (λ_ _=>trivial) (λ_ _=>trivial);rw[HMP.o] at hrows;have HR:=Ag (show Ba wa (λ_=>True) u12 (kN g xs ys) from hrows);have HGA:=Ag (HG.o.on (GL hbel F));have hbb:=HB.o.trans (hbel.mono HB.o.size);have HBB:=Ag hbb;obtain⟨Ar,cr,hv12,_,_⟩:=hrows;subst hv12;rw[Gz] at HR ⊢;clear hL hbb;go_wp2_with fail
   refine(aiL wa (λ_=>True) _ _ g (kN g xs ys) (HGA.o.keep (λ_ _ _=>trivial) (GZ _ _)) HSM.o HFO.o HPA.o HR.o HOK.o).mono ?_;rintro e w3 ⟨_,rfl,hb,t,rfl,ht⟩;rw[<-HE.o];rw[<-HO.o] at ht;have HT:=Ag ht;have HBZ:=Ag (HBB.o.trans (hb.mono HBB.o.size));obtain⟨At,ct,e,_,_⟩:=ht;subst e;clear x0 x1 x2 hb;dsimp only;go_wp2_with fail
   go_ret2;exact⟨_,rfl,HBZ.o,_,rfl,HT.o⟩
  obtain⟨inf,bU⟩:=Gl hlt;have hg0:g.F8.getD i default=inf:=by rw[GH,bU];rfl
  obtain⟨ib,io,rfl,_,hib,hcell⟩:=HI.o FI;have HCE:=Ag (hcell i inf bU);obtain⟨ha1,ha2⟩:=qJ HFO.o bU;have Df:=Ag bU;have HG0:=Ag hg0;have HBA:=Ag (HB.o.trans (hbel.mono HB.o.size));clear hcell bU hg0;go_wp2_with fail
  go_loopw [14,15] (λu av wr=>∃ (a:Nat) (N:List RV),(a:Int)<=inf.actions/\av = GV GU (a:Int)/\N.map RV.r=(sJ g xs ys i a).map ak/\OwnSl ratK wr wa.heap.size 42 (λb=>b < w.heap.size) u N/\Below wa.heap.size wa wr) (λ_ av _=>inf.actions.toNat - (intOf av).toNat)
  case atStart=>exact⟨0,[],FI,rfl,rfl,OwnSl.nil _ _ _ _ _,GR _ _⟩
  case round =>
   obtain⟨a,N,ha,rfl,hNm,hNo,hbr⟩:=hrel;obtain⟨we,rfl⟩:=Gp wr;have HNM:=Ag hNm;have HNO:=Ag hNo;have hez:=hbr.size;have x2:=(HRX.o.below (hbel.trans (hbr.mono hkz)) HRX.o.lt).cell (i:=2) rfl;have HBE:=Ag (HBA.o.trans (hbr.mono HBA.o.size));have i0:=ah HCE.o.c0 HBE.o;have i1:=ah HCE.o.c1 HBE.o;have hNl:N.length=a:=by
    have h:=congrArg JB HNM.o;rwa [Gz,Gz,aaS] at h
   obtain⟨ac,hac⟩:=Gp inf.actions;obtain⟨pl,hpl⟩:=Gp inf.aH;rw[<-hac] at i1 ha;rw[<-hpl] at i0;have HAC:=Ag hac;have HPL:=Ag hpl;have HNL:=Ag hNl;have hac1:1<=ac/\ac<=10:=FI;clear hNm hNo hac hpl hNl;by_cases hal:(a:Int) < ac
   case neg =>
    have t1:decide ((a:Int) < ac)=false:=by simp[hal]
    have hae:(a:Int)=ac:=FI;have HAE:=Ag (show sF g xs ys (i+1)=sF g xs ys i ++ [sJ g xs ys i a] by
     rw[ahh,HG0.o,<-HAC.o,show ac.toNat=a by omega])
    have hrow:=HNO.o.raws (G:=λb=>b < w.heap.size\/wa.heap.size<=b) (λb hb=>.inl hb) (λb hb=>.inr hb);rw[HNM.o] at hrow;obtain⟨Ar,cr,e14,_,_⟩:=id hrow;rw[Gz,aaS] at e14;subst e14;have hlr:L.length<=1000:=by
     have h:=congrArg JB HMP.o;rw[Gz,Gz] at h;have:(sF g xs ys i).length=i:=by unfold sF;rw[Gz,Je]
     omega
    have HOE:=Ag (HOWN.o.below hbr);have HRQ:=Ag (show rG.fine we (Apart (λ_=>True) u12) (Gw Ar a cr,(sJ g xs ys i a).map ak) from IX hrow (λb hb hl=>⟨trivial,λe=>by have:=HOWN.o.row.lt b e; have:=HB.o.size; omega⟩) (GZ _ _));clear hal hrow;go_wp2_with (at_builtin; refine jI (K:=rG) (F:=λ_=>True) (W:=we) rfl _ _ 27 28 24 _ Tryz.underlying27 Tryz.infoRats rfl au rfl W2.heap.size (He hkz hez) u12 L rfl (Gw Ar a cr,(sJ g xs ys i a).map ak) _ rfl FI rfl HOE.o HRQ.o ?_; intro g3 cap3 wg hown' nX hat' hlt')
    have HO9:=Ag hown';have hb9:=Ht (hbel.trans (hbr.mono hkz)) nX (λb hb=>(HOE.o.row.lt b hb).1) (He hkz hez);clear hown' nX hat' hlt';go_wp2_with fail
    go_roundw
    case rel=>exact⟨i+1,_,FI,by go_num,by rw[HAE.o,Hf,Hf,HMP.o]; rfl,HO9.o,hb9⟩
    case measure=>exact zMs
   have t1:decide ((a:Int) < ac)=true:=by simp[hal]
   have HAL:=Ag (show(a:Int) < inf.actions by rw[<-HAC.o]; exact hal);have adv:(a:Int) < (g.F8.getD i default).actions:=by rw[HG0.o,<-HAC.o];exact hal
   clear hal;rcases xZ HFO.o HP2.o hlt with hpp | hpp
   ·have aoQ:pl=0:=by rw[HPL.o,<-HG0.o];exact hpp
    subst aoQ;have hkm:=qK (a:=a) hlt hpp adv;obtain⟨kn,hkn⟩:=Gp (iP (aN g 0) ((i:Int),(a:Int)));have aiU:kn < xs.length:=by rw[hkn,HVO.o.xl];exact lQ hkm
    have hsl:(aN g 0).length<=1000000:=by have:=HSL.o 0;omega
    have hix:=mM we _ _ (aN g 0) ((i:Int),(a:Int)) (HL0.o.on (GL (hbel.trans (hbr.mono hkz)) _)) hkm hsl;rw[<-hkn] at hix;have HRV:=Ag (show sJ g xs ys i (a+1)=sJ g xs ys i a ++ [xs.getD kn 0] by rw[aeN,hpp,<-hkn,zW hpp]);clear hkm hkn adv hpp;go_wp2_with fail
    refine hix.mono ?_;rintro e wc ⟨_,rfl,hb,rfl⟩;replace HNO:=Ag (HNO.o.below hb);have hbc:=hbr.trans (hb.mono hez);have hcz:=hbc.size;obtain⟨z,hz⟩:=Gl aiU;have HZ:=Ag (show xs.getD kn 0=z by rw[GH,hz]; rfl);obtain⟨xb,xo,c4,vn',vd',e4,hF4,_,l0,l1,l2,hln,hld⟩:=Gs.at (Iy HX.o (GL ((hbel.trans (hbr.mono hkz)).trans (hb.mono FI)) _)) (k:=kn) (r:=ak z) (by rw[GY,hz]; rfl);rw[Gz] at e4;simp only[Value.slice.injEq,true_and] at e4;obtain⟨rfl,rfl⟩:=e4;obtain⟨q,hq⟩:∃ q:RV,q=⟨ak z,vn',vd'⟩:=⟨_,rfl⟩;have HF1:=Ag (show ratK.fine wc (Apart (λb=>b < w.heap.size) u14) q by rw[hq]; exact RV.fine.keep (w:=wc) (F:=λb=>b < w.heap.size) ⟨hln,hld⟩ (λb hb _=>⟨hb,λe=>by have:=(HNO.o.row.lt b e).1; have:=HBA.o.size; omega⟩) (GZ _ _));obtain⟨An,cn,rfl,-,-⟩:=hln;obtain⟨Ad,cd,rfl,-,-⟩:=hld;have HQ:=Ag (show q.r=ak z by rw[hq]);have hcells:(#[G7 (ak z).neg,Gw An (ak z).num.length cn,Gw Ad (ak z).den.length cd]:Array GN)=(ratK.cells q).toArray:=by rw[hq];rfl
    have HCC:=Ag hcells;clear hz hF4 hq hcells hix hb i0 i1 x2;dsimp only;go_wp2_with (at_builtin; refine jI (K:=ratK) (F:=λb=>b < w.heap.size) (W:=wc) rfl _ _ 28 42 56 _ JU JR rfl au rfl wa.heap.size hcz u14 N rfl q _ HCC.o (by have:=HNL.o; omega) rfl HNO.o HF1.o ?_; intro g4 cap4 wj hown' nX hat' hlt')
    have HO9:=Ag hown';have hb9:=Ht hbc nX (λb hb=>(HNO.o.row.lt b hb).1) hcz;clear hown' nX hat' hlt';go_wp2_with fail
    go_roundw
    case rel=>exact⟨a+1,N ++ [q],by have:=HAL.o; omega,by go_num,by rw[HRV.o,HZ.o,Hf,Hf,HNM.o]; show _ ++ [q.r]=_; rw[HQ.o]; rfl,HO9.o,hb9⟩
    case measure=>have:=HAL.o; simp[intOf]; omega
   ·have aoQ:pl=1:=by rw[HPL.o,<-HG0.o];exact hpp
    subst aoQ;have hkm:=qK (a:=a) hlt hpp adv;obtain⟨kn,hkn⟩:=Gp (iP (aN g 1) ((i:Int),(a:Int)));have aiU:kn < ys.length:=by rw[hkn,HVO.o.yl];exact lQ hkm
    have hsl:(aN g 1).length<=1000000:=by have:=HSL.o 1;omega
    have hix:=mM we _ _ (aN g 1) ((i:Int),(a:Int)) (HL1.o.on (GL (hbel.trans (hbr.mono hkz)) _)) hkm hsl;rw[<-hkn] at hix;have HRV:=Ag (show sJ g xs ys i (a+1)=sJ g xs ys i a ++ [ys.getD kn 0] by rw[aeN,hpp,<-hkn,abv hpp]);clear hkm hkn adv hpp;go_wp2_with fail
    refine hix.mono ?_;rintro e wc ⟨_,rfl,hb,rfl⟩;replace HNO:=Ag (HNO.o.below hb);have hbc:=hbr.trans (hb.mono hez);have hcz:=hbc.size;obtain⟨z,hz⟩:=Gl aiU;have HZ:=Ag (show ys.getD kn 0=z by rw[GH,hz]; rfl);obtain⟨xb,xo,c4,vn',vd',e4,hF4,_,l0,l1,l2,hln,hld⟩:=Gs.at (Iy HY.o (GL ((hbel.trans (hbr.mono hkz)).trans (hb.mono FI)) _)) (k:=kn) (r:=ak z) (by rw[GY,hz]; rfl);rw[Gz] at e4;simp only[Value.slice.injEq,true_and] at e4;obtain⟨rfl,rfl⟩:=e4;obtain⟨q,hq⟩:∃ q:RV,q=⟨ak z,vn',vd'⟩:=⟨_,rfl⟩;have HF1:=Ag (show ratK.fine wc (Apart (λb=>b < w.heap.size) u14) q by rw[hq]; exact RV.fine.keep (w:=wc) (F:=λb=>b < w.heap.size) ⟨hln,hld⟩ (λb hb _=>⟨hb,λe=>by have:=(HNO.o.row.lt b e).1; have:=HBA.o.size; omega⟩) (GZ _ _));obtain⟨An,cn,rfl,-,-⟩:=hln;obtain⟨Ad,cd,rfl,-,-⟩:=hld;have HQ:=Ag (show q.r=ak z by rw[hq]);have hcells:(#[G7 (ak z).neg,Gw An (ak z).num.length cn,Gw Ad (ak z).den.length cd]:Array GN)=(ratK.cells q).toArray:=by rw[hq];rfl
    have HCC:=Ag hcells;clear hz hF4 hq hcells hix hb i0 i1 x2;dsimp only;go_wp2_with (at_builtin; refine jI (K:=ratK) (F:=λb=>b < w.heap.size) (W:=wc) rfl _ _ 28 42 56 _ JU JR rfl au rfl wa.heap.size hcz u14 N rfl q _ HCC.o (by have:=HNL.o; omega) rfl HNO.o HF1.o ?_; intro g4 cap4 wj hown' nX hat' hlt')
    have HO9:=Ag hown';have hb9:=Ht hbc nX (λb hb=>(HNO.o.row.lt b hb).1) hcz;clear hown' nX hat' hlt';go_wp2_with fail
    go_roundw
    case rel=>exact⟨a+1,N ++ [q],by have:=HAL.o; omega,by go_num,by rw[HRV.o,HZ.o,Hf,Hf,HNM.o]; show _ ++ [q.r]=_; rw[HQ.o]; rfl,HO9.o,hb9⟩
    case measure=>have:=HAL.o; simp[intOf]; omega
theorem ajy {g:Gm} (hg:Good g) (pl:Int):∀ (b c:Nat),c<=b->c < g.F7.length->(jB g pl c).length<=c
 | 0,c,hb,_=>by
  obtain rfl:c=0:=FI;rw[aa4 hg]; simp
 | b+1,c,hb,hc=>by
  obtain⟨p,hp,h0 | ⟨q,n,rfl,hq,hn,hm⟩⟩:=hg.par hc
  ·rw[h0.1,aa4 hg]; simp
  ·obtain⟨j,hj⟩:=H9 hm;have ih:=ajy hg pl b q FI FI;rw[acE hg hc (pz hg hc hn hm) hn FI];by_cases hk:n.kind=2/\n.aH=pl
   ·rw[xK hg hn hk hj,G9]; simp; omega
   ·rw[kS hk,G9]; simp; omega
theorem aeQ (w:GK) (F:Gq) (vg:GN) (g:Gm) (node:Nat) (pl:Int) (hg:AB w F vg g) (hsm:Small g) (hf:aQ g=0) (hno:node < g.F7.length) :
  Calls GI 90 #[vg,GV GU (node:Int),GV GU pl] w (Ret w λv _=>v=qg (jh g pl node)):=by
 have HSM:=Ag hsm;have HGD:=Ag (gQ hf);have HNO:=Ag hno;have HG:=Ag hg;obtain⟨vn,vi,rfl,⟨A,c,rfl,hc,_⟩,⟨Ai,ci,rfl,hci,_⟩⟩:=hg;obtain⟨ls,hls⟩:=Gp (jh g pl node);rw[<-hls];have HLS:=Ag hls;clear hsm hf hls;go_in;go_wp2_with fail
 generalize hW:G5 _ _=W;obtain⟨rx,ro,hB,hz⟩:=gW hW;clear hW;obtain⟨ob,hob⟩:=Gp (w.heap.size+1);rw[<-hob] at ro hz ⊢;have how:w.heap.size<=ob:=FI;clear hob;refine zaG ?_;clear HG;intro HG x0 x1 x2;go_wp2_with fail
 refine(ach W F _ g node pl HG.o HSM.o HGD.o HNO.o).mono ?_;rintro e w1 ⟨_,rfl,hb,hv⟩;have ro1:=ro.below hb ro.lt;have HB:=Ag (hB.trans (hb.mono hB.size));obtain⟨l,hl⟩:=Gp (jB g pl node);rw[<-hl] at hv;have hwl:=ajy HGD.o pl node node (Gy _) HNO.o;rw[<-hl] at hwl;have hn100:=HSM.o.F7;have HLE:=Ag (show ls=lastStep l by rw[HLS.o,hl]; rfl);have HV:=Ag hv;obtain⟨Al,cl,rfl⟩:=hv.open;clear hv hl hb rx ro hB x0 x1 x2 HLS;dsimp only;by_cases h0:l.length=0
 ·have hnil:l = []:=List.eq_nil_of_length_eq_zero h0;subst hnil;have hE:ls=(-1,-1):=HLE.o;subst hE;clear h0;go_wp2_with fail
  refine(aeJ w1).mono ?_;rintro e w2 ⟨_,rfl,hb,rfl⟩;have ro2:=ro1.below hb ro1.lt;have HB2:=Ag (HB.o.trans (hb.mono HB.o.size));have q0:=ro2.cell (i:=0) rfl;have q1:=ro2.cell (i:=1) rfl;have y0:=ro2.frozen 0;have y1:=ro2.frozen 1;clear hb;dsimp only;go_wp2
  obtain⟨Wz,hWz,hrz,hwz⟩:=set2 ro2 (GV GU (-1)) (GV GU (-1));rw[<-hWz];clear hWz q0 q1 y0 y1;have t0:=hrz.cell (i:=0) rfl;have t1:=hrz.cell (i:=1) rfl;refine bodyPost_ret (v:=.agg #[GV GU (-1),GV GU (-1)]) (by simp[results,Tryz.results90,go_sem,t0,t1]) rfl ?_;exact⟨_,rfl,Ht HB2.o hwz (λb hb=>by omega) HB2.o.size,rfl⟩
 ·obtain⟨m,hm⟩:∃ m,l.length=m+1:=⟨l.length - 1,FI⟩;obtain⟨s,hs⟩:=Gl (l:=l) (k:=m) FI;have hE:ls=s:=HLE.o.trans (aaJ hs hm);subst hE;obtain⟨pb,po,rfl⟩:∃ pb po,Al=some ⟨pb,po,none⟩:=by
   obtain⟨A1,c1,e,_,h⟩:=HV.o;obtain⟨sb,so,e2,_⟩:=h FI;simp only[Value.slice.injEq] at e;exact⟨sb,so,e.1.trans e2⟩
  obtain⟨p0,p1⟩:=HV.o.at2 hs;obtain⟨n0,hn0⟩:=Gp l.length;have hn0m:n0=m+1:=FI;rw[<-hn0] at HV ⊢;have hml:m+1<=1000000:=by have:=HNO.o;omega
  have aoP:IntKind.i64.wrap ((n0:Int) - 1)=(m:Int):=by rw[IntWalk.i64_in _ FI];omega
  have t0:((n0:Int)==0)=false:=aB;have q0:=ro1.cell (i:=0) rfl;have q1:=ro1.cell (i:=1) rfl;have y0:=ro1.frozen 0;have y1:=ro1.frozen 1;have HM:=Ag hm;clear h0 hm hs;go_wp2_with fail
  have hmm:(m:Int) < (n0:Int):=FI;have hmn:m < n0:=FI;have HN0:=Ag hn0m;clear hn0 hn0m hwl;have hB:=GR w1.heap.size w1;refine aP (λw'=>w'.cell? ⟨pb,po+m*2,none⟩=some (GV GU ls.1)/\w'.cell? ⟨pb,po+m*2+1,none⟩=some (GV GU ls.2)/\w'.cell? ⟨ob,0,none⟩=some (GV GU 0)/\w'.cell? ⟨ob,1,none⟩=some (GV GU 0)) 15 1 aj rfl aj ⟨p0,p1,q0,q1⟩ λhHeld=>?_
  refine Zo ?_;have hb:Below w1.heap.size w1 w1.drew:=aG (GR _ w1) 1;replace p0:=ah p0 hb;replace p1:=ah p1 hb;replace q0:=ah q0 hb;replace q1:=ah q1 hb;replace ro1:=ro1.below hb ro1.lt;refine ZM ?_;clear hB;intro hB;clear hb;generalize w1.drew=wn at *;refine tkm [0,1,2,3,4,5,6,7,8,9,10,11,12,13,14] ?_;refine Zp ?_;clear hHeld;have y0':=ro1.frozen 0;have y1':=ro1.frozen 1;obtain⟨Wz,hWz,hrz,hwz⟩:=set2 ro1 (GV GU ls.1) (GV GU ls.2);have HWZ:=Ag hWz;have HBZ:=Ag (Ht (HB.o.trans (hB.mono HB.o.size)) hwz (λb hb=>by omega) (by have:=HB.o.size; have:=hB.size; omega));clear hWz hwz y0 y1;go_wp2
  rw[<-HWZ.o];clear q0 q1 p0 p1;have t0':=hrz.cell (i:=0) rfl;have t1':=hrz.cell (i:=1) rfl;unfold AY;refine Z4 ?_;go_wp2_with fail
  refine bodyPost_ret (v:=.agg #[GV GU ls.1,GV GU ls.2]) (by simp[results,Tryz.results90,go_sem,t0',t1']) rfl ?_;exact⟨_,rfl,HBZ.o,rfl⟩
def CW (g:Gm) (i j:Nat) (L:List RV):Prop:=∀ c,c < g.F7.length->(c=0\/(∃ (q:Nat) (n:Nd),q < i/\g.F7[q]? = some n/\(c:Int)∈n.next)\/(∃ (n:Nd) (k:Nat),g.F7[i]? = some n/\k < j/\n.next[k]? = some (c:Int))) ->
 ∃ q:RV,L[c]? = some q/\q.r=ak (eX chB g.F7 [] c)
theorem CW.next {g:Gm} {n:Nd} {L:List RV} (h:CW g i n.next.length L) (hn:g.F7[i]? = some n):CW g (i+1) 0 L:=by
 intro c hc hq;refine h c hc ?_;grind [H9]
theorem CW.self {g:Gm} (hg:Good g) {L:List RV} (h:CW g i j L) (hi:i < g.F7.length):∃ q:RV,L[i]? = some q/\q.r=ak (eX chB g.F7 [] i):=by
 refine h i hi ?_;by_cases h0:i=0
 ·exact .inl h0
 ·obtain⟨q,n,h1,h2,h3⟩:=lX hg FI hi;grind
theorem CW.done {g:Gm} (hg:Good g) {L:List RV} (h:CW g g.F7.length 0 L) (hl:L.length=g.F7.length):L.map RV.r=(Ig g.F7.length).map λc=>ak (eX chB g.F7 [] c):=by
 refine IW λc=>?_
 refine zd3 ?_;by_cases hc:c < g.F7.length
 ·have hr:∃ q:RV,L[c]? = some q/\q.r=ak (eX chB g.F7 [] c):=by
    refine h c hc ?_;by_cases h0:c=0
    ·exact .inl h0
    ·obtain⟨q,n,h1,h2,h3⟩:=lX hg FI hc;grind
  grind
 grind
theorem CW.kid {g:Gm} {n:Nd} {L L':List RV} (h:CW g i j L) (hn:g.F7[i]? = some n) (hd:n.next[j]? = some (d:Int)) (h1:∀ c,c≠d->L'[c]? = L[c]?) (h2:∃ q:RV,L'[d]? = some q/\q.r=ak (eX chB g.F7 [] d)):CW g i (j+1) L':=by
 intro c hc hq;by_cases e:c=d
 ·grind
 ·rw[h1 c e];refine h c hc ?_;grind
theorem AO.put {w:GK} {L:List RV} (h:AO w b t F L) (hk:k < L.length) (q:RV) (hq:q.fine w (λc=>F c/\c≠b)) :
  (∃ q0:RV,w.cell? ⟨b,k*3,none⟩=some (G7 q0.r.neg)/\w.cell? ⟨b,k*3+1,none⟩=some q0.vn/\w.cell? ⟨b,k*3+2,none⟩=some q0.vd)/\w.frozen? ⟨b,k*3,none⟩=false/\w.frozen? ⟨b,k*3+1,none⟩=false/\w.frozen? ⟨b,k*3+2,none⟩=false /\
  ∃ W,W=(((w.setCell ⟨b,k*3,none⟩ (G7 q.r.neg)).setCell ⟨b,k*3+1,none⟩ q.vn).setCell ⟨b,k*3+2,none⟩ q.vd)/\AO W b t F (L.set k q)/\Wrote (λc=>c=b) w W:=by
 obtain⟨q0,hq0⟩:=Gl hk;refine⟨⟨q0,h.cell (j:=0) hq0 FI rfl,h.cell (j:=1) hq0 FI rfl,h.cell (j:=2) hq0 FI rfl⟩,h.row.frozen _,h.row.frozen _,h.row.frozen _,?_⟩;obtain⟨W,hW,hm,hwB,_,hwz,hwb⟩:=h.set k q hq;exact⟨W,hW,hm,(hwB 0 w (Hg _) (GR _ _)).os,(hwB 0 w (Hg _) (GR _ _)).tape,(hwB 0 w (Hg _) (GR _ _)).output,FI,λi hi hn=>hwb i hn⟩
theorem ahs (w:GK) (F:Gq) (vg:GN) (g:Gm) (hg:AB w F vg g) (hsm:Small g) (hf:aQ g=0) :
  Calls GI 88 #[vg] w (Ret w λv w'=>Gs w' (λb=>w.heap.size<=b) v ((Ig g.F7.length).map λc=>ak (eX chB g.F7 [] c))):=by
 have HSM:=Ag hsm;have HFO:=Ag hf;have hn100:=hsm.F7;have HGD:=Ag (gQ hf);have hpos:=(gQ hf).pos;have HNE:=Ag (dP hf).1;obtain⟨vn,vi,rfl,⟨A,c,rfl,hc,hN⟩,⟨Ai,ci,rfl,hci,_⟩⟩:=hg;obtain⟨gb,go,rfl,hFg,hgl,hcell⟩:=hN hpos;have HC:=Ag hcell;obtain⟨n,hn⟩:=Gp g.F7.length;have HN:=Ag hn;rw[<-hn] at hpos hn100 ⊢;clear hsm hf hcell hn hN hc;go_in
 go_upto_region 1 with(fail)
 generalize hW:G5 _ _=W;obtain⟨rx,hB,hz⟩:=aI hW;have HRX:=Ag rx;have HB:=Ag hB;have x1:=rx.cell (i:=1) rfl;clear hW hz rx hB;go_upto_region 2 with(at_make; refine abb _ rfl _ _ 28 rfl 42 JU JR n rfl rfl FI ?_; intro w1 hb1 hz1 hm1)
 obtain⟨bl,hbl⟩:=Gp W.heap.size;have HM:=Ag (hm1 (λb=>w.heap.size<=b));rw[<-hbl] at HM ⊢;have hbw:w.heap.size < bl:=by have:=HRX.o.lt;omega
 have aiY:bl < w1.heap.size:=HM.o.row.lt;replace HRX:=Ag (HRX.o.below hb1 HRX.o.lt);replace HB:=Ag (HB.o.trans (hb1.mono HB.o.size));clear hz1 hm1 hb1 hbl x1;have hw1:=dZ w1 1 au au;refine zaQ ?_;clear hw1;intro one hw1 Bh;go_wp2_with fail
 refine hw1.mono ?_;rintro e w2 ⟨v9,rfl,hb,hu⟩;obtain⟨A1,c1,B1,d1,rfl,bH⟩:=hu.opened;obtain⟨q,hq⟩:∃ q:RV,q=⟨ak one,Gw A1 (ak one).num.length c1,Gw B1 (ak one).den.length d1⟩:=⟨_,rfl⟩;rw[<-hq] at bH;have HQ:=Ag (show q.r=ak 1 by rw[hq,Bh.o]);replace HM:=Ag (HM.o.below hb);replace HB:=Ag (HB.o.trans (hb.mono HB.o.size));replace HRX:=Ag (HRX.o.below hb HRX.o.lt);have hz2:=hb.size;obtain⟨⟨q0,e0,e1,e2⟩,f0,f1,f2,W3,hW3,hm3,afO⟩:=HM.o.put (k:=0) (by rw[Io]; exact hpos) q (bH.keep (λb hb _=>⟨FI,FI⟩) (GZ _ _));simp only[Jc,I5] at e0 e1 e2 f0 f1 f2 hW3;have hin:CW g 0 0 ((GX n rv0).set 0 q):=by
  intro cc hcc hq';rcases hq' with rfl | ⟨q',n',h1,_⟩ | ⟨n',k',_,h1,_⟩
  ·exact⟨q,Hq (by rw[Io]; exact hpos),by rw[HQ.o,wX]⟩
  ·omega
  ·omega
 obtain⟨L0,hL0⟩:=Gp ((GX n rv0).set 0 q);have hl0:L0.length=n:=by rw[hL0,Hy,Io]
 rw[<-hL0] at hm3 hin;have HM3:=Ag hm3;have HIN:=Ag hin;replace HB:=Ag (Ht HB.o afO (λb hb=>by omega) HB.o.size);replace HRX:=Ag (HRX.o.wrote afO FI);rw[hq] at hW3;have HW3:=Ag hW3;have hz3:=afO.size;have HL0:=Ag hl0;clear hm3 hin afO bH hu hw1 hb hq HQ hL0 HM hW3 hl0;dsimp only;go_upto_region 3 with(fail)
 rw[<-HW3.o];clear e0 e1 e2 f0 f1 f2 HW3;go_wp2_with fail
 go_loopw [4] (λiv wr=>∃ (i:Nat) (L:List RV),i<=n/\iv = GV GU (i:Int)/\L.length=n/\CW g i 0 L/\AO wr bl 42 (λb=>w.heap.size<=b) L/\Row wr w.heap.size 25 [GV GU g.aC,Gw (some ⟨gb,go,none⟩) n c,Gw Ai g.F8.length ci]/\Below w.heap.size w wr/\bl < wr.heap.size) (λiv _=>n - (intOf iv).toNat)
 case atStart=>exact⟨0,L0,Hg _,rfl,HL0.o,HIN.o,HM3.o,HRX.o,HB.o,FI⟩
 case round =>
  clear HM3 HIN HB HRX;obtain⟨i,L,hi,rfl,hlen,hin,hm,hrx,hB,hwz⟩:=hrel;obtain⟨wa,rfl⟩:=Gp wr;have HIN:=Ag hin;have HM:=Ag hm;have HRX:=Ag hrx;have HBA:=Ag hB;have HLEN:=Ag hlen;have x1:=hrx.cell (i:=1) rfl;clear hin hm hrx hlen;by_cases hlt:i < n
  case neg =>
   obtain rfl:i=n:=FI;go_wp2_with fail
   go_ret;refine⟨_,rfl,HBA.o,?_⟩;have hd:=(show CW g g.F7.length 0 L by rw[<-HN.o]; exact HIN.o).done HGD.o (by rw[HLEN.o,HN.o]);rw[<-HN.o] at hd;rw[<-hd];have h:=HM.o.raws (G:=λb=>w.heap.size<=b) (λb hb=>hb) FI (c:=i) (by rw[HLEN.o]; exact Gy _);rw[HLEN.o] at h;exact h
  obtain⟨nd,hnd⟩:=Gl (l:=g.F7) (k:=i) (by rw[<-HN.o]; exact hlt);have hne:=HC.o i nd hnd;refine zaE ?_;intro n0 n1 n2 v3 n3 h3 v4 n4 h4 v5 n5 h5;have H3:=Ag h3;have H4:=Ag h4;obtain⟨A3,c3,rfl,_,_⟩:=h3;obtain⟨A4,c4,rfl,_,_⟩:=h4;obtain⟨A5,c5,rfl,_,_⟩:=h5;replace n0:=ah n0 hB;replace n1:=ah n1 hB;replace n2:=ah n2 hB;replace n3:=ah n3 hB;replace n4:=ah n4 hB;replace n5:=ah n5 hB;have HND:=Ag hnd;have hnw:=aaX HNE.o (Gx hnd);have hnx:=HSM.o.next nd (Gx hnd);have HNW:=Ag hnw.2;have hnwl:=hnw.1;clear hnd hne hnw;go_upto_region 7 with(fail)
  generalize hW1:G5 _ _=W1;obtain⟨rn,hbn,hzn⟩:=aI hW1;obtain⟨nb,hnb⟩:=Gp wa.heap.size;rw[<-hnb] at rn ⊢;have q1:bl < nb:=FI;have HRN:=Ag rn;replace HM:=Ag (HM.o.below hbn);replace HRX:=Ag (HRX.o.below hbn HRX.o.lt);have HBB:=Ag (hB.trans (hbn.mono hB.size));have q3:nb < W1.heap.size:=rn.lt;have m4:=rn.cell (i:=4) rfl;clear hW1 hzn hnb rn hbn n0 n1 n2 n3 n4 n5 hB HBA x1;go_wp2_with fail
  go_loopw [6,7] (λsv iv wr=>∃ k:Nat,k<=nd.weights.length/\sv = GV GU (rE (nd.weights.take k))/\iv = GV GU (k:Int)/\W1=wr) (λ_ iv _=>nd.weights.length - (intOf iv).toNat)
  case atStart=>exact⟨0,Hg _,rfl,rfl,rfl⟩
  case round =>
   obtain⟨k,hk,rfl,rfl,rfl⟩:=hrel;refine zbN ?_;intro hsr hsl;by_cases hkl:k < nd.weights.length
   case pos =>
    obtain⟨x,hx⟩:=Gl hkl;obtain⟨wb4,wo4,e4,_,_,nY⟩:=iU H4.o FI;subst e4;have ew:=ah (nY k _ hx) HBB.o;refine YA ?_;clear hsr hx nY;intro hxb sk hsr HSX aoP;go_wp2_with fail
    go_roundw
    case rel=>exact⟨k+1,FI,by rw[HSX.o],by go_num,trivial⟩
    case measure=>exact zMs
   obtain rfl:k=nd.weights.length:=FI;refine zdl ?_;clear hsr;intro tot htot hsr EG;clear htot hk hkl hsl m4;have m4:=HRN.o.cell (i:=4) rfl;go_wp2_with fail
   clear m4;go_loopw [8] (λjv wr=>∃ (j:Nat) (L:List RV),j<=nd.next.length/\jv = GV GU (j:Int)/\L.length=n/\CW g i j L/\AO wr bl 42 (λb=>w.heap.size<=b) L/\Row wr nb 51 [GV GU nd.kind,GV GU nd.aH,GV GU nd.info,Gw A3 nd.next.length c3,Gw A4 nd.weights.length c4,Gw A5 nd.pay.length c5]/\Row wr w.heap.size 25 [GV GU g.aC,Gw (some ⟨gb,go,none⟩) n c,Gw Ai g.F8.length ci]/\Below w.heap.size w wr/\nb < wr.heap.size) (λjv _=>nd.next.length - (intOf jv).toNat)
   case atStart=>exact⟨0,L,Hg _,rfl,HLEN.o,HIN.o,HM.o,HRN.o,HRX.o,HBB.o,q3⟩
   case round =>
    clear HLEN HIN HM HRN HRX HBB;obtain⟨j,L,hj,rfl,hlen,hin,hm,hrn,hrx,hB,anR⟩:=hrel;obtain⟨we,rfl⟩:=Gp wr;have HLEN:=Ag hlen;have HIN:=Ag hin;have HM:=Ag hm;have HRN:=Ag hrn;have HRX:=Ag hrx;have HBE:=Ag hB;have m3:=hrn.cell (i:=3) rfl;clear hlen hin hm hrn hrx;by_cases hjl:j < nd.next.length
    case neg =>
     obtain rfl:j=nd.next.length:=FI;have Dq:=Ag (HIN.o.next HND.o);go_wp2_with fail
     go_roundw
     case rel=>exact⟨i+1,L,FI,by go_num,HLEN.o,Dq.o,HM.o,HRX.o,HBE.o,FI⟩
     case measure=>exact zMs
    obtain⟨x,hx⟩:=Gl hjl;have hk:=HGD.o.span.kids i nd (Hg _) (by rw[<-HN.o]; exact hlt) HND.o x (Gx hx);obtain⟨d,rfl⟩:∃ d:Nat,x=(d:Int):=⟨x.toNat,FI⟩;have hdN:d < n:=by rw[HN.o];omega
    have hdi:i < d:=FI;obtain⟨b3,o3,e3,_,hb3,rQ⟩:=iU H3.o FI;subst e3;have ec:=ah (rQ j _ hx) HBE.o;have HXD:=Ag hx;obtain⟨qi,hqi,hqr⟩:=HIN.o.self HGD.o (by rw[<-HN.o]; exact hlt);have hqf:=HM.o.fine qi (Gx hqi);obtain⟨qr,qvn,qvd⟩:=qi;dsimp only at hqr;subst hqr;obtain⟨y,hy⟩:=Gp (eX chB g.F7 [] i);rw[<-hy] at hqi hqf;have HYE:=Ag hy;have y0:we.cell? ⟨bl,i*3,none⟩=some (G7 (ak y).neg):=HM.o.cell (j:=0) hqi FI rfl;have y1:=HM.o.cell (j:=1) hqi FI rfl;have y2:=HM.o.cell (j:=2) hqi FI rfl;have hq1:Aj we (λc=>w.heap.size<=c/\c≠bl) qvn (ak y).num:=hqf.1;have hq2:Aj we (λc=>w.heap.size<=c/\c≠bl) qvd (ak y).den:=hqf.2;have HQF:=Ag hqf;obtain⟨An,cn,rfl,-,-⟩:=hq1;obtain⟨Ad,cd,rfl,-,-⟩:=hq2;have hQ:=Ag hqi;have hB':=GR we.heap.size we;have hin':(i:Int) < n:=FI;clear hqi hqf hy hx rQ hk hB;go_wp2_with fail
    clear hB';refine aP (λw'=>w'.cell? ⟨nb,3,none⟩=some (Gw (some ⟨b3,o3,none⟩) nd.next.length c3)/\w'.cell? ⟨b3,o3+j,none⟩=some (GV GU (d:Int))/\w'.cell? ⟨bl,i*3,none⟩=some (G7 (ak y).neg)/\w'.cell? ⟨bl,i*3+1,none⟩=some (Gw An (ak y).num.length cn)/\w'.cell? ⟨bl,i*3+2,none⟩=some (Gw Ad (ak y).den.length cd)) 11 1 aj rfl aj ⟨m3,ec,y0,y1,y2⟩ λhHeld=>?_
    refine Zo ?_;have hb:Below we.heap.size we we.drew:=aG (GR _ we) 1;replace HRN:=Ag (HRN.o.below hb HRN.o.lt);replace HRX:=Ag (HRX.o.below hb HRX.o.lt);replace HBE:=Ag (HBE.o.trans (hb.mono HBE.o.size));replace anR:=Hz anR hb.size;replace m3:=ah m3 hb;replace ec:=ah ec hb;replace y0:=ah y0 hb;replace y1:=ah y1 hb;replace y2:=ah y2 hb;replace HM:=Ag (HM.o.below hb);replace HQF:=Ag (HQF.o.below hb);clear hb;generalize we.drew=wn at *;refine tkm [0,1,2,3,4,5,6,7,8,9,10] ?_;refine Zp ?_;clear hHeld;obtain⟨⟨q0,e0,e1,e2⟩,f0,f1,f2,W5,hW5,hm5,uF⟩:=HM.o.put (k:=d) (by rw[HLEN.o]; exact hdN) ⟨ak y,Gw An (ak y).num.length cn,Gw Ad (ak y).den.length cd⟩ HQF.o;have HM5:=Ag hm5;have HW5:=Ag hW5;replace HRN:=Ag (HRN.o.wrote uF FI);replace HRX:=Ag (HRX.o.wrote uF FI);replace HBE:=Ag (Ht HBE.o uF (λb hb=>by omega) HBE.o.size);have hz5:nb < W5.heap.size:=Hz anR uF.size;have ec5:=fK ec uF FI;have hqi5:(L.set d ⟨ak y,Gw An (ak y).num.length cn,Gw Ad (ak y).den.length cd⟩)[i]? = some ⟨ak y,Gw An (ak y).num.length cn,Gw Ad (ak y).den.length cd⟩:=by
     rw[G6 FI];exact hQ.o
    have HQ5:=Ag hqi5;clear hm5 hW5 uF hqi5 anR;go_wp2
    rw[<-HW5.o];clear e0 e1 e2 f0 f1 f2 HW5 m3 ec y0 y1 y2;unfold AY;refine Z4 ?_;have m0:=HRN.o.cell (i:=0) rfl;obtain⟨L5,hL5⟩:=Gp (L.set d ⟨ak y,Gw An (ak y).num.length cn,Gw Ad (ak y).den.length cd⟩);have hl5:L5.length=n:=by rw[hL5,Hy,HLEN.o]
    rw[<-hL5] at HM5 HQ5;have HL5:=Ag hL5;have EF:=Ag hl5;clear hL5 hl5;by_cases hk1:nd.kind=1
    case neg =>
     have t1:(nd.kind==1)=false:=by simpa using hk1
     have adD:CW g i (j+1) L5:=HIN.o.kid HND.o HXD.o (λc hc=>by rw[HL5.o,G6 (Ne.symm hc)]) ⟨_,by rw[HL5.o]; exact Hq (by rw[HLEN.o]; exact hdN),by
      show ak y=_;rw[rF HGD.o chB [] HND.o HXD.o,LG (show ¬ chB nd=true by unfold chB; simpa using hk1),HYE.o]⟩
     have Dq:=Ag adD;clear adD hk1;go_wp2_with fail
     go_roundw
     case rel=>exact⟨j+1,L5,FI,by go_num,EF.o,Dq.o,HM5.o,HRN.o,HRX.o,HBE.o,hz5⟩
     case measure=>exact zMs
    have t1:(nd.kind==1)=true:=by simp[hk1]
    obtain⟨hwl,_,_,hwb⟩:=kX HNE.o (Gx HND.o) hk1;have hjw:j < nd.weights.length:=FI;obtain⟨xw,hxw⟩:=Gl hjw;have hxb:=hwb xw (Gx hxw);have amJ:1<=tot/\tot<=60000:=by have:=EG.o;omega
    obtain⟨wb4,wo4,e4,_,_,nY⟩:=iU H4.o FI;subst e4;have ew:=ah (nY j _ hxw) HBE.o;have HRD:=Ag (show eX chB g.F7 [] d=y*((xw:Rat) / (tot:Rat)) by
     rw[rF HGD.o chB [] HND.o HXD.o,LH (show chB nd=true by unfold chB; rw[hk1]; decide),<-HYE.o,qG FI,GH,GY,hxw,EG.o]; rfl)
    have hyl:rl y<=20000:=by rw[HYE.o];have:=adE HFO.o (i:=i) (by rw[<-HN.o]; exact hlt);omega
    have aoR:=HM5.o.fine _ (Gx HQ5.o);have HYV:=Ag (show RtV W5 (λc=>w.heap.size<=c/\c≠bl) (.agg #[G7 (ak y).neg,Gw An (ak y).num.length cn,Gw Ad (ak y).den.length cd]) y from Ak.make rfl aoR.1 aoR.2);have y0:W5.cell? ⟨bl,i*3,none⟩=some (G7 (ak y).neg):=HM5.o.cell (j:=0) HQ5.o FI rfl;have y1:=HM5.o.cell (j:=1) HQ5.o FI rfl;have y2:=HM5.o.cell (j:=2) HQ5.o FI rfl;dsimp only at y1 y2;have m3:=HRN.o.cell (i:=3) rfl;have m4:=HRN.o.cell (i:=4) rfl;clear hwl hwb hxw nY aoR hk1;go_wp2_with fail
    refine aP (λw'=>w'.cell? ⟨nb,3,none⟩=some (Gw (some ⟨b3,o3,none⟩) nd.next.length c3)/\w'.cell? ⟨b3,o3+j,none⟩=some (GV GU (d:Int))/\w'.cell? ⟨bl,i*3,none⟩=some (G7 (ak y).neg)/\w'.cell? ⟨bl,i*3+1,none⟩=some (Gw An (ak y).num.length cn)/\w'.cell? ⟨bl,i*3+2,none⟩=some (Gw Ad (ak y).den.length cd)/\w'.cell? ⟨nb,4,none⟩=some (Gw (some ⟨wb4,wo4,none⟩) nd.weights.length c4)/\w'.cell? ⟨wb4,wo4+j,none⟩=some (GV GU xw)) 19 1 aj rfl aj ⟨m3,ec5,y0,y1,y2,m4,ew⟩ λhHeld=>?_
    refine zcz ?_;intro hb;refine YM ?_;clear HRN HRX HBE hz5 m3 ec5 y0 y1 y2 m4 ew HM5 HYV;intro HRN HRX HBE hz5 m3 ec5 y0 y1 y2 m4 ew HM5 HYV;clear hb;generalize W5.drew=wn at *;refine tkm [0,1,2,3,4,5,6,7,8,9,10,11,12,13,14,15] ?_;refine tk2 16 aj rfl λK hK=>?_
    go_simp;refine(acY wn xw tot FI FI FI FI FI).mono ?_;rintro e wn ⟨v9,rfl,hb,hu⟩;obtain⟨fr,hfr⟩:∃ z:Rat,z=(xw:Rat) / (tot:Rat):=⟨_,rfl⟩;rw[<-hfr] at hu HRD;have FV:=Ag (show rl fr<=20000 by rw[hfr]; exact He (yF hxb amJ) FI);have HFR:=Ag (hu.mono (G:=(λc=>w.heap.size<=c/\c≠bl)) (λb hb _=>⟨FI,FI⟩));obtain⟨A7,c7,B7,d7,rfl,-⟩:=hu.opened;clear hu hfr;refine YM ?_;clear HRN HRX HBE hz5 m3 ec5 y0 y1 y2 m4 ew HM5 HYV;intro HRN HRX HBE hz5 m3 ec5 y0 y1 y2 m4 ew HM5 HYV;clear hb;dsimp only;clear hHeld;refine hK.out _ _ ⟨m3,ec5,y0,y1,y2,m4,ew⟩ (λhHeld=>?_);clear hK K;refine Zb ?_;refine tk2 17 aj rfl λK hK=>?_
    go_simp;refine(mY wn (λc=>w.heap.size<=c/\c≠bl) _ _ y fr HYV.o HFR.o hyl FV.o).mono ?_;rintro e wn ⟨v9,rfl,hb,hu⟩;obtain⟨pr,hpr⟩:∃ z:Rat,z=y*fr:=⟨_,rfl⟩;rw[<-hpr] at hu HRD;have HPR:=Ag (hu.mono (G:=(λc=>w.heap.size<=c/\c≠bl)) (λb hb _=>hb.elim id λh=>⟨FI,FI⟩));obtain⟨A8,c8,B8,d8,rfl,-⟩:=hu.opened;clear hu hpr;refine YM ?_;clear HRN HRX HBE hz5 m3 ec5 y0 y1 y2 m4 ew HM5 HYV;intro HRN HRX HBE hz5 m3 ec5 y0 y1 y2 m4 ew HM5 HYV;replace HFR:=Ag (HFR.o.below hb);clear hb;dsimp only;clear hHeld;refine hK.out _ _ ⟨m3,ec5,y0,y1,y2,m4,ew⟩ (λhHeld=>?_);clear hK K;refine Zb ?_;refine tkm [18] ?_;refine Zp ?_;clear hHeld;obtain⟨q8,hq8⟩:∃ x:RV,x=⟨ak pr,Gw A8 (ak pr).num.length c8,Gw B8 (ak pr).den.length d8⟩:=⟨_,rfl⟩;obtain⟨⟨q0',e0,e1,e2⟩,f0,f1,f2,Wz,hWz,hm9,afT⟩:=HM5.o.put (k:=d) (by rw[EF.o]; exact hdN) q8 (by rw[hq8]; exact Ak.uz HPR.o);have adD:CW g i (j+1) (L5.set d q8):=HIN.o.kid HND.o HXD.o (λc hc=>by rw[G6 (Ne.symm hc),HL5.o,G6 (Ne.symm hc)]) ⟨q8,Hq (by rw[EF.o]; exact hdN),by rw[hq8,HRD.o]⟩;rw[hq8] at hWz;have HWZ:=Ag hWz;have HM9:=Ag hm9;have Dq:=Ag adD;have Fa:=Ag (HRN.o.wrote afT FI);have HRX9:=Ag (HRX.o.wrote afT FI);have HB9:=Ag (Ht HBE.o afT (λb hb=>by omega) HBE.o.size);have hz9:nb < Wz.heap.size:=Hz hz5 afT.size;have HLZ:=Ag (show(L5.set d q8).length=n by rw[Hy,EF.o]);clear hm9 adD hWz afT hq8 m0 m3 m4 y0 y1 y2 ew ec5;go_wp2
    refine zbP ?_;clear e0 e1 e2 f0 f1 f2;go_wp2
    go_roundw
    case rel=>exact⟨j+1,_,FI,by go_num,HLZ.o,Dq.o,HM9.o,Fa.o,HRX9.o,HB9.o,hz9⟩
    case measure=>exact zMs
theorem Grid.move {K F':Gq} {w w':GK} {B:Nat} {vs:List GN} {ls:List (List RV)} (h:Grid w B et F vs ls) (hw:Wrote K w w') (h1:∀ b,F b->b < w.heap.size->F' b/\¬ K b) (h2:∀ v∈vs,∀ b,v.ownBlock=some b->¬ K b):Grid w' B et F' vs ls:=by
 refine⟨h.len,λi v l hv hl=>?_,h.apart⟩;have ho:=(h.own i v l hv hl).widen (G:=λb=>BG F' vs b/\¬ K b) (λb hb hl=>⟨⟨(h1 b hb.1 hl).1,hb.2⟩,(h1 b hb.1 hl).2⟩);refine(ho.wrote hw λb hb=>?_).widen (λb hb _=>hb.1);grind
theorem Tryz.infoVecV:(Tryz.prog.info? 29).map (λi=>(i.zero,i.size,i.bytes))=some (some (Gw none 0 0),al7.n,24):=aj
def ad7 (g:Gm) (pl:Nat):List (List Raw):=(Ig (aN g 0).length).map λr=>(Ig (aN g 1).length).map λc=>ak (fE g pl g.F7.length r c)
def BN (g:Gm) (pl k:Nat) (ls:List (List RV)):Prop:=ls.length=(aN g 0).length/\∀ (r:Nat) (l:List RV),ls[r]? = some l->l.length=(aN g 1).length/\∀ (c:Nat) (q:RV),l[c]? = some q->q.r=ak (fE g pl k r c)
theorem BN.other {g:Gm} {ls:List (List RV)} (h:BN g pl k ls) {n:Nd} (hn:g.F7[k]? = some n) (hk:n.kind≠3):BN g pl (k+1) ls:=by
 refine⟨h.1,λr l hl=>⟨(h.2 r l hl).1,λc q hq=>?_⟩⟩;rw[(h.2 r l hl).2 c q hq,fE,hn];grind
theorem BN.put {g:Gm} {ls:List (List RV)} (h:BN g pl k ls) {n:Nd} (hn:g.F7[k]? = some n) (hk:n.kind=3) {l:List RV} (hl:ls[atS g 0 k]? = some l) {q:RV} (hq:q.r=ak (fE g pl k (atS g 0 k) (atS g 1 k)+aaL g pl k)):BN g pl (k+1) (ls.set (atS g 0 k) (l.set (atS g 1 k) q)):=by
 refine⟨by rw[Hy]; exact h.1,λr m hm=>?_⟩;by_cases e:r=atS g 0 k
 ·subst e;rw[Hq (Gn hl)] at hm;obtain rfl:=IE hm;refine⟨by rw[Hy]; exact(h.2 _ l hl).1,λc p hp=>?_⟩;by_cases e2:c=atS g 1 k
  ·grind [fE]
  ·rw[G6 (Ne.symm e2)] at hp;rw[(h.2 _ l hl).2 c p hp,fE,hn];grind
 ·rw[G6 (Ne.symm e)] at hm;refine⟨(h.2 r m hm).1,λc p hp=>?_⟩;rw[(h.2 r m hm).2 c p hp,fE,hn];grind
theorem BN.done {g:Gm} {ls:List (List RV)} (h:BN g pl g.F7.length ls):ls.map (Iq RV.r)=ad7 g pl:=by
 unfold ad7;refine IW λr=>?_
 refine zd3 ?_;by_cases hr:r < (aN g 0).length
 ·obtain⟨l,hl⟩:=Gl (l:=ls) (k:=r) (by rw[h.1]; exact hr);rw[hl,Kq hr,Option.map_some,Option.map_some];congr 1;refine IW λc=>?_
  refine zd3 ?_;obtain⟨h1,h2⟩:=h.2 r l hl;grind
 ·rw[Ij (by rw[h.1]; omega),Ij (by rw[Je]; omega)];rfl
theorem abw:∀ vs:List GN,vs.flatMap al7.cells=vs
 | []=>rfl
 | a :: l=>by rw[List.flatMap_cons,abw l]; rfl
theorem amN (w:GK) (F:Gq) (vg:GN) (g:Gm) (p:Nat) (hg:AB w F vg g) (hsm:Small g) (hf:aQ g=0) (h2:g.aC=2) (hp2:p < 2) (hN60:g.F7.length<=60) :
  Calls GI 43 #[vg,GV GU (p:Int)] w (Ret w λv w'=>Gt w' (λ_=>True) v (ad7 g p)):=by
 have HSM:=Ag hsm; have HFO:=Ag hf; have HP2:=Ag h2; have HN60:=Ag hN60;have hni:=hsm.F8; have hn100:=hsm.F7;have hpos:=(gQ hf).pos;have HNE:=Ag (dP hf).1;have hgo:=AB.keep (G:=λb=>b < w.heap.size) hg (λb _ hl=>hl) (GZ _ _);have HG:=Ag hgo;obtain⟨vn,vi,rfl,⟨A,c,rfl,hc,hN⟩,⟨Ai,ci,rfl,hci,_⟩⟩:=hg;obtain⟨gb,go,rfl,hFg,hgl,hcell⟩:=hN hpos;have HC:=Ag hcell;have HSL:=Ag (λp=>show(aN g p).length<=1001 from by
  have h1:=dL (g:=g) (p:=p) (λi hi=>dJ hf i hi) g.F8.length (Gy _);unfold aN; omega)
 clear hsm hf h2 hN60 hcell hN hgo hc;go_in
 go_upto_region 1 with(fail)
 generalize hW:G5 _ _=W;obtain⟨rx,hB,hz⟩:=aI hW;have HRX:=Ag rx;have HB:=Ag hB;replace HG:=Ag (HG.o.on (GL hB _));refine Zd ?_;intro x0 x1 x2;have hbx:=GR W.heap.size W;clear hW hz rx hB;refine zaA ?_;intro hHeld;refine Yx ?_;intro hb;refine zcQ ?_;clear x0 x1 x2 HG hbx;intro x0 x1 x2 HG hbx;clear hb;generalize W.drew=wn at *;refine tkm [0,2,4] ?_;refine tk2 1 aj rfl λK hK=>?_
 go_simp;refine(oQ wn (λb=>b < w.heap.size) _ g 0 HG.o HSM.o HFO.o).mono ?_;rintro e wn ⟨_,rfl,hb,hvl⟩;have HL0:=Ag (AA.keep (G:=λ_=>True) hvl (λ_ _ _=>trivial) (GZ _ _));obtain⟨Al0,cl0,rfl⟩:=hvl.open;clear hvl;refine zcQ ?_;clear x0 x1 x2 HG hbx;intro x0 x1 x2 HG hbx;clear hb;refine ZJ ?_;clear hHeld hK K;intro hHeld;refine tk2 3 aj rfl λK hK=>?_
 go_simp;refine(oQ wn (λb=>b < w.heap.size) _ g 1 HG.o HSM.o HFO.o).mono ?_;rintro e wn ⟨_,rfl,hb,hvl⟩;have HL1:=Ag (AA.keep (G:=λ_=>True) hvl (λ_ _ _=>trivial) (GZ _ _));obtain⟨Al1,cl1,rfl⟩:=hvl.open;clear hvl;refine zcQ ?_;clear x0 x1 x2 HG hbx;intro x0 x1 x2 HG hbx;replace HL0:=Ag (AA.on HL0.o (GL hb _));clear hb;refine ZJ ?_;clear hHeld hK K;intro hHeld;refine tk2 5 aj rfl λK hK=>?_
 go_simp;refine(ahs wn (λb=>b < w.heap.size) _ g HG.o HSM.o HFO.o).mono ?_;rintro e wn ⟨_,rfl,hb,hvc⟩;have HCH:=Ag (IX (G:=λb=>b < wn.heap.size) hvc (λb _ hl=>hl) (GZ _ _));obtain⟨Ac,cc,e,_,_⟩:=hvc;rw[Gz,Je] at e;subst e;refine zcQ ?_;clear x0 x1 x2 HG hbx;intro x0 x1 x2 HG hbx;replace HL0:=Ag (AA.on HL0.o (GL hb _));replace HL1:=Ag (AA.on HL1.o (GL hb _));clear hb;refine ZJ ?_;clear hHeld hK K;intro hHeld;refine tkm [6,7,8] ?_;refine Z8 ?_;clear hHeld;obtain⟨W2,hW2⟩:=Gp wn;rw[<-hW2] at HG HL0 HL1 hbx HCH ⊢;replace HRX:=Ag (HRX.o.below hbx HRX.o.lt);replace HB:=Ag (HB.o.trans (hbx.mono HB.o.size));obtain⟨hh,hhh⟩:=Gp ((aN g 0).length);obtain⟨wd,hwd⟩:=Gp ((aN g 1).length);rw[<-hhh] at HL0 ⊢;rw[<-hwd] at HL1 ⊢;have hh1:hh<=1001:=by rw[hhh];exact HSL.o 0
 have hw1:wd<=1001:=by rw[hwd];exact HSL.o 1
 have HHH:=Ag hhh;have HWD:=Ag hwd;have hws:w.heap.size<=W2.heap.size:=HB.o.size;clear x0 x1 x2 hbx hW2 hhh hwd;go_wp2_with fail
 go_loopw [8,9] (λuv iv wr=>∃ (k:Nat) (vs:List GN) (ls:List (List RV)),k<=hh/\iv = GV GU (k:Int)/\vs.length=k/\(∀ l∈ls,l.length=wd/\∀ q∈l,q.r=ak 0)/\OwnSl al7 wr W2.heap.size 29 (λ_=>False) uv vs/\Grid wr W2.heap.size 42 (λb=>uv.ownBlock≠some b) vs ls/\Below W2.heap.size W2 wr) (λ_ iv _=>hh - (intOf iv).toNat)
 case atStart=>exact⟨0,[],[],Hg _,rfl,rfl,(λl hl=>by cases hl),OwnSl.nil _ _ _ _ _,Grid.nils _ _ _ _ 0,GR _ _⟩
 case round =>
  obtain⟨k,vs,ls,hk,rfl,hvl,hz,hown,hgr,hbel⟩:=hrel;obtain⟨wa,rfl⟩:=Gp wr;have HZ:=Ag hz;have HOWN:=Ag hown;have HGR:=Ag hgr;have HVL:=Ag hvl;have hkz:=hbel.size;clear hz hown hgr hvl;by_cases hlt:k < hh
  case neg =>
   obtain rfl:k=hh:=FI;have hhp:0 < k:=by rw[HHH.o];exact Gn (iJ g 0 g.F8.length)
   obtain⟨ob,oc,e8,hob,hobl⟩:=HOWN.o.row.form (by rw[HVL.o]; exact hhp);rw[HVL.o] at e8;subst e8;have hmv:BN g p 0 ls:=⟨by rw[<-HGR.o.len,HVL.o,HHH.o],λr l hl=>⟨by rw[(HZ.o l (Gx hl)).1,HWD.o],λc q hq=>(HZ.o l (Gx hl)).2 q (Gx hq)⟩⟩;have HMV:=Ag hmv;have HBE:=Ag hbel;clear hmv HZ hbel;go_wp2_with fail
   go_loopw [10] (λiv wr=>∃ (i:Nat) (ls:List (List RV)),i<=g.F7.length/\iv = GV GU (i:Int)/\BN g p i ls/\OwnSl al7 wr W2.heap.size 29 (λ_=>False) (Gw (some ⟨ob,0,none⟩) k oc) vs/\Grid wr W2.heap.size 42 (λb=>(Value.slice (some ⟨ob,0,none⟩) k oc).ownBlock≠some b) vs ls/\Below W2.heap.size W2 wr) (λiv _=>g.F7.length - (intOf iv).toNat)
   case atStart=>exact⟨0,ls,Hg _,rfl,HMV.o,HOWN.o,HGR.o,HBE.o⟩
   case round =>
    clear HMV HOWN HGR HBE ls;obtain⟨i,ls,hi,rfl,hmv,hown,hgr,hbel⟩:=hrel;obtain⟨wb,rfl⟩:=Gp wr;have HMV:=Ag hmv;have HOWN:=Ag hown;have HGR:=Ag hgr;have hbz:=hbel.size;have apg:ob < wb.heap.size:=(hown.row.lt ob rfl).2;have hrx:=HRX.o.below hbel HRX.o.lt;have x0:=hrx.cell (i:=0) rfl;have x1:=hrx.cell (i:=1) rfl;have x2:=hrx.cell (i:=2) rfl;have HBB:=Ag (HB.o.trans (hbel.mono HB.o.size));clear hmv hown hgr hrx;by_cases hil:i < g.F7.length
    case neg =>
     obtain rfl:i=g.F7.length:=FI;have hrows:Gt wb (λ_=>True) (Gw (some ⟨ob,0,none⟩) k oc) (ad7 g p):=by
      have hd:=HGR.o.done (G:=λ_=>True) (λ_ _=>trivial);rw[HMV.o.done] at hd;have hml:(ad7 g p).length=k:=by unfold ad7;rw[Gz,Je,HHH.o]
      have hvk:vs.length=k:=by rw[hd.1,hml]
      have hcap:k<=oc:=by
       obtain⟨A',c',e,hle,_⟩:=(show ∃ A' c',(Value.slice (some ⟨ob,0,none⟩) k oc) = Gw A' vs.length c'/\vs.length<=c'/\True from by
        rcases HOWN.o.at with⟨e,_⟩ | ⟨g',cap',e,_,_,hcp,_⟩
        ·cases e
        ·exact⟨_,_,e,hcp,trivial⟩)
       simp only[Value.slice.injEq] at e;omega
      refine⟨_,oc,by rw[hml],by rw[hml]; exact hcap,λ_=>⟨ob,0,rfl,trivial,apg,λr x hr=>?_⟩⟩;obtain⟨u,hu⟩:=Gl (l:=vs) (k:=r) (by rw[hd.1]; exact Gn hr);refine⟨u,?_,hd.2 r u x hu hr⟩;have hrow:=HOWN.o.row;rw[hvk] at hrow;rw[show 0+r*1=r by omega,J7 hrow r (by have:=Gn hu; show r < k*1; omega)];rw[abw];exact hu
     have HRW:=Ag hrows;clear hrows;go_wp2_with fail
     go_ret;exact⟨_,rfl,HBB.o,HRW.o⟩
    obtain⟨nd,hnd⟩:=Gl hil;have hne:=HC.o i nd hnd;have n0:=ah hne.c0 HBB.o;obtain⟨v5,n5,h5⟩:=hne.c5;replace n5:=ah n5 HBB.o;have H5:=Ag h5;obtain⟨A5,c5,rfl,_,_⟩:=h5;have HND:=Ag hnd;clear hnd hne;by_cases hk3:nd.kind=3
    case neg =>
     have t0:(nd.kind==3)=false:=by simpa using hk3
     have Fj:=Ag (HMV.o.other HND.o hk3);clear hk3;go_wp2_with fail
     go_roundw
     case rel=>exact⟨i+1,ls,FI,by go_num,Fj.o,HOWN.o,HGR.o,hbel⟩
     case measure=>exact zMs
    have t0:(nd.kind==3)=true:=by simp[hk3]
    have HK3:=Ag hk3;clear hk3;go_wp2_with fail
    have hbx:=GR wb.heap.size wb;have HBX0:=Ag (Gy wb.heap.size);have HGW:=Ag (HG.o.on (GL hbel _));have Dy:=Ag (HL0.o.on (GL hbel _));have Dz:=Ag (HL1.o.on (GL hbel _));obtain⟨ir,hir⟩:=Gp (atS g 0 i);obtain⟨ic,hic⟩:=Gp (atS g 1 i);have hi0:=mM;have HIR:=Ag hir;have HIC:=Ag hic;have hirl:ir < k:=by rw[hir,HHH.o];exact abo HFO.o 0 hil
    have hicl:ic < wd:=by rw[hic,HWD.o];exact abo HFO.o 1 hil
    have HIX0:=Ag (λ(w':GK) (h:AA w' (λ_=>True) (Gw Al0 k cl0) (aN g 0))=>show Calls GI 37 #[Gw Al0 k cl0,qg (jh g 0 i)] w' (Ret w' λu _=>u = GV GU (ir:Int)) from by rw[hir]; exact mM w' _ _ (aN g 0) (jh g 0 i) h (yJ HFO.o 0 hil) (by have:=HSL.o 0; omega));have HIX1:=Ag (λ(w':GK) (h:AA w' (λ_=>True) (Gw Al1 wd cl1) (aN g 1))=>show Calls GI 37 #[Gw Al1 wd cl1,qg (jh g 1 i)] w' (Ret w' λu _=>u = GV GU (ic:Int)) from by rw[hic]; exact mM w' _ _ (aN g 1) (jh g 1 i) h (yJ HFO.o 1 hil) (by have:=HSL.o 1; omega));clear hir hic hi0;replace n5:=n5;refine zaA ?_;intro hHeld;refine zaT ?_;intro hb;refine ZI ?_;clear HGW Dy Dz x0 x1 x2 n5 HOWN HGR hbx hb;intro HGW Dy Dz x0 x1 x2 n5 HOWN HGR hbx;generalize wb.drew=wn at *;refine tkm [0,1,2,5,6,7] ?_;refine tk2 3 aj rfl λK hK=>?_
    go_simp;refine(aeQ wn (λb=>b < w.heap.size) _ g i 0 HGW.o HSM.o HFO.o hil).mono ?_;rintro e wn ⟨_,rfl,hb,rfl⟩;refine ZI ?_;clear HGW Dy Dz x0 x1 x2 n5 HOWN HGR hbx hb;intro HGW Dy Dz x0 x1 x2 n5 HOWN HGR hbx;refine ZJ ?_;clear hHeld hK K;intro hHeld;refine tk2 4 aj rfl λK hK=>?_
    go_simp;refine(HIX0.o wn Dy.o).mono ?_;rintro e wn ⟨_,rfl,hb,rfl⟩;refine ZI ?_;clear HGW Dy Dz x0 x1 x2 n5 HOWN HGR hbx hb;intro HGW Dy Dz x0 x1 x2 n5 HOWN HGR hbx;refine ZJ ?_;clear hHeld hK K;intro hHeld;refine tk2 8 aj rfl λK hK=>?_
    go_simp;refine(aeQ wn (λb=>b < w.heap.size) _ g i 1 HGW.o HSM.o HFO.o hil).mono ?_;rintro e wn ⟨_,rfl,hb,rfl⟩;refine ZI ?_;clear HGW Dy Dz x0 x1 x2 n5 HOWN HGR hbx hb;intro HGW Dy Dz x0 x1 x2 n5 HOWN HGR hbx;refine ZJ ?_;clear hHeld hK K;intro hHeld;refine tk2 9 aj rfl λK hK=>?_
    go_simp;refine(HIX1.o wn Dz.o).mono ?_;rintro e wn ⟨_,rfl,hb,rfl⟩;refine ZI ?_;clear HGW Dy Dz x0 x1 x2 n5 HOWN HGR hbx hb;intro HGW Dy Dz x0 x1 x2 n5 HOWN HGR hbx;refine ZJ ?_;clear hHeld hK K;intro hHeld
    refine tkm [10,11] ?_;refine wpAnyH_done aj ?_ _;clear hHeld;have fC:=hbel.trans (hbx.mono hbz);have hz3:=fC.size;have HBC:=Ag (HB.o.trans (fC.mono HB.o.size));clear hbx HIX0 HIX1 HGW Dy Dz hbel HBB;have amC:=HMV.o.1;obtain⟨l,hl⟩:=Gl (l:=ls) (k:=ir) (by rw[amC,<-HHH.o]; exact hirl);obtain⟨v,hv⟩:=HGR.o.get hl;have hrow:=HGR.o.own ir v l hv hl;obtain⟨hll,hlq⟩:=HMV.o.2 ir l hl;rw[<-HWD.o] at hll;have HVB:=Ag (λ(u:GN) (hu:u∈vs) (b:Nat) (e:u.ownBlock=some b)=>show W2.heap.size<=b/\b < wn.heap.size from by
     obtain⟨i',hi'⟩:=H9 hu;obtain⟨l',hl'⟩:=Gl (l:=ls) (k:=i') (by rw[<-HGR.o.len]; exact Gn hi');exact(HGR.o.own i' u l' hi' hl').row.lt b e)
    obtain⟨rb,rc',rfl,hrb,afF,⟨q0,hq0,c0,c1,c2⟩,hfz⟩:=hrow.yN (k:=ic) (by rw[hll]; exact hicl);have hqr:=hlq ic q0 hq0;have ak1:=hrow.fine q0 (Gx hq0);have o0:wn.cell? ⟨ob,ir,none⟩=some (Gw (some ⟨rb,0,none⟩) l.length rc'):=by
     have hvk:vs.length=k:=by rw[HGR.o.len,amC,<-HHH.o]
     have hro:=HOWN.o.row;rw[hvk] at hro;have h:=J7 hro ir (by show ir < k*1; omega);rw[abw] at h;exact h.trans hv
    obtain⟨qr,qvn,qvd⟩:=q0;dsimp only at hqr c0 c1 c2;subst hqr;obtain⟨m,hm⟩:=Gp (fE g p i ir ic);rw[<-hm] at c0 ak1;have HM:=Ag hm;have D7:=Ag (show RtV wn (BG (λb=>(Value.slice (some ⟨ob,0,none⟩) k oc).ownBlock≠some b) vs) (.agg #[G7 (ak m).neg,qvn,qvd]) m from Ak.mono (Ak.make rfl ak1.1 ak1.2) (λb hb _=>hb.1));have hq1:Aj wn _ qvn (ak m).num:=ak1.1;have hq2:Aj wn _ qvd (ak m).den:=ak1.2;obtain⟨A1,d1,rfl,-,-⟩:=hq1;obtain⟨A2,d2,rfl,-,-⟩:=hq2;obtain⟨y,hy⟩:=Gp (eX chB g.F7 [] i);have HYE:=Ag hy;obtain⟨cb,co,c4,vcn,vcd,e4,hF4,hcbl,l0,l1,l2,hln,hld⟩:=Gs.at (Iy HCH.o (GL fC _)) (k:=i) (r:=ak y) (by rw[GY,Kq hil,hy]; rfl);rw[Gz,Je] at e4;simp only[Value.slice.injEq,true_and] at e4;obtain⟨rfl,rfl⟩:=e4;have HYV:=Ag (show RtV wn (BG (λb=>(Value.slice (some ⟨ob,0,none⟩) k oc).ownBlock≠some b) vs) (.agg #[G7 (ak y).neg,vcn,vcd]) y from Ak.mono (Ak.make rfl hln hld) (λb hb _=>⟨λe=>by
     have e:some ob=some b:=e;injection e with e
     omega,λu hu e=>by have:=HVB.o u hu b e; omega⟩))
    obtain⟨A3,d3,rfl,_,_⟩:=hln;obtain⟨A4,d4,rfl,_,_⟩:=hld;obtain⟨aoS,hpl2,_⟩:=acg HNE.o (Gx HND.o) HK3.o;have aoT:p < nd.pay.length:=by have:=HP2.o;omega
    obtain⟨z,hz⟩:=Gl aoT;have hzb:=hpl2 z (Gx hz);have HPR:=Ag (show aaL g p i=y*(z:Rat) by
     unfold aaL aiK;rw[<-hy,GH (l:=g.F7),HND.o,Jt,GH,hz]; rfl)
    obtain⟨pb,po,ep,_,_,adG⟩:=iU H5.o FI;subst ep;have pc:=ah (adG p z hz) HBC.o;have hml:rl m<=20000:=by rw[hm];have:=ahr HFO.o HN60.o p ir ic (k:=i) FI;omega
    have hyl:rl y<=300:=by rw[hy];have:=adE HFO.o hil;have:=HN60.o;omega
    have hzl:rl (z:Rat)<=2:=afQ hzb;rw[hll] at o0;have HV:=Ag hv;have HL:=Ag hl;have hwn:=Gy wn.heap.size;have hbq:=GR wn.heap.size wn;clear amC hl hv hrow hlq hfz hq0 ak1 hm hy hF4 hcbl aoS hpl2 hz adG;refine Z4 ?_;go_wp2_with fail
    have hpi:(p:Int) < 2:=FI;refine aP (λw'=>w'.cell? ⟨w.heap.size,1,none⟩=some (Gw (some ⟨gb,go,none⟩) g.F7.length c)/\w'.cell? ⟨ob,ir,none⟩=some (Gw (some ⟨rb,0,none⟩) wd rc')/\w'.cell? ⟨rb,ic*3,none⟩=some (G7 (ak m).neg)/\w'.cell? ⟨rb,ic*3+1,none⟩=some (Gw A1 (ak m).num.length d1)/\w'.cell? ⟨rb,ic*3+2,none⟩=some (Gw A2 (ak m).den.length d2)/\w'.cell? ⟨cb,co+i*3,none⟩=some (G7 (ak y).neg)/\w'.cell? ⟨cb,co+i*3+1,none⟩=some (Gw A3 (ak y).num.length d3)/\w'.cell? ⟨cb,co+i*3+2,none⟩=some (Gw A4 (ak y).den.length d4)/\w'.cell? ⟨gb,go+i*6+5,none⟩=some (Gw (some ⟨pb,po,none⟩) nd.pay.length c5)/\w'.cell? ⟨pb,po+p,none⟩=some (GV GU z)) 29 1 aj rfl aj ⟨x1,o0,c0,c1,c2,l0,l1,l2,n5,pc⟩ λhHeld=>?_
    refine Zo ?_;refine zac ?_;intro hb;refine Yd ?_;clear x1 o0 c0 c1 c2 l0 l1 l2 n5 pc HOWN HGR D7 HYV;intro x1 o0 c0 c1 c2 l0 l1 l2 n5 pc HOWN HGR D7 HYV;replace hwn:=He hwn hb.size;replace hbq:=hbq.trans (hb.mono hbq.size);clear hb;generalize wn.drew=wn at *;refine tkm [0,1,2,3,4,5,6,7,8,9,10,11,12,13,14,15,16,17,18,19,20,21,22,23,24] ?_;have ak2:ob < wn.heap.size:=(HOWN.o.row.lt ob rfl).2;refine tk2 25 aj rfl λK hK=>?_
    go_simp;refine(dZ wn z FI FI).mono ?_;rintro e wn ⟨v9,rfl,hb,hu⟩;obtain⟨zr,hzr⟩:∃ v:Rat,v=(z:Rat):=⟨_,rfl⟩;rw[<-hzr] at hu hzl HPR;have HZV:=Ag (hu.mono (G:=(BG (λb=>(Value.slice (some ⟨ob,0,none⟩) k oc).ownBlock≠some b) vs)) (λb hb _=>⟨λe=>by have e:some ob=some b:=e; injection e with e; omega,λu hu e=>by have:=HVB.o u hu b e; omega⟩));obtain⟨A5,d5,B5,e5',rfl,-⟩:=hu.opened;replace ak2:=Hz ak2 hb.size;clear hu hzr;refine Yd ?_;clear x1 o0 c0 c1 c2 l0 l1 l2 n5 pc HOWN HGR D7 HYV;intro x1 o0 c0 c1 c2 l0 l1 l2 n5 pc HOWN HGR D7 HYV;refine zaZ ?_;clear hwn hbq hb hHeld hK K;intro hwn hbq hHeld;refine tk2 26 aj rfl λK hK=>?_
    go_simp;refine(mY wn (BG (λb=>(Value.slice (some ⟨ob,0,none⟩) k oc).ownBlock≠some b) vs) _ _ y zr HYV.o HZV.o FI FI).mono ?_;rintro e wn ⟨v9,rfl,hb,hu⟩;obtain⟨p2,hp2'⟩:∃ v,v=y*zr:=⟨_,rfl⟩;rw[<-hp2'] at hu HPR;have hp2l:rl p2<=400:=by rw[hp2'];have:=jQ y zr;omega
    have DU:=Ag (hu.mono (G:=(BG (λb=>(Value.slice (some ⟨ob,0,none⟩) k oc).ownBlock≠some b) vs)) (λb hb _=>hb.elim id λh=>⟨λe=>by have e:some ob=some b:=e; injection e with e; omega,λu hu e=>by have:=HVB.o u hu b e; omega⟩));obtain⟨A6,d6,B6,e6',rfl,-⟩:=hu.opened;replace ak2:=Hz ak2 hb.size;clear hu hp2';refine Yd ?_;clear x1 o0 c0 c1 c2 l0 l1 l2 n5 pc HOWN HGR D7 HYV;intro x1 o0 c0 c1 c2 l0 l1 l2 n5 pc HOWN HGR D7 HYV;replace HZV:=Ag (HZV.o.below hb);refine zaZ ?_;clear hwn hbq hb hHeld hK K;intro hwn hbq hHeld;refine tk2 27 aj rfl λK hK=>?_
    go_simp;refine(mg wn (BG (λb=>(Value.slice (some ⟨ob,0,none⟩) k oc).ownBlock≠some b) vs) _ _ m p2 D7.o DU.o hml FI).mono ?_;rintro e wn ⟨v9,rfl,hb,hu⟩;obtain⟨sm,hsm⟩:=Gp (m+p2);rw[<-hsm] at hu;have D6:=Ag hsm;have HSV:=Ag (hu.mono (G:=(BG (λb=>(Value.slice (some ⟨ob,0,none⟩) k oc).ownBlock≠some b) vs)) (λb hb _=>hb.elim id λh=>⟨λe=>by have e:some ob=some b:=e; injection e with e; omega,λu hu e=>by have:=HVB.o u hu b e; omega⟩));obtain⟨A7,d7,B7,e7',rfl,-⟩:=hu.opened;replace ak2:=Hz ak2 hb.size;clear hu hsm;refine Yd ?_;clear x1 o0 c0 c1 c2 l0 l1 l2 n5 pc HOWN HGR D7 HYV;intro x1 o0 c0 c1 c2 l0 l1 l2 n5 pc HOWN HGR D7 HYV;replace HZV:=Ag (HZV.o.below hb);replace DU:=Ag (DU.o.below hb);refine zaZ ?_;clear hwn hbq hb hHeld hK K;intro hwn hbq hHeld;refine tkm [28] ?_;refine Zp ?_;clear hHeld;obtain⟨q8,hq8⟩:∃ x:RV,x=⟨ak sm,Gw A7 (ak sm).num.length d7,Gw B7 (ak sm).den.length e7'⟩:=⟨_,rfl⟩;have hfq:ratK.fine wn (BG (λb=>(Value.slice (some ⟨ob,0,none⟩) k oc).ownBlock≠some b) vs) q8:=by rw[hq8];exact Ak.uz HSV.o
    have hown2:=HGR.o.own ir _ l HV.o HL.o;have f0:=hown2.fz (ic*3);have f1:=hown2.fz (ic*3+1);have f2:=hown2.fz (ic*3+2);obtain⟨Wz,hWz,hg9,afT⟩:=HGR.o.set HV.o HL.o ic q8 hfq;have hrne:∀ b,(Value.slice (some ⟨ob,0,none⟩) k oc).ownBlock=some b->b≠rb:=λb e e2=>by
     subst e2;exact HOWN.o.ne hown2 au b e rfl
    have HO9:=Ag (HOWN.o.wrote afT (λb hb e=>hb.elim id λh=>hrne b h e));have Fj:=Ag (HMV.o.put HND.o HK3.o (l:=l) (q:=q8) (by rw[<-HIR.o]; exact HL.o) (by rw[<-HIR.o,<-HIC.o,hq8,<-HM.o,HPR.o,<-D6.o]));rw[<-HIR.o,<-HIC.o] at Fj;have HB9:=Ag (Ht (fC.trans (hbq.mono hz3)) afT (λb hb=>by omega) (by have:=hbq.size; omega));rw[hq8] at hWz;have HWZ:=Ag hWz;have HG9:=Ag hg9;clear hg9 hWz afT hfq hown2 hrne x1 o0 l0 l1 l2 n5 pc n0;go_wp2
    refine zbP ?_;clear f0 f1 f2 c0 c1 c2;go_wp2
    go_roundw
    case rel=>exact⟨i+1,_,FI,by go_num,Fj.o,HO9.o,HG9.o,HB9.o⟩
    case measure=>exact zMs
  go_wp2_with fail
  refine(zV wa wd FI).mono ?_;rintro e wb ⟨v2,rfl,hb2,M,hML,hM0,hMo⟩;have hne:wd≠0:=by rw[HWD.o];have:=Gn (iJ g 1 g.F8.length);unfold aN;omega
  have aoU:=HGR.o.snoc hb2 hMo hkz (λb hb=>λe=>by have:=(HOWN.o.row.lt b e).2; omega);obtain⟨Am,cm,rfl⟩:=hMo.shape;rw[hML] at aoU ⊢;have DI:=Ag aoU; have HMO:=Ag hMo;have HOB:=Ag (HOWN.o.below hb2);have fC:=hbel.trans (hb2.mono hkz);have hz2:=fC.size;have HZ2:=Ag (show ∀ l∈ls ++ [M],l.length=wd/\∀ q∈l,q.r=ak 0 from λl hl=>by
   rcases List.mem_append.1 hl with hl | hl
   ·exact HZ.o l hl
   ·rw[List.mem_singleton.1 hl]; exact⟨hML,hM0⟩)
  clear hb2 aoU hMo hM0 hML;dsimp only;go_wp2_with (at_builtin; refine jI (K:=al7) (F:=λ_=>False) (W:=wb) rfl _ _ 97 29 24 _ Tryz.underlying97 Tryz.infoVecV rfl au rfl W2.heap.size hz2 u8 vs rfl (Gw Am wd cm) _ rfl (by have:=HVL.o; omega) rfl HOB.o rfl ?_; intro g3 cap3 wg hown' nX hat' hlt')
  have ajT:Grid wg W2.heap.size 42 (λb=>(Value.slice (some ⟨g3,0,none⟩) (vs.length+1) cap3).ownBlock≠some b) (vs ++ [Gw Am wd cm]) (ls ++ [M]):=DI.o.move nX (λb hb hl=>⟨λe=>by
   have e:some g3=some b:=e;injection e with e
   rcases hat' with hat | hat
   ·exact hb (by rw[<-e]; exact hat)
   ·omega,hb⟩) (λv hv b e e2=>by
   obtain⟨i,hi⟩:=H9 hv;obtain⟨l,hl⟩:=Gl (l:=ls ++ [M]) (k:=i) (by rw[<-DI.o.len]; exact Gn hi);exact HOB.o.ne (DI.o.own i v l hi hl) au b e2 e)
  have HO9:=Ag hown';have HG9:=Ag ajT;have hb9:=Ht fC nX (λb hb=>(HOB.o.row.lt b hb).1) hz2;clear hown' ajT nX hat' hlt';go_wp2_with fail
  go_roundw
  case rel=>exact⟨k+1,_,_,FI,by go_num,by rw[G9,HVL.o]; rfl,HZ2.o,HO9.o,HG9.o,hb9⟩
  case measure=>exact zMs
def tY (g:Gm) (p r:Nat):List Rat:=(Ig (aN g 1).length).map λc=>fE g p g.F7.length r c
theorem abx (g:Gm) (p r:Nat):(tY g p r).length=(aN g 1).length:=by grind [tY]
theorem amO {g:Gm} (h:r < (aN g 0).length):(ad7 g p)[r]? = some ((tY g p r).map ak):=by
 unfold ad7 tY;rw[GY,Kq h,List.map_map];rfl
theorem adH {g:Gm} (hk:k<=(aN g 1).length):iy (tY g p r) y k=sG g p g.F7.length r y k:=by grind [iy,sG,fM,tY]
theorem amP {g:Gm} (hf:aQ g=0) (hN:g.F7.length<=60) (p r:Nat):∀ x∈tY g p r,rl x<=18061:=by grind [tY,ahr]
theorem amQ (w:GK) (F Fx Fy:Gq) (vg vx vy:GN) (g:Gm) (xr yr:List Raw) (pl:Int) (hg:AB w F vg g) (hsm:Small g) (hN60:g.F7.length<=60) (hx:Gs w Fx vx xr) (hy:Gs w Fy vy yr) (hfx:Bc xr) (hfy:Bc yr) (hx4:Bf xr) (hy4:Bf yr) :
  Calls GI 13 #[vg,vx,vy,GV GU pl] w (Ret w λv w'=>∃ t,v = .tuple #[t,GV GU (qL g xr yr pl)]/\Ak w' (λ_=>True) t (lS g xr yr pl)):=by
 refine zdN ?_;intro HSM HFX HFY HX4 HY4;have HN60:=Ag hN60;have hni:=hsm.F8;have HG:=Ag hg;obtain⟨vn,vi,rfl,⟨A,c,rfl,hc,_⟩,⟨Ai,ci,rfl,hci,_⟩⟩:=hg;refine Yj ?_;intro HX HY;obtain⟨Ax,cx,rfl,_,_⟩:=hx;obtain⟨Ay,cy,rfl,_,_⟩:=hy;refine YN ?_;intro oe hoe oo hoo HE HO;clear hsm hfx hfy hx4 hy4 hoe hoo hN60;go_in;go_wp2_with fail
 generalize hW:G5 _ _=W;obtain⟨rx,ro,hB,hz⟩:=gW hW;clear hW;obtain⟨ob,hob⟩:=Gp (w.heap.size+1);rw[<-hob] at ro hz ⊢;have how:w.heap.size < ob:=FI;clear hob;refine Yt ?_;clear HG HX HY;intro x0 x1 x2 HG HX HY;go_wp2_with fail
 clear x0 x1 x2;refine(aeL W F _ g pl HG.o HSM.o).mono ?_;rintro e w1 ⟨_,rfl,hb,vp,rfl,hvp⟩;obtain⟨Ap,cp,rfl⟩:=hvp.open;obtain⟨fe,hfe⟩:=Gp (seatE g pl);refine zc9 ?_;intro HPS;rw[<-hfe] at HE HO HPS ⊢;replace rx:=rx.below hb rx.lt;replace ro:=ro.below hb ro.lt;refine Zl ?_;clear hB HG HX HY;intro hB HG HX HY;refine Zd ?_;intro x0 x1 x2;clear hfe hb hvp;dsimp only;by_cases h0:fe=0
 case neg =>
  refine zaq ?_;intro t0 H0;clear h0;refine zaz ?_;intro q0 y0 q1 y1 q2 y2;go_wp2_with fail
  refine zcT ?_;clear q0 q1 q2 y0 y1 y2;intro Wz hrz hwz hkz;intro t0 t1 t2;refine bodyPost_ret (v:=.tuple #[.agg #[G7 false,Gw none 0 0,Gw none 0 0],GV GU fe]) (by simp[results,Tryz.results13,go_sem,t0,t1,t2]) rfl ?_;exact Yu
 subst h0;refine zcp ?_;clear HE HO;intro HE HO;obtain⟨hlk,hp0,hp1⟩:=HPS.o (by trivial);obtain⟨hform,hpl2,hpar⟩:=pU hlk;obtain⟨p,rfl⟩:∃ p:Nat,pl=(p:Int):=⟨pl.toNat,FI⟩;rw[Ic] at HE HO;have hpp:p < 2:=FI;have HBV:=Ag (show lJ g xr yr=qh g xr yr by unfold lJ; rw[LG (λh=>h hlk)]);have HFO:=Ag hform;have HP2:=Ag hpl2;clear HPS hform hpl2 hpar hlk hp0 hp1;go_wp2_with fail
 clear x0 x1 x2;refine(aeM w1 F _ _ _ _ _ g xr yr HG.o HSM.o HX.o HY.o HFX.o HFY.o HX4.o HY4.o).mono ?_;rintro e w2 ⟨_,rfl,hb,vp,rfl,Aq,nq,cq,rfl⟩;rw[HBV.o];refine zdy ?_;intro HVE ve hve;rw[<-hve] at HE HO HVE ⊢;replace rx:=rx.below hb rx.lt;replace ro:=ro.below hb ro.lt;refine Zl ?_;clear hB HG HX HY;intro hB HG HX HY;refine Zd ?_;intro x0 x1 x2;clear hve hb HBV;dsimp only;by_cases h0:ve=0
 case neg =>
  have t0:(ve != 0)=true:=by simp[h0]
  have H0:=Ag h0;clear h0;refine zaz ?_;intro q0 y0 q1 y1 q2 y2;go_wp2_with fail
  refine zcT ?_;clear q0 q1 q2 y0 y1 y2;intro Wz hrz hwz hkz;intro t0 t1 t2;refine bodyPost_ret (v:=.tuple #[.agg #[G7 false,Gw none 0 0,Gw none 0 0],GV GU ve]) (by simp[results,Tryz.results13,go_sem,t0,t1,t2]) rfl ?_;exact Yu
 subst h0;obtain⟨xs,ys,rfl,rfl,zY⟩:=HVE.o (by trivial);have HVO:=Ag zY;refine zcp ?_;clear HE HO;intro HE HO;rw[eU,eU] at HE HO;rw[Gz] at HX HY ⊢;rw[Gz];clear zY HVE HFX HFY HX4 HY4;go_wp2_with fail
 clear x0 x1 x2;refine(amN w2 F _ g p HG.o HSM.o HFO.o HP2.o hpp HN60.o).mono ?_;rintro e w3 ⟨vm,rfl,hb,hm⟩;replace ro:=ro.below hb ro.lt;refine ZM ?_;clear hB;intro hB;refine zea ?_;clear HX HY;intro HX HY;have HM:=Ag (JK (G:=λb=>b < w3.heap.size) hm (λb _ hl=>hl) (GZ _ _));obtain⟨Am,cm,rfl,_,_⟩:=hm;obtain⟨n,hn⟩:=Gp ((aN g 0).length);have hml:(ad7 g p).length=n:=by unfold ad7;rw[Gz,Je,hn]
 rw[hml] at HM ⊢;have hn6:n<=1001:=by
  have h1:=dL (g:=g) (p:=0) (λi hi=>dJ HFO.o i hi) g.F8.length (Gy _);have h2:=HSM.o.F8;rw[hn];unfold aN;omega
 have HN:=Ag hn;clear hb hn HG rx hml;have hw1:=dZ w3 0 au au;obtain⟨zz,hzz⟩:∃ x:Rat,x=((0:Int):Rat):=⟨_,rfl⟩;rw[<-hzz] at hw1;have HZZ:=Ag (show zz=0 by rw[hzz]; rfl);clear hzz;dsimp only;go_wp2_with fail
 refine hw1.mono ?_;rintro e w4 ⟨v1,rfl,hb,hv1⟩;obtain⟨A1,c1,B1,d1,rfl,bH⟩:=hv1.opened;have hz34:=hb.size;replace ro:=ro.below hb ro.lt;refine ZM ?_;clear hB;intro hB;refine zea ?_;clear HX HY;intro HX HY;replace HM:=Ag (Gt.on HM.o (GL hb _));clear hv1 hb hw1;dsimp only;go_upto_region 8 with(fail)
 obtain⟨W3,hW3,hacc,hb3,hlt3⟩:=Acc.start 42 (G:=λ_=>True) bH (λb hb _=>trivial);rw[<-hW3];obtain⟨ub,hub⟩:=Gp w4.heap.size;rw[<-hub] at hacc hlt3 ⊢;have hwu:w.heap.size<=ub:=by have:=hB.size;omega
 have hou:ob < ub:=by have:=ro.lt;omega
 have h3u:w3.heap.size<=ub:=FI;have ro3:=ro.below hb3 ro.lt;have DN:=Ag hacc;have HRO:=Ag ro3;have HB3:=Ag (hB.trans (hb3.mono hB.size));replace HX:=Ag (Iy HX.o (GL hb3 _));replace HY:=Ag (Iy HY.o (GL hb3 _));replace HM:=Ag (Gt.on HM.o (GL hb3 _));clear hW3 hacc hb3 hub ro ro3 hB bH hz34;go_wp2_with fail
 go_loopw [16] (λiv wr=>∃ (k:Nat) (acc:Rat) (A:Option Addr) (c:Nat) (B:Option Addr) (d:Nat),k<=n/\iv = GV GU (k:Int)/\acc=ab2 g p (aN g 1).length xs ys k/\Acc 42 (λ_=>True) W3 ub (ak acc) A c B d wr) (λiv _=>n - (intOf iv).toNat)
 case atStart=>exact⟨0,zz,_,_,_,_,Hg _,rfl,HZZ.o,DN.o⟩
 case round =>
  clear DN;obtain⟨k,acc,A2,c2,B2,d2,hk,rfl,adA,hst⟩:=hrel;obtain⟨wa,rfl⟩:=Gp wr;have HST:=Ag hst;have D5:=Ag adA;have hal2:rl acc<=20000:=by rw[adA];have:=amM HFO.o HN60.o p (aN g 1).length k HVO.o.xr HVO.o.yr;omega
  have hbw:=Ht HB3.o hst.wr (λb hb=>by omega) HB3.o.size;have HBW:=Ag hbw;refine zaL ?_;intro u0 u1 u2 HUV hul;clear adA;by_cases hlt:k < n
  case neg =>
   obtain rfl:k=n:=FI;have hro:=HRO.o.wrote hst.wr FI;have hall:acc=nT g xs ys p:=by rw[D5.o,HN.o];exact ak0 HFO.o xs ys p
   have DJ:=Ag hall;have aht:=aax wa (λb=>True/\b≠ub) _ acc HUV.o FI;clear hst hbw hall;go_wp2_with fail
   refine aht.mono ?_;rintro e w5 ⟨_,rfl,hb,u,rfl,hu⟩;replace hro:=hro.below hb hro.lt;have HB5:=Ag (HBW.o.trans (hb.mono HBW.o.size));rw[DJ.o,<-HO.o] at hu;rw[DJ.o,<-HE.o];have hus:=hb.size;obtain⟨A7,c7,B7,d7,rfl,-⟩:=hu.opened;have HU:=Ag hu;have hol:ob < wa.heap.size:=FI;clear hu aht hb u0 u1 u2;dsimp only;have q0:=hro.cell (i:=0) rfl;have y0:=hro.frozen 0;have q1:=hro.cell (i:=1) rfl;have y1:=hro.frozen 1;have q2:=hro.cell (i:=2) rfl;have y2:=hro.frozen 2;go_wp2
   obtain⟨Wz,hWz,hrz,hwz,hkz⟩:=aY hro (G7 oo.neg) (Gw A7 oo.num.length c7) (Gw B7 oo.den.length d7);refine Zg ?_;clear hWz q0 q1 q2 y0 y1 y2;intro t0 t1 t2;refine bodyPost_ret (v:=.tuple #[.agg #[G7 oo.neg,Gw A7 oo.num.length c7,Gw B7 oo.den.length d7],GV GU oe]) (by simp[results,Tryz.results13,go_sem,t0,t1,t2]) rfl ?_;exact zbz
  obtain⟨x,hx⟩:=Gl (l:=xs) (k:=k) (by rw[HVO.o.xl,<-HN.o]; exact hlt);have hkx:=Gn hx;have hxl:=HVO.o.xr x (Gx hx);have HSU:=Ag (show ab2 g p (aN g 1).length xs ys (k+1)=ab2 g p (aN g 1).length xs ys k+x*sG g p g.F7.length k ys (aN g 1).length by
   unfold ab2;rw[jA,GH,hx]; rfl)
  have hS:Same (λb=>b < ub) W3 wa:=hst.wr.same λb hb e=>by omega
  have HXW:=Iy (IX (G:=λb=>b < ub) HX.o (λb hb _=>by omega) (GZ _ _)) hS;have HYW0:=IX (G:=λb=>b≠ub) (Iy (IX (G:=λb=>b < ub) HY.o (λb hb _=>by omega) (GZ _ _)) hS) (λb hb _=>by omega) (GZ _ _);have HYW:=Ag HYW0;have HMW:=Gt.on (JK (G:=λb=>b < ub) HM.o (λb hb _=>by omega) (GZ _ _)) hS;obtain⟨xb,xo,c5,vxn,vxd,e4,hF4,amy,l0,l1,l2,hln,hld⟩:=Gs.at HXW (k:=k) (r:=ak x) (by rw[GY,hx]; rfl);obtain⟨mb,mo,c6,vr,e5,hF5,uq,m0,hrow⟩:=Gt.at HMW (amO (p:=p) (show k < (aN g 0).length by rw[<-HN.o]; exact hlt));have HRW:=Ag (IX (G:=λb=>b≠ub) hrow (λb hb _=>by omega) (GZ _ _));obtain⟨Ar,cr,rfl,_,_⟩:=hrow;rw[Gz] at e4;simp only[Value.slice.injEq,true_and] at e4 e5;obtain⟨rfl,rfl⟩:=e4;obtain⟨rfl,he5,rfl⟩:=e5;clear he5;have HXV:=Ag (Ak.mono (Ak.make (r:=ak x) rfl hln hld) (G:=λb=>True/\b≠ub) (λb hb _=>⟨trivial,FI⟩));obtain⟨A3,c3,rfl,-,-⟩:=hln;obtain⟨A4,c4,rfl,-,-⟩:=hld;have HPD:=Ag (λ(w':GK) (h1:Gs w' (λb=>b≠ub) (Gw Ar ((tY g p k).map ak).length cr) ((tY g p k).map ak)) (h2:Gs w' (λb=>b≠ub) (Gw Ay (JB ys) cy) (ys.map ak))=>abW w' (λb=>b≠ub) _ _ (tY g p k) ys h1 h2 (by rw[abx,HVO.o.yl]; exact Gy _) (by
   have h1:=dL (g:=g) (p:=1) (λi hi=>dJ HFO.o i hi) g.F8.length (Gy _);have h2:=HSM.o.F8;have h3:=HVO.o.yl;unfold aN at h3;omega) (λx hx=>by have:=amP HFO.o HN60.o p k x hx;omega) (λy hy=>by have:=HVO.o.yr y hy;omega) (λj hj=>by
   rw[abx] at hj;rw[adH hj];have:=aeO HFO.o HN60.o p k j HVO.o.yr;omega))
  obtain⟨ml,hml⟩:=Gp (((tY g p k).map ak).length);rw[<-hml] at m0;have HMLL:=Ag hml;have HPE:=Ag (show iy (tY g p k) ys (tY g p k).length=sG g p g.F7.length k ys (aN g 1).length by rw[abx]; exact adH (Gy _));have HPL:=Ag (show rl (sG g p g.F7.length k ys (aN g 1).length)<=18061 from aeO HFO.o HN60.o p k _ HVO.o.yr);rw[<-hml] at HRW HPD;have hbq:=GR wa.heap.size wa;have hBQ:=Gy wa.heap.size;clear hst hbw hx hS HXW HYW0 HMW hF4 amy hF5 uq hml;go_wp2_with fail
  refine aP (λw'=>w'.cell? ⟨ub,0,none⟩=some (G7 (ak acc).neg)/\w'.cell? ⟨ub,1,none⟩=some (Gw A2 (ak acc).num.length c2)/\w'.cell? ⟨ub,2,none⟩=some (Gw B2 (ak acc).den.length d2)/\w'.cell? ⟨xb,xo+k*3,none⟩=some (G7 (ak x).neg)/\w'.cell? ⟨xb,xo+k*3+1,none⟩=some (Gw A3 (ak x).num.length c3)/\w'.cell? ⟨xb,xo+k*3+2,none⟩=some (Gw A4 (ak x).den.length c4)/\w'.cell? ⟨mb,mo+k,none⟩=some (Gw Ar ml cr)) 13 1 aj rfl aj ⟨u0,u1,u2,l0,l1,l2,m0⟩ λhHeld=>?_
  refine Zo ?_;refine zdS ?_;intro hb;refine Yp ?_;clear u0 u1 u2 l0 l1 l2 m0 HST HUV HXV HYW HRW;intro u0 u1 u2 l0 l1 l2 m0 HST HUV HXV HYW HRW;replace hbq:=hbq.trans (hb.mono hbq.size);clear hb;generalize wa.drew=wn at *;refine tkm [0,1,2,3,4,5,6,7,8,9] ?_;have hwn:ub < wn.heap.size:=by have:=hbq.size;omega
  refine tk2 10 aj rfl λK hK=>?_
  go_simp;refine(HPD.o wn HRW.o HYW.o).mono ?_;rintro e wn ⟨vp,rfl,hb,hu⟩;rw[HPE.o] at hu;obtain⟨pr,hpr⟩:=Gp (sG g p g.F7.length k ys (aN g 1).length);rw[<-hpr] at hu HSU HPL;have HPV:=Ag (hu.mono (G:=(λb=>True/\b≠ub)) (λb hb _=>hb.elim (λh=>⟨trivial,h.1⟩) λh=>⟨trivial,FI⟩));obtain⟨A7,c7,B7,d7,rfl,-⟩:=hu.opened;replace hwn:=Hz hwn hb.size;clear hu hpr;refine Yp ?_;clear u0 u1 u2 l0 l1 l2 m0 HST HUV HXV HYW HRW;intro u0 u1 u2 l0 l1 l2 m0 HST HUV HXV HYW HRW;refine zdb ?_;clear hbq hb hHeld;intro hbq hHeld;clear hK K;refine Zb ?_;refine tk2 11 aj rfl λK hK=>?_
  go_simp;refine(mY wn (λb=>True/\b≠ub) _ _ x pr HXV.o HPV.o FI (by have:=HPL.o; omega)).mono ?_;rintro e wn ⟨vp,rfl,hb,hu⟩;obtain⟨tm,htm⟩:=Gp (x*pr);rw[<-htm] at hu HSU;have HTV:=Ag (hu.mono (G:=(λb=>True/\b≠ub)) (λb hb _=>hb.elim id λh=>⟨trivial,FI⟩));have HTL:=Ag (show rl tm<=20000 by rw[htm]; have:=jQ x pr; have:=HPL.o; omega);obtain⟨A8,c8,B8,d8,rfl,-⟩:=hu.opened;replace hwn:=Hz hwn hb.size;clear hu htm;refine Yp ?_;clear u0 u1 u2 l0 l1 l2 m0 HST HUV HXV HYW HRW;intro u0 u1 u2 l0 l1 l2 m0 HST HUV HXV HYW HRW;replace HPV:=Ag (HPV.o.below hb);refine zdb ?_;clear hbq hb hHeld;intro hbq hHeld;clear hK K;refine Zb ?_;refine tk2 12 aj rfl λK hK=>?_
  go_simp;refine(mg wn (λb=>True/\b≠ub) _ _ acc tm HUV.o HTV.o hal2 HTL.o).mono ?_;rintro e wn ⟨vp,rfl,hb,hu⟩;obtain⟨sm,hsm⟩:=Gp (acc+tm);rw[<-hsm] at hu;have D6:=Ag hsm;have HSV:=Ag (hu.mono (G:=(λb=>True/\b≠ub)) (λb hb _=>hb.elim id λh=>⟨trivial,FI⟩));obtain⟨A9,c9,B9,d9,rfl,-⟩:=hu.opened;clear hu hsm;refine Yp ?_;clear u0 u1 u2 l0 l1 l2 m0 HST HUV HXV HYW HRW;intro u0 u1 u2 l0 l1 l2 m0 HST HUV HXV HYW HRW;replace HPV:=Ag (HPV.o.below hb);replace HTV:=Ag (HTV.o.below hb);refine zdb ?_;clear hbq hb hHeld;intro hbq hHeld;refine zab ?_;clear hK K hHeld;intro f0 f1 f2 Wz hWz hst2;have HWZ:=Ag hWz;have Cm:=Ag hst2;clear hWz hst2;go_wp2
  refine zbP ?_;clear f0 f1 f2 u0 u1 u2 l0 l1 l2 m0;go_wp2
  go_roundw
  case rel=>exact⟨k+1,sm,_,_,_,_,FI,by go_num,by rw[D6.o,HSU.o,<-D5.o],Cm.o⟩
  case measure=>exact zMs
theorem aeR (w:GK) (a:Int) (b:Nat) (h1:-1000000000000<=a) (h2:a<=1000000000000) (h3:b<=1000000000000) (hb0:b≠0) :
  Calls GI 20 #[GV GU a,GV GU (b:Int)] w (Ret w λv w'=>RtV w' (λb=>w.heap.size<=b) v (mkRat a b)):=by
 have HR:=Ag (λw=>akk w a b h1 h2 h3 hb0);generalize mkRat a b=x at *;go_in;go_wp2_with fail
 generalize hW:G5 _ _=W;refine zbI ?_;clear hW;intro hr hB hz;refine(HR.o _).mono ?_;rintro e wn ⟨vm,rfl,hb,hu⟩;have hu2:RtV wn (λb=>w.heap.size+1<=b) vm x:=hu.mono (λb hb _=>by omega);have HM:=Ag hu2;obtain⟨Am,cm,Bm,dm,rfl,hn,hd⟩:=hu2.open;clear hn hd hu hu2;refine Ye ?_;clear hr hz hB hb;intro hr hz hB;refine Zt ?_;intro q0 y0 q1 y1 q2 y2;go_wp2
 obtain⟨Wz,hWz,hrz,hwz,hkz⟩:=aY hr (G7 (ak x).neg) (Gw Am (ak x).num.length cm) (Gw Bm (ak x).den.length dm);refine Zg ?_;clear hWz q0 q1 q2 y0 y1 y2;intro t0 t1 t2;refine bodyPost_ret (v:=.agg #[G7 (ak x).neg,Gw Am (ak x).num.length cm,Gw Bm (ak x).den.length dm]) (by simp[results,Tryz.results20,go_sem,t0,t1,t2]) rfl ?_;exact zak
theorem sH (w:GK) (F:Gq) (v:GN) (l:List Int) (b:Nat) (hv:AL w F v l) (hl:l.length<=1000) (hx:∀ x∈l,-1000000000000<=x/\x<=1000000000000) (h3:b<=1000000000000) (hb0:b≠0) :
  Calls GI 19 #[GV GU (b:Int),v] w (Ret w λv w'=>CB w' (λb=>w.heap.size<=b) v (l.map λx=>mkRat x b)):=by
 have HV:=Ag hv;obtain⟨A,c,rfl,hc,hr⟩:=hv;have HR:=Ag hr;have HX:=Ag hx;clear hr hx;go_in;go_wp2
 go_loopw [5,6] (λu i wr=>∃ (k:Nat) (L:List RV),k<=l.length/\i = GV GU (k:Int)/\L.length=k/\L.map RV.r=((l.take k).map λx=>ak (mkRat x b))/\Bj wr w.heap.size 42 (λb=>w.heap.size<=b) u L/\Below w.heap.size w wr) (λ_ i _=>l.length - (intOf i).toNat)
 case atStart=>exact⟨0,[],FI,rfl,rfl,rfl,Bj.nil _ _ _ _,GR _ _⟩
 case round =>
  obtain⟨k,L,hk,rfl,hLl,hLr,hown,hbel⟩:=hrel;have HO:=Ag hown;have HL:=Ag hLr;have HLL:=Ag hLl;clear hown hLr hLl;by_cases hlt:k < l.length
  ·obtain⟨bb,o,rfl,_,hb',hcell⟩:=HR.o FI;obtain⟨x,hxk⟩:=Gl hlt;have e1:=hcell k x hxk;unfold lU at e1;rw[Nat.mul_one] at e1;have hxb:=HX.o x (Gx hxk);have HXK:=Ag hxk;have hold:=aK hbel;clear hcell hxk;have hz:=hbel.size;go_wp2_with fail
   refine(aeR wr x b hxb.1 hxb.2 h3 hb0).mono ?_;rintro e w2 ⟨vm,rfl,hb2,hu⟩;obtain⟨q,hq,rfl,hqf⟩:=Ak.rv hu;have fC:=hbel.trans (hb2.mono hbel.size);have HO2:=Ag (HO.o.below hb2);have HF:=Ag (show q.fine w2 (Apart (λb=>w.heap.size<=b) u5) from hqf.keep (λb hb _=>⟨FI,λe=>by have:=(HO.o.row.lt b e).2; omega⟩) (GZ _ _));have HQ:=Ag hq;clear hqf hu hq hb2 hold hbel;dsimp only[RV.cells];go_wp2_with (at_builtin; refine wV (F:=λb=>w.heap.size<=b) rfl _ _ 29 42 KR JR rfl w.heap.size (Gy _) u5 L rfl q (by have:=HLL.o; omega) rfl HO2.o HF.o fC ?_; intro g cap w' hown' bG hlt'; have HO':=Ag hown'; clear hown')
   go_roundw
   case rel=>exact⟨k+1,L ++ [q],FI,by go_num,by rw[G9,HLL.o]; rfl,by rw[Hf,HL.o,Gv HXK.o,Hf,Ju,List.map_nil,HQ.o]; rfl,HO'.o,bG⟩
   case measure=>exact zMs
  ·go_wp2
   go_ret;refine zdM ?_;intro h5;unfold CB;rw[List.map_map];exact h5
theorem adI (w:GK):Calls GI 18 #[] w (Ret w λv w'=>Ba w' (λb=>w.heap.size<=b) v abM):=by
 go_in;have hB:=GR w.heap.size w;go_wp2_with fail
 obtain⟨wa0,hwa,hr,hb,hz'⟩:=dW w 3 #[GV GU 1,GV GU 1];rw[<-hwa];have hi:=Row.zM (l:=[1,1]) (F:=λ_=>True) hr trivial;clear hwa hr;refine ZM ?_;clear hB;intro hB;have hz0:=hB.size;clear hb;refine(sH wa0 _ _ [1,1] 2 hi au au au au).mono ?_;rintro e wb0 ⟨v0,rfl,hb,hu⟩;have H0:=Ag (hu.keep (G:=λb=>w.heap.size<=b) (λb hb _=>by omega) (GZ _ _));clear hu hi;refine YQ ?_;clear hB hb;intro hB;go_wp2_with fail
 obtain⟨wa1,hwa,hr,hb,hz'⟩:=dW wb0 3 #[GV GU 1,GV GU 1];rw[<-hwa];have hi:=Row.zM (l:=[1,1]) (F:=λ_=>True) hr trivial;clear hwa hr;replace H0:=Ag (Iy H0.o (GL hb _));refine ZM ?_;clear hB;intro hB;have hz1:=hB.size;clear hb;refine(sH wa1 _ _ [1,1] 2 hi au au au au).mono ?_;rintro e wb1 ⟨v1,rfl,hb,hu⟩;have H1:=Ag (hu.keep (G:=λb=>w.heap.size<=b) (λb hb _=>by omega) (GZ _ _));clear hu hi;replace H0:=Ag (Iy H0.o (GL hb _));refine YQ ?_;clear hB hb;intro hB;go_wp2_with fail
 obtain⟨wa2,hwa,hr,hb,hz'⟩:=dW wb1 3 #[GV GU 1,GV GU 1,GV GU 1];rw[<-hwa];have hi:=Row.zM (l:=[1,1,1]) (F:=λ_=>True) hr trivial;clear hwa hr;replace H0:=Ag (Iy H0.o (GL hb _));replace H1:=Ag (Iy H1.o (GL hb _));refine ZM ?_;clear hB;intro hB;have hz2:=hB.size;clear hb;refine(sH wa2 _ _ [1,1,1] 3 hi au au au au).mono ?_;rintro e wb2 ⟨v2,rfl,hb,hu⟩;have H2:=Ag (hu.keep (G:=λb=>w.heap.size<=b) (λb hb _=>by omega) (GZ _ _));clear hu hi;replace H0:=Ag (Iy H0.o (GL hb _));replace H1:=Ag (Iy H1.o (GL hb _));refine YQ ?_;clear hB hb;intro hB;have c0:=H0.o;have c1:=H1.o;have c2:=H2.o;obtain⟨A0,d0,rfl,_,_⟩:=c0;obtain⟨A1,d1,rfl,_,_⟩:=c1;obtain⟨A2,d2,rfl,_,_⟩:=c2;have hzz:=hB.size;go_wp2
 refine bodyPost_ret (v:=Gw (some ⟨wb2.heap.size,0,none⟩) 3 3) (by simp[results,Tryz.results18,go_sem]) rfl ?_;generalize hwa:G5 _ _=wz;obtain⟨wz',hwz,hr,hb,hz'⟩:=dW wb2 28 #[Gw A0 2 d0,Gw A1 2 d1,Gw A2 3 d2];have hww:wz=wz':=by rw[<-hwa,hwz]
 rw[hww];refine⟨_,rfl,hB.trans (hb.mono hB.size),?_⟩;exact ao2 hr hzz (Iy H0.o (GL hb _)) (Iy H1.o (GL hb _)) (Iy H2.o (GL hb _))
def x22:List Rat:=[6,3,3,1,1,1].map λx=>mkRat x 6
def y22:List Rat:=[2,1,1].map λx=>mkRat x 2
def xr22:List Raw:=[⟨false,[1],[1]⟩,⟨false,[1],[2]⟩,⟨false,[1],[2]⟩,⟨false,[1],[6]⟩,⟨false,[1],[6]⟩,⟨false,[1],[6]⟩]
def yr22:List Raw:=[⟨false,[1],[1]⟩,⟨false,[1],[2]⟩,⟨false,[1],[2]⟩]
theorem yc {a:Nat} (hb:0 < b) (h1:a / Nat.gcd a b=c) (h2:b / Nat.gcd a b=d) (hc:0 < c) (hd:0 < d) (hc4:c < 1000) (hd4:d < 1000):ak (mkRat a b)=⟨false,[c],[d]⟩:=by
 have h:=pO false a b FI;rw[h1,h2,iF (n:=c) FI (by unfold LB; omega),iF (n:=d) FI (by unfold LB; omega)] at h;exact h
theorem afU:x22.map ak=xr22:=by
 unfold x22 xr22;simp only[Ju,List.map_nil];rw[show ak (mkRat 6 6)=⟨false,[1],[1]⟩ from yc (a:=6) (b:=6) au au au au au au au,
  show ak (mkRat 3 6)=⟨false,[1],[2]⟩ from yc (a:=3) (b:=6) au au au au au au au,
  show ak (mkRat 1 6)=⟨false,[1],[6]⟩ from yc (a:=1) (b:=6) au au au au au au au]
theorem afV:y22.map ak=yr22:=by grind [y22,yr22,ak,yc]
theorem adJ (pl:Int) (h:pl=0\/pl=1):kY fB rP pl=0:=by rcases h with rfl | rfl <;> decide +kernel
theorem aeS:rP.map (Iq gK)=abM:=by grind [uQ,abM,eU]
theorem anS:vW fB abM 0=x22:=by decide +kernel
theorem anT:vW fB abM 1=y22:=by decide +kernel
theorem amR:gX fB rP 0=xr22:=by grind [gX,adJ,aeS,anS,afU]
theorem amS:gX fB rP 1=yr22:=by grind [gX,adJ,aeS,anT,afV]
theorem anU:nT fB x22 y22 0=mkRat 5 6:=by decide +kernel
theorem amT:qh fB xr22 yr22=0:=by decide +kernel
theorem amU:ak (mkRat 5 6)=⟨false,[5],[6]⟩:=yc (a:=5) (b:=6) au au au au au au au
theorem rl56:rl (mkRat 5 6)<=2:=by grind [amU,ak,rl]
theorem ab3:nT fB (xr22.map gK) (yr22.map gK) (0:Int).toNat=mkRat 5 6:=by grind [afU,afV,eU,anU]
theorem anV:qL fB xr22 yr22 0=0:=by
 unfold qL;rw[LG (show ¬ seatE fB 0≠0 by decide +kernel),LG (λh=>h amT),ab3];grind [fP,rl56]
theorem anW:lS fB xr22 yr22 0=⟨false,[5],[6]⟩:=by
 unfold lS;rw[LG (show ¬ seatE fB 0≠0 by decide +kernel),LG (λh=>h amT),ab3];grind [dR,rl56,amU]
theorem AL.xR {w:GK} {v:GN} {l:List Int} {fb:Nat} {b0:Bool} {a1 a2:Option Addr} {n1 n2 c1 c2:Nat} (h:AL w F v l) (hr:Row w fb t [G7 b0,Gw a1 n1 c1,Gw a2 n2 c2]):AL w (λb=>F b/\b≠fb) v l:=by
 obtain⟨A,c,rfl,hc,hx⟩:=h;refine⟨A,c,rfl,hc,λhl=>?_⟩;obtain⟨b,o,rfl,hF,hb,hcell⟩:=hx hl;refine⟨b,o,rfl,⟨hF,λe=>?_⟩,hb,hcell⟩;subst e;obtain⟨x,hx0⟩:=Gl (l:=l) (k:=0) hl;have h0:=hcell 0 x hx0;unfold lU at h0;rw[Jc,Jb] at h0;unfold Row at hr;simp only[World.cell?,hr] at h0;grind
theorem OwnSl.aph {w:GK} {base:Nat} {A:Option Addr} {n:Nat} {L:List EV} (h:OwnSl adC w base et F (Gw A n c) L) (hn:n=L.length) {e:EV} (hk:L[k]? = some e):∃ lb,A=some ⟨lb,0,none⟩/\base<=lb/\lb < w.heap.size/\(∀ j,j < 6->w.cell? ⟨lb,k*6+j,none⟩=e.cells[j]?)/\e.fine w F:=by
 subst hn;have hl:=Gn hk;obtain⟨g,cap,e1,hb,hg⟩:=h.row.form FI;simp only[Value.slice.injEq,true_and] at e1;obtain⟨rfl,rfl⟩:=e1;refine⟨g,rfl,hb,hg,λj hj=>?_,(h.fine e (Gx hk)).keep (λb hb _=>hb.1) (GZ _ _)⟩;rw[J7 h.row (k*6+j) (by show k*6+j < L.length*6; omega)];exact lF (f:=EV.cells) (s:=6) (λ_=>rfl) L k j e hk hj
theorem aeT (w:GK) (F Fx Fy:Gq) (vg vx vy:GN) (g:Gm) (xr yr:List Raw) (pl:Int) (hg:AB w F vg g) (hsm:Small g) (hN60:g.F7.length<=60) (hx:Gs w Fx vx xr) (hy:Gs w Fy vy yr) (hfx:Bc xr) (hfy:Bc yr) (hx4:Bf xr) (hy4:Bf yr) (hT:BF w) :
  Calls GI 12 #[vg,vx,vy,GV GU pl] w (Ret w λv w'=>∃ t,v = .tuple #[t,GV GU (qL g xr yr pl)]/\Ak w' (λ_=>True) t (lS g xr yr pl)):=by
 refine zdN ?_;intro HSM HFX HFY HX4 HY4;have HT:=Ag hT;have HN60:=Ag hN60;have hni:=hsm.F8;have HG:=Ag hg;obtain⟨vn,vi,rfl,⟨A,c,rfl,hc,_⟩,⟨Ai,ci,rfl,hci,_⟩⟩:=hg;refine Yj ?_;intro HX HY;obtain⟨Ax,cx,rfl,_,_⟩:=hx;obtain⟨Ay,cy,rfl,_,_⟩:=hy;refine YN ?_;intro oe hoe oo hoo HE HO;clear hsm hfx hfy hx4 hy4 hoe hoo hT hN60;go_in;go_wp2_with fail
 generalize hW:G5 _ _=W;obtain⟨rx,ro,hB,hz⟩:=gW hW;clear hW;obtain⟨ob,hob⟩:=Gp (w.heap.size+1);rw[<-hob] at ro hz ⊢;have how:w.heap.size < ob:=FI;clear hob;refine Yt ?_;clear HG HX HY;intro x0 x1 x2 HG HX HY;replace HT:=Ag (HT.o.on hB);go_wp2_with fail
 clear x0 x1 x2;refine(ahc W F _ g pl HG.o HSM.o).mono ?_;rintro e w1 ⟨_,rfl,hb,u',rfl,hu⟩;have hu:=hu.mono hB.size;obtain⟨a,rfl⟩:=hu.ptr;have HU:=Ag hu;obtain⟨fe,hfe⟩:=Gp (seatE g pl);refine zc9 ?_;intro HPS;rw[<-hfe] at HE HO HU HPS ⊢;replace rx:=rx.below hb rx.lt;replace ro:=ro.below hb ro.lt;refine Zl ?_;clear hB HG HX HY;intro hB HG HX HY;replace HT:=Ag (HT.o.on hb);refine Zd ?_;intro x0 x1 x2;clear hfe hu hb;dsimp only;by_cases h0:fe=0
 case neg =>
  refine zaq ?_;intro t0 H0;clear h0;refine zaz ?_;intro q0 y0 q1 y1 q2 y2;go_wp2_with fail
  refine zcT ?_;clear q0 q1 q2 y0 y1 y2;intro Wz hrz hwz hkz;intro t0 t1 t2;refine bodyPost_ret (v:=.tuple #[.agg #[G7 false,Gw none 0 0,Gw none 0 0],GV GU fe]) (by simp[results,Tryz.results12,go_sem,t0,t1,t2]) rfl ?_;exact Yu
 subst h0;refine zcp ?_;clear HE HO;intro HE HO;obtain⟨hlk,hp0,hp1⟩:=HPS.o (by trivial);obtain⟨hform,hpl2,hpar⟩:=pU hlk;obtain⟨p,rfl⟩:∃ p:Nat,pl=(p:Int):=⟨pl.toNat,FI⟩;rw[Ic] at HE HO;have hpp:p < 2:=FI;obtain⟨fb,vn,vi,vp,V,M,e,hfb,hfa⟩:=HU.o.2 (by trivial);obtain rfl:=Value.pointer.inj e;have HFA:=Ag hfa;have HFO:=Ag hform;have HP2:=Ag hpl2;clear e hfa HU HPS hform hpl2 hpar hlk hp0 hp1;go_wp2_with fail
 clear x0 x1 x2;refine zcG ?_;rintro e w2 ⟨_,rfl,hb,rfl⟩;refine zdy ?_;intro HVE ve hve;rw[<-hve] at HE HO HVE ⊢;replace HFA:=Ag (HFA.o.below hb);replace rx:=rx.below hb rx.lt;replace ro:=ro.below hb ro.lt;refine Zl ?_;clear hB HG HX HY;intro hB HG HX HY;replace HT:=Ag (HT.o.on hb);refine Zd ?_;intro x0 x1 x2;clear hve hb;dsimp only;by_cases h0:ve=0
 case neg =>
  have t0:(ve != 0)=true:=by simp[h0]
  have H0:=Ag h0;clear h0;refine zaz ?_;intro q0 y0 q1 y1 q2 y2;go_wp2_with fail
  refine zcT ?_;clear q0 q1 q2 y0 y1 y2;intro Wz hrz hwz hkz;intro t0 t1 t2;refine bodyPost_ret (v:=.tuple #[.agg #[G7 false,Gw none 0 0,Gw none 0 0],GV GU ve]) (by simp[results,Tryz.results12,go_sem,t0,t1,t2]) rfl ?_;exact Yu
 subst h0;obtain⟨xs,ys,rfl,rfl,zY⟩:=HVE.o (by trivial);have HVO:=Ag zY;refine zcp ?_;clear HE HO;intro HE HO;rw[eU,eU] at HE HO;rw[Gz] at HX HY ⊢;rw[Gz];clear zY HVE HFX HFY HX4 HY4;have hfz:=HFA.o.row.lt;go_upto_region 8 with(fail)
 obtain⟨W3,hW3,hacc,hb3,hlt3⟩:=Acc.zero w2 74 (λ_=>True);rw[<-hW3];obtain⟨ub,hub⟩:=Gp w2.heap.size;rw[<-hub] at hacc hlt3 ⊢;have hwu:w.heap.size<=ub:=by have:=hB.size;omega
 have hou:ob < ub:=by have:=ro.lt;omega
 have ro3:=ro.below hb3 ro.lt;have DN:=Ag hacc;have HRO:=Ag ro3;have HB3:=Ag (hB.trans (hb3.mono hB.size));replace HX:=Ag (Iy HX.o (GL hb3 _));replace HY:=Ag (Iy HY.o (GL hb3 _));replace HFA:=Ag (HFA.o.below hb3);clear hW3 hacc hb3 hub ro ro3 rx hB x0 x1 x2 HT HG;go_wp2_with fail
 refine(amI W3 _ F g fb vn vi vp V M HFA.o HSM.o HFO.o HP2.o).mono ?_;rintro e w4 ⟨v9,rfl,hb,L,hL,aaW⟩;have Fb:=Ag (DN.o.below hb);have HL:=Ag hL;have HV:=Ag aaW;have hz4:=hb.size;have HB4:=Ag (HB3.o.trans (hb.mono HB3.o.size));have HRO4:=Ag (HRO.o.below hb HRO.o.lt);refine zea ?_;clear HX HY;intro HX HY;obtain⟨Al,cl,rfl⟩:=hL.shape;have hlen:=aaW.1;have hl60:L.length<=60:=by have:=vX g g.F7.length;have:=HN60.o;omega
 obtain⟨n,hn⟩:=Gp L.length;rw[<-hn] at HL hl60 hlen ⊢;have HN:=Ag hn;have HLE:=Ag hlen;have FW:=Ag Fb.o.box;clear hL aaW hb hn hlen DN HRO HB3;dsimp only;go_wp2_with fail
 go_loopw [37] (λiv wr=>∃ (k:Nat) (acc:Rat) (A:Option Addr) (c:Nat) (B:Option Addr) (d:Nat),k<=n/\iv = GV GU (k:Int)/\acc=pW g xs ys p k/\Acc 74 (λ_=>True) W3 ub (ay acc) A c B d wr/\Wrote (λb=>b=ub) w4 wr) (λiv _=>n - (intOf iv).toNat)
 case atStart=>exact⟨0,0,_,_,_,_,Hg _,rfl,rfl,Fb.o,Ir _ _⟩
 case round =>
  clear Fb;obtain⟨k,acc,A2,c2,B2,d2,hk,rfl,adA,hst,hwr⟩:=hrel;obtain⟨wa,rfl⟩:=Gp wr;have HST:=Ag hst;have D5:=Ag adA;have HWR:=Ag hwr;have hal2:rl acc<=20000:=by rw[adA];exact aiZ HFO.o HN60.o HVO.o.xr HVO.o.yr p k
  have hbw:=Ht HB4.o hwr (λb hb=>by omega) HB4.o.size;have HBW:=Ag hbw;refine zaL ?_;intro u0 u1 u2 HUV hul;clear hst adA;by_cases hlt:k < n
  case neg =>
   obtain rfl:k=n:=FI;have hro:=HRO4.o.wrote hwr FI;have hall:acc=nT g xs ys p:=by rw[D5.o,HLE.o,afP]
   have DJ:=Ag hall;have aht:=acX wa (λb=>True/\b≠ub) _ acc HUV.o FI;clear hwr hbw hall;go_wp2_with fail
   refine aht.mono ?_;rintro e w5 ⟨_,rfl,hb,u,rfl,hu⟩;replace hro:=hro.below hb hro.lt;have HB5:=Ag (HBW.o.trans (hb.mono HBW.o.size));rw[DJ.o,<-HO.o] at hu;rw[DJ.o,<-HE.o];have hus:=hb.size;obtain⟨A7,c7,B7,d7,rfl,-⟩:=hu.opened;have HU:=Ag hu;have hol:ob < wa.heap.size:=FI;clear hu aht hb u0 u1 u2;dsimp only;have q0:=hro.cell (i:=0) rfl;have y0:=hro.frozen 0;have q1:=hro.cell (i:=1) rfl;have y1:=hro.frozen 1;have q2:=hro.cell (i:=2) rfl;have y2:=hro.frozen 2;go_wp2
   obtain⟨Wz,hWz,hrz,hwz,hkz⟩:=aY hro (G7 oo.neg) (Gw A7 oo.num.length c7) (Gw B7 oo.den.length d7);refine Zg ?_;clear hWz q0 q1 q2 y0 y1 y2;intro t0 t1 t2;refine bodyPost_ret (v:=.tuple #[.agg #[G7 oo.neg,Gw A7 oo.num.length c7,Gw B7 oo.den.length d7],GV GU oe]) (by simp[results,Tryz.results12,go_sem,t0,t1,t2]) rfl ?_;exact zbz
  obtain⟨ci',anX⟩:=Gl (l:=endIdx g g.F7.length) (k:=k) (by rw[<-HLE.o]; exact hlt);obtain⟨e,he,ha0,ha1,hqr,hpl⟩:=HV.o.2 k ci' anX;have hcm:=vY (Gx anX);obtain⟨lb,rfl,hlb,hlbl,hcells,hfin⟩:=HL.o.aph HN.o he;have HSU:=Ag (ad6 (x:=xs) (y:=ys) (pl:=p) anX);obtain⟨a0,a1,⟨qr,qvn,qvd⟩,py,pl'⟩:=e;dsimp only at ha0 ha1 hqr hpl;subst hqr;obtain⟨rc,hrc⟩:=Gp (eX chB g.F7 [] ci');rw[<-hrc] at hcells hfin;have HRC:=Ag hrc;have hrcl:rl rc<=300:=by
   rw[hrc];have:=adE HFO.o hcm.1;have:=HN60.o;omega
  obtain⟨hfq,hfp⟩:=hfin;have hfq1:Aj w4 (λ_=>True) qvn (ay rc).num:=hfq.1;have akW:Aj w4 (λ_=>True) qvd (ay rc).den:=hfq.2;have hfp1:AL w4 (λ_=>True) py pl':=hfp;have hq1:=Aj.keep (G:=λb=>b≠ub) (hfq1.xR FW.o) (λb hb _=>hb.2) (GZ _ _);have hq2:=Aj.keep (G:=λb=>b≠ub) (akW.xR FW.o) (λb hb _=>hb.2) (GZ _ _);have hp1:=AL.keep (G:=λb=>b≠ub) (hfp1.xR FW.o) (λb hb _=>hb.2) (GZ _ _);have hs:Same (λb=>b≠ub) w4 wa:=hwr.same λb hb e=>hb e
  have hq1':=hq1.keep (λ_ h _=>h) hs;have hq2':=hq2.keep (λ_ h _=>h) hs;have hp1':=hp1.keep (λ_ h _=>h) hs;have HRV:=Ag (show NmV wa (λb=>b≠ub) (.agg #[G7 (ay rc).neg,qvn,qvd]) rc from Ak.make rfl hq1' hq2');have HPV:=Ag hp1';obtain⟨An,cn,rfl,-,-⟩:=hq1';obtain⟨Ad,cd,rfl,-,-⟩:=hq2';obtain⟨Ap,cp,rfl,-,-⟩:=hp1';obtain⟨nd,hnd⟩:=Gl hcm.1;have hgd:g.F7.getD ci' default=nd:=by rw[GH,hnd];rfl
  have hk3:=hcm.2;rw[hgd] at hk3 hpl;subst hpl;obtain⟨aoS,hpl2,_⟩:=acg (dP HFO.o).1 (Gx hnd) hk3;have aoT:p < nd.pay.length:=by have:=HP2.o;omega
  obtain⟨z,hz⟩:=Gl aoT;have hzb:=hpl2 z (Gx hz);have HPR:=Ag (show aiK g p ci'=(z:Rat) by unfold aiK; rw[hgd,GH,hz]; rfl);obtain⟨gb,go',ep,_,_,adG⟩:=iU HPV.o FI;subst ep;have pc:=adG p z hz;obtain⟨i0,hi0⟩:=Gp (atS g 0 ci');obtain⟨i1,hi1⟩:=Gp (atS g 1 ci');have hi0l:i0 < xs.length:=by rw[hi0,HVO.o.xl];exact abo HFO.o 0 hcm.1
  have hi1l:i1 < ys.length:=by rw[hi1,HVO.o.yl];exact abo HFO.o 1 hcm.1
  rw[<-hi0] at ha0; rw[<-hi1] at ha1;subst ha0; subst ha1;obtain⟨x,hx⟩:=Gl hi0l;obtain⟨y,hy⟩:=Gl hi1l;have hxl:=HVO.o.xr x (Gx hx); have hyl:=HVO.o.yr y (Gx hy);have HWO:=Ag (show uD g xs ys p ci'=x*y*rc*(z:Rat) by
   unfold uD;rw[<-hi0,<-hi1,HPR.o,<-HRC.o,GH,hx,GH,hy]; rfl)
  obtain⟨xb,xo,c5,vxn,vxd,e4,hF4,amy,l0,l1,l2,hln,hld⟩:=Gs.at (Iy HX.o (hwr.same (λb hb e=>by omega))) (k:=i0) (r:=ak x) (by rw[GY,hx]; rfl);obtain⟨yb,yo,c6,vyn,vyd,e5,hF5,hybl,m0,m1,m2,hmn,hmd⟩:=Gs.at (Iy HY.o (hwr.same (λb hb e=>by omega))) (k:=i1) (r:=ak y) (by rw[GY,hy]; rfl);rw[Gz] at e4 e5;simp only[Value.slice.injEq,true_and] at e4 e5;obtain⟨rfl,rfl⟩:=e4;obtain⟨rfl,rfl⟩:=e5;have HXV:=Ag (show RtV wa (λb=>b≠ub) (.agg #[G7 (ak x).neg,vxn,vxd]) x from Ak.mono (Ak.make rfl hln hld) (λb hb _=>by omega));have HYV:=Ag (show RtV wa (λb=>b≠ub) (.agg #[G7 (ak y).neg,vyn,vyd]) y from Ak.mono (Ak.make rfl hmn hmd) (λb hb _=>by omega));obtain⟨A3,c3,rfl,_,_⟩:=hln;obtain⟨A4,c4,rfl,_,_⟩:=hld;obtain⟨A5,c7,rfl,_,_⟩:=hmn;obtain⟨A6,c8,rfl,_,_⟩:=hmd;have n0:=fK (hcells 0 FI) hwr FI;have n1:=fK (hcells 1 FI) hwr FI;have n2:=fK (hcells 2 FI) hwr FI;have n3:=fK (hcells 3 FI) hwr FI;have n4:=fK (hcells 4 FI) hwr FI;have n5:=fK (hcells 5 FI) hwr FI;rw[Jb] at n0;clear hfq hfp hfq1 akW hfp1 hq1 hq2 hp1 hs hcells he anX hrc hgd hnd hz hpl2 adG hi0 hi1 hx hy hF4 hF5 hwr hbw hk3 aoS;go_upto_region 11 with(fail)
  generalize hW5:G5 _ _=W5;obtain⟨rn,hb5,hz5⟩:=aI hW5;obtain⟨nb,hnb⟩:=Gp wa.heap.size;rw[<-hnb] at rn ⊢;have q1:ub < nb:=FI;have t0:=rn.cell (i:=0) rfl;have t1:=rn.cell (i:=1) rfl;replace HST:=Ag (HST.o.below hb5);replace HUV:=Ag (Ak.below HUV.o hb5);replace HRV:=Ag (Ak.below HRV.o hb5);replace HXV:=Ag (Ak.below HXV.o hb5);replace HYV:=Ag (Ak.below HYV.o hb5);replace l0:=ah l0 hb5;replace l1:=ah l1 hb5;replace l2:=ah l2 hb5;replace m0:=ah m0 hb5;replace m1:=ah m1 hb5;replace m2:=ah m2 hb5;replace pc:=ah pc hb5;have HRN:=Ag rn;have CV:=Ag (HWR.o.trans (I9 hb5 _));have hB:=GR W5.heap.size W5;have aaY:ub < W5.heap.size:=by have:=hb5.size;omega
  have HWZ0:=Ag (Gy W5.heap.size);clear hW5 hz5 hnb hb5 n0 n1 n2 n3 n4 n5 u0 u1 u2 rn;refine aP (λw'=>w'.cell? ⟨nb,0,none⟩=some (GV GU (i0:Int))/\w'.cell? ⟨nb,1,none⟩=some (GV GU (i1:Int))/\w'.cell? ⟨xb,xo+i0*3,none⟩=some (G7 (ak x).neg)/\w'.cell? ⟨xb,xo+i0*3+1,none⟩=some (Gw A3 (ak x).num.length c3)/\w'.cell? ⟨xb,xo+i0*3+2,none⟩=some (Gw A4 (ak x).den.length c4)/\w'.cell? ⟨yb,yo+i1*3,none⟩=some (G7 (ak y).neg)/\w'.cell? ⟨yb,yo+i1*3+1,none⟩=some (Gw A5 (ak y).num.length c7)/\w'.cell? ⟨yb,yo+i1*3+2,none⟩=some (Gw A6 (ak y).den.length c8)) 16 1 aj rfl aj ⟨t0,t1,l0,l1,l2,m0,m1,m2⟩ λhHeld=>?_
  refine zcz ?_;intro hb;replace HRN:=Ag (HRN.o.below hb HRN.o.lt);replace CV:=Ag (CV.o.trans (I9 hb _));replace aaY:=Hz aaY hb.size;replace t0:=ah t0 hb;replace t1:=ah t1 hb;replace l0:=ah l0 hb;replace l1:=ah l1 hb;replace l2:=ah l2 hb;replace m0:=ah m0 hb;replace m1:=ah m1 hb;replace m2:=ah m2 hb;replace pc:=ah pc hb;replace HST:=Ag (HST.o.below hb);replace HUV:=Ag (HUV.o.below hb);replace HRV:=Ag (HRV.o.below hb);replace HXV:=Ag (HXV.o.below hb);replace HYV:=Ag (HYV.o.below hb);refine ZM ?_;clear hB;intro hB;clear hb;generalize W5.drew=wn at *;refine tkm [0,1,2,3,4,5,7,8,9,10,11,12] ?_;refine jH (js:=[6,13,14,15]) ((Hold.cell (nb) (0) (GV GU (i0:Int))).and ((Hold.cell (nb) (1) (GV GU (i1:Int))).and ((Hold.cell (xb) (xo+i0*3) (G7 (ak x).neg)).and ((Hold.cell (xb) (xo+i0*3+1) (Gw A3 (ak x).num.length c3)).and ((Hold.cell (xb) (xo+i0*3+2) (Gw A4 (ak x).den.length c4)).and ((Hold.cell (yb) (yo+i1*3) (G7 (ak y).neg)).and ((Hold.cell (yb) (yo+i1*3+1) (Gw A5 (ak y).num.length c7)).and ((Hold.cell (yb) (yo+i1*3+2) (Gw A6 (ak y).den.length c8)).and ((Hold.below wn.heap.size wn).and ((Hold.of (Fact.raw (λb=>b≠ub) (ak x)) (.agg #[G7 (ak x).neg,Gw A3 (ak x).num.length c3,Gw A4 (ak x).den.length c4])).and (Hold.of (Fact.raw (λb=>b≠ub) (ak y)) (.agg #[G7 (ak y).neg,Gw A5 (ak y).num.length c7,Gw A6 (ak y).den.length c8])))))))))))) [(6,(Fact.raw (λb=>b≠ub) (ay x))),(13,(Fact.raw (λb=>b≠ub) (ay y))),(14,(Fact.raw (λb=>b≠ub) (ay (x*y)))),(15,(Fact.box wn.heap.size 74 [G7 false,Gw none 0 0,Gw none 0 0]))] aj ⟨t0,t1,l0,l1,l2,m0,m1,m2,⟨Gy _,GR _ _⟩,HXV.o,HYV.o⟩ (λ_ h=>⟨h.1,h.2.1,h.2.2.1,h.2.2.2.1,h.2.2.2.2.1,h.2.2.2.2.2.1,h.2.2.2.2.2.2.1,h.2.2.2.2.2.2.2.1⟩) ?_;refine Flow.cons (o:=_) rfl (λwk hS hf K hK=>?_) (λv6=>?_)
  ·go_simp;refine(kU wk (λb=>b≠ub) _ x hS.2.2.2.2.2.2.2.2.2.1 FI).mono ?_;exact zat
  refine Zb ?_;refine Flow.cons (o:=_) rfl (λwk hS hf K hK=>?_) (λv13=>?_)
  ·go_simp;refine(kU wk (λb=>b≠ub) _ y hS.2.2.2.2.2.2.2.2.2.2 FI).mono ?_;exact zat
  refine Zb ?_;refine Flow.cons (o:=_) rfl (λwk hS hf K hK=>?_) (λv14=>?_)
  ·have f6:=aX (hf (6,v6) aA aj) rfl;have f13:=aX (hf (13,v13) aA aj) rfl;go_simp;have hwk:=hS.2.2.2.2.2.2.2.2.1.1;refine(uN wk (λb=>b≠ub) _ _ x y f6 f13 FI FI).mono ?_;rintro e w' ⟨u,rfl,hb,hu⟩;exact hK.out _ _ hb (Ak.mono hu (λb hb _=>hb.elim id λh=>by omega))
  refine Zb ?_;refine Flow.cons (o:=_) rfl (λwk hS hf K hK=>?_) (λv15=>?_)
  ·go_simp;have hwk:=hS.2.2.2.2.2.2.2.2.1.1;obtain⟨W1,hw,hr,hb,hz⟩:=dI wk 74 #[G7 false,Gw none 0 0,Gw none 0 0];rw[<-hw];exact hK.out _ _ hb ⟨_,rfl,hwk,hr⟩
  refine Zb ?_;refine Flow.nil (λwE hS hf=>?_);have f14:=aX (hf (14,v14) aA) rfl;have f15:=aX (hf (15,v15) aA) rfl;have hbE:=hS.2.2.2.2.2.2.2.2.1.2;obtain⟨pb,rfl,hpb,rpb⟩:=f15;obtain⟨vn',vd',hv14,hln,hld⟩:=f14;replace hln:=hln.xR rpb;replace hld:=hld.xR rpb;have aoV:=hln;have aoW:=hld;obtain⟨A7,d3,rfl,-,-⟩:=aoV;obtain⟨A8,d4,rfl,-,-⟩:=aoW;dsimp only at hv14;subst hv14;obtain⟨pr,hpr⟩:=Gp (x*y);rw[<-hpr] at hln hld HWO ⊢;have hprl:rl pr<=20:=by rw[hpr];have:=jQ x y;omega
  have hx0:=rpb.cell (i:=0) rfl; have hx1:=rpb.cell (i:=1) rfl; have hx2:=rpb.cell (i:=2) rfl;have hy0:=rpb.frozen 0; have hy1:=rpb.frozen 1; have hy2:=rpb.frozen 2;obtain⟨W6,hW6,rp6,hw6⟩:=ajp rpb (G7 (ay pr).neg) (Gw A7 (ay pr).num.length d3) (Gw A8 (ay pr).den.length d4);have HPX:=Ag (show NmV W6 (λb=>b≠ub) (.agg #[G7 (ay pr).neg,Gw A7 (ay pr).num.length d3,Gw A8 (ay pr).den.length d4]) pr from
   Ak.keep (Ak.make rfl hln hld) (λb hb _=>hb.1) (hw6.same λb hb e=>hb.2 e))
  have hb6:Below wn.heap.size wn W6:=Ht hbE hw6 (λk hk=>by omega) hbE.size;replace HST:=Ag (HST.o.below hb6);replace HUV:=Ag (Ak.below HUV.o hb6);replace HRV:=Ag (Ak.below HRV.o hb6);replace HRN:=Ag (HRN.o.below hb6 HRN.o.lt);replace CV:=Ag (CV.o.trans (I9 hb6 _));replace pc:=ah pc hb6;replace aaY:=Hz aaY hb6.size;have HRP:=Ag rp6;have HW6:=Ag hW6;clear hS hf hln hld hbE hpb rpb hW6 rp6 hw6 hb6 hHeld hpr t0 t1 l0 l1 l2 m0 m1 m2 hB HXV HYV;refine zdr ?_;go_wp2
  rw[<-HW6.o];clear hx0 hx1 hx2 hy0 hy1 hy2 HW6;unfold AY;refine Z4 ?_;have u0:=HST.o.box.cell (i:=0) rfl;have u1:=HST.o.box.cell (i:=1) rfl;have u2:=HST.o.box.cell (i:=2) rfl;have q0:=HRP.o.cell (i:=0) rfl;have q1':=HRP.o.cell (i:=1) rfl;have q2:=HRP.o.cell (i:=2) rfl;have n2:=HRN.o.cell (i:=2) rfl;have n3:=HRN.o.cell (i:=3) rfl;have n4:=HRN.o.cell (i:=4) rfl;have n5:=HRN.o.cell (i:=5) rfl;go_wp2_with fail
  have hB:=GR W6.heap.size W6;clear hB;refine aP (λw'=>w'.cell? ⟨ub,0,none⟩=some (G7 (ay acc).neg)/\w'.cell? ⟨ub,1,none⟩=some (Gw A2 (ay acc).num.length c2)/\w'.cell? ⟨ub,2,none⟩=some (Gw B2 (ay acc).den.length d2)/\w'.cell? ⟨pb,0,none⟩=some (G7 (ay pr).neg)/\w'.cell? ⟨pb,1,none⟩=some (Gw A7 (ay pr).num.length d3)/\w'.cell? ⟨pb,2,none⟩=some (Gw A8 (ay pr).den.length d4)/\w'.cell? ⟨nb,2,none⟩=some (G7 (ay rc).neg)/\w'.cell? ⟨nb,3,none⟩=some (Gw An (ay rc).num.length cn)/\w'.cell? ⟨nb,4,none⟩=some (Gw Ad (ay rc).den.length cd)/\w'.cell? ⟨nb,5,none⟩=some (Gw (some ⟨gb,go',none⟩) nd.pay.length cp)/\w'.cell? ⟨gb,go'+p,none⟩=some (GV GU z)) 13 1 aj rfl aj ⟨u0,u1,u2,q0,q1',q2,n2,n3,n4,n5,pc⟩ λhHeld=>?_
  refine Zo ?_;have hb:Below W6.heap.size W6 W6.drew:=aG (GR _ W6) 1;refine Zy ?_;clear CV aaY u0 u1 u2 q0 q1' q2 n2 n3 n4 n5 pc HST HUV HRV HPX;intro CV aaY u0 u1 u2 q0 q1' q2 n2 n3 n4 n5 pc HST HUV HRV HPX;clear hb;generalize W6.drew=wn at *;refine tkm [0,1,2,3,5,6,7,8,9] ?_;refine tk2 4 aj rfl λK hK=>?_
  go_simp;refine(uN wn (λb=>b≠ub) _ _ pr rc HPX.o HRV.o FI FI).mono ?_;rintro e wn ⟨v9,rfl,hb,hu⟩;obtain⟨p2,hp2⟩:=Gp (pr*rc);rw[<-hp2] at hu HWO;have hp2l:rl p2<=400:=by rw[hp2];have:=jQ pr rc;omega
  have DU:=Ag (hu.mono (G:=λb=>b≠ub) (λb hb _=>hb.elim id λh=>by omega));obtain⟨E1,e1',E2,e2',rfl,-⟩:=hu.opened;clear hu hp2;refine Zy ?_;clear CV aaY u0 u1 u2 q0 q1' q2 n2 n3 n4 n5 pc HST HUV HRV HPX;intro CV aaY u0 u1 u2 q0 q1' q2 n2 n3 n4 n5 pc HST HUV HRV HPX;refine zb4 ?_;clear hb hHeld;intro hHeld;clear hK K;refine zcf ?_;intro K hK;go_simp;refine(lG wn z FI FI).mono ?_;rintro e wn ⟨v9,rfl,hb,hu⟩;obtain⟨zr,hzr⟩:∃ v:Rat,v=(z:Rat):=⟨_,rfl⟩;rw[<-hzr] at hu HWO;have hzl:rl zr<=2:=by rw[hzr];exact afQ hzb
  have HZV:=Ag (hu.mono (G:=λb=>b≠ub) (λb hb _=>by omega));obtain⟨E3,e3',E4,e4',rfl,-⟩:=hu.opened;clear hu hzr;refine Zy ?_;clear CV aaY u0 u1 u2 q0 q1' q2 n2 n3 n4 n5 pc HST HUV HRV HPX;intro CV aaY u0 u1 u2 q0 q1' q2 n2 n3 n4 n5 pc HST HUV HRV HPX;replace DU:=Ag (DU.o.below hb);refine zb4 ?_;clear hb hHeld;intro hHeld;clear hK K;refine Zb ?_;refine tk2 11 aj rfl λK hK=>?_
  go_simp;refine(uN wn (λb=>b≠ub) _ _ p2 zr DU.o HZV.o FI FI).mono ?_;rintro e wn ⟨v9,rfl,hb,hu⟩;obtain⟨p3,hp3⟩:=Gp (p2*zr);rw[<-hp3] at hu HWO;have hp3l:rl p3<=402:=by rw[hp3];have:=jQ p2 zr;omega
  have FX:=Ag (hu.mono (G:=λb=>b≠ub) (λb hb _=>hb.elim id λh=>by omega));obtain⟨E5,e5',E6,e6',rfl,-⟩:=hu.opened;clear hu hp3;refine Zy ?_;clear CV aaY u0 u1 u2 q0 q1' q2 n2 n3 n4 n5 pc HST HUV HRV HPX;intro CV aaY u0 u1 u2 q0 q1' q2 n2 n3 n4 n5 pc HST HUV HRV HPX;replace DU:=Ag (DU.o.below hb);replace HZV:=Ag (HZV.o.below hb);refine zb4 ?_;clear hb hHeld;intro hHeld;clear hK K;refine Zb ?_;refine tk2 12 aj rfl λK hK=>?_
  go_simp;refine(acW wn (λb=>b≠ub) _ _ acc p3 (HUV.o.mono (λb hb _=>hb.2)) FX.o hal2 FI).mono ?_;rintro e wn ⟨v9,rfl,hb,hu⟩;obtain⟨sm,hsm⟩:=Gp (acc+p3);rw[<-hsm] at hu;have D6:=Ag hsm;have HSV:=Ag (hu.mono (G:=λb=>True/\b≠ub) (λb hb _=>⟨trivial,hb.elim id λh=>by omega⟩));obtain⟨E7,e7',E8,e8',rfl,-⟩:=hu.opened;clear hu hsm;refine Zy ?_;clear CV aaY u0 u1 u2 q0 q1' q2 n2 n3 n4 n5 pc HST HUV HRV HPX;intro CV aaY u0 u1 u2 q0 q1' q2 n2 n3 n4 n5 pc HST HUV HRV HPX;replace DU:=Ag (DU.o.below hb);replace HZV:=Ag (HZV.o.below hb);replace FX:=Ag (FX.o.below hb);refine zb4 ?_;clear hb hHeld;intro hHeld;refine zab ?_;clear hK K hHeld;intro f0 f1 f2 Wz hWz hst2;have hwz:Wrote (λb=>b=ub) wn Wz:=hWz▸(((Ir (λb=>b=ub) wn).setCell (p:=⟨ub,0,none⟩) (.inl rfl) _).setCell (p:=⟨ub,1,none⟩) (.inl rfl) _).setCell (p:=⟨ub,2,none⟩) (.inl rfl) _;have HWZ:=Ag hWz;have Cm:=Ag hst2;have EX:=Ag (CV.o.trans hwz);clear hWz hst2 hwz;go_wp2
  refine zbP ?_;clear f0 f1 f2 u0 u1 u2 q0 q1' q2 n2 n3 n4 n5 pc;go_wp2
  go_roundw
  case rel=>exact⟨k+1,sm,_,_,_,_,FI,by go_num,by rw[HSU.o,HWO.o,D6.o,<-D5.o],Cm.o,EX.o⟩
  case measure=>exact zMs
theorem amV:Bc xr22:=by
 refine⟨au,λr hr=>?_⟩;grind [xr22,U32]
theorem amW:Bc yr22:=by
 refine⟨au,λr hr=>?_⟩;grind [yr22,U32]
theorem amX:Bf xr22:=by unfold Bf; decide
theorem amY:Bf yr22:=by unfold Bf; decide
theorem amZ:Bv rP:=by grind [uQ,akw]
theorem adK (w:GK) (F:Gq) (vg vm:GN) (hg:AB w F vg fB) (hm:Gt w F vm rP) (hT:BF w) (pl:Int) (hp:pl=0\/pl=1) :
  Calls GI 8 #[vg,vm,GV GU pl] w (Ret w λv w'=>∃ t,v = .tuple #[t,GV GU 0]/\Gs w' (λ_=>True) t (gX fB rP pl)):=by
 refine(adz w F vg vm fB rP pl hg abP hm hT au amZ aiz).mono ?_;rintro e w' ⟨v,rfl,hb,t,rfl,hu⟩;rw[adJ pl hp];exact⟨_,rfl,hb,t,rfl,IX hu (λ_ _ _=>trivial) (GZ _ _)⟩
theorem ak3 (w:GK) (F Fx Fy:Gq) (vg vx vy:GN) (hg:AB w F vg fB) (hx:Gs w Fx vx xr22) (hy:Gs w Fy vy yr22) (hT:BF w) :
  Calls GI 12 #[vg,vx,vy,GV GU 0] w (Ret w λv w'=>∃ t,v = .tuple #[t,GV GU 0]/\Ak w' (λ_=>True) t ⟨false,[5],[6]⟩):=by
 have h:=aeT w F Fx Fy vg vx vy fB xr22 yr22 0 hg abP au hx hy amV amW amX amY hT;grind [anV,anW]
theorem ab4 (w:GK) (F:Gq) (v:GN) (h:AL w F v [6,3,3,1,1,1]):Calls GI 19 #[GV GU 6,v] w (Ret w λv w'=>Gs w' (λ_=>True) v xr22):=by
 refine(sH w F v _ 6 h au au au au).mono ?_;rintro e w' ⟨v,rfl,hb,hu⟩;refine⟨_,rfl,hb,?_⟩;rw[<-afU];exact IX hu (λ_ _ _=>trivial) (GZ _ _)
theorem ab5 (w:GK) (F:Gq) (v:GN) (h:AL w F v [2,1,1]):Calls GI 19 #[GV GU 2,v] w (Ret w λv w'=>Gs w' (λ_=>True) v yr22):=by
 refine(sH w F v _ 2 h au au au au).mono ?_;rintro e w' ⟨v,rfl,hb,hu⟩;refine⟨_,rfl,hb,?_⟩;rw[<-afV];exact IX hu (λ_ _ _=>trivial) (GZ _ _)
theorem ak4 (w:GK):Calls GI 20 #[GV GU 5,GV GU 6] w (Ret w λv w'=>Ak w' (λ_=>True) v ⟨false,[5],[6]⟩):=by
 refine(aeR w 5 6 au au au au).mono ?_;rintro e w' ⟨v,rfl,hb,hu⟩;refine⟨_,rfl,hb,?_⟩;rw[<-amU];exact hu.mono λ_ _ _=>trivial
def Fact.ajz (l:List Raw):Fact:=⟨λv w=>Gs w (λ_=>True) v l,λ_ _ _ h hb=>h.on (GL hb _)⟩
def Fact.ajA (l:List Int):Fact:=⟨λv w=>AL w (λ_=>True) v l,λ_ _ _ h hb=>h.on (GL hb _)⟩
def Fact.an8 (r:Raw):Fact:=⟨λv w=>∃ t,v = .tuple #[t,GV GU 0]/\Ak w (λ_=>True) t r,λ_ _ _ ⟨t,e,h⟩ hb=>⟨t,e,h.on (GL hb _)⟩⟩
theorem aeU:Bd xr22:=by unfold Bd; decide
theorem aeV:Bd yr22:=by unfold Bd; decide
theorem tZ (w:GK) (hT:BF w):Calls GI 6 #[] w (Ret w λv _=>v = G7 true):=by
 have HT:=Ag hT;clear hT;go_in;have hB:=GR w.heap.size w;go_wp2_with fail
 refine(ahK w).mono ?_;rintro e wg ⟨vg,rfl,hb,hu⟩;have HG:=Ag (hu.keep (G:=(λ_=>True)) (λ_ _ _=>trivial) (GZ _ _));obtain⟨vn,vi,rfl,⟨A,c,rfl,_,_⟩,⟨Ai,ci,rfl,_,_⟩⟩:=hu;replace HT:=Ag (HT.o.on hb);refine YQ ?_;clear hB hb;intro hB;go_upto_region 2 with(fail)
 generalize hWb:G5 _ _=Wb;obtain⟨rx,hb,hz⟩:=aI hWb;clear hWb;obtain⟨gb,hgb⟩:=Gp wg.heap.size;rw[<-hgb] at rx ⊢;refine Zd ?_;intro x0 x1 x2;replace HT:=Ag (HT.o.on hb);replace HG:=Ag (HG.o.on (GL hb _));refine ZM ?_;clear hB;intro hB;clear rx hb hz hgb;refine zbb ?_;intro hHeld;have hb:Below Wb.heap.size Wb Wb.drew:=aG (GR _ Wb) 1;refine Yq ?_;clear x0 x1 x2 HT HG hB;intro x0 x1 x2 HT HG hB;clear hb;generalize Wb.drew=wn at *;refine tkm [0] ?_;refine tk2 1 aj rfl λK hK=>?_
 go_simp;refine(adI wn).mono ?_;rintro e wn ⟨vm,rfl,hb,hu⟩;refine zee ?_;clear hu;intro HM;clear x0 x1 x2 HT HG hB;intro x0 x1 x2 HT HG hB;clear hb;refine ZJ ?_;clear hHeld hK K;intro hHeld;refine tk2 2 aj rfl λK hK=>?_
 go_simp;refine(adK wn (λ_=>True) _ _ HG.o HM.o HT.o 0 au).mono ?_;rintro e wn ⟨_,rfl,hb,t0,rfl,hu⟩;rw[amR] at hu;have HV0:=Ag hu;obtain⟨A0,c0,rfl,_,_⟩:=hu;refine Yq ?_;clear x0 x1 x2 HT HG hB;intro x0 x1 x2 HT HG hB;replace HM:=Ag (Gt.on HM.o (GL hb _));clear hb;refine ZJ ?_;clear hHeld hK K;intro hHeld;refine tkm [3,4,5,6,7] ?_;clear HM;refine Z8 ?_;clear hHeld;obtain⟨w0,hw0⟩:=Gp wn;rw[<-hw0] at HG HT hB x0 x1 x2 HV0 ⊢;clear hw0;go_upto_region 3 with(fail)
 refine zbb ?_;intro hHeld;have hb:Below w0.heap.size w0 w0.drew:=aG (GR _ w0) 1;refine Yq ?_;clear x0 x1 x2 HT HG hB;intro x0 x1 x2 HT HG hB;replace HV0:=Ag (Iy HV0.o (GL hb _));clear hb;generalize w0.drew=wn at *;refine tkm [0] ?_;refine tk2 1 aj rfl λK hK=>?_
 go_simp;refine(adI wn).mono ?_;rintro e wn ⟨vm,rfl,hb,hu⟩;refine zee ?_;clear hu;intro HM;clear x0 x1 x2 HT HG hB;intro x0 x1 x2 HT HG hB;replace HV0:=Ag (Iy HV0.o (GL hb _));clear hb;refine ZJ ?_;clear hHeld hK K;intro hHeld;refine tk2 2 aj rfl λK hK=>?_
 go_simp;refine(adK wn (λ_=>True) _ _ HG.o HM.o HT.o 1 au).mono ?_;rintro e wn ⟨_,rfl,hb,t1,rfl,hu⟩;rw[amS] at hu;have HV1:=Ag hu;obtain⟨A1,c1,rfl,_,_⟩:=hu;refine Yq ?_;clear x0 x1 x2 HT HG hB;intro x0 x1 x2 HT HG hB;replace HV0:=Ag (Iy HV0.o (GL hb _));replace HM:=Ag (Gt.on HM.o (GL hb _));clear hb;refine ZJ ?_;clear hHeld hK K;intro hHeld;refine tkm [3,4,5,6,7] ?_;clear HM;refine Z8 ?_;clear hHeld;obtain⟨w1,hw1⟩:=Gp wn;rw[<-hw1] at HG HT hB x0 x1 x2 HV0 HV1 ⊢;clear hw1;go_upto_region 4 with(fail)
 refine ab7 (λw'=>w'.cell? ⟨gb,0,none⟩=some (GV GU fB.aC)/\w'.cell? ⟨gb,1,none⟩=some (Gw A fB.F7.length c)/\w'.cell? ⟨gb,2,none⟩=some (Gw Ai fB.F8.length ci)) 10 2 8 10 (e:=⟨8,.phase⟩) #[⟨6,.data⟩] rfl aj rfl rfl rfl rfl aj (λ_ _ _ _ h=>h) aj rfl aj ⟨x0,x1,x2⟩ (λhHeld=>?_);simp only[List.push_toArray,List.set_cons_succ,List.set_cons_zero,List.take_succ_cons,List.take_zero,List.cons_append,List.nil_append];have hb:Below w1.heap.size w1 w1.drew:=aG (GR _ w1) 1;refine Yq ?_;clear x0 x1 x2 HT HG hB;intro x0 x1 x2 HT HG hB;replace HV0:=Ag (Iy HV0.o (GL hb _));replace HV1:=Ag (Iy HV1.o (GL hb _));clear hb;generalize w1.drew=wn at *;refine tkm [0] ?_;refine jH (js:=[1,2,3,4,5,6,7,8,9]) ((Hold.cell (gb) 0 (GV GU fB.aC)).and ((Hold.cell (gb) 1 (Gw A fB.F7.length c)).and ((Hold.cell (gb) 2 (Gw Ai fB.F8.length ci)).and (Hold.below wn.heap.size wn)))) [(1,(Fact.ajA [6,3,3,1,1,1])),(2,(Fact.ajz xr22)),(3,(Fact.ajA [2,1,1])),(4,(Fact.ajz yr22)),(5,(Fact.an8 ⟨false,[5],[6]⟩)),(6,(Fact.an8 ⟨false,[5],[6]⟩)),(7,(Fact.raw (λ_=>True) ⟨false,[5],[6]⟩)),(8,(Fact.eq (GV GU 0))),(9,(Fact.box wn.heap.size 42 [G7 false,Gw none 0 0,Gw none 0 0]))] aj ⟨x0,x1,x2,⟨Gy _,GR _ _⟩⟩ (λ_ h=>⟨h.1,h.2.1,h.2.2.1⟩) ?_;refine Flow.cons (o:=_) rfl (λwk hS hf K hK=>?_) (λv1=>?_)
 ·go_simp;exact za4
 refine Zb ?_;refine Flow.cons (o:=_) rfl (λwk hS hf K hK=>?_) (λv2=>?_)
 ·have f1:=aX (hf (1,v1) aA aj) rfl;go_simp;refine(ab4 wk (λ_=>True) _ f1).mono ?_;exact zat
 refine Zb ?_;refine Flow.cons (o:=_) rfl (λwk hS hf K hK=>?_) (λv3=>?_)
 ·go_simp;exact zbZ
 refine Zb ?_;refine Flow.cons (o:=_) rfl (λwk hS hf K hK=>?_) (λv4=>?_)
 ·have f3:=aX (hf (3,v3) aA aj) rfl;go_simp;refine(ab5 wk (λ_=>True) _ f3).mono ?_;exact zat
 refine Zb ?_;refine Flow.cons (o:=_) rfl (λwk hS hf K hK=>?_) (λv5=>?_)
 ·have f2:=aX (hf (2,v2) aA aj) rfl;have f4:=aX (hf (4,v4) aA aj) rfl;go_simp;refine(ak3 wk (λ_=>True) (λ_=>True) (λ_=>True) _ _ _ (HG.o.on (GL hS.2.2.2.2 _)) f2 f4 (HT.o.on hS.2.2.2.2)).mono ?_;rintro e w' ⟨_,rfl,hb,t,rfl,hu⟩;exact hK.out _ _ hb ⟨_,rfl,hu⟩
 refine Zb ?_;refine Flow.cons (o:=_) rfl (λwk hS hf K hK=>?_) (λv6=>?_)
 ·have f5:=aX (hf (5,v5) aA aj) rfl;obtain⟨t,rfl,ht⟩:=f5;go_simp;exact hK.out _ _ (GR _ _) ⟨_,rfl,ht⟩
 refine Zb ?_;refine Flow.cons (o:=_) rfl (λwk hS hf K hK=>?_) (λv7=>?_)
 ·have f6:=aX (hf (6,v6) aA aj) rfl;obtain⟨t,rfl,ht⟩:=f6;go_simp;exact hK.out _ _ (GR _ _) ht
 refine Zb ?_;refine Flow.cons (o:=_) rfl (λwk hS hf K hK=>?_) (λv8=>?_)
 ·have f6:=aX (hf (6,v6) aA aj) rfl;obtain⟨t,rfl,ht⟩:=f6;go_simp;exact zaH
 refine Zb ?_;refine Flow.cons (o:=_) rfl (λwk hS hf K hK=>?_) (λv9=>?_)
 ·go_simp;have hz5:=hS.2.2.2.1;obtain⟨W1,hw,hr,hb,hz⟩:=dI wk 42 #[G7 false,Gw none 0 0,Gw none 0 0];rw[<-hw];exact hK.out _ _ hb ⟨_,rfl,hz5,hr⟩
 refine Zb ?_
 refine Flow.nil (λwE hS hf=>?_);have f7:=aX (hf (7,v7) aA) rfl;have f8:=aX (hf (8,v8) aA) rfl;have f9:=aX (hf (9,v9) aA) rfl;have hbE:=hS.2.2.2.2;obtain⟨pb,rfl,hpb,rpb⟩:=f9;obtain rfl:v8=_:=f8;obtain⟨vn',vd',hv7,hln,hld⟩:=f7;replace hln:=hln.xR rpb; replace hld:=hld.xR rpb;have aoV:=hln; have aoW:=hld;obtain⟨A7,d3,rfl,-,-⟩:=aoV;obtain⟨A8,d4,rfl,-,-⟩:=aoW;dsimp only at hv7;subst hv7;have hx0:=rpb.cell (i:=0) rfl; have hx1:=rpb.cell (i:=1) rfl; have hx2:=rpb.cell (i:=2) rfl;have hy0:=rpb.frozen 0; have hy1:=rpb.frozen 1; have hy2:=rpb.frozen 2;obtain⟨W6,hW6,rp6,hw6⟩:=ajp rpb (G7 false) (Gw A7 1 d3) (Gw A8 1 d4);have hb6:Below wn.heap.size wn W6:=Ht hbE hw6 (λk hk=>by omega) hbE.size;have HPX:=Ag (show Ak W6 (λ_=>True) (.agg #[G7 false,Gw A7 1 d3,Gw A8 1 d4]) ⟨false,[5],[6]⟩ from
  Ak.keep (Ak.make rfl hln hld) (λb hb _=>trivial) (hw6.same λb hb e=>hb.2 e))
 replace HV0:=Ag (Iy HV0.o (GL hb6 _));replace HV1:=Ag (Iy HV1.o (GL hb6 _));replace hB:=hB.trans (hb6.mono hB.size);have HB:=Ag hB;have HRP:=Ag rp6;have HW6:=Ag hW6;clear hS hf hln hld hbE hpb rpb hW6 rp6 hw6 hb6 hHeld x0 x1 x2 hB HG HT;refine zdr ?_;go_wp2
 rw[<-HW6.o];refine zdr ?_;go_wp2
 clear hx0 hx1 hx2 hy0 hy1 hy2 HW6;unfold AY;refine Z4 ?_;have hB:=HB.o;have q0:=HRP.o.cell (i:=0) rfl;have q1:=HRP.o.cell (i:=1) rfl;have q2:=HRP.o.cell (i:=2) rfl;clear HB;go_wp2_with fail
 refine wp_region_held_drew (S:=λw'=>w'.cell? ⟨pb,0,none⟩=some (G7 false)/\w'.cell? ⟨pb,1,none⟩=some (Gw A7 1 d3)/\w'.cell? ⟨pb,2,none⟩=some (Gw A8 1 d4)) aj ⟨q0,q1,q2⟩ (λhHeld=>?_);have hb:Below W6.heap.size W6 W6.drew:=aG (GR _ W6) 1;replace HPX:=Ag (Ak.on HPX.o (GL hb _));replace HV0:=Ag (Iy HV0.o (GL hb _));replace HV1:=Ag (Iy HV1.o (GL hb _));replace q0:=ah q0 hb;replace q1:=ah q1 hb;replace q2:=ah q2 hb;refine ZM ?_;clear hB;intro hB;clear hb;generalize W6.drew=wn at *;refine tkm [0,1,2,3,4,5,6,7,8,9,10,11] ?_;refine jH (js:=[12,13,14,15,16,17,18,19,20,21,22,23,24,25,26,27]) ((Hold.cell (pb) 0 (G7 false)).and ((Hold.cell (pb) 1 (Gw A7 1 d3)).and ((Hold.cell (pb) 2 (Gw A8 1 d4)).and (Hold.below wn.heap.size wn)))) [(12,(Fact.ajA [6,3,3,1,1,1])),(13,(Fact.ajz xr22)),(14,(Fact.eq (G7 true))),(15,(Fact.eq (G7 true))),(16,(Fact.eq (G7 true))),(17,(Fact.eq (Gw A1 yr22.length c1))),(18,(Fact.ajA [2,1,1])),(19,(Fact.ajz yr22)),(20,(Fact.eq (G7 true))),(21,(Fact.eq (G7 true))),(22,(Fact.eq (G7 true))),(23,(Fact.eq (.agg #[G7 false,Gw A7 1 d3,Gw A8 1 d4]))),(24,(Fact.raw (λ_=>True) ⟨false,[5],[6]⟩)),(25,(Fact.eq (G7 true))),(26,(Fact.eq (G7 true))),(27,(Fact.eq (G7 true)))] aj ⟨q0,q1,q2,⟨Gy _,GR _ _⟩⟩ (λ_ h=>⟨h.1,h.2.1,h.2.2.1⟩) ?_;refine Flow.cons (o:=_) rfl (λwk hS hf K hK=>?_) (λv12=>?_)
 ·go_simp;exact za4
 refine Zb ?_;refine Flow.cons (o:=_) rfl (λwk hS hf K hK=>?_) (λv13=>?_)
 ·have f12:=aX (hf (12,v12) aA aj) rfl;go_simp;refine(ab4 wk (λ_=>True) _ f12).mono ?_;exact zat
 refine Zb ?_;refine Flow.cons (o:=_) rfl (λwk hS hf K hK=>?_) (λv14=>?_)
 ·have f13:=aX (hf (13,v13) aA aj) rfl;have g13:=f13;have hr0:=Iy HV0.o (GL hS.2.2.2.2 _);obtain⟨A9,c9,rfl,-,-⟩:=g13;go_simp;refine(kG wk (λ_=>True) _ _ xr22 xr22 hr0 f13 aeU aeU).mono ?_;exact zbW
 refine Zb ?_;refine Flow.cons (o:=_) rfl (λwk hS hf K hK=>?_) (λv15=>?_)
 ·have f14:=aX (hf (14,v14) aA aj) rfl;obtain rfl:v14=_:=f14;go_simp;exact zaH
 refine Zb ?_;refine Flow.cons (o:=_) rfl (λwk hS hf K hK=>?_) (λv16=>?_)
 ·have f15:=aX (hf (15,v15) aA aj) rfl;obtain rfl:v15=_:=f15;go_simp;exact zaH
 refine Zb ?_;refine Flow.cons (o:=_) rfl (λwk hS hf K hK=>?_) (λv17=>?_)
 ·have f16:=aX (hf (16,v16) aA aj) rfl;obtain rfl:v16=_:=f16;go_simp;exact zaH
 refine Zb ?_;refine Flow.cons (o:=_) rfl (λwk hS hf K hK=>?_) (λv18=>?_)
 ·have f16:=aX (hf (16,v16) aA aj) rfl;obtain rfl:v16=_:=f16;go_simp;exact zbZ
 refine Zb ?_;refine Flow.cons (o:=_) rfl (λwk hS hf K hK=>?_) (λv19=>?_)
 ·have f16:=aX (hf (16,v16) aA aj) rfl;have f18:=aX (hf (18,v18) aA aj) rfl;obtain rfl:v16=_:=f16;go_simp;refine(ab5 wk (λ_=>True) _ f18).mono ?_;exact zat
 refine Zb ?_;refine Flow.cons (o:=_) rfl (λwk hS hf K hK=>?_) (λv20=>?_)
 ·have f16:=aX (hf (16,v16) aA aj) rfl;have f17:=aX (hf (17,v17) aA aj) rfl;have f19:=aX (hf (19,v19) aA aj) rfl;obtain rfl:v16=_:=f16;obtain rfl:v17=_:=f17;have g19:=f19;have hr0:=Iy HV1.o (GL hS.2.2.2.2 _);obtain⟨A9,c9,rfl,-,-⟩:=g19;go_simp;refine(kG wk (λ_=>True) _ _ yr22 yr22 hr0 f19 aeV aeV).mono ?_;exact zbW
 refine Zb ?_;refine Flow.cons (o:=_) rfl (λwk hS hf K hK=>?_) (λv21=>?_)
 ·have f16:=aX (hf (16,v16) aA aj) rfl;have f20:=aX (hf (20,v20) aA aj) rfl;obtain rfl:v16=_:=f16;obtain rfl:v20=_:=f20;go_simp;exact zaH
 refine Zb ?_;refine Flow.cons (o:=_) rfl (λwk hS hf K hK=>?_) (λv22=>?_)
 ·have f21:=aX (hf (21,v21) aA aj) rfl;obtain rfl:v21=_:=f21;go_simp;exact zaH
 refine Zb ?_;refine Flow.cons (o:=_) rfl (λwk hS hf K hK=>?_) (λv23=>?_)
 ·have f22:=aX (hf (22,v22) aA aj) rfl;obtain rfl:v22=_:=f22;have z0:wk.cell? ⟨pb,0,none⟩=some (G7 false):=hS.1;have z1:wk.cell? ⟨pb,1,none⟩=some (Gw A7 1 d3):=hS.2.1;have z2:wk.cell? ⟨pb,2,none⟩=some (Gw A8 1 d4):=hS.2.2.1;go_simp;exact zaH
 refine Zb ?_;refine Flow.cons (o:=_) rfl (λwk hS hf K hK=>?_) (λv24=>?_)
 ·have f22:=aX (hf (22,v22) aA aj) rfl;obtain rfl:v22=_:=f22;go_simp;refine(ak4 wk).mono ?_;exact zat
 refine Zb ?_;refine Flow.cons (o:=_) rfl (λwk hS hf K hK=>?_) (λv25=>?_)
 ·have f22:=aX (hf (22,v22) aA aj) rfl;have f23:=aX (hf (23,v23) aA aj) rfl;have f24:=aX (hf (24,v24) aA aj) rfl;obtain rfl:v22=_:=f22;obtain rfl:v23=_:=f23;obtain⟨A9,c9,B9,d9,rfl,-⟩:=Ak.opened f24;have hr0:=Ak.on HPX.o (GL hS.2.2.2.2 _);go_simp;refine(tH wk (λ_=>True) _ _ ⟨false,[5],[6]⟩ ⟨false,[5],[6]⟩ hr0 f24 au au).mono ?_;exact zbW
 refine Zb ?_;refine Flow.cons (o:=_) rfl (λwk hS hf K hK=>?_) (λv26=>?_)
 ·have f22:=aX (hf (22,v22) aA aj) rfl;have f25:=aX (hf (25,v25) aA aj) rfl;obtain rfl:v22=_:=f22;obtain rfl:v25=_:=f25;go_simp;exact zaH
 refine Zb ?_;refine Flow.cons (o:=_) rfl (λwk hS hf K hK=>?_) (λv27=>?_)
 ·have f26:=aX (hf (26,v26) aA aj) rfl;obtain rfl:v26=_:=f26;go_simp;exact zaH
 refine Zb ?_;refine Flow.nil (λwE hS hf=>?_);have f27:=aX (hf (27,v27) aA) rfl;obtain rfl:v27=_:=f27;have hbE:=hB.trans (hS.2.2.2.2.mono hB.size);clear hf hS q0 q1 q2;refine Z4 ?_;go_wp2
 go_ret;exact⟨_,rfl,hbE,rfl⟩
theorem ai1 {m:List (List Rat)} (hl:m.length<=1000) (h:∀ l∈m,l.length<=1000/\∀ x∈l,rl x<=1024):Ci (m.map (Iq ak)):=by
 refine⟨by rw[Gz]; omega,λl hl=>?_⟩;grind [al6]
theorem anY {g:Gm} (h:lV g 60 20=false):g.F7.length<=60:=by grind [lV]
theorem ahu (h:qp [xr,yr] 2 60 4=false):(xr.length<=60/\Bf xr)/\(yr.length<=60/\Bf yr):=by grind [qp,aaC,Bf]
theorem ahv (h:l.length<=60) (h4:Bf l) (hU:∀ r∈l,U32 r):Bc l :=
 ⟨FI,λr hr=>⟨hU r hr,by have:=h4 r hr; omega,by have:=h4 r hr; omega⟩⟩
theorem aeW (h:l.length<=60) (h4:Bf l):Bd l :=
 ⟨FI,λr hr=>by have:=h4 r hr; omega⟩
theorem am0 {w:GK} {vx vy:GN} (hr:Row w b 28 [vx,vy]) (hx:Gs w F vx xr) (hy:Gs w F vy yr) (hF:∀ b,F b):Gt w F (Gw (some ⟨b,0,none⟩) 2 2) [xr,yr]:=by
 refine⟨_,_,rfl,Gy _,λ_=>⟨b,0,rfl,hF _,hr.lt,λk l hk=>?_⟩⟩;have hk2:k < 2:=by have:=Gn hk;simpa using this
 obtain rfl | rfl:k=0\/k=1:=FI
 ·cases hk;exact⟨_,hr.cell (i:=0) rfl,hx⟩
 ·cases hk;exact⟨_,hr.cell (i:=1) rfl,hy⟩
theorem ai2 {g:Gm} {m:List (List Raw)} {pl:Int} (hsm:Small g) (h4:BQ m):Bd (gX g m pl):=by
 unfold gX;split
 ·exact⟨aA,λr hr=>by cases hr⟩
 ·rename_i h
  have h:kY g m pl=0:=by simpa using h
  unfold kY at h;by_cases hs:seatE g pl≠0
  ·rw[LH hs] at h;exact absurd h hs
  rw[LG hs] at h;have hf:=xk h;obtain⟨a,rfl,-,-⟩:=abl h h4;rw[yI];have hft:=afC h;have hrl:=xQ h4;have hlen:=hft.len;rw[aS] at hlen;have hni:=hsm.F8;refine⟨?_,λr hr=>?_⟩
  ·have h1:=dL (g:=g) (p:=pl) (λi hi=>dJ hf i hi) g.F8.length (Gy _);rw[Gz,adr];unfold aN;omega
  ·obtain⟨x,hx,rfl⟩:=List.mem_map.1 hr;have:=aiQ hf hft hrl x hx;unfold rl at this;exact zco
theorem ahw {g:Gm} (hsm:Small g) (hx:Bf xr) (hy:Bf yr):Ci (iY g xr yr):=by
 unfold iY;have hn:Ci []:=⟨aA,λr hr=>by cases hr⟩;split
 ·exact hn
 ·rename_i h
  have h:lJ g xr yr=0:=by simpa using h
  unfold lJ at h;by_cases hl:fQ g≠0
  ·grind
  rw[LG hl] at h;obtain⟨hform,hpl2,hpar⟩:=pU (by simpa using hl);obtain⟨xs,ys,rfl,rfl,zY⟩:=aaT h hx hy;rw[eU,eU];have hok:=zY.plan hform hpl2;have hlen:=qR g xs ys;have hni:=hsm.F8;have hrow:∀ l∈kN g xs ys,l.length<=10:=by
    intro l hl;obtain⟨k,hk⟩:=H9 hl;obtain⟨inf,hi⟩:=Gl (l:=g.F8) (k:=k) (by have:=Gn hk; omega);have:=hok.acts k l inf hk hi;have:=dJ hform inf (Gx hi);omega
  have hbm:=back_mem (p:=kN g xs ys) λl hl=>⟨hrow l hl,λx hx=>by have:=hok.fits l hl x hx; omega⟩
  unfold aaD;split
  ·exact hn
  ·rename_i h3
   have h3:nH (gB (kN g xs ys)).flatten=0:=by simpa using h3
   refine ai1 (by unfold gB; rw[Gz,hlen]; omega) λl hl=>⟨by have:=(hbm l hl).1; omega,λx hx=>Nat.le_of_not_lt λhlt=>by have:=ade (List.mem_flatten.2 ⟨l,hl,hx⟩) hlt; omega⟩
theorem ahx (g:Gm) (xr yr:List Raw) (pl:Int):(lS g xr yr pl).num.length<=500000/\(lS g xr yr pl).den.length<=500000:=by
 have hz:(⟨false,[],[]⟩:Raw).num.length<=500000/\(⟨false,[],[]⟩:Raw).den.length<=500000:=⟨au,au⟩;unfold lS;split
 ·exact hz
 ·split
  ·exact hz
  ·unfold dR;split
   ·exact hz
   ·rename_i h
    unfold rl at h;generalize nT g (xr.map gK) (yr.map gK) pl.toNat=x at h ⊢;exact zco
theorem ak5 (w:GK) (F:Gq) (vg vm:GN) (g:Gm) (mr:List (List Raw)) (hg:AB w F vg g) (hsm:Small g) (hf:aQ g=0) (hp:lH g=0) (hm:Gt w F vm mr) (hlm:mr.length<=100000) (hb:Bv mr) (h4:BQ mr) :
  Calls GI 30 #[vg,vm] w (Ret w λv w'=>∃ t,v = .tuple #[t,GV GU (iw g mr)]/\(iw g mr≠0->t = Gw none 0 0)/\(iw g mr=0->Gt w' (λ_=>True) t ((cO (aU g) (mr.map (Iq gK))).map (Iq ak)))):=by
 by_cases h0:iw g mr=0
 ·obtain⟨m,hmr,_,_⟩:=abl h0 h4;subst hmr;refine(ams w F vg vm g m hg hsm hf hp hm (aeG h0 h4)).mono ?_;rintro e w' ⟨v,rfl,hB,t,rfl,ht⟩;refine⟨_,rfl,hB,t,by rw[h0],λh=>absurd h0 h,λ_=>?_⟩;rw[yI];exact ht
 ·have HG:=Ag hg;have HM:=Ag hm;have HS:=Ag hsm;have H0:=Ag h0;have HFR:=Ag hb;obtain⟨vn,vi,rfl,⟨A,c,rfl,hc,_⟩,⟨Ai,ci,rfl,hci,_⟩⟩:=hg;obtain⟨Am,cm,rfl,_,_⟩:=hm;obtain⟨se,hse⟩:=Gp (iw g mr);rw[<-hse] at H0 h0 ⊢;have HSE:=Ag hse;clear hsm hf hp hb h4 hse;go_in;go_wp2_with fail
  generalize hW:G5 _ _=W;obtain⟨rx,hB,hz⟩:=aI hW;refine zaW ?_;clear HG HM;intro HG HM;refine Zd ?_;intro x0 x1 x2;clear hW hz rx;go_wp2_with fail
  refine(adh W F _ _ g _ HG.o HS.o HM.o hlm HFR.o).mono ?_;rintro e w1 ⟨_,rfl,hb,rfl⟩;rw[<-HSE.o];have HB:=Ag (hB.trans (hb.mono hB.size));have t0:(se != 0)=true:=by simp[h0]
  clear hb hB h0 x0 x1 x2;dsimp only;go_wp2_with fail
  go_ret2;exact⟨_,rfl,HB.o,_,rfl,λ_=>rfl,λh=>absurd h H0.o⟩
theorem ak6 (w:GK) (F:Gq) (vg vm:GN) (g:Gm) (mr:List (List Raw)) (pl:Int) (hg:AB w F vg g) (hsm:Small g) (hm:Gt w F vm mr) (hlm:mr.length<=100) (hb:Bv mr) (h4:BQ mr) :
  Calls GI 9 #[vg,vm,GV GU pl] w (Ret w λv w'=>∃ t,v = .tuple #[t,GV GU (kY g mr pl)]/\Gs w' (λ_=>True) t (gX g mr pl)):=by
 have HG:=Ag hg;have HM:=Ag hm;have HS:=Ag hsm;have H4:=Ag h4;have HFR:=Ag hb;obtain⟨vn,vi,rfl,⟨A,c,rfl,hc,_⟩,⟨Ai,ci,rfl,hci,hI⟩⟩:=hg;have HI:=Ag hI;obtain⟨Am,cm,rfl,_,_⟩:=hm;refine zbd ?_;intro oe hoe oo hoo HE HO hni;clear hsm h4 hb hoe hoo hI;go_in;go_wp2_with fail
 generalize hW:G5 _ _=W;obtain⟨rx,hB,hz⟩:=aI hW;replace HG:=Ag (HG.o.on (GL hB F));replace HM:=Ag (HM.o.below hB);refine Zd ?_;intro x0 x1 x2;clear hW hz;go_wp2_with fail
 clear x0 x1 x2;refine(aeL W F _ g pl HG.o HS.o).mono ?_;rintro e w1 ⟨_,rfl,hb,vp,rfl,hu⟩;refine zdg ?_;clear HG;intro HG;replace HM:=Ag (HM.o.below hb);refine Ya ?_;clear rx hB;intro rx hB;obtain⟨Ap,cp,rfl⟩:=hu.open;refine zc9 ?_;intro HPS;obtain⟨fe,hfe⟩:=Gp (seatE g pl);rw[<-hfe] at HE HPS ⊢;refine Zd ?_;intro x0 x1 x2;clear hb hfe hu;dsimp only;by_cases h0:fe=0
 case neg =>
  refine zaq ?_;intro t0 H0;clear h0;go_wp2_with fail
  go_ret2;refine zdL ?_;intro e0;exact Y6
 subst h0;obtain⟨hlk,hp0,hp1⟩:=HPS.o rfl;obtain⟨hform,hpl2,hpar⟩:=pU hlk;obtain⟨p,rfl⟩:∃ p:Nat,pl=(p:Int):=⟨pl.toNat,FI⟩;have HFO:=Ag hform;have HPA:=Ag hpar;clear hlk hp0 hp1 HPS hpl2 hform hpar;go_wp2_with fail
 clear x0 x1 x2;refine(ak5 w1 F _ _ g mr HG.o HS.o HFO.o HPA.o HM.o FI HFR.o H4.o).mono ?_;rintro e w2 ⟨_,rfl,hb,t,rfl,ht1,ht2⟩;replace rx:=rx.below hb rx.lt;refine zdg ?_;clear HG;intro HG;refine ZM ?_;clear hB;intro hB;obtain⟨se,hse⟩:=Gp (iw g mr);rw[<-hse] at HE ht1 ht2 ⊢;have HSE:=Ag hse;have HT1:=Ag ht1;have HT2:=Ag ht2;refine Zd ?_;intro x0 x1 x2;clear hse hb HM ht1 ht2;dsimp only;by_cases h0:se=0
 case neg =>
  have t1:(se != 0)=true:=by simp[h0]
  have H0:=Ag h0;have ht:=HT1.o h0;subst ht;clear h0;go_wp2_with fail
  go_ret2;have e0:=HE.o;rw[LG au] at e0;exact Y6
 subst h0;have hoe:oe=0:=HE.o.trans (LG au);have ht:=HT2.o rfl;obtain⟨m,hmr,-,-⟩:=abl HSE.o.symm H4.o;subst hmr;rw[Gz] at hlm ⊢;have HROK:=Ag (aeG HSE.o.symm H4.o);have HO2:=Ag (show oo=(vW g m (p:Int)).map ak by rw[HO.o,hoe,LG au,yI]);rw[yI] at ht;subst hoe;have hfl:(cO (aU g) m).length=g.F8.length:=by unfold cO;rw[eY];exact HROK.o.1
 have HPL:=Ag (JK (G:=λb=>b < w2.heap.size) ht (λb _ hl=>hl) (GZ _ _));obtain⟨At,ct,e,-,-⟩:=ht;rw[Gz,hfl] at e;subst e;have HFL:=Ag hfl;have HB:=Ag hB;have HRX:=Ag rx;clear hlm HO HE HSE HFR H4 HT1 HT2 hfl hB;go_wp2_with fail
 have hw1:=dZ w2 1 au au;have h1:=HO2.o;obtain⟨one,hone⟩:∃ x:Rat,x=((1:Int):Rat):=⟨_,rfl⟩;rw[<-hone] at hw1;have Bh:=Ag hone;clear hone h1;refine hw1.mono ?_;rintro e w3 ⟨v1,rfl,hb3,hv1⟩;obtain⟨A1,c1,B1,d1,rfl,bH⟩:=hv1.opened;have HF1:=Ag bH;replace HG:=Ag (HG.o.on (GL hb3 F));replace HRX:=Ag (HRX.o.below hb3 HRX.o.lt);replace HPL:=Ag (JK (G:=λb=>b < w3.heap.size) HPL.o (λb _ hl=>Hz hl hb3.size) (GL hb3 _));replace HB:=Ag (HB.o.trans (hb3.mono HB.o.size));clear hv1 bH hw1 hb3 x0 x1 x2 rx;dsimp only;go_upto_region 8 with(fail)
 obtain⟨q,hq⟩:∃ q:RV,q=⟨ak one,Gw A1 (ak one).num.length c1,Gw B1 (ak one).den.length d1⟩:=⟨_,rfl⟩;have hown:=OwnSl.lit (K:=ratK) w3 w3.heap.size 42 (λb=>b < w3.heap.size) q #[G7 (ak one).neg,Gw A1 (ak one).num.length c1,Gw B1 (ak one).den.length d1] (by rw[hq]; rfl) (Gy _) (by rw[hq]; exact HF1.o.keep (λb _ hl=>⟨hl,hl⟩) (GZ _ _));obtain⟨W4,hW4⟩:=Gp (w3.alloc (.cells #[G7 (ak one).neg,Gw A1 (ak one).num.length c1,Gw B1 (ak one).den.length d1] 42));have hB4:Below w3.heap.size w3 W4:=hW4▸(GR w3.heap.size w3).alloc (Gy _) _;rw[<-hW4] at hown ⊢;have HQ:=Ag (show q.r=ak one by rw[hq]);have HOWN:=Ag hown;have hB44:=Ag (I9 hB4 (λ_=>False));obtain⟨o4,ho4⟩:=Gp ((Value.slice (some ⟨w3.heap.size,0,none⟩) 1 1));rw[<-ho4] at HOWN ⊢;clear hq hown hW4 hB4 ho4;go_wp2_with fail
 go_loopw [12,13] (λu iv wr=>∃ (k:Nat) (L:List RV),k<=g.F8.length/\iv = GV GU (k:Int)/\L.map RV.r=(xU g (cO (aU g) m) (p:Int) k).map ak/\OwnSl ratK wr w3.heap.size 42 (λb=>b < w3.heap.size) u L/\Below w3.heap.size w3 wr) (λ_ iv _=>g.F8.length - (intOf iv).toNat)
 case atStart=>exact⟨0,[q],Hg _,rfl,by rw[aiR]; show[q.r] = [ak 1]; rw[HQ.o,Bh.o]; rfl,HOWN.o,⟨hB44.o.os,hB44.o.tape,hB44.o.output,hB44.o.size,λi hi=>hB44.o.block i hi (λh=>h)⟩⟩
 case round =>
  clear HOWN;obtain⟨k,L,hk,rfl,hmap,hown,hbel⟩:=hrel;obtain⟨wa,rfl⟩:=Gp wr;have HMP:=Ag hmap;have HOWN:=Ag hown;have hrx:=HRX.o.below hbel HRX.o.lt;have x2:=hrx.cell (i:=2) rfl;clear hmap hown;have hkz:=hbel.size;by_cases hlt:k < g.F8.length
  case neg =>
   obtain rfl:k=g.F8.length:=FI;clear x2 hrx;go_wp2_with fail
   go_ret2;refine⟨_,rfl,HB.o.trans (hbel.mono HB.o.size),_,rfl,?_⟩;rw[HO2.o,<-akP,<-HMP.o];exact HOWN.o.raws (λ_ _=>trivial) (λ_ _=>trivial)
  obtain⟨inf,bU⟩:=Gl hlt;obtain⟨ib,io,rfl,_,hib,hcell⟩:=HI.o FI;have hBB:=HB.o.trans (hbel.mono HB.o.size);have i0:=ah (hcell k inf bU).c0 hBB;have Df:=Ag bU;obtain⟨pl,hpl⟩:=Gp inf.aH;rw[<-hpl] at i0;have HPLE:=Ag hpl;clear hcell bU hBB hrx hpl;by_cases hpp:pl=(p:Int)
  case neg =>
   have t0:(pl==(p:Int))=false:=by simp[hpp]
   have HPP:=Ag hpp;clear hpp;go_wp2_with fail
   go_roundw
   case rel=>exact⟨k+1,L,FI,by go_num,by rw[ahd Df.o (by rw[<-HPLE.o]; exact HPP.o)]; exact HMP.o,HOWN.o,hbel⟩
   case measure=>exact zMs
  have t0:(pl==(p:Int))=true:=by simp[hpp]
  have HPP:=Ag hpp;obtain⟨row,hrow⟩:=Gl (l:=cO (aU g) m) (k:=k) (by rw[HFL.o]; exact hlt);obtain⟨inf',an9,hrl⟩:=adk HROK.o hrow;obtain rfl:inf'=inf:=by have h:=Df.o;rw[an9] at h;exact IE h
  obtain⟨ha1,ha2⟩:=qJ HFO.o Df.o;have hr0:0 < row.length:=FI;have hr10:row.length<=10:=FI;have hlen:L.length<=1+10*k:=by
   have h1:=akR (P:=cO (aU g) m) (p:=(p:Int)) HFO.o (k:=k) hk;have h2:=congrArg JB HMP.o;rw[Gz,Gz] at h2;omega
  obtain⟨ab,ao,c3,vr,e3,_,_,r0,hrv⟩:=Gt.at (Gt.on HPL.o (GL hbel _)) (k:=k) (l:=row.map ak) (by rw[GY,hrow]; rfl);obtain⟨L2,hL2,hf2,A2,c4,e4,_,hsrc⟩:=hrv.rvs;rw[Gz] at e4 hsrc;obtain⟨ad,rfl,aoa⟩:=hsrc hr0;subst e4;rw[Gz,HFL.o] at e3;simp only[Value.slice.injEq,true_and] at e3;obtain⟨rfl,rfl⟩:=e3;have hn2:L2.length=row.length:=by have h:=congrArg JB hL2;simpa using h
  have HSRC:=Ag aoa;have HL2:=Ag hL2;have HF2:=Ag (λq (hq:q∈L2)=>hf2 q hq);have HN2:=Ag hn2;have HVN:=Ag (akQ (P:=cO (aU g) m) Df.o (HPLE.o.symm.trans HPP.o) hrow hrl);clear hpp hrow an9 hrv hsrc aoa hL2 hf2 hn2;go_wp2_with (at_builtin; refine aft (K:=ratK) (F:=λb=>b < w3.heap.size) rfl _ _ 29 28 42 42 56 _ KR JU JR rfl FI rfl w3.heap.size hkz u12 L L2 row.length HN2.o rfl ad c4 rfl hr0 HSRC.o FI HOWN.o (λq hq=>(HF2.o q hq).keep (λb hb _=>⟨hb,λe=>by have:=(HOWN.o.row.lt b e).1; omega⟩) (GZ _ _)) ?_; intro g' cap w' hown' nX hat')
  have HO9:=Ag hown';have hb9:=Ht hbel nX (λb hb=>(HOWN.o.row.lt b hb).1) hkz;clear hown' nX hat';go_wp2_with fail
  go_roundw
  case rel =>
   exact⟨k+1,L++L2,FI,by go_num,by rw[HVN.o,Hf,Hf,HMP.o,HL2.o],HO9.o,hb9⟩
  case measure=>exact zMs
theorem ai3 (w:GK) (F:Gq) (u vm vx vy:GN) (g:Gm) (m:List (List Raw)) (xr yr:List Raw) (pl:Int) (hg:AB w F u g) (hm:Gt w F vm m) (hx:Gs w F vx xr) (hy:Gs w F vy yr) (hUm:∀ l∈m,∀ r∈l,U32 r) (hUx:∀ r∈xr,U32 r) (hUy:∀ r∈yr,U32 r) (hT:BF w) :
  Calls GI 3 #[u,vm,vx,vy,GV GU pl] w (Ret w λv _=>v = G7 true):=by
 have HG:=Ag (hg.keep (G:=λ_=>True) (λ_ _ _=>trivial) (GZ _ _));have HM:=Ag (JK (G:=λ_=>True) hm (λ_ _ _=>trivial) (GZ _ _));have HX:=Ag (IX (G:=λ_=>True) hx (λ_ _ _=>trivial) (GZ _ _));have HY:=Ag (IX (G:=λ_=>True) hy (λ_ _ _=>trivial) (GZ _ _));have HT:=Ag hT;have HUM:=Ag hUm;have HUX:=Ag hUx;have HUY:=Ag hUy;obtain⟨vn,vi,rfl,⟨A,c,rfl,-,-⟩,⟨Ai,ci,rfl,-,-⟩⟩:=hg;obtain⟨Am,cm,rfl,-,-⟩:=hm;obtain⟨Ax,cx,rfl,-,-⟩:=hx;obtain⟨Ay,cy,rfl,-,-⟩:=hy;clear hT hUm hUx hUy;go_in;go_wp2_with fail
 generalize hW:G5 _ _=W;obtain⟨rx,hB,hz⟩:=aI hW;clear hW hz;refine zaW ?_;clear HG HM;intro HG HM;replace HX:=Ag (Iy HX.o (GL hB _));replace HY:=Ag (Iy HY.o (GL hB _));replace HT:=Ag (HT.o.on hB);refine(ajK W (λ_=>True) _ g HG.o 60 20 FI).mono ?_;rintro e w1 ⟨_,rfl,hb,rfl⟩;refine Zv ?_;clear HG HM HX HY HT;intro HG HM HX HY HT;refine Ya ?_;clear rx hB;intro rx hB;clear hb;have HSM:=Ag (λh:lV g 60 20=false=>And.intro (adi h FI FI) (anY h));generalize lV g 60 20=lg at *;dsimp only;cases lg
 case true =>
  clear rx;go_wp2_with fail
  refine(tZ w1 HT.o).mono ?_;exact za0
 have HS:=Ag (HSM.o rfl).1;have H60:=Ag (HSM.o rfl).2;clear HSM;go_wp2_with fail
 refine(agQ w1 (λ_=>True) _ m HM.o 30 20 4 au au).mono ?_;rintro e w2 ⟨rfl,rfl⟩;have HWM:=Ag (λh:qp m 30 20 4=false=>ad3 h);generalize qp m 30 20 4=wm at *;dsimp only;cases wm
 case true =>
  clear rx;go_wp2_with fail
  refine(tZ w2 HT.o).mono ?_;exact za0
 have HW1:=Ag (HWM.o (by first | rfl | trivial));clear HWM;go_wp2_with fail
 generalize hW2:G5 _ _=W2;obtain⟨r1,hb,hz2⟩:=aI hW2;refine Zv ?_;clear HG HM HX HY HT;intro HG HM HX HY HT;refine Ya ?_;clear rx hB;intro rx hB;have HM1:=Ag (am0 (F:=(λ_=>True)) r1 HX.o HY.o (λ_=>trivial));clear hb hz2 hW2 r1;refine(agQ W2 (λ_=>True) _ [xr,yr] HM1.o 2 60 4 au au).mono ?_;rintro e w3 ⟨rfl,rfl⟩;have HWT:=Ag (λh:qp [xr,yr] 2 60 4=false=>ahu h);generalize qp [xr,yr] 2 60 4=wt at *;clear HM1;dsimp only;cases wt
 case true =>
  clear rx;go_wp2_with fail
  refine(tZ w3 HT.o).mono ?_;exact za0
 have HW2:=Ag (HWT.o (by first | rfl | trivial));clear HWT;have HLM:=Ag (show m.length<=100 by have:=HW1.o.1; omega);have HFM:=Ag (anK HW1.o.2.1 HW1.o.2.2 HUM.o);have HFX:=Ag (ahv HW2.o.1.1 HW2.o.1.2 HUX.o);have HFY:=Ag (ahv HW2.o.2.1 HW2.o.2.2 HUY.o);have HSX:=Ag (aeW HW2.o.1.1 HW2.o.1.2);have HSY:=Ag (aeW HW2.o.2.1 HW2.o.2.2);have HX4:=Ag HW2.o.1.2;have HY4:=Ag HW2.o.2.2;have H4:=Ag HW1.o.2.2;have HS1:=Ag (ai2 (pl:=pl) HS.o H4.o);have HS2:=Ag (ahw HS.o HX4.o HY4.o);have HS3:=Ag (ahx g xr yr pl);clear HW1 HW2 HUM HUX HUY;go_wp2_with fail
 refine(ac3 w3 (λ_=>True) _ xr HX.o HSX.o).mono ?_;rintro e w4 ⟨vHP,rfl,hb,hu⟩;refine Zv ?_;clear HG HM HX HY HT;intro HG HM HX HY HT;refine Ya ?_;clear rx hB;intro rx hB;have HP:=Ag (IX (G:=(λ_=>True)) hu (λ_ _ _=>trivial) (GZ _ _));obtain⟨AHP,cHP,rfl,-,-⟩:=hu;clear hb;dsimp only;go_wp2_with fail
 refine(ac3 w4 (λ_=>True) _ yr HY.o HSY.o).mono ?_;rintro e w5 ⟨vHQ,rfl,hb,hu⟩;refine Zv ?_;clear HG HM HX HY HT;intro HG HM HX HY HT;replace HP:=Ag (Iy HP.o (GL hb _));refine Ya ?_;clear rx hB;intro rx hB;have HQ:=Ag (IX (G:=(λ_=>True)) hu (λ_ _ _=>trivial) (GZ _ _));obtain⟨AHQ,cHQ,rfl,-,-⟩:=hu;clear hb;dsimp only;refine Zd ?_;intro x0 x1 x2;go_wp2_with fail
 clear x0 x1 x2;refine(adz w5 (λ_=>True) _ _ g m pl HG.o HS.o HM.o HT.o HLM.o HFM.o H4.o).mono ?_;rintro e w6 ⟨_,rfl,hb,tHA,rfl,hu⟩;refine Zv ?_;clear HG HM HX HY HT;intro HG HM HX HY HT;replace HP:=Ag (Iy HP.o (GL hb _));replace HQ:=Ag (Iy HQ.o (GL hb _));refine Ya ?_;clear rx hB;intro rx hB;have HA:=Ag (IX (G:=(λ_=>True)) hu (λ_ _ _=>trivial) (GZ _ _));obtain⟨AHA,cHA,rfl,-,-⟩:=hu;clear hb;dsimp only;refine Zd ?_;intro x0 x1 x2;go_wp2_with fail
 clear x0 x1 x2;refine(ak6 w6 (λ_=>True) _ _ g m pl HG.o HS.o HM.o HLM.o HFM.o H4.o).mono ?_;rintro e w7 ⟨_,rfl,hb,tHB2,rfl,hu⟩;refine Zv ?_;clear HG HM HX HY HT;intro HG HM HX HY HT;refine zbC ?_;clear HP HQ HA;intro HP HQ HA;refine Ya ?_;clear rx hB;intro rx hB;have HB2:=Ag (IX (G:=(λ_=>True)) hu (λ_ _ _=>trivial) (GZ _ _));obtain⟨AHB2,cHB2,rfl,-,-⟩:=hu;clear hb;dsimp only;refine Zd ?_;intro x0 x1 x2;go_wp2_with fail
 clear x0 x1 x2;refine(aho w7 (λ_=>True) (λ_=>True) (λ_=>True) _ _ _ g xr yr HG.o HS.o HP.o HQ.o HFX.o HFY.o HX4.o HY4.o HT.o).mono ?_;rintro e w8 ⟨_,rfl,hb,tHC,rfl,hu⟩;refine Zv ?_;clear HG HM HX HY HT;intro HG HM HX HY HT;refine zbC ?_;clear HP HQ HA;intro HP HQ HA;replace HB2:=Ag (Iy HB2.o (GL hb _));refine Ya ?_;clear rx hB;intro rx hB;have HC:=Ag (JK (G:=(λ_=>True)) hu (λ_ _ _=>trivial) (GZ _ _));obtain⟨AHC,cHC,rfl,-,-⟩:=hu;clear hb;dsimp only;refine Zd ?_;intro x0 x1 x2;go_wp2_with fail
 clear x0 x1 x2;refine(ai0 w8 (λ_=>True) (λ_=>True) (λ_=>True) _ _ _ g xr yr HG.o HS.o HX.o HY.o HFX.o HFY.o HX4.o HY4.o).mono ?_;rintro e w9 ⟨_,rfl,hb,tHD,rfl,hu⟩;refine Zv ?_;clear HG HM HX HY HT;intro HG HM HX HY HT;refine zbC ?_;clear HP HQ HA;intro HP HQ HA;replace HB2:=Ag (Iy HB2.o (GL hb _));replace HC:=Ag (Gt.on HC.o (GL hb _));refine Ya ?_;clear rx hB;intro rx hB;have HD:=Ag (JK (G:=(λ_=>True)) hu (λ_ _ _=>trivial) (GZ _ _));obtain⟨AHD,cHD,rfl,-,-⟩:=hu;clear hb;dsimp only;generalize gX g m pl=po at *;generalize kY g m pl=pe at *;generalize iY g xr yr=so at *;generalize oU g xr yr=se at *;refine Zd ?_;intro x0 x1 x2;go_wp2_with fail
 clear x0 x1 x2;refine(aeT w9 (λ_=>True) (λ_=>True) (λ_=>True) _ _ _ g xr yr pl HG.o HS.o H60.o HP.o HQ.o HFX.o HFY.o HX4.o HY4.o HT.o).mono ?_;rintro e wa ⟨_,rfl,hb,tHV,rfl,hu⟩;refine Ze ?_;clear HG HM HX HY HT HP HQ HA HB2 HC HD;intro HG HM HX HY HT HP HQ HA HB2 HC HD;refine Ya ?_;clear rx hB;intro rx hB;have HV:=Ag (Ak.keep (G:=(λ_=>True)) hu (λ_ _ _=>trivial) (GZ _ _));obtain⟨AHV,cHV,BHV,dHV,rfl,-⟩:=Ak.opened hu;clear hu;clear hb;dsimp only;go_upto_region 9 with(fail)
 generalize hWb:G5 _ _=Wb;obtain⟨rv,hb,hzWb⟩:=aI hWb;refine Ze ?_;clear HG HM HX HY HT HP HQ HA HB2 HC HD;intro HG HM HX HY HT HP HQ HA HB2 HC HD;replace HV:=Ag (Ak.on HV.o (GL hb _));refine Ya ?_;clear rx hB;intro rx hB;clear hb hzWb hWb;obtain⟨rvb,hrvb⟩:=Gp wa.heap.size;rw[<-hrvb] at rv ⊢;clear hrvb;refine Zd ?_;intro x0 x1 x2;go_wp2_with fail
 clear x0 x1 x2;refine(amQ Wb (λ_=>True) (λ_=>True) (λ_=>True) _ _ _ g xr yr pl HG.o HS.o H60.o HX.o HY.o HFX.o HFY.o HX4.o HY4.o).mono ?_;rintro e wc ⟨_,rfl,hb,tHW,rfl,hu⟩;refine Ze ?_;clear HG HM HX HY HT HP HQ HA HB2 HC HD;intro HG HM HX HY HT HP HQ HA HB2 HC HD;replace HV:=Ag (Ak.on HV.o (GL hb _));replace rx:=rx.below hb rx.lt;replace rv:=rv.below hb rv.lt;refine ZM ?_;clear hB;intro hB;have HW:=Ag (Ak.keep (G:=(λ_=>True)) hu (λ_ _ _=>trivial) (GZ _ _));obtain⟨AHW,cHW,BHW,dHW,rfl,-⟩:=Ak.opened hu;clear hu;clear hb;dsimp only;go_upto_region 10 with(fail)
 generalize hWd:G5 _ _=Wd;obtain⟨rw',hb,hzWd⟩:=aI hWd;refine Ze ?_;clear HG HM HX HY HT HP HQ HA HB2 HC HD;intro HG HM HX HY HT HP HQ HA HB2 HC HD;replace HV:=Ag (Ak.on HV.o (GL hb _));replace HW:=Ag (Ak.on HW.o (GL hb _));replace rx:=rx.below hb rx.lt;replace rv:=rv.below hb rv.lt;refine ZM ?_;clear hB;intro hB;clear hb hzWd hWd;obtain⟨rw'b,aob⟩:∃ x,x=wc.heap.size:=⟨_,rfl⟩;rw[<-aob] at rw' ⊢;clear aob;generalize lS g xr yr pl=vo at *;generalize qL g xr yr pl=ve at *;have v0:=rv.cell (i:=0) rfl;have v1:=rv.cell (i:=1) rfl;have v2:=rv.cell (i:=2) rfl;have u0:=rw'.cell (i:=0) rfl;have u1:=rw'.cell (i:=1) rfl;have u2:=rw'.cell (i:=2) rfl;clear rx rv rw';have hpe:(pe==pe)=true:=aA;have hse:(se==se)=true:=aA;have hve:(ve==ve)=true:=aA;go_wp2_with fail
 refine(kG Wd (λ_=>True) _ _ po po HA.o HB2.o HS1.o HS1.o).mono ?_;rintro e we ⟨_,rfl,hb,rfl⟩;refine Ze ?_;clear HG HM HX HY HT HP HQ HA HB2 HC HD;intro HG HM HX HY HT HP HQ HA HB2 HC HD;refine ZH ?_;clear HV HW hB v0 v1 v2 u0 u1 u2 hb;intro HV HW hB v0 v1 v2 u0 u1 u2;go_wp2_with fail
 refine(adW we (λ_=>True) _ _ so so HC.o HD.o HS2.o HS2.o).mono ?_;rintro e wf ⟨_,rfl,hb,rfl⟩;refine Ze ?_;clear HG HM HX HY HT HP HQ HA HB2 HC HD;intro HG HM HX HY HT HP HQ HA HB2 HC HD;refine ZH ?_;clear HV HW hB v0 v1 v2 u0 u1 u2 hb;intro HV HW hB v0 v1 v2 u0 u1 u2;go_wp2_with fail
 refine(tH wf (λ_=>True) _ _ vo vo HV.o HW.o HS3.o HS3.o).mono ?_;rintro e wg ⟨_,rfl,hb,rfl⟩;refine Ze ?_;clear HG HM HX HY HT HP HQ HA HB2 HC HD;intro HG HM HX HY HT HP HQ HA HB2 HC HD;refine ZH ?_;clear HV HW hB v0 v1 v2 u0 u1 u2 hb;intro HV HW hB v0 v1 v2 u0 u1 u2;go_wp2_with fail
 refine(kG wg (λ_=>True) _ _ xr xr HP.o HX.o HSX.o HSX.o).mono ?_;rintro e wh ⟨_,rfl,hb,rfl⟩;refine Ze ?_;clear HG HM HX HY HT HP HQ HA HB2 HC HD;intro HG HM HX HY HT HP HQ HA HB2 HC HD;refine ZH ?_;clear HV HW hB v0 v1 v2 u0 u1 u2 hb;intro HV HW hB v0 v1 v2 u0 u1 u2;go_wp2_with fail
 refine(kG wh (λ_=>True) _ _ yr yr HQ.o HY.o HSY.o HSY.o).mono ?_;rintro e wi ⟨_,rfl,hb,rfl⟩;refine Ze ?_;clear HG HM HX HY HT HP HQ HA HB2 HC HD;intro HG HM HX HY HT HP HQ HA HB2 HC HD;refine ZH ?_;clear HV HW hB v0 v1 v2 u0 u1 u2 hb;intro HV HW hB v0 v1 v2 u0 u1 u2;go_wp2_with fail
 refine(tZ wi HT.o).mono ?_;rintro e wj ⟨_,rfl,hb,rfl⟩;refine Ze ?_;clear HG HM HX HY HT HP HQ HA HB2 HC HD;intro HG HM HX HY HT HP HQ HA HB2 HC HD;replace HV:=Ag (Ak.on HV.o (GL hb _));replace HW:=Ag (Ak.on HW.o (GL hb _));refine YQ ?_;clear hB hb;intro hB;clear hpe hse hve v0 v1 v2 u0 u1 u2;go_wp2
 go_ret;exact⟨_,rfl,hB,rfl⟩
