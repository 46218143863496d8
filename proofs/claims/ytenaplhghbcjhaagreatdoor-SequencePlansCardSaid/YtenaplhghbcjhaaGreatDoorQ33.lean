import Derived.Test.YtenaplhghbcjhaaGreatDoorQ32
import Derived.Test.YtenaplhghbcjhaaGreatDoorQ30
set_option linter.all false
set_option maxRecDepth 100000
set_option maxHeartbeats 0
namespace Go.Proofs.YtenaplhghbcjhaaGreatDoor
open Go.RowKit.Below renaming refl->GR
open Below renaming same'->GL
open Go.IntKind renaming i64->GU
open Go renaming Value->GN,World->GK
open Go.Value renaming bool->G7,int->GV,slice->Gw
open Int renaming toNat_natCast->Ic
open List renaming getD_eq_getElem?_getD->GH,getElem?_map->GY,length_append->G9,length_map->Gz,map->Iq,map_append->Hf,mem_of_getElem?->Gx,take_of_length_le->G8
open Nat renaming le_refl->Gy,lt_of_lt_of_le->Hz,zero_le->Hg
open Same renaming refl->GZ
open Tryz renaming infoRat->JR
open Go.Proofs.Tryz renaming prog->GI,underlying27->KA,underlying28->JU
open Go.World renaming alloc->G5,block_lt_of_cell?->Hl,cell?_of_block->Hu
open Wrote renaming below->Ht,refl->Ir,setCell->KL
open Go.RowKit Go.Shelf
variable {F:Gq} {m:List (List Rat)} {b f k:Nat} {row:Option Nat} {acc:Rat} {t:TypeId}
theorem ag5 {up:List (Int×Int)} (hf:Dh up m) (hm:∀ l∈m,∀ x∈l,rl x<=4):∀ (k:Nat),k<=m.length->∀ s:Int×Int,(s.1 < 0\/s.1 < (k:Int))->rl (eH (jU up m k) s)<=1+4*k:=by
 intro k;induction k using Nat.strongRecOn with
 | _ k ih =>
   intro hk s hs;unfold eH;by_cases h0:s.1 < 0
   ·grind [pX]
   ·rw[LG h0,kL FI,aaH];obtain⟨t,ht⟩:=Gl (l:=up) (k:=s.1.toNat) (by rw[hf.len]; omega);have htd:up.getD s.1.toNat (-1,-1)=t:=by rw[GH,ht];rfl
    rw[htd];have h1:=ih s.1.toNat FI FI t (by have:=hf.ok _ _ ht; omega);have h2:=jQ (eH (jU up m s.1.toNat) t) ((m.getD s.1.toNat []).getD s.2.toNat 0);have h3:rl ((m.getD s.1.toNat []).getD s.2.toNat 0)<=4:=by
      rw[GH];cases e:(m.getD s.1.toNat [])[s.2.toNat]? with
      | none=>show rl 0<=4; rw[lK]; omega
      | some x =>
        refine hm (m.getD s.1.toNat []) ?_ x (Gx e);grind
    omega
section
variable {F:Gq} {w W wr w':GK} {vu vm:GN} {bo ob n B1 B2 fb:Nat} {vs:List GN} {ls:List (List Raw)} {u v:GN} {L:List RV} {x:Rat} {A B:Option Addr} {c d:Nat}
theorem DoneRows.kept {F:Gq} (h:DoneRows wr F vs ls) (hg:wr.grownBy w' row) (hr:∀ r,row=some r->∃ o:Obj,wr.heap[r]? = some o/\o.isCells=false):DoneRows w' F vs ls :=
 ⟨h.1,λi v l hv hl=>(h.2 i v l hv hl).kept hg hr⟩
theorem Gt.kept (h:Gt wr F v ls) (hg:wr.grownBy w' row) (hr:∀ r,row=some r->∃ o:Obj,wr.heap[r]? = some o/\o.isCells=false):Gt w' F v ls:=by
 obtain⟨A,c,rfl,hc,hx⟩:=h;refine⟨A,c,rfl,hc,λh0=>?_⟩;obtain⟨b,o,rfl,hF,hb,hx⟩:=hx h0;refine⟨b,o,rfl,hF,Hz hb hg.size,λk x hk=>?_⟩;obtain⟨u,hu,h⟩:=hx k x hk;exact⟨u,cell_kept hu hg hr,h.kept hg hr⟩
end
def Fact.box (B:Nat) (t:TypeId) (cs:List GN):Fact:=⟨λv w=>∃ b,v = .pointer (some ⟨b,0,none⟩)/\B<=b/\Row w b t cs,λ_ _ _ ⟨b,e,h,r⟩ hb=>⟨b,e,h,r.below hb r.lt⟩⟩
theorem ajp {w:GK} {z0 z1 z2:GN} (h:Row w b t [z0,z1,z2]) (a0 a1 a2:GN):∃ W,W=((w.setCell ⟨b,0,none⟩ a0).setCell ⟨b,1,none⟩ a1).setCell ⟨b,2,none⟩ a2/\Row W b t [a0,a1,a2]/\Wrote (λk=>k=b) w W:=by
 refine⟨_,rfl,((h.set 0 a0).set 1 a1).set 2 a2,?_⟩;grind [Ir,KL]
theorem Aj.xR {w:GK} {v:GN} {l:List Nat} {fb:Nat} {b0:Bool} {a1 a2:Option Addr} {n1 n2 c1 c2:Nat} (h:Aj w F v l) (hr:Row w fb t [G7 b0,Gw a1 n1 c1,Gw a2 n2 c2]):Aj w (λb=>F b/\b≠fb) v l:=by
 obtain⟨A,c,rfl,hc,hx⟩:=h;refine⟨A,c,rfl,hc,λh0=>?_⟩;obtain⟨b,o,rfl,hF,hb,hx⟩:=hx h0;refine⟨b,o,rfl,⟨hF,?_⟩,hb,hx⟩;rintro rfl;obtain⟨y,hy⟩:=Gl (l:=l) (k:=0) h0;have h1:=hx 0 y hy;have hr':w.heap[b]? = some (.cells #[G7 b0,Gw a1 n1 c1,Gw a2 n2 c2] t):=hr;rcases o with _ | _ | _ | o <;> simp[World.cell?,hr',bY] at h1
open List renaming getElem_toArray → lq1, getElem_cons_zero → lq2, getElem_cons_succ → lq3, setIfInBounds_toArray → lq4, set_cons_zero → lq5, set_cons_succ → lq6
open Go.RowKit
theorem aiF {up:List (Int×Int)} {s:Int×Int} (h:s.1 < 0):qc up m f s acc=acc:=by
 cases f with
 | zero=>rfl
 | succ f=>grind [qc]
theorem ag6 {up:List (Int×Int)} {s:Int×Int} (h:¬ s.1 < 0):qc up m (f+1) s acc=qc up m f (up.getD s.1.toNat (-1,-1)) (acc*(m.getD s.1.toNat []).getD s.2.toNat 0):=by grind [qc]
def seqM (v:GN) (w:GK):Nat:=match v with
 | .pointer (some a)=>(match w.cell? a with | some (.int _ x)=>(x+1).toNat | _=>0)
 | _=>0
theorem ajq {w:GK} {x:Int} (h:w.cell? ⟨b,0,none⟩=some (GV GU x)):seqM (.pointer (some ⟨b,0,none⟩)) w=(x+1).toNat:=by
 show(match w.cell? ⟨b,0,none⟩ with | some (.int _ x)=>(x+1).toNat | _=>0)=_;rw[h]
theorem akI {up:List (Int×Int)} (h:k < m.length):(ofL up m)[k]? = some (ofRow up m k):=by grind [ofL]
structure FN (F:Gq) (w wa W3:GK) (up:List (Int×Int)) (m:List (List Rat)) (n ub:Nat) (target:Rat) (f:Nat) (s:Int×Int) (acc:Rat) (qb:Nat) (A:Option Addr) (c:Nat) (B:Option Addr) (d:Nat) (wr:GK):Prop where
 lt:ub < qb
 anG:Row wr qb 71 [GV GU s.1,GV GU s.2]
 uy:Row wr ub 42 [G7 (ak acc).neg,Gw A (ak acc).num.length c,Gw B (ak acc).den.length d]
 fine:(⟨ak acc,Gw A (ak acc).num.length c,Gw B (ak acc).den.length d⟩:RV).fine wr (λb=>(Old F w.heap.size b\/wa.heap.size<=b)/\b≠ub)
 prod:qc up m f s acc=target
 ok:s.1 < 0\/(0<=s.1/\s.1 < (f:Int)/\s.1 < (n:Int)/\0<=s.2/\s.2 < ((m.getD s.1.toNat []).length:Int))
 len:rl acc<=1+4*(n+1 - f)
 fl:f<=n+1
 bel:Below ub W3 wr
theorem Ak.uz {w:GK} {r:Raw} {vn vd:GN} (h:Ak w F (.agg #[G7 r.neg,vn,vd]) r):(⟨r,vn,vd⟩:RV).fine w F:=by
 obtain⟨vn',vd',e,h1,h2⟩:=h;simp only[Value.agg.injEq,Array.mk.injEq,List.cons.injEq,and_true,true_and] at e;obtain⟨rfl,rfl⟩:=e;exact⟨h1,h2⟩
theorem AA.at2 {w:GK} {o n c:Nat} {l:List (Int×Int)} (h:AA w F (Gw (some ⟨b,o,none⟩) n c) l) {s:Int×Int} (hk:l[k]? = some s):w.cell? ⟨b,o+k*2,none⟩=some (GV GU s.1)/\w.cell? ⟨b,o+k*2+1,none⟩=some (GV GU s.2):=by
 obtain⟨A,c',e,_,hx⟩:=h;obtain⟨b',o',hA,_,_,hc⟩:=hx (by have:=Gn hk; omega);simp only[Value.slice.injEq] at e;obtain⟨e1,_,_⟩:=e;rw[hA] at e1;cases e1;exact hc k s hk
theorem apb {w:GK} {z0 z1:GN} (h:Row w b t [z0,z1]) (a0 a1:GN):∃ W,W=(w.setCell ⟨b,0,none⟩ a0).setCell ⟨b,1,none⟩ a1/\Row W b t [a0,a1]/\Wrote (λk=>k=b) w W:=by
 refine⟨_,rfl,(h.set 0 a0).set 1 a1,?_⟩;grind [Ir,KL]
theorem aml {w:GK} {z0 z1 z2:GN} (h:Row w b 42 [z0,z1,z2]) (a0 a1 a2:GN):∃ W,W=((w.setCell ⟨b,0,none⟩ a0).setCell ⟨b,1,none⟩ a1).setCell ⟨b,2,none⟩ a2/\Row W b 42 [a0,a1,a2]/\Wrote (λk=>k=b) w W:=ajp h a0 a1 a2
theorem anH (w:GK) (F:Gq) (vg vu vm:GN) (g:Gm) (up:List (Int×Int)) (m:List (List Rat)) (hg:AB w F vg g) (hu:AA w F vu up) (hm:Ba w F vm m) (hf:Dh up m) (hrl:∀ l∈m,∀ x∈l,rl x<=4) (hml:m.length<=100) (hll:∀ l∈m,l.length<=1000) :
  Calls GI 62 #[vg,vu,vm] w (Ret w λu w'=>Ba w' (Ext F w.heap.size) u (ofL up m)):=by
 have HU:=Ag hu;have HM:=Ag hm;have HF:=Ag hf;have HRL:=Ag hrl;have HLL:=Ag hll;obtain⟨vn,vi,rfl,⟨A,c,rfl,-,-⟩,⟨Ai,ci,rfl,-,-⟩⟩:=hg;obtain⟨n,hn⟩:=Gp m.length;obtain⟨Au,cu,e⟩:=hu.open;rw[show up.length=n by rw[hf.len,hn]] at e;subst e;obtain⟨Am,cm,e,-,-⟩:=hm;rw[Gz,<-hn] at e;subst e;have HN:=Ag hn;have HUN:=Ag (show up.length=n by rw[hf.len,hn]);have hn100:n<=100:=FI;clear hf hrl hll hu hml hn;go_in
 go_upto_region 1 with(fail)
 generalize hW:G5 _ _=W;obtain⟨rx,hB,hz⟩:=aI hW;have HB:=Ag hB;have hWz:=hB.size;clear hW hz rx hB;go_wp2_with fail
 go_loopw [7,8] (λov iv wr=>∃ (k:Nat) (L:List (GN×List Raw)),k<=n/\iv = GV GU (k:Int)/\L.length=k/\L.map Prod.snd=((ofL up m).take k).map (Iq ak)/\OwnSl rG wr W.heap.size 28 (Ext F w.heap.size) ov L/\Below W.heap.size W wr) (λ_ iv _=>n - (intOf iv).toNat)
 case atStart=>exact⟨0,[],FI,rfl,rfl,rfl,OwnSl.nil _ _ _ _ _,GR _ _⟩
 case round =>
  obtain⟨k,L,hk,rfl,hLl,hLm,hown,hbel⟩:=hrel;obtain⟨wa,rfl⟩:=Gp wr;have Ej:=Ag hLl;have HLM:=Ag hLm;have HO:=Ag hown;have hbz:=hbel.size;clear hLl hLm hown;by_cases hlt:k < n
  ·obtain⟨s,hs⟩:=Gl (l:=up) (k:=k) (by rw[HUN.o]; exact hlt);obtain⟨row,hrow⟩:=Gl (l:=m) (k:=k) (by rw[<-HN.o]; exact hlt);have HSU:=Ag hs;have AV:=Ag hrow;have hsok:=HF.o.ok k s hs;clear hs hrow;go_wp2_with fail
   refine(dZ wa 1 au au).mono ?_;rintro e w2 ⟨u1,rfl,hb,hu⟩;obtain⟨one,hone⟩:∃ y:Rat,y=((1:Int):Rat):=⟨_,rfl⟩;rw[<-hone] at hu;have Bh:=Ag (show one=1 by rw[hone]; rfl);obtain⟨A1,c1,B1,d1,rfl,hf1⟩:=Ak.opened hu;have hb2:=hb;clear hu hone hb;dsimp only;go_upto_region 6 with(fail)
   generalize hW3:G5 _ _=W3;obtain⟨r3,hb,hz3⟩:=aI hW3;obtain⟨ub,hub⟩:=Gp w2.heap.size;have hf3:RV.fine W3 (λb=>(Old F w.heap.size b\/wa.heap.size<=b)/\b≠ub) ⟨ak one,Gw A1 (ak one).num.length c1,Gw B1 (ak one).den.length d1⟩:=RV.fine.keep hf1 (λb hb hl=>⟨.inr hb,FI⟩) (GL hb _);rw[<-hub] at r3 ⊢;have hb3:=hb2.trans (hb.mono hb2.size);have aoB:wa.heap.size<=ub:=by have:=hb2.size;omega
   have hub3:ub < W3.heap.size:=FI;clear hf1 hb2 hb hz3 hub hW3;obtain⟨target,htg⟩:=Gp (qc up m (n+1) s 1);have HTG:=Ag htg;have hB3:=HB.o.trans ((hbel.trans (hb3.mono hbz)).mono hWz);have hui:=HU.o.on (GL hB3 F);obtain⟨A',c',e,_,hxu⟩:=hui;injection e with e1 e2 e3
   subst e1;obtain⟨pb,po,rfl,_,_,hcu⟩:=hxu (by rw[HUN.o]; omega);obtain⟨p0,p1⟩:=hcu k s HSU.o;have hsd:up.getD k (-1,-1)=s:=by rw[GH,HSU.o];rfl
   have HSD:=Ag hsd;obtain⟨s1,s2⟩:=s;dsimp only at p0 p1;clear e2 e3 hxu hcu htg hsd;go_upto_region 7 with(fail)
   generalize hW4:G5 _ _=W4;obtain⟨r4,hb,hz4⟩:=aI hW4;obtain⟨qb,hqb⟩:=Gp W3.heap.size;have hst:FN F w wa W3 up m n ub target (n+1) (s1,s2) one qb A1 c1 B1 d1 W4:=⟨FI,by rw[hqb]; exact r4,r3.below hb r3.lt,RV.fine.below hf3 hb,by rw[HTG.o,Bh.o],by
    rcases hsok with h | ⟨h1,h2,h3,h4⟩
    ·exact .inl h
    ·exact .inr ⟨h1,FI,FI,h3,h4⟩,by rw[Bh.o,pX]; omega,Gy _,hb.mono FI⟩
   rw[<-hqb];have HST:=Ag hst;clear hst hb hz4 hqb hW4 r4 r3 hf3 p0 p1 hsok;go_loopw [10] (λpv wr=>∃ (f:Nat) (s':Int×Int) (acc:Rat) (qb:Nat) (A:Option Addr) (c:Nat) (B:Option Addr) (d:Nat),pv = .pointer (some ⟨qb,0,none⟩)/\FN F w wa W3 up m n ub target f s' acc qb A c B d wr) (λpv wr=>seqM pv wr)
   case atStart=>exact⟨_,_,_,_,_,_,_,_,rfl,HST.o⟩
   case round =>
    clear HST;obtain⟨f,⟨s1',s2'⟩,acc,qb',A2,c2,B2,d2,rfl,hst⟩:=hrel;obtain⟨wb,rfl⟩:=Gp wr;have HST:=Ag hst;have q0:=hst.anG.cell (i:=0) rfl;have q1:=hst.anG.cell (i:=1) rfl;clear hst;by_cases h0:s1' < 0
    ·have d0:decide (0<=s1')=false:=LJ FI;have HPR:=Ag (show acc=target by rw[<-HST.o.prod]; exact(aiF h0).symm);clear h0;have HUB:=Ag HST.o.uy;have HFV:=Ag (show RtV wb (λb=>(Old F w.heap.size b\/wa.heap.size<=b)/\b≠ub) (.agg #[G7 (ak acc).neg,Gw A2 (ak acc).num.length c2,Gw B2 (ak acc).den.length d2]) acc from Ak.make rfl HST.o.fine.1 HST.o.fine.2);have HLEN:=Ag (show rl acc<=20000 by have:=HST.o.len; omega);have hBu:=HST.o.bel;have adf:=hb3.trans (hBu.mono aoB);have mF:=HST.o.uy.lt;have HTGT:=Ag (show ofRow up m k=row.map λx=>acc*x by unfold ofRow; rw[HSD.o,<-HN.o,<-HTG.o,<-HPR.o,GH,AV.o]; rfl);have aiG:=adf.size;have hr1000:=HLL.o row (Gx AV.o);clear HST;go_wp2_with fail
     clear q0 q1 d0;go_loopw [11,12] (λlv iv wr=>∃ (j:Nat) (L2:List RV),j<=row.length/\iv = GV GU (j:Int)/\L2.length=j/\L2.map RV.r=((ofRow up m k).take j).map ak/\OwnSl ratK wr wb.heap.size 42 (λb=>Old F w.heap.size b\/wa.heap.size<=b) lv L2/\Below wb.heap.size wb wr) (λ_ iv _=>row.length - (intOf iv).toNat)
     case atStart=>exact⟨0,[],Hg _,rfl,rfl,rfl,OwnSl.nil _ _ _ _ _,GR _ _⟩
     case round =>
      obtain⟨j,L2,hj,rfl,hLl,hLm,hown,kZ⟩:=hrel;obtain⟨wd,rfl⟩:=Gp wr;have Ed:=Ag hLl;have EO:=Ag hLm;have HO3:=Ag hown;have CQ:=Ag (λb (e:u11.ownBlock=some b)=>HO3.o.row.lt b e);have hBd:=(hB3.trans (hBu.mono (show w.heap.size<=ub by omega))).trans (kZ.mono FI);have hdz:=kZ.size;obtain⟨A',c',e,_,hxm⟩:=HM.o;rw[Gz,<-HN.o] at e;injection e with e1 e2 e3
      subst e1;obtain⟨mb,mo,rfl,_,uq,hcm⟩:=hxm (by rw[Gz,<-HN.o]; omega);obtain⟨vr,hvr,hra⟩:=hcm k (row.map ak) (by rw[GY,AV.o]; rfl);refine zbk ?_;clear hvr;intro hvr oN;obtain⟨Ar,cr,rfl,-,-⟩:=hra;rw[Gz] at hvr;rw[Gz] at oN;have HRV:=Ag oN;have m1:=(hBd.cell (p:=⟨mb,mo+k,none⟩) uq).trans hvr;clear hLl hLm hown e2 e3 hxm hcm hvr oN;by_cases hjt:j < row.length
      ·obtain⟨x,hx⟩:=Gl hjt;refine zdG ?_;intro HXL;obtain⟨rb,ro,rc,vn,vd,e,ad2,afF,y0,y1,y2,hn,hd⟩:=Gs.at (HRV.o.on (GL hBd _)) (show(row.map ak)[j]? = some (ak x) by rw[GY,hx]; rfl);injection e with e1 e2 e3
       subst e1;have HXV:=Ag (Ak.mono (Ak.make (r:=ak x) rfl hn hd) (G:=λb=>(Old F w.heap.size b\/wa.heap.size<=b)/\b < wb.heap.size) (λb hb _=>⟨.inl hb,by have:=hb.2; omega⟩));obtain⟨An,cn,rfl,-,-⟩:=hn;obtain⟨Ad,cd,rfl,-,-⟩:=hd;have hrbw:=ad2.2;have afG:=HUB.o.below kZ mF;have u0:=afG.cell (i:=0) rfl;have u1:=afG.cell (i:=1) rfl;have u2:=afG.cell (i:=2) rfl;have HAV:=Ag (Ak.keep (G:=λb=>(Old F w.heap.size b\/wa.heap.size<=b)/\b < wb.heap.size) HFV.o (λb hb hl=>⟨hb.1,hl⟩) (GL kZ _));have HOE:=Ag (show(ofRow up m k)[j]? = some (acc*x) by rw[HTGT.o,GY,hx]; rfl);have hjr:(j:Int) < row.length:=FI;have hBe:=GR wd.heap.size wd;clear e2 e3 hx afG ad2 afF;go_wp2_with fail
       refine ZU ?_;intro hHeld hb;clear u0 u1 u2 m1 y0 y1 y2 HXV;intro u0 u1 u2 m1 y0 y1 y2 HXV;replace HAV:=Ag (Ak.below HAV.o hb);replace HO3:=Ag (HO3.o.below hb);replace hBe:=hBe.trans (hb.mono hBe.size);clear hb;generalize wd.drew=wn at *;refine tkm [0,1,2,3,4,5,6,7,8] ?_;refine tk2 9 aj rfl λK hK=>?_
       go_simp;refine(mY wn _ _ _ acc x HAV.o HXV.o HLEN.o (by have:=HXL.o; omega)).mono ?_;rintro e wn ⟨vp,rfl,hb,hu⟩;obtain⟨pr,hpr⟩:=Gp (acc*x);rw[<-hpr] at hu HOE;have hez:=hBe.size;obtain⟨A4,c4,B4,d4,rfl,hf4⟩:=hu.opened;have HF4:=Ag (RV.fine.keep (G:=λb=>(Old F w.heap.size b\/wa.heap.size<=b)/\(b < wb.heap.size\/wd.heap.size<=b)) hf4 (λb hb _=>hb.elim (λh=>⟨h.1,.inl h.2⟩) λh=>⟨.inr FI,.inr FI⟩) (GZ _ _));clear hu hpr hf4;refine ZQ ?_;clear u0 u1 u2 m1 y0 y1 y2 HXV;intro u0 u1 u2 m1 y0 y1 y2 HXV;replace HAV:=Ag (Ak.below HAV.o hb);replace HO3:=Ag (HO3.o.below hb);replace hBe:=hBe.trans (hb.mono hBe.size);clear hb;refine zdH ?_;clear hHeld;intro hHeld;clear hK K;refine zcf ?_;intro K hK;go_simp;refine YO ?_;clear hK K;intro hHeld K hK;have hez:=hBe.size;refine mQ (K:=ratK) (F:=λb=>Old F w.heap.size b\/wa.heap.size<=b) rfl _ _ 28 42 56 _ JU JR rfl au rfl wb.heap.size (by omega:wb.heap.size<=wn.heap.size) u11 L2 rfl ⟨ak pr,Gw A4 (ak pr).num.length c4,Gw B4 (ak pr).den.length d4⟩ _ rfl (by have:=Ed.o; omega) rfl HO3.o (RV.fine.keep HF4.o (λb hb _=>⟨hb.1,λe=>by have:=CQ.o b e; omega⟩) (GZ _ _)) (GR _ _) ?_;intro gg cap w5 hown5 oh adX jr;have HO5:=Ag hown5;have HB5:=Ag ((kZ.trans (hBe.mono hdz)).trans oh);have u05:=(Hu (jr.2 ub (λe=>by have:=CQ.o ub e; omega) (Hl _ _ u0))).trans u0;have u15:=(Hu (jr.2 ub (λe=>by have:=CQ.o ub e; omega) (Hl _ _ u1))).trans u1;have u25:=(Hu (jr.2 ub (λe=>by have:=CQ.o ub e; omega) (Hl _ _ u2))).trans u2;have m15:=(Hu (jr.2 mb (λe=>by have:=CQ.o mb e; omega) (Hl _ _ m1))).trans m1;have y05:=(Hu (jr.2 rb (λe=>by have:=CQ.o rb e; omega) (Hl _ _ y0))).trans y0;have y15:=(Hu (jr.2 rb (λe=>by have:=CQ.o rb e; omega) (Hl _ _ y1))).trans y1;have y25:=(Hu (jr.2 rb (λe=>by have:=CQ.o rb e; omega) (Hl _ _ y2))).trans y2;clear hown5 oh adX jr hBe hez HO3 u0 u1 u2 m1 y0 y1 y2;refine hK.out _ _ ⟨u05,u15,u25,m15,y05,y15,y25⟩ (λhHeld=>?_);clear hK K;refine Zb ?_;refine tkm [12] ?_;refine Z8 ?_;clear hHeld u05 u15 u25 m15 y05 y15 y25;show Exit.inBlock _ _ .normal _ _;go_wp2
       go_roundw
       case rel=>exact⟨j+1,L2 ++ [⟨ak pr,Gw A4 (ak pr).num.length c4,Gw B4 (ak pr).den.length d4⟩],FI,by go_num,by rw[G9,Ed.o]; rfl,by rw[Hf,EO.o,Gv HOE.o,Hf]; rfl,HO5.o,HB5.o⟩
       case measure=>exact zMs
      ·have hje:j=row.length:=FI;subst hje;have hol:(ofRow up m k).length=row.length:=by rw[HTGT.o,Gz]
       have hHO:=HO.o.below (adf.trans (kZ.mono aiG));have hrw:=HO3.o.raws (G:=Apart (Ext F w.heap.size) u7) (λb hb=>hb.elim (λh=>⟨.inl h.1,λe=>by have:=(HO.o.row.lt b e).1; have:=h.2; omega⟩) λh=>⟨.inr FI,λe=>by have:=(HO.o.row.lt b e).2; omega⟩) (λb hb=>⟨.inr FI,λe=>by have:=(HO.o.row.lt b e).2; omega⟩);rw[EO.o,G8 FI] at hrw;obtain⟨Az,cz,e,-,-⟩:=(show Gs _ _ _ _ from hrw);rw[Gz,hol] at e;subst e;have HRW:=Ag hrw;have HOO:=Ag hHO;have hbw:=hbel.trans ((adf.trans (kZ.mono aiG)).mono hbz);have HOFK:=Ag (akI (up:=up) (m:=m) (k:=k) (by rw[<-HN.o]; exact hlt));clear hrw hHO hol kZ hBd adf hBu;go_wp2_with (at_builtin; refine je (K:=rG) (F:=Ext F w.heap.size) rfl _ _ 27 28 24 _ KA Tryz.infoRats rfl au rfl W.heap.size (Gy _) u7 L rfl (Gw Az row.length cz,(ofRow up m k).map ak) _ rfl (by have:=Ej.o; omega) rfl HOO.o HRW.o hbw ?_; intro g' cap w' hown' bG hlt' _; have HO':=Ag hown'; clear hown')
       go_roundw
       case rel=>exact⟨k+1,_,FI,by go_num,by rw[G9,Ej.o]; rfl,by rw[Hf,Gv HOFK.o,Hf,HLM.o]; rfl,HO'.o,bG⟩
       case measure=>exact zMs
    ·obtain⟨h1,h2,h3,h4,h5⟩:=HST.o.ok.resolve_left h0;dsimp only at h1 h2 h3 h4 h5;obtain⟨i,hi⟩:∃ i:Nat,s1'=(i:Int):=⟨s1'.toNat,FI⟩;obtain⟨j,hj⟩:∃ j:Nat,s2'=(j:Int):=⟨s2'.toNat,FI⟩;subst hi;subst hj;rw[Ic] at h5;obtain⟨aiH,ajr⟩:=Gl (l:=m) (k:=i) (by rw[<-HN.o]; omega);have hmd:m.getD i []=aiH:=by rw[GH,ajr];rfl
     rw[hmd] at h5;obtain⟨x,hx⟩:=Gl (l:=aiH) (k:=j) FI;have HXL:=Ag (HRL.o aiH (Gx ajr) x (Gx hx));have HXD:=Ag (show(m.getD i []).getD j 0=x by rw[hmd,GH,hx]; rfl);have hBw:=hB3.trans (HST.o.bel.mono (show w.heap.size<=ub by omega));obtain⟨A',c',e,_,hxm⟩:=HM.o;rw[Gz,<-HN.o] at e;injection e with e1 e2 e3
     subst e1;obtain⟨mb,mo,rfl,_,uq,hcm⟩:=hxm (by rw[Gz,<-HN.o]; omega);obtain⟨vr,hvr,hra⟩:=hcm i (aiH.map ak) (by rw[GY,ajr]; rfl);refine zbk ?_;clear hvr;intro hvr oN;obtain⟨rb,ro,rc,vn,vd,e,ad2,afF,y0,y1,y2,hn,hd⟩:=Gs.at (oN.on (GL hBw _)) (show(aiH.map ak)[j]? = some (ak x) by rw[GY,hx]; rfl);subst e;rw[Gz] at hvr;have m1:=(hBw.cell (p:=⟨mb,mo+i,none⟩) uq).trans hvr;refine zc0 ?_;intro HXV;obtain⟨An,cn,rfl,-,-⟩:=hn;obtain⟨Ad,cd,rfl,-,-⟩:=hd;refine zcv ?_;intro u0 u1 u2 HUB;have HQB:=Ag HST.o.anG;refine Yz ?_;intro HAV;have HLEN:=Ag HST.o.len;have HFL:=Ag HST.o.fl;have EP:=Ag HST.o.prod;have hqlt:=HST.o.lt;have hBn:=HST.o.bel;have d0:decide (0<=(i:Int))=true:=LK FI;have hin:(i:Int) < n:=FI;have hjr:(j:Int) < aiH.length:=FI;have mF:=HST.o.uy.lt;have HQ0:=Ag q0;clear HST e2 e3 hxm hcm hvr hra oN ajr hmd hx hBw h0;go_wp2_with fail
     refine aP (λw'=>w'.cell? ⟨ub,0,none⟩=some (G7 (ak acc).neg)/\w'.cell? ⟨ub,1,none⟩=some (Gw A2 (ak acc).num.length c2)/\w'.cell? ⟨ub,2,none⟩=some (Gw B2 (ak acc).den.length d2)/\w'.cell? ⟨qb',0,none⟩=some (GV GU (i:Int))/\w'.cell? ⟨qb',1,none⟩=some (GV GU (j:Int))/\w'.cell? ⟨mb,mo+i,none⟩=some (Gw (some ⟨rb,ro,none⟩) aiH.length rc)/\w'.cell? ⟨rb,ro+j*3,none⟩=some (G7 (ak x).neg)/\w'.cell? ⟨rb,ro+j*3+1,none⟩=some (Gw An (ak x).num.length cn)/\w'.cell? ⟨rb,ro+j*3+2,none⟩=some (Gw Ad (ak x).den.length cd)) 11 1 aj rfl aj ⟨u0,u1,u2,q0,q1,m1,y0,y1,y2⟩ λhHeld=>?_
     refine Zo ?_;refine zaT ?_;intro hb;replace u0:=ah u0 hb;replace u1:=ah u1 hb;replace u2:=ah u2 hb;replace q0:=ah q0 hb;replace q1:=ah q1 hb;replace m1:=ah m1 hb;replace y0:=ah y0 hb;replace y1:=ah y1 hb;replace y2:=ah y2 hb;replace HXV:=Ag (Ak.below HXV.o hb);replace HAV:=Ag (Ak.below HAV.o hb);replace HUB:=Ag (HUB.o.below hb HUB.o.lt);replace HQB:=Ag (HQB.o.below hb HQB.o.lt);replace hBn:=hBn.trans (hb.mono FI);replace mF:=Hz mF hb.size;clear hb;generalize wb.drew=wn at *;refine tkm [0,1,2,3,4,5,6,7,8,9] ?_;refine tk2 10 aj rfl λK hK=>?_
     go_simp;refine(mY wn (λb=>(Old F w.heap.size b\/wa.heap.size<=b)/\b≠ub) _ _ acc x HAV.o HXV.o (by have:=HLEN.o; omega) (by have:=HXL.o; omega)).mono ?_;rintro e wn ⟨vp,rfl,hb,hu⟩;obtain⟨pr,hpr⟩:=Gp (acc*x);rw[<-hpr] at hu;refine zdI ?_;intro HPV;have HPR:=Ag hpr;obtain⟨A4,c4,B4,d4,rfl,-⟩:=hu.opened;clear hu hpr;replace u0:=ah u0 hb;replace u1:=ah u1 hb;replace u2:=ah u2 hb;replace q0:=ah q0 hb;replace q1:=ah q1 hb;replace m1:=ah m1 hb;replace y0:=ah y0 hb;replace y1:=ah y1 hb;replace y2:=ah y2 hb;replace HXV:=Ag (Ak.below HXV.o hb);replace HAV:=Ag (Ak.below HAV.o hb);replace HUB:=Ag (HUB.o.below hb HUB.o.lt);replace HQB:=Ag (HQB.o.below hb HQB.o.lt);replace hBn:=hBn.trans (hb.mono FI);replace mF:=Hz mF hb.size;clear hb;dsimp only;clear hHeld;refine hK.out _ _ ⟨u0,u1,u2,q0,q1,m1,y0,y1,y2⟩ (λhHeld=>?_);refine zal ?_;clear hK K hHeld;intro f0 f1 f2 Wz hWz hrz hwz HWZ;have HQZ:=Ag (HQB.o.wrote hwz FI);have HPZ:=Ag (Ak.on HPV.o (hwz.same λb hb=>hb.2));have hBz:=Ht hBn hwz (λb hb=>by omega) FI;clear hWz hwz HPV HQB;go_wp2
     refine zbP ?_;have q0:=HQZ.o.cell (i:=0) rfl;have q1:=HQZ.o.cell (i:=1) rfl;clear f0 f1 f2 u0 u1 u2 m1 y0 y1 y2 HWZ HXV HAV HUB;go_upto_region 8 with(fail)
     generalize hWy:G5 _ _=Wy;obtain⟨ry,hb,hzy⟩:=aI hWy;obtain⟨nb,hnb⟩:=Gp Wz.heap.size;have hBy:=hBz.trans (hb.mono (by have:=HQZ.o.lt; omega));have HUY:=Ag (hrz.below hb hrz.lt);have HPY:=Ag (Ak.keep (G:=λb=>((Old F w.heap.size b\/wa.heap.size<=b)/\b≠ub)/\b≠nb) HPZ.o (λb h hl=>⟨h,FI⟩) (GL hb _));have hzl:=hrz.lt;rw[<-hnb] at ry ⊢;have aoC:ub < nb:=FI;clear hb hzy hWy hnb q0 q1 hzl hrz HPZ;obtain⟨⟨t1,t2⟩,ht⟩:=Gl (l:=up) (k:=i) (by rw[HUN.o]; omega);have htok:=HF.o.ok i (t1,t2) ht;have HTD:=Ag (show up.getD i (-1,-1)=(t1,t2) by rw[GH,ht]; rfl);have hBw:=hB3.trans (hBy.mono (show w.heap.size<=ub by omega));obtain⟨p0,p1⟩:=AA.at2 (HU.o.on (GL hBw F)) ht;dsimp only at p0 p1 htok;have n0:=ry.cell (i:=0) rfl;have n1:=ry.cell (i:=1) rfl;have f0:=ry.frozen 0;have f1:=ry.frozen 1;obtain⟨Wx,hWx,rn,hwx⟩:=apb ry (GV GU t1) (GV GU t2);have HWX:=Ag hWx;have hst2:FN F w wa W3 up m n ub target (f - 1) (t1,t2) pr nb A4 c4 B4 d4 Wx:=by
      have hfl:=HFL.o;have hlen:=HLEN.o;have hxl:=HXL.o;refine⟨aoC,rn,HUY.o.wrote hwx FI,Ak.uz (Ak.keep HPY.o (λb h _=>h.1) (hwx.same λb hb e=>hb.2 e)),?_,?_,?_,FI,Ht hBy hwx (λb hb=>by omega) (by have:=ry.lt; omega)⟩
      ·have hp:=EP.o;rw[show f=(f - 1)+1 by omega,ag6 (by dsimp only; omega)] at hp;dsimp only at hp;rw[Ic,Ic,HTD.o,HXD.o,<-HPR.o] at hp;exact hp
      ·rcases htok with h | ⟨g1,g2,g3,g4⟩
       ·exact .inl h
       ·exact .inr ⟨g1,by dsimp only; omega,by dsimp only; omega,g3,g4⟩
      ·rw[HPR.o];have:=jQ acc x;omega
     have Cm:=Ag hst2;have hms:(t1+1).toNat < ((i:Int)+1).toNat:=by rcases htok with h | ⟨g1,g2,g3,g4⟩ <;> omega
     have HMS:=Ag hms;clear hWx ht hBw hst2 hms htok;go_wp2_with fail
     rw[<-HWX.o];refine⟨⟨_,_,_,_,_,_,_,_,rfl,Cm.o⟩,?_⟩;rw[ajq (Cm.o.anG.cell (i:=0) rfl),ajq HQ0.o];exact HMS.o
  ·have hke:k=n:=FI;subst hke;have hol:(ofL up m).length=k:=by unfold ofL;rw[Gz,List.length_range,HN.o]
   exact zan
structure ER (F:Gq) (w wa W3:GK) (ub:Nat) (acc:Rat) (A:Option Addr) (c:Nat) (B:Option Addr) (d:Nat) (wr:GK):Prop where
 uy:Row wr ub 42 [G7 (ak acc).neg,Gw A (ak acc).num.length c,Gw B (ak acc).den.length d]
 fine:(⟨ak acc,Gw A (ak acc).num.length c,Gw B (ak acc).den.length d⟩:RV).fine wr (λb=>(Old F w.heap.size b\/wa.heap.size<=b)/\b≠ub)
 bel:Below ub W3 wr
theorem akJ (w:GK) (F:Gq) (vg vm:GN) (g:Gm) (m:List (List Rat)) (hg:AB w F vg g) (hm:Ba w F vm m) (hml:m.length<=100) (hll:∀ l∈m,l.length<=1000) (hrl:∀ l∈m,∀ x∈l,rl x<=20000) (hs:∀ l∈m,∀ k,rl (jm (l.take k))<=20000) :
  Calls GI 83 #[vg,vm] w (Ret w λu w'=>Ba w' (Ext F w.heap.size) u (gB m)):=by
 have HM:=Ag hm;have HRL:=Ag hrl;have HLL:=Ag hll;have HSS:=Ag hs;obtain⟨vn,vi,rfl,⟨A,c,rfl,-,-⟩,⟨Ai,ci,rfl,-,-⟩⟩:=hg;obtain⟨n,hn⟩:=Gp m.length;obtain⟨Am,cm,e,-,-⟩:=hm;rw[Gz,<-hn] at e;subst e;have HN:=Ag hn;have hn100:n<=100:=FI;clear hrl hll hs hml hn;go_in
 go_upto_region 1 with(fail)
 generalize hW:G5 _ _=W;obtain⟨rx,hB,hz⟩:=aI hW;have HB:=Ag hB;have hWz:=hB.size;clear hW hz rx hB;go_wp2_with fail
 go_loopw [5,6] (λov iv wr=>∃ (k:Nat) (L:List (GN×List Raw)),k<=n/\iv = GV GU (k:Int)/\L.length=k/\L.map Prod.snd=((gB m).take k).map (Iq ak)/\OwnSl rG wr W.heap.size 28 (Ext F w.heap.size) ov L/\Below W.heap.size W wr) (λ_ iv _=>n - (intOf iv).toNat)
 case atStart=>exact⟨0,[],FI,rfl,rfl,rfl,OwnSl.nil _ _ _ _ _,GR _ _⟩
 case round =>
  obtain⟨k,L,hk,rfl,hLl,hLm,hown,hbel⟩:=hrel;obtain⟨wa,rfl⟩:=Gp wr;have Ej:=Ag hLl;have HLM:=Ag hLm;have HO:=Ag hown;have hbz:=hbel.size;clear hLl hLm hown;by_cases hlt:k < n
  ·obtain⟨row,hrow⟩:=Gl (l:=m) (k:=k) (by rw[<-HN.o]; exact hlt);have AV:=Ag hrow;have hr1000:=HLL.o row (Gx hrow);have HSR:=Ag (HSS.o row (Gx hrow));have HTK:=Ag (zU hrow);clear hrow;go_wp2_with fail
   refine(dZ wa 0 au au).mono ?_;rintro e w2 ⟨u1,rfl,hb,hu⟩;obtain⟨z0,hz0⟩:∃ y:Rat,y=((0:Int):Rat):=⟨_,rfl⟩;rw[<-hz0] at hu;have HZ:=Ag (show z0=0 by rw[hz0]; rfl);obtain⟨A1,c1,B1,d1,rfl,hf1⟩:=Ak.opened hu;have hb2:=hb;clear hu hz0 hb;dsimp only;go_upto_region 6 with(fail)
   generalize hW3:G5 _ _=W3;obtain⟨r3,hb,hz3⟩:=aI hW3;obtain⟨ub,hub⟩:=Gp w2.heap.size;have hf3:RV.fine W3 (λb=>(Old F w.heap.size b\/wa.heap.size<=b)/\b≠ub) ⟨ak z0,Gw A1 (ak z0).num.length c1,Gw B1 (ak z0).den.length d1⟩:=RV.fine.keep hf1 (λb hb hl=>⟨.inr hb,FI⟩) (GL hb _);rw[<-hub] at r3 ⊢;have hb3:=hb2.trans (hb.mono hb2.size);have aoB:wa.heap.size<=ub:=by have:=hb2.size;omega
   have hub3:ub < W3.heap.size:=FI;have hst:ER F w wa W3 ub z0 A1 c1 B1 d1 W3:=⟨r3,hf3,GR _ _⟩;have HST:=Ag hst;have hB3:=HB.o.trans ((hbel.trans (hb3.mono hbz)).mono hWz);obtain⟨A',c',e,_,hxm⟩:=HM.o;rw[Gz,<-HN.o] at e;injection e with e1 e2 e3
   subst e1;obtain⟨mb,mo,rfl,_,uq,hcm⟩:=hxm (by rw[Gz,<-HN.o]; omega);obtain⟨vr,hvr,hra⟩:=hcm k (row.map ak) (by rw[GY,AV.o]; rfl);refine zbk ?_;clear hvr;intro hvr oN;obtain⟨Ar,cr,rfl,-,-⟩:=hra;rw[Gz] at hvr;rw[Gz] at oN;have HRV:=Ag oN;have HVR:=Ag hvr;clear hf1 hb2 hb hz3 hub hW3 r3 hf3 hst e2 e3 hxm hcm hvr oN;go_wp2_with fail
   go_loopw [8] (λiv wr=>∃ (j:Nat) (acc:Rat) (A:Option Addr) (c:Nat) (B:Option Addr) (d:Nat),j<=row.length/\iv = GV GU (j:Int)/\acc=jm (row.take j)/\ER F w wa W3 ub acc A c B d wr) (λiv _=>row.length - (intOf iv).toNat)
   case atStart=>exact⟨0,z0,_,_,_,_,Hg _,rfl,by rw[HZ.o]; rfl,HST.o⟩
   case round =>
    clear HST;obtain⟨j,acc,A2,c2,B2,d2,hj,rfl,hacc,hst⟩:=hrel;obtain⟨wb,rfl⟩:=Gp wr;have HST:=Ag hst;have HAC:=Ag hacc;have hBu:=hst.bel;have adg:=hB3.trans (hBu.mono (show w.heap.size<=ub by omega));have m1:=(adg.cell (p:=⟨mb,mo+k,none⟩) uq).trans HVR.o;have amm:rl acc<=20000:=by rw[hacc];exact HSR.o j
    have mF:=hst.uy.lt;clear hst hacc;by_cases hjt:j < row.length
    ·obtain⟨x,hx⟩:=Gl hjt;have HX:=Ag hx;refine zdG ?_;intro HXL;obtain⟨rb,ro,rc,vn,vd,e,ad2,afF,y0,y1,y2,hn,hd⟩:=Gs.at (HRV.o.on (GL adg _)) (show(row.map ak)[j]? = some (ak x) by rw[GY,hx]; rfl);injection e with e1 e2 e3
     subst e1;refine zc0 ?_;intro HXV;obtain⟨An,cn,rfl,-,-⟩:=hn;obtain⟨Ad,cd,rfl,-,-⟩:=hd;refine zcv ?_;intro u0 u1 u2 HUB;refine Yz ?_;intro HAV;have hBn:=hBu;have hjr:(j:Int) < row.length:=FI;clear HST e2 e3 hx ad2 afF;go_wp2_with fail
     refine aP (λw'=>w'.cell? ⟨ub,0,none⟩=some (G7 (ak acc).neg)/\w'.cell? ⟨ub,1,none⟩=some (Gw A2 (ak acc).num.length c2)/\w'.cell? ⟨ub,2,none⟩=some (Gw B2 (ak acc).den.length d2)/\w'.cell? ⟨mb,mo+k,none⟩=some (Gw (some ⟨rb,ro,none⟩) row.length cr)/\w'.cell? ⟨rb,ro+j*3,none⟩=some (G7 (ak x).neg)/\w'.cell? ⟨rb,ro+j*3+1,none⟩=some (Gw An (ak x).num.length cn)/\w'.cell? ⟨rb,ro+j*3+2,none⟩=some (Gw Ad (ak x).den.length cd)) 9 1 aj rfl aj ⟨u0,u1,u2,m1,y0,y1,y2⟩ λhHeld=>?_
     refine Zo ?_;refine zaT ?_;intro hb;refine ZQ ?_;clear u0 u1 u2 m1 y0 y1 y2 HXV;intro u0 u1 u2 m1 y0 y1 y2 HXV;refine YF ?_;clear HAV HUB hBn mF hb;intro HAV HUB hBn mF;generalize wb.drew=wn at *;refine tkm [0,1,2,3,4,5,6,7] ?_;refine tk2 8 aj rfl λK hK=>?_
     go_simp;refine(mg wn (λb=>(Old F w.heap.size b\/wa.heap.size<=b)/\b≠ub) _ _ acc x HAV.o HXV.o amm HXL.o).mono ?_;rintro e wn ⟨vp,rfl,hb,hu⟩;obtain⟨pr,hpr⟩:=Gp (acc+x);rw[<-hpr] at hu;refine zdI ?_;intro HPV;have HPR:=Ag hpr;obtain⟨A4,c4,B4,d4,rfl,-⟩:=hu.opened;clear hu hpr;refine ZQ ?_;clear u0 u1 u2 m1 y0 y1 y2 HXV;intro u0 u1 u2 m1 y0 y1 y2 HXV;refine YF ?_;clear HAV HUB hBn mF hb;intro HAV HUB hBn mF;refine zdH ?_;clear hHeld;intro hHeld;refine zal ?_;clear hK K hHeld;intro f0 f1 f2 Wz hWz hrz hwz HWZ;have HPZ:=Ag (Ak.on HPV.o (hwz.same λb hb=>hb.2));have hBz:=Ht hBn hwz (λb hb=>by omega) FI;clear hWz hwz HPV;go_wp2
     refine zbP ?_;clear f0 f1 f2 u0 u1 u2 m1 y0 y1 y2 HWZ HXV HAV HUB;have hst2:ER F w wa W3 ub pr A4 c4 B4 d4 Wz:=⟨hrz,Ak.uz HPZ.o,hBz⟩;have Cm:=Ag hst2;clear hst2 hrz hBz HPZ;go_wp2
     go_roundw
     case rel=>exact⟨j+1,pr,_,_,_,_,FI,by go_num,by rw[HPR.o,Gv HX.o,oG,<-HAC.o],Cm.o⟩
     case measure=>exact zMs
    ·have hje:j=row.length:=FI;subst hje;have hsum:acc=jm row:=by rw[HAC.o,G8 (Gy _)]
     have Ef:=Ag hsum;refine zcv ?_;intro u0 u1 u2 HUB;refine Yz ?_;intro HAV;clear HST hsum;go_wp2_with fail
     refine(akf wb _ _ acc HAV.o).mono ?_;rintro e wq ⟨_,rfl,hb5,rfl⟩;replace hBu:=hBu.trans (hb5.mono FI);replace HUB:=Ag (HUB.o.below hb5 mF);replace HAV:=Ag (Ak.below HAV.o hb5);replace adg:=adg.trans (hb5.mono adg.size);replace mF:=HUB.o.lt;replace m1:=ah m1 hb5;replace u0:=ah u0 hb5;replace u1:=ah u1 hb5;replace u2:=ah u2 hb5;have adf:=hb3.trans (hBu.mono aoB);have aiG:=adf.size;clear hb5;by_cases ha0:acc=0
     ·have d0:decide (acc=0)=true:=LK ha0;have HBR:=Ag (show jK row=og row.length from aaI (by rw[<-Ef.o]; exact ha0));clear ha0;rw[d0];clear u0 u1 u2;dsimp only;go_wp2_with fail
      refine(akH _ row.length hr1000).mono ?_;rintro e w6 ⟨va,rfl,hb,hu⟩;have HHO:=Ag (HO.o.below (adf.trans (hb.mono aiG)));have HF:=Ag (show Gs w6 (Apart (Ext F w.heap.size) u5) va ((og row.length).map ak) from Gs.keep hu (λb hb _=>⟨.inr FI,λe=>by have:=(HO.o.row.lt b e).2; omega⟩) (GZ _ _));obtain⟨Au,cu,e,-,-⟩:=hu;have hla:((og row.length).map ak).length=row.length:=by rw[Gz];exact List.length_replicate ..
      rw[hla] at e;subst e;have hbw:=hbel.trans ((adf.trans (hb.mono aiG)).mono hbz);clear hb hla m1;dsimp only;go_wp2_with (at_builtin; refine je (K:=rG) (F:=Ext F w.heap.size) rfl _ _ 27 28 24 _ KA Tryz.infoRats rfl au rfl W.heap.size (Gy _) u5 L rfl (Gw Au row.length cu,(og row.length).map ak) _ rfl (by have:=Ej.o; omega) rfl HHO.o HF.o hbw ?_; intro g' cap w' hown' bG hlt' _; have HO':=Ag hown'; clear hown')
      go_roundw
      case rel=>exact⟨k+1,_,FI,by go_num,by rw[G9,Ej.o]; rfl,by rw[HTK.o,HBR.o,Hf,Hf,HLM.o]; rfl,HO'.o,bG⟩
      case measure=>exact zMs
     ·have d0:decide (acc=0)=false:=LJ ha0;have HBR:=Ag (show jK row=row.map (· / acc) by rw[Ef.o]; exact abU (by rw[<-Ef.o]; exact ha0));have HA0:=Ag ha0;clear ha0;rw[d0];clear m1;dsimp only;go_wp2_with fail
      clear u0 u1 u2;go_loopw [9,10] (λlv iv wr=>∃ (j:Nat) (L2:List RV),j<=row.length/\iv = GV GU (j:Int)/\L2.length=j/\L2.map RV.r=((jK row).take j).map ak/\OwnSl ratK wr wq.heap.size 42 (λb=>Old F w.heap.size b\/wa.heap.size<=b) lv L2/\Below wq.heap.size wq wr) (λ_ iv _=>row.length - (intOf iv).toNat)
      case atStart=>exact⟨0,[],Hg _,rfl,rfl,rfl,OwnSl.nil _ _ _ _ _,GR _ _⟩
      case round =>
       obtain⟨j,L2,hj,rfl,hLl,hLm,hown,kZ⟩:=hrel;obtain⟨wd,rfl⟩:=Gp wr;have Ed:=Ag hLl;have EO:=Ag hLm;have HO3:=Ag hown;have CQ:=Ag (λb (e:u9.ownBlock=some b)=>HO3.o.row.lt b e);have hBd:=adg.trans (kZ.mono FI);have hdz:=kZ.size;have m1:=(hBd.cell (p:=⟨mb,mo+k,none⟩) uq).trans HVR.o;clear hLl hLm hown;by_cases hjt:j < row.length
       ·obtain⟨x,hx⟩:=Gl hjt;refine zdG ?_;intro HXL;obtain⟨rb,ro,rc,vn,vd,e,ad2,afF,y0,y1,y2,hn,hd⟩:=Gs.at (HRV.o.on (GL hBd _)) (show(row.map ak)[j]? = some (ak x) by rw[GY,hx]; rfl);injection e with e1 e2 e3
        subst e1;have HXV:=Ag (Ak.mono (Ak.make (r:=ak x) rfl hn hd) (G:=λb=>(Old F w.heap.size b\/wa.heap.size<=b)/\b < wq.heap.size) (λb hb _=>⟨.inl hb,by have:=hb.2; omega⟩));obtain⟨An,cn,rfl,-,-⟩:=hn;obtain⟨Ad,cd,rfl,-,-⟩:=hd;have hrbw:=ad2.2;have afG:=HUB.o.below kZ mF;have u0:=afG.cell (i:=0) rfl;have u1:=afG.cell (i:=1) rfl;have u2:=afG.cell (i:=2) rfl;have ES:=Ag (Ak.keep (G:=λb=>(Old F w.heap.size b\/wa.heap.size<=b)/\b < wq.heap.size) HAV.o (λb hb hl=>⟨hb.1,hl⟩) (GL kZ _));have HOE:=Ag (show(jK row)[j]? = some (x / acc) by rw[HBR.o,GY,hx]; rfl);have hjr:(j:Int) < row.length:=FI;have hBe:=GR wd.heap.size wd;clear e2 e3 hx afG ad2 afF;go_wp2_with fail
        refine ZU ?_;intro hHeld hb;clear u0 u1 u2 m1 y0 y1 y2 HXV;intro u0 u1 u2 m1 y0 y1 y2 HXV;replace ES:=Ag (Ak.below ES.o hb);replace HO3:=Ag (HO3.o.below hb);replace hBe:=hBe.trans (hb.mono hBe.size);clear hb;generalize wd.drew=wn at *;refine tkm [0,1,2,3,4,5,6,7,8] ?_;refine tk2 9 aj rfl λK hK=>?_
        go_simp;refine(aio wn _ _ _ x acc HXV.o ES.o HXL.o amm HA0.o).mono ?_;rintro e wn ⟨vp,rfl,hb,hu⟩;obtain⟨pr,hpr⟩:=Gp (x / acc);rw[<-hpr] at hu HOE;have hez:=hBe.size;obtain⟨A4,c4,B4,d4,rfl,hf4⟩:=hu.opened;have HF4:=Ag (RV.fine.keep (G:=λb=>(Old F w.heap.size b\/wa.heap.size<=b)/\(b < wq.heap.size\/wd.heap.size<=b)) hf4 (λb hb _=>hb.elim (λh=>⟨h.1,.inl h.2⟩) λh=>⟨.inr FI,.inr FI⟩) (GZ _ _));clear hu hpr hf4;refine ZQ ?_;clear u0 u1 u2 m1 y0 y1 y2 HXV;intro u0 u1 u2 m1 y0 y1 y2 HXV;replace ES:=Ag (Ak.below ES.o hb);replace HO3:=Ag (HO3.o.below hb);replace hBe:=hBe.trans (hb.mono hBe.size);clear hb;refine zdH ?_;clear hHeld;intro hHeld;clear hK K;refine zcf ?_;intro K hK;go_simp;refine YO ?_;clear hK K;intro hHeld K hK;have hez:=hBe.size;refine mQ (K:=ratK) (F:=λb=>Old F w.heap.size b\/wa.heap.size<=b) rfl _ _ 28 42 56 _ JU JR rfl au rfl wq.heap.size (by omega:wq.heap.size<=wn.heap.size) u9 L2 rfl ⟨ak pr,Gw A4 (ak pr).num.length c4,Gw B4 (ak pr).den.length d4⟩ _ rfl (by have:=Ed.o; omega) rfl HO3.o (RV.fine.keep HF4.o (λb hb _=>⟨hb.1,λe=>by have:=CQ.o b e; omega⟩) (GZ _ _)) (GR _ _) ?_;intro gg cap w5 hown5 oh adX jr;have HO5:=Ag hown5;have HB5:=Ag ((kZ.trans (hBe.mono hdz)).trans oh);have u05:=(Hu (jr.2 ub (λe=>by have:=CQ.o ub e; omega) (Hl _ _ u0))).trans u0;have u15:=(Hu (jr.2 ub (λe=>by have:=CQ.o ub e; omega) (Hl _ _ u1))).trans u1;have u25:=(Hu (jr.2 ub (λe=>by have:=CQ.o ub e; omega) (Hl _ _ u2))).trans u2;have m15:=(Hu (jr.2 mb (λe=>by have:=CQ.o mb e; omega) (Hl _ _ m1))).trans m1;have y05:=(Hu (jr.2 rb (λe=>by have:=CQ.o rb e; omega) (Hl _ _ y0))).trans y0;have y15:=(Hu (jr.2 rb (λe=>by have:=CQ.o rb e; omega) (Hl _ _ y1))).trans y1;have y25:=(Hu (jr.2 rb (λe=>by have:=CQ.o rb e; omega) (Hl _ _ y2))).trans y2;clear hown5 oh adX jr hBe hez HO3 u0 u1 u2 m1 y0 y1 y2;refine hK.out _ _ ⟨u05,u15,u25,m15,y05,y15,y25⟩ (λhHeld=>?_);clear hK K;refine Zb ?_;refine tkm [12] ?_;refine Z8 ?_;clear hHeld u05 u15 u25 m15 y05 y15 y25;show Exit.inBlock _ _ .normal _ _;go_wp2
        go_roundw
        case rel=>exact⟨j+1,L2 ++ [⟨ak pr,Gw A4 (ak pr).num.length c4,Gw B4 (ak pr).den.length d4⟩],FI,by go_num,by rw[G9,Ed.o]; rfl,by rw[Hf,EO.o,Gv HOE.o,Hf]; rfl,HO5.o,HB5.o⟩
        case measure=>exact zMs
       ·have hje:j=row.length:=FI;subst hje;have hol:(jK row).length=row.length:=by rw[HBR.o,Gz]
        have hHO:=HO.o.below (adf.trans (kZ.mono aiG));have hrw:=HO3.o.raws (G:=Apart (Ext F w.heap.size) u5) (λb hb=>hb.elim (λh=>⟨.inl h.1,λe=>by have:=(HO.o.row.lt b e).1; have:=h.2; omega⟩) λh=>⟨.inr FI,λe=>by have:=(HO.o.row.lt b e).2; omega⟩) (λb hb=>⟨.inr FI,λe=>by have:=(HO.o.row.lt b e).2; omega⟩);rw[EO.o,G8 FI] at hrw;obtain⟨Az,cz,e,-,-⟩:=(show Gs _ _ _ _ from hrw);rw[Gz,hol] at e;subst e;have HRW:=Ag hrw;have HOO:=Ag hHO;have hbw:=hbel.trans ((adf.trans (kZ.mono aiG)).mono hbz);clear hrw hHO hol kZ hBd adf hBu;go_wp2_with (at_builtin; refine je (K:=rG) (F:=Ext F w.heap.size) rfl _ _ 27 28 24 _ KA Tryz.infoRats rfl au rfl W.heap.size (Gy _) u5 L rfl (Gw Az row.length cz,(jK row).map ak) _ rfl (by have:=Ej.o; omega) rfl HOO.o HRW.o hbw ?_; intro g' cap w' hown' bG hlt' _; have HO':=Ag hown'; clear hown')
        go_roundw
        case rel=>exact⟨k+1,_,FI,by go_num,by rw[G9,Ej.o]; rfl,by rw[HTK.o,Hf,Hf,HLM.o]; rfl,HO'.o,bG⟩
        case measure=>exact zMs
  ·have hke:k=n:=FI;subst hke;have hol:(gB m).length=k:=by unfold gB;rw[Gz,HN.o]
   exact zan
