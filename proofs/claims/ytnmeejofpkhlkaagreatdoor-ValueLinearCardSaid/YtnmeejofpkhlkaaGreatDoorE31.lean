/- Part of a claim. -/
import Derived.Test.YtnmeejofpkhlkaaGreatDoorE30
import Derived.Test.YtnmeejofpkhlkaaGreatDoorE22
set_option linter.all false
set_option maxRecDepth 100000
set_option maxHeartbeats 12800000
namespace Go.Proofs.YtnmeejofpkhlkaaGreatDoor
open Ah renaming below->Hw,keep->JR,make->JL
open Go.RowKit.Below renaming refl->F9
open Below renaming same'->FZ
open Go.IntKind renaming i64->F5
open Go renaming Value->F7,World->FW
open Go.Value renaming bool->Gj,int->F6,slice->FQ
open Int renaming toNat_natCast->Gu
open List renaming getD_eq_getElem?_getD->FU,getElem?_map->Gi,length_append->Gn,length_map->FX,map->GK,map_append->GL,mem_of_getElem?->FT,take_of_length_le->Gl
open Nat renaming le_refl->FV,lt_of_lt_of_le->GZ,zero_le->GR
open Same renaming refl->Gh
open Go.Proofs.Tryz renaming prog->FY
open Go.World renaming block_lt_of_cell?->Gg,cell?_of_block->Gs
open Lib renaming hid → Ac
open Go.RowKit Go.Shelf
variable {F:FI} {m:List (List Rat)} {b f k o:Nat} {acc:Rat} {r:Raw} {t:TypeId}
theorem ac1 {up:List (Int×Int)} (hf:BX up m) (hm:∀ l∈m,∀ x∈l,rl x<=4):∀ (k:Nat),k<=m.length->∀ s:Int×Int,(s.1 < 0\/s.1 < (k:Int))->rl (eP (eG up m k) s)<=1+4*k:=by
 intro k;induction k using Nat.strongRecOn with
 | _ k ih =>
  intro hk s hs;unfold eP;by_cases h0:s.1 < 0
  ·rw[L8 h0,qy];omega
  ·rw[L6 h0,iC EN,vk];obtain⟨t,ht⟩:=FC (l:=up) (k:=s.1.toNat) (by rw[hf.len]; omega);have htd:up.getD s.1.toNat (-1,-1)=t:=by rw[FU,ht];rfl
   rw[htd];have h1:=ih s.1.toNat EN EN t (by have:=hf.ok _ _ ht; omega);have h2:=kR (eP (eG up m s.1.toNat) t) ((m.getD s.1.toNat []).getD s.2.toNat 0);have h3:rl ((m.getD s.1.toNat []).getD s.2.toNat 0)<=4:=by
    rw[FU];cases e:(m.getD s.1.toNat [])[s.2.toNat]? with
    | none=>show rl 0<=4; rw[rQ]; omega
    | some x =>
     refine hm (m.getD s.1.toNat []) ?_ x (FT e);rw[FU] at e ⊢;cases e2:m[s.1.toNat]? with
     | none=>rw[e2] at e; simp at e
     | some l=>exact FT e2
   omega
section
variable {F:FI} {w W wr w':FW} {vu vm:F7} {bo ob n B1 B2 fb:Nat} {vs:List F7} {ls:List (List Raw)} {u v:F7} {L:List RV} {x:Rat} {A B:Option Addr} {c d:Nat}
end
theorem amk {w:FW} {z0 z1 z2:F7} (h:Row w b t [z0,z1,z2]) (a0 a1 a2:F7):∃ W,W=((w.setCell ⟨b,0,none⟩ a0).setCell ⟨b,1,none⟩ a1).setCell ⟨b,2,none⟩ a2/\Row W b t [a0,a1,a2]/\Wrote (λk=>k=b) w W:=by
 refine⟨_,rfl,((h.set 0 a0).set 1 a1).set 2 a2,?_⟩;have h0:Wrote (λk=>k=b) w w:=Wrote.refl _ _;exact((h0.setCell (p:=⟨b,0,none⟩) (.inl rfl) a0).setCell (p:=⟨b,1,none⟩) (.inl rfl) a1).setCell (p:=⟨b,2,none⟩) (.inl rfl) a2
theorem Ag.aaV {w:FW} {v:F7} {l:List Nat} {fb:Nat} {b0:Bool} {a1 a2:Option Addr} {n1 n2 c1 c2:Nat} (h:Ag w F v l) (hr:Row w fb t [Gj b0,FQ a1 n1 c1,FQ a2 n2 c2]):Ag w (λb=>F b/\b≠fb) v l:=by
 obtain⟨A,c,rfl,hc,hx⟩:=h;refine⟨A,c,rfl,hc,λh0=>?_⟩;obtain⟨b,o,rfl,hF,hb,hx⟩:=hx h0;refine⟨b,o,rfl,⟨hF,?_⟩,hb,hx⟩;rintro rfl;obtain⟨y,hy⟩:=FC (l:=l) (k:=0) h0;have h1:=hx 0 y hy;have hr':w.heap[b]? = some (.cells #[Gj b0,FQ a1 n1 c1,FQ a2 n2 c2] t):=hr;rcases o with _ | _ | _ | o <;> simp[World.cell?,hr',dF] at h1
open List renaming getElem_toArray → lq1, getElem_cons_zero → lq2, getElem_cons_succ → lq3, setIfInBounds_toArray → lq4, set_cons_zero → lq5, set_cons_succ → lq6
open Go.RowKit
theorem aiF {up:List (Int×Int)} {s:Int×Int} (h:s.1 < 0):qE up m f s acc=acc:=by
 cases f with
 | zero=>rfl
 | succ f=>unfold qE; rw[L8 h]
theorem agX {up:List (Int×Int)} {s:Int×Int} (h:¬ s.1 < 0):qE up m (f+1) s acc=qE up m f (up.getD s.1.toNat (-1,-1)) (acc*(m.getD s.1.toNat []).getD s.2.toNat 0):=by
 conv=>lhs; unfold qE
 rw[L6 h]
def seqM (v:F7) (w:FW):Nat:=match v with
 | .pointer (some a)=>(match w.cell? a with | some (.int _ x)=>(x+1).toNat | _=>0)
 | _=>0
theorem ajr {w:FW} {x:Int} (h:w.cell? ⟨b,0,none⟩=some (F6 F5 x)):seqM (.pointer (some ⟨b,0,none⟩)) w=(x+1).toNat:=by
 show(match w.cell? ⟨b,0,none⟩ with | some (.int _ x)=>(x+1).toNat | _=>0)=_;rw[h]
theorem akJ {up:List (Int×Int)} (h:k < m.length):(ofL up m)[k]? = some (ofRow up m k):=by
 unfold ofL;rw[Gi,List.getElem?_range h];rfl
structure EO (F:FI) (w wa W3:FW) (up:List (Int×Int)) (m:List (List Rat)) (n ub:Nat) (target:Rat) (f:Nat) (s:Int×Int) (acc:Rat) (qb:Nat) (A:Option Addr) (c:Nat) (B:Option Addr) (d:Nat) (wr:FW):Prop where
 lt:ub < qb
 anp:Row wr qb 60 [F6 F5 s.1,F6 F5 s.2]
 tu:Row wr ub 42 [Gj (au acc).neg,FQ A (au acc).num.length c,FQ B (au acc).den.length d]
 fine:(⟨au acc,FQ A (au acc).num.length c,FQ B (au acc).den.length d⟩:RV).fine wr (λb=>(Old F w.heap.size b\/wa.heap.size<=b)/\b≠ub)
 prod:qE up m f s acc=target
 ok:s.1 < 0\/(0<=s.1/\s.1 < (f:Int)/\s.1 < (n:Int)/\0<=s.2/\s.2 < ((m.getD s.1.toNat []).length:Int))
 len:rl acc<=1+4*(n+1 - f)
 fl:f<=n+1
 bel:Below ub W3 wr
theorem Ah.aiG {w:FW} {vn vd:F7} (h:Ah w F (.agg #[Gj r.neg,vn,vd]) r):(⟨r,vn,vd⟩:RV).fine w F:=by
 obtain⟨vn',vd',e,h1,h2⟩:=h;simp only[Value.agg.injEq,Array.mk.injEq,List.cons.injEq,and_true,true_and] at e;obtain⟨rfl,rfl⟩:=e;exact⟨h1,h2⟩
theorem AL.at2 {w:FW} {n c:Nat} {l:List (Int×Int)} (h:AL w F (FQ (some ⟨b,o,none⟩) n c) l) {s:Int×Int} (hk:l[k]? = some s):w.cell? ⟨b,o+k*2,none⟩=some (F6 F5 s.1)/\w.cell? ⟨b,o+k*2+1,none⟩=some (F6 F5 s.2):=by
 obtain⟨A,c',e,_,hx⟩:=h;obtain⟨b',o',hA,_,_,hc⟩:=hx (by have:=FD hk; omega);simp only[Value.slice.injEq] at e;obtain⟨e1,_,_⟩:=e;rw[hA] at e1;cases e1;exact hc k s hk
theorem aoP {w:FW} {z0 z1:F7} (h:Row w b t [z0,z1]) (a0 a1:F7):∃ W,W=(w.setCell ⟨b,0,none⟩ a0).setCell ⟨b,1,none⟩ a1/\Row W b t [a0,a1]/\Wrote (λk=>k=b) w W:=by
 exact zbf
theorem ajs {w:FW} {z0 z1 z2:F7} (h:Row w b 42 [z0,z1,z2]) (a0 a1 a2:F7):∃ W,W=((w.setCell ⟨b,0,none⟩ a0).setCell ⟨b,1,none⟩ a1).setCell ⟨b,2,none⟩ a2/\Row W b 42 [a0,a1,a2]/\Wrote (λk=>k=b) w W:=amk h a0 a1 a2
theorem afq (w:FW) (F:FI) (vg vu vm:F7) (g:Gm) (up:List (Int×Int)) (m:List (List Rat)) (hg:AA w F vg g) (hu:AL w F vu up) (hm:Ak w F vm m) (hf:BX up m) (hrl:∀ l∈m,∀ x∈l,rl x<=4) (hml:m.length<=100) (hll:∀ l∈m,l.length<=1000) :
  Calls FY 46 #[vg,vu,vm] w (Ret w λu w'=>Ak w' (Ext F w.heap.size) u (ofL up m)):=by
 have HU:=Ac hu;have HM:=Ac hm;have HF:=Ac hf;have HRL:=Ac hrl;have HLL:=Ac hll;obtain⟨vn,vi,rfl,⟨A,c,rfl,-,-⟩,⟨Ai,ci,rfl,-,-⟩⟩:=hg;obtain⟨n,hn⟩:=FH m.length;obtain⟨Au,cu,e⟩:=hu.open;rw[show up.length=n by rw[hf.len,hn]] at e;subst e;obtain⟨Am,cm,e,-,-⟩:=hm;rw[FX,<-hn] at e;subst e;have HN:=Ac hn;have HUN:=Ac (show up.length=n by rw[hf.len,hn]);have hn100:n<=100:=EN;clear hf hrl hll hu hml hn;go_in
 go_upto_region 1 with(fail)
 refine ZJ ?_;intro W hW rx hB hz;have HB:=Ac hB;have hWz:=hB.size;clear hW hz rx hB;go_wp2_with fail
 go_loopw [7,8] (λov iv wr=>∃ (k:Nat) (L:List (F7×List Raw)),k<=n/\iv = F6 F5 (k:Int)/\L.length=k/\L.map Prod.snd=((ofL up m).take k).map (GK au)/\OwnSl lV wr W.heap.size 38 (Ext F w.heap.size) ov L/\Below W.heap.size W wr) (λ_ iv _=>n - (intOf iv).toNat)
 case atStart=>exact⟨0,[],EN,rfl,rfl,rfl,OwnSl.nil _ _ _ _ _,F9 _ _⟩
 case round =>
  obtain⟨k,L,hk,rfl,hLl,hLm,hown,hbel⟩:=hrel;obtain⟨wa,rfl⟩:=FH wr;have Ce:=Ac hLl;have HLM:=Ac hLm;have HO:=Ac hown;have hbz:=hbel.size;clear hLl hLm hown;by_cases hlt:k < n
  ·obtain⟨s,hs⟩:=FC (l:=up) (k:=k) (by rw[HUN.out]; exact hlt);obtain⟨row,hrow⟩:=FC (l:=m) (k:=k) (by rw[<-HN.out]; exact hlt);have HSU:=Ac hs;have AZ:=Ac hrow;have hsok:=HF.out.ok k s hs;clear hs hrow;go_wp2_with fail
   refine(mP wa 1 aA aA).mono ?_;rintro e w2 ⟨u1,rfl,hb,hu⟩;obtain⟨one,hone⟩:∃ y:Rat,y=((1:Int):Rat):=⟨_,rfl⟩;rw[<-hone] at hu;have BH:=Ac (show one=1 by rw[hone]; rfl);obtain⟨A1,c1,B1,d1,rfl,hf1⟩:=Ah.opened hu;have hb2:=hb;clear hu hone hb;dsimp only;go_upto_region 6 with(fail)
   obtain⟨W3,hW3,r3,hb,hz3⟩:=aJ w2 42 #[Gj (au one).neg,FQ A1 (au one).num.length c1,FQ B1 (au one).den.length d1];rw[<-hW3];obtain⟨ub,hub⟩:=FH w2.heap.size;have hf3:RV.fine W3 (λb=>(Old F w.heap.size b\/wa.heap.size<=b)/\b≠ub) ⟨au one,FQ A1 (au one).num.length c1,FQ B1 (au one).den.length d1⟩:=RV.fine.keep hf1 (λb hb hl=>⟨.inr hb,EN⟩) (FZ hb _);rw[<-hub] at r3 ⊢;have hb3:=hb2.trans (hb.mono hb2.size);have aou:wa.heap.size<=ub:=by have:=hb2.size;omega
   have hub3:ub < W3.heap.size:=EN;clear hf1 hb2 hb hz3 hub hW3;obtain⟨target,htg⟩:=FH (qE up m (n+1) s 1);have HTG:=Ac htg;have hB3:=HB.out.trans ((hbel.trans (hb3.mono hbz)).mono hWz);have hui:=HU.out.on (FZ hB3 F);obtain⟨A',c',e,_,hxu⟩:=hui;injection e with e1 e2 e3
   subst e1;obtain⟨pb,po,rfl,_,_,hcu⟩:=hxu (by rw[HUN.out]; omega);obtain⟨p0,p1⟩:=hcu k s HSU.out;have hsd:up.getD k (-1,-1)=s:=by rw[FU,HSU.out];rfl
   have HSD:=Ac hsd;obtain⟨s1,s2⟩:=s;dsimp only at p0 p1;clear e2 e3 hxu hcu htg hsd;go_upto_region 7 with(fail)
   obtain⟨W4,hW4,r4,hb,hz4⟩:=aJ W3 60 #[F6 F5 s1,F6 F5 s2];rw[<-hW4];obtain⟨qb,hqb⟩:=FH W3.heap.size;have hst:EO F w wa W3 up m n ub target (n+1) (s1,s2) one qb A1 c1 B1 d1 W4:=⟨EN,by rw[hqb]; exact r4,r3.below hb r3.lt,RV.fine.below hf3 hb,by rw[HTG.out,BH.out],by
    rcases hsok with h | ⟨h1,h2,h3,h4⟩
    ·exact .inl h
    ·exact .inr ⟨h1,EN,EN,h3,h4⟩,by rw[BH.out,qy]; omega,FV _,hb.mono EN⟩
   rw[<-hqb];have HST:=Ac hst;clear hst hb hz4 hqb hW4 r4 r3 hf3 p0 p1 hsok;go_loopw [10] (λpv wr=>∃ (f:Nat) (s':Int×Int) (acc:Rat) (qb:Nat) (A:Option Addr) (c:Nat) (B:Option Addr) (d:Nat),pv = .pointer (some ⟨qb,0,none⟩)/\EO F w wa W3 up m n ub target f s' acc qb A c B d wr) (λpv wr=>seqM pv wr)
   case atStart=>exact⟨_,_,_,_,_,_,_,_,rfl,HST.out⟩
   case round =>
    clear HST;obtain⟨f,⟨s1',s2'⟩,acc,qb',A2,c2,B2,d2,rfl,hst⟩:=hrel;obtain⟨wb,rfl⟩:=FH wr;have HST:=Ac hst;have q0:=hst.anp.cell (i:=0) rfl;have q1:=hst.anp.cell (i:=1) rfl;clear hst;by_cases h0:s1' < 0
    ·have d0:decide (0<=s1')=false:=L9 EN;have HPR:=Ac (show acc=target by rw[<-HST.out.prod]; exact(aiF h0).symm);clear h0;have HUB:=Ac HST.out.tu;have HFV:=Ac (show RtV wb (λb=>(Old F w.heap.size b\/wa.heap.size<=b)/\b≠ub) (.agg #[Gj (au acc).neg,FQ A2 (au acc).num.length c2,FQ B2 (au acc).den.length d2]) acc from JL rfl HST.out.fine.1 HST.out.fine.2);have HLEN:=Ac (show rl acc<=20000 by have:=HST.out.len; omega);have hBu:=HST.out.bel;have ac2:=hb3.trans (hBu.mono aou);have mW:=HST.out.tu.lt;have HTGT:=Ac (show ofRow up m k=row.map λx=>acc*x by unfold ofRow; rw[HSD.out,<-HN.out,<-HTG.out,<-HPR.out,FU,AZ.out]; rfl);have aiH:=ac2.size;have hr1000:=HLL.out row (FT AZ.out);clear HST;go_wp2_with fail
     clear q0 q1 d0;go_loopw [11,12] (λlv iv wr=>∃ (j:Nat) (L2:List RV),j<=row.length/\iv = F6 F5 (j:Int)/\L2.length=j/\L2.map RV.r=((ofRow up m k).take j).map au/\OwnSl ratK wr wb.heap.size 42 (λb=>Old F w.heap.size b\/wa.heap.size<=b) lv L2/\Below wb.heap.size wb wr) (λ_ iv _=>row.length - (intOf iv).toNat)
     case atStart=>exact⟨0,[],GR _,rfl,rfl,rfl,OwnSl.nil _ _ _ _ _,F9 _ _⟩
     case round =>
      obtain⟨j,L2,hj,rfl,hLl,hLm,hown,fQ⟩:=hrel;obtain⟨wd,rfl⟩:=FH wr;have Dx:=Ac hLl;have Dy:=Ac hLm;have HO3:=Ac hown;have BA:=Ac (λb (e:u11.ownBlock=some b)=>HO3.out.row.lt b e);have hBd:=(hB3.trans (hBu.mono (show w.heap.size<=ub by omega))).trans (fQ.mono EN);have hdz:=fQ.size;obtain⟨A',c',e,_,hxm⟩:=HM.out;rw[FX,<-HN.out] at e;injection e with e1 e2 e3
      subst e1;obtain⟨mb,mo,rfl,_,y8,hcm⟩:=hxm (by rw[FX,<-HN.out]; omega);refine zda ?_;intro vr hvr hra;refine zbd ?_;clear hvr;intro hvr lq;obtain⟨Ar,cr,rfl,-,-⟩:=hra;rw[FX] at hvr;rw[FX] at lq;have HRV:=Ac lq;have m1:=(hBd.cell (p:=⟨mb,mo+k,none⟩) y8).trans hvr;clear hLl hLm hown e2 e3 hxm hcm hvr lq;by_cases hjt:j < row.length
      ·obtain⟨x,hx⟩:=FC hjt;refine zdh ?_;intro HXL;obtain⟨rb,ro,rc,vn,vd,e,aaW,adH,y0,y1,y2,hn,hd⟩:=FK.at (HRV.out.on (FZ hBd _)) (show(row.map au)[j]? = some (au x) by rw[Gi,hx]; rfl);injection e with e1 e2 e3
       subst e1;have HXV:=Ac (Ah.mono (JL (r:=au x) rfl hn hd) (G:=λb=>(Old F w.heap.size b\/wa.heap.size<=b)/\b < wb.heap.size) (λb hb _=>⟨.inl hb,by have:=hb.2; omega⟩));obtain⟨An,cn,rfl,-,-⟩:=hn;obtain⟨Ad,cd,rfl,-,-⟩:=hd;have hrbw:=aaW.2;have afr:=HUB.out.below fQ mW;have u0:=afr.cell (i:=0) rfl;have u1:=afr.cell (i:=1) rfl;have u2:=afr.cell (i:=2) rfl;have HAV:=Ac (JR (G:=λb=>(Old F w.heap.size b\/wa.heap.size<=b)/\b < wb.heap.size) HFV.out (λb hb hl=>⟨hb.1,hl⟩) (FZ fQ _));have HOE:=Ac (show(ofRow up m k)[j]? = some (acc*x) by rw[HTGT.out,Gi,hx]; rfl);have hjr:(j:Int) < row.length:=EN;have hBe:=F9 wd.heap.size wd;clear e2 e3 hx afr aaW adH;go_wp2_with fail
       refine Z8 ?_;intro hHeld hb;clear u0 u1 u2 m1 y0 y1 y2 HXV;intro u0 u1 u2 m1 y0 y1 y2 HXV;replace HAV:=Ac (Hw HAV.out hb);refine zaG ?_;clear HO3 hBe hb;intro HO3 hBe;generalize wd.drew=wn at *;refine tkm [0,1,2,3,4,5,6,7,8] ?_;refine tk2 9 ak rfl λK hK=>?_
       go_simp;refine(nI wn _ _ _ acc x HAV.out HXV.out HLEN.out (by have:=HXL.out; omega)).mono ?_;rintro e wn ⟨vp,rfl,hb,hu⟩;obtain⟨pr,hpr⟩:=FH (acc*x);rw[<-hpr] at hu HOE;have hez:=hBe.size;obtain⟨A4,c4,B4,d4,rfl,hf4⟩:=hu.opened;have HF4:=Ac (RV.fine.keep (G:=λb=>(Old F w.heap.size b\/wa.heap.size<=b)/\(b < wb.heap.size\/wd.heap.size<=b)) hf4 (λb hb _=>hb.elim (λh=>⟨h.1,.inl h.2⟩) λh=>⟨.inr EN,.inr EN⟩) (Gh _ _));clear hu hpr hf4;refine ZU ?_;clear u0 u1 u2 m1 y0 y1 y2 HXV;intro u0 u1 u2 m1 y0 y1 y2 HXV;replace HAV:=Ac (Hw HAV.out hb);refine zaG ?_;clear HO3 hBe hb;intro HO3 hBe;refine zdi ?_;clear hHeld;intro hHeld;clear hK K;refine Zb ?_;refine tk2 10 ak rfl λK hK=>?_
       go_simp;refine YS ?_;clear hK K;intro hHeld K hK;have hez:=hBe.size;refine wG (K:=ratK) (F:=λb=>Old F w.heap.size b\/wa.heap.size<=b) rfl _ _ 38 42 56 _ Tryz.underlying38 Tryz.infoRat rfl aA rfl wb.heap.size (by omega:wb.heap.size<=wn.heap.size) u11 L2 rfl ⟨au pr,FQ A4 (au pr).num.length c4,FQ B4 (au pr).den.length d4⟩ _ rfl (by have:=Dx.out; omega) rfl HO3.out (RV.fine.keep HF4.out (λb hb _=>⟨hb.1,λe=>by have:=BA.out b e; omega⟩) (Gh _ _)) (F9 _ _) ?_;intro gg cap w5 hown5 abu aiI lT;have HO5:=Ac hown5;have HB5:=Ac ((fQ.trans (hBe.mono hdz)).trans abu);have u05:=(Gs (lT.2 ub (λe=>by have:=BA.out ub e; omega) (Gg _ _ u0))).trans u0;have u15:=(Gs (lT.2 ub (λe=>by have:=BA.out ub e; omega) (Gg _ _ u1))).trans u1;have u25:=(Gs (lT.2 ub (λe=>by have:=BA.out ub e; omega) (Gg _ _ u2))).trans u2;have m15:=(Gs (lT.2 mb (λe=>by have:=BA.out mb e; omega) (Gg _ _ m1))).trans m1;have y05:=(Gs (lT.2 rb (λe=>by have:=BA.out rb e; omega) (Gg _ _ y0))).trans y0;have y15:=(Gs (lT.2 rb (λe=>by have:=BA.out rb e; omega) (Gg _ _ y1))).trans y1;have y25:=(Gs (lT.2 rb (λe=>by have:=BA.out rb e; omega) (Gg _ _ y2))).trans y2;clear hown5 abu aiI lT hBe hez HO3 u0 u1 u2 m1 y0 y1 y2;refine hK.out _ _ ⟨u05,u15,u25,m15,y05,y15,y25⟩ (λhHeld=>?_);clear hK K;refine Zb ?_;refine tkm [12] ?_;refine Yf ?_;clear hHeld u05 u15 u25 m15 y05 y15 y25;refine zaB ?_;go_wp2
       go_roundw
       case rel=>exact⟨j+1,L2 ++ [⟨au pr,FQ A4 (au pr).num.length c4,FQ B4 (au pr).den.length d4⟩],EN,by go_num,by rw[Gn,Dx.out]; rfl,by rw[GL,Dy.out,FP HOE.out,GL]; rfl,HO5.out,HB5.out⟩
       case measure=>simp[intOf]; omega
      ·have hje:j=row.length:=EN;subst hje;have hol:(ofRow up m k).length=row.length:=by rw[HTGT.out,FX]
       have hHO:=HO.out.below (ac2.trans (fQ.mono aiH));have hrw:=HO3.out.raws (G:=Apart (Ext F w.heap.size) u7) (λb hb=>hb.elim (λh=>⟨.inl h.1,λe=>by have:=(HO.out.row.lt b e).1; have:=h.2; omega⟩) λh=>⟨.inr EN,λe=>by have:=(HO.out.row.lt b e).2; omega⟩) (λb hb=>⟨.inr EN,λe=>by have:=(HO.out.row.lt b e).2; omega⟩);rw[Dy.out,Gl EN] at hrw;obtain⟨Az,cz,e,-,-⟩:=(show FK _ _ _ _ from hrw);rw[FX,hol] at e;subst e;have HRW:=Ac hrw;have HOO:=Ac hHO;have hbw:=hbel.trans ((ac2.trans (fQ.mono aiH)).mono hbz);have HOFK:=Ac (akJ (up:=up) (m:=m) (k:=k) (by rw[<-HN.out]; exact hlt));clear hrw hHO hol fQ hBd ac2 hBu;go_wp2_with (at_builtin; refine iH (K:=lV) (F:=Ext F w.heap.size) rfl _ _ 30 38 24 _ Tryz.underlying30 Tryz.infoRats rfl aA rfl W.heap.size (FV _) u7 L rfl (FQ Az row.length cz,(ofRow up m k).map au) _ rfl (by have:=Ce.out; omega) rfl HOO.out HRW.out hbw ?_; intro g' cap w' hown' aZ hlt' _; have HO':=Ac hown'; clear hown')
       go_roundw
       case rel=>exact⟨k+1,_,EN,by go_num,by rw[Gn,Ce.out]; rfl,by rw[GL,FP HOFK.out,GL,HLM.out]; rfl,HO'.out,aZ⟩
       case measure=>simp[intOf]; omega
    ·obtain⟨h1,h2,h3,h4,h5⟩:=HST.out.ok.resolve_left h0;dsimp only at h1 h2 h3 h4 h5;obtain⟨i,hi⟩:∃ i:Nat,s1'=(i:Int):=⟨s1'.toNat,EN⟩;obtain⟨j,hj⟩:∃ j:Nat,s2'=(j:Int):=⟨s2'.toNat,EN⟩;subst hi;subst hj;rw[Gu] at h5;obtain⟨agY,ajt⟩:=FC (l:=m) (k:=i) (by rw[<-HN.out]; omega);have hmd:m.getD i []=agY:=by rw[FU,ajt];rfl
     rw[hmd] at h5;obtain⟨x,hx⟩:=FC (l:=agY) (k:=j) EN;have HXL:=Ac (HRL.out agY (FT ajt) x (FT hx));have HXD:=Ac (show(m.getD i []).getD j 0=x by rw[hmd,FU,hx]; rfl);have hBw:=hB3.trans (HST.out.bel.mono (show w.heap.size<=ub by omega));obtain⟨A',c',e,_,hxm⟩:=HM.out;rw[FX,<-HN.out] at e;injection e with e1 e2 e3
     subst e1;obtain⟨mb,mo,rfl,_,y8,hcm⟩:=hxm (by rw[FX,<-HN.out]; omega);obtain⟨vr,hvr,hra⟩:=hcm i (agY.map au) (by rw[Gi,ajt]; rfl);refine zbd ?_;clear hvr;intro hvr lq;obtain⟨rb,ro,rc,vn,vd,e,aaW,adH,y0,y1,y2,hn,hd⟩:=FK.at (lq.on (FZ hBw _)) (show(agY.map au)[j]? = some (au x) by rw[Gi,hx]; rfl);subst e;rw[FX] at hvr;have m1:=(hBw.cell (p:=⟨mb,mo+i,none⟩) y8).trans hvr;refine zcI ?_;intro HXV;obtain⟨An,cn,rfl,-,-⟩:=hn;obtain⟨Ad,cd,rfl,-,-⟩:=hd;refine zcc ?_;intro u0 u1 u2 HUB;have HQB:=Ac HST.out.anp;refine YG ?_;intro HAV;have HLEN:=Ac HST.out.len;have HFL:=Ac HST.out.fl;have Fq:=Ac HST.out.prod;have hqlt:=HST.out.lt;have hBn:=HST.out.bel;have d0:decide (0<=(i:Int))=true:=Mc EN;have hin:(i:Int) < n:=EN;have hjr:(j:Int) < agY.length:=EN;have mW:=HST.out.tu.lt;have HQ0:=Ac q0;clear HST e2 e3 hxm hcm hvr hra lq ajt hmd hx hBw h0;go_wp2_with fail
     refine aW (λw'=>w'.cell? ⟨ub,0,none⟩=some (Gj (au acc).neg)/\w'.cell? ⟨ub,1,none⟩=some (FQ A2 (au acc).num.length c2)/\w'.cell? ⟨ub,2,none⟩=some (FQ B2 (au acc).den.length d2)/\w'.cell? ⟨qb',0,none⟩=some (F6 F5 (i:Int))/\w'.cell? ⟨qb',1,none⟩=some (F6 F5 (j:Int))/\w'.cell? ⟨mb,mo+i,none⟩=some (FQ (some ⟨rb,ro,none⟩) agY.length rc)/\w'.cell? ⟨rb,ro+j*3,none⟩=some (Gj (au x).neg)/\w'.cell? ⟨rb,ro+j*3+1,none⟩=some (FQ An (au x).num.length cn)/\w'.cell? ⟨rb,ro+j*3+2,none⟩=some (FQ Ad (au x).den.length cd)) 11 1 ak rfl ak ?_;have hHeld:(λw':FW=>w'.cell? ⟨ub,0,none⟩=some (Gj (au acc).neg)/\w'.cell? ⟨ub,1,none⟩=some (FQ A2 (au acc).num.length c2)/\w'.cell? ⟨ub,2,none⟩=some (FQ B2 (au acc).den.length d2)/\w'.cell? ⟨qb',0,none⟩=some (F6 F5 (i:Int))/\w'.cell? ⟨qb',1,none⟩=some (F6 F5 (j:Int))/\w'.cell? ⟨mb,mo+i,none⟩=some (FQ (some ⟨rb,ro,none⟩) agY.length rc)/\w'.cell? ⟨rb,ro+j*3,none⟩=some (Gj (au x).neg)/\w'.cell? ⟨rb,ro+j*3+1,none⟩=some (FQ An (au x).num.length cn)/\w'.cell? ⟨rb,ro+j*3+2,none⟩=some (FQ Ad (au x).den.length cd)) wb.drew:=⟨u0,u1,u2,q0,q1,m1,y0,y1,y2⟩;refine Zv ?_;have hb:Below wb.heap.size wb wb.drew:=aI (F9 _ wb) 1;replace u0:=ah u0 hb;replace u1:=ah u1 hb;replace u2:=ah u2 hb;replace q0:=ah q0 hb;replace q1:=ah q1 hb;replace m1:=ah m1 hb;replace y0:=ah y0 hb;replace y1:=ah y1 hb;replace y2:=ah y2 hb;replace HXV:=Ac (Hw HXV.out hb);replace HAV:=Ac (Hw HAV.out hb);replace HUB:=Ac (HUB.out.below hb HUB.out.lt);replace HQB:=Ac (HQB.out.below hb HQB.out.lt);replace hBn:=hBn.trans (hb.mono EN);replace mW:=GZ mW hb.size;clear hb;generalize wb.drew=wn at *;refine tkm [0,1,2,3,4,5,6,7,8,9] ?_;refine tk2 10 ak rfl λK hK=>?_
     go_simp;refine(nI wn (λb=>(Old F w.heap.size b\/wa.heap.size<=b)/\b≠ub) _ _ acc x HAV.out HXV.out (by have:=HLEN.out; omega) (by have:=HXL.out; omega)).mono ?_;rintro e wn ⟨vp,rfl,hb,hu⟩;obtain⟨pr,hpr⟩:=FH (acc*x);rw[<-hpr] at hu;refine zdj ?_;intro HPV;have HPR:=Ac hpr;obtain⟨A4,c4,B4,d4,rfl,-⟩:=hu.opened;clear hu hpr;replace u0:=ah u0 hb;replace u1:=ah u1 hb;replace u2:=ah u2 hb;replace q0:=ah q0 hb;replace q1:=ah q1 hb;replace m1:=ah m1 hb;replace y0:=ah y0 hb;replace y1:=ah y1 hb;replace y2:=ah y2 hb;replace HXV:=Ac (Hw HXV.out hb);replace HAV:=Ac (Hw HAV.out hb);replace HUB:=Ac (HUB.out.below hb HUB.out.lt);replace HQB:=Ac (HQB.out.below hb HQB.out.lt);replace hBn:=hBn.trans (hb.mono EN);replace mW:=GZ mW hb.size;clear hb;dsimp only;clear hHeld;refine hK.out _ _ ⟨u0,u1,u2,q0,q1,m1,y0,y1,y2⟩ (λhHeld=>?_);refine zaq ?_;clear hK K hHeld;intro f0 f1 f2 Wz hWz hrz hwz HWZ;have HQZ:=Ac (HQB.out.wrote hwz EN);have HPZ:=Ac (Ah.on HPV.out (hwz.same λb hb=>hb.2));have hBz:=Wrote.below hBn hwz (λb hb=>by omega) EN;clear hWz hwz HPV HQB;go_wp2
     rw[<-HWZ.out];unfold Bj;refine zaB ?_;have q0:=HQZ.out.cell (i:=0) rfl;have q1:=HQZ.out.cell (i:=1) rfl;clear f0 f1 f2 u0 u1 u2 m1 y0 y1 y2 HWZ HXV HAV HUB;go_upto_region 8 with(fail)
     obtain⟨Wy,hWy,ry,hb,hzy⟩:=aJ Wz 60 #[F6 F5 (i:Int),F6 F5 (j:Int)];rw[<-hWy];obtain⟨nb,hnb⟩:=FH Wz.heap.size;have hBy:=hBz.trans (hb.mono (by have:=HQZ.out.lt; omega));have HUY:=Ac (hrz.below hb hrz.lt);have HPY:=Ac (JR (G:=λb=>((Old F w.heap.size b\/wa.heap.size<=b)/\b≠ub)/\b≠nb) HPZ.out (λb h hl=>⟨h,EN⟩) (FZ hb _));have hzl:=hrz.lt;rw[<-hnb] at ry ⊢;have hub2:ub < nb:=EN;clear hb hzy hWy hnb q0 q1 hzl hrz HPZ;obtain⟨⟨t1,t2⟩,ht⟩:=FC (l:=up) (k:=i) (by rw[HUN.out]; omega);have htok:=HF.out.ok i (t1,t2) ht;have HTD:=Ac (show up.getD i (-1,-1)=(t1,t2) by rw[FU,ht]; rfl);have hBw:=hB3.trans (hBy.mono (show w.heap.size<=ub by omega));obtain⟨p0,p1⟩:=AL.at2 (HU.out.on (FZ hBw F)) ht;dsimp only at p0 p1 htok;have n0:=ry.cell (i:=0) rfl;have n1:=ry.cell (i:=1) rfl;have f0:=ry.frozen 0;have f1:=ry.frozen 1;obtain⟨Wx,hWx,rn,hwx⟩:=aoP ry (F6 F5 t1) (F6 F5 t2);have HWX:=Ac hWx;have hst2:EO F w wa W3 up m n ub target (f - 1) (t1,t2) pr nb A4 c4 B4 d4 Wx:=by
      have hfl:=HFL.out;have hlen:=HLEN.out;have hxl:=HXL.out;refine⟨hub2,rn,HUY.out.wrote hwx EN,Ah.aiG (JR HPY.out (λb h _=>h.1) (hwx.same λb hb e=>hb.2 e)),?_,?_,?_,EN,Wrote.below hBy hwx (λb hb=>by omega) (by have:=ry.lt; omega)⟩
      ·have hp:=Fq.out;rw[show f=(f - 1)+1 by omega,agX (by dsimp only; omega)] at hp;dsimp only at hp;rw[Gu,Gu,HTD.out,HXD.out,<-HPR.out] at hp;exact hp
      ·rcases htok with h | ⟨g1,g2,g3,g4⟩
       ·exact .inl h
       ·exact .inr ⟨g1,by dsimp only; omega,by dsimp only; omega,g3,g4⟩
      ·rw[HPR.out];have:=kR acc x;omega
     have Cc:=Ac hst2;have hms:(t1+1).toNat < ((i:Int)+1).toNat:=by rcases htok with h | ⟨g1,g2,g3,g4⟩ <;> omega
     have HMS:=Ac hms;clear hWx ht hBw hst2 hms htok;go_wp2_with fail
     rw[<-HWX.out];refine⟨⟨_,_,_,_,_,_,_,_,rfl,Cc.out⟩,?_⟩;rw[ajr (Cc.out.anp.cell (i:=0) rfl),ajr HQ0.out];exact HMS.out
  ·have hke:k=n:=EN;subst hke;have hol:(ofL up m).length=k:=by unfold ofL;rw[FX,List.length_range,HN.out]
   exact zas
structure Ef (F:FI) (w wa W3:FW) (ub:Nat) (acc:Rat) (A:Option Addr) (c:Nat) (B:Option Addr) (d:Nat) (wr:FW):Prop where
 tu:Row wr ub 42 [Gj (au acc).neg,FQ A (au acc).num.length c,FQ B (au acc).den.length d]
 fine:(⟨au acc,FQ A (au acc).num.length c,FQ B (au acc).den.length d⟩:RV).fine wr (λb=>(Old F w.heap.size b\/wa.heap.size<=b)/\b≠ub)
 bel:Below ub W3 wr
theorem aes (w:FW) (F:FI) (vg vm:F7) (g:Gm) (m:List (List Rat)) (hg:AA w F vg g) (hm:Ak w F vm m) (hml:m.length<=100) (hll:∀ l∈m,l.length<=1000) (hrl:∀ l∈m,∀ x∈l,rl x<=20000) (hs:∀ l∈m,∀ k,rl (fO (l.take k))<=20000) :
  Calls FY 48 #[vg,vm] w (Ret w λu w'=>Ak w' (Ext F w.heap.size) u (dM m)):=by
 have HM:=Ac hm;have HRL:=Ac hrl;have HLL:=Ac hll;have HSS:=Ac hs;obtain⟨vn,vi,rfl,⟨A,c,rfl,-,-⟩,⟨Ai,ci,rfl,-,-⟩⟩:=hg;obtain⟨n,hn⟩:=FH m.length;obtain⟨Am,cm,e,-,-⟩:=hm;rw[FX,<-hn] at e;subst e;have HN:=Ac hn;have hn100:n<=100:=EN;clear hrl hll hs hml hn;go_in
 go_upto_region 1 with(fail)
 refine ZJ ?_;intro W hW rx hB hz;have HB:=Ac hB;have hWz:=hB.size;clear hW hz rx hB;go_wp2_with fail
 go_loopw [5,6] (λov iv wr=>∃ (k:Nat) (L:List (F7×List Raw)),k<=n/\iv = F6 F5 (k:Int)/\L.length=k/\L.map Prod.snd=((dM m).take k).map (GK au)/\OwnSl lV wr W.heap.size 38 (Ext F w.heap.size) ov L/\Below W.heap.size W wr) (λ_ iv _=>n - (intOf iv).toNat)
 case atStart=>exact⟨0,[],EN,rfl,rfl,rfl,OwnSl.nil _ _ _ _ _,F9 _ _⟩
 case round =>
  obtain⟨k,L,hk,rfl,hLl,hLm,hown,hbel⟩:=hrel;obtain⟨wa,rfl⟩:=FH wr;have Ce:=Ac hLl;have HLM:=Ac hLm;have HO:=Ac hown;have hbz:=hbel.size;clear hLl hLm hown;by_cases hlt:k < n
  ·obtain⟨row,hrow⟩:=FC (l:=m) (k:=k) (by rw[<-HN.out]; exact hlt);have AZ:=Ac hrow;have hr1000:=HLL.out row (FT hrow);have HSR:=Ac (HSS.out row (FT hrow));have HTK:=Ac (aiC hrow);clear hrow;go_wp2_with fail
   refine(mP wa 0 aA aA).mono ?_;rintro e w2 ⟨u1,rfl,hb,hu⟩;obtain⟨z0,hz0⟩:∃ y:Rat,y=((0:Int):Rat):=⟨_,rfl⟩;rw[<-hz0] at hu;have HZ:=Ac (show z0=0 by rw[hz0]; rfl);obtain⟨A1,c1,B1,d1,rfl,hf1⟩:=Ah.opened hu;have hb2:=hb;clear hu hz0 hb;dsimp only;go_upto_region 6 with(fail)
   obtain⟨W3,hW3,r3,hb,hz3⟩:=aJ w2 42 #[Gj (au z0).neg,FQ A1 (au z0).num.length c1,FQ B1 (au z0).den.length d1];rw[<-hW3];obtain⟨ub,hub⟩:=FH w2.heap.size;have hf3:RV.fine W3 (λb=>(Old F w.heap.size b\/wa.heap.size<=b)/\b≠ub) ⟨au z0,FQ A1 (au z0).num.length c1,FQ B1 (au z0).den.length d1⟩:=RV.fine.keep hf1 (λb hb hl=>⟨.inr hb,EN⟩) (FZ hb _);rw[<-hub] at r3 ⊢;have hb3:=hb2.trans (hb.mono hb2.size);have aou:wa.heap.size<=ub:=by have:=hb2.size;omega
   have hub3:ub < W3.heap.size:=EN;have hst:Ef F w wa W3 ub z0 A1 c1 B1 d1 W3:=⟨r3,hf3,F9 _ _⟩;have HST:=Ac hst;have hB3:=HB.out.trans ((hbel.trans (hb3.mono hbz)).mono hWz);obtain⟨A',c',e,_,hxm⟩:=HM.out;rw[FX,<-HN.out] at e;injection e with e1 e2 e3
   subst e1;obtain⟨mb,mo,rfl,_,y8,hcm⟩:=hxm (by rw[FX,<-HN.out]; omega);refine zda ?_;intro vr hvr hra;refine zbd ?_;clear hvr;intro hvr lq;obtain⟨Ar,cr,rfl,-,-⟩:=hra;rw[FX] at hvr;rw[FX] at lq;have HRV:=Ac lq;have HVR:=Ac hvr;clear hf1 hb2 hb hz3 hub hW3 r3 hf3 hst e2 e3 hxm hcm hvr lq;go_wp2_with fail
   go_loopw [8] (λiv wr=>∃ (j:Nat) (acc:Rat) (A:Option Addr) (c:Nat) (B:Option Addr) (d:Nat),j<=row.length/\iv = F6 F5 (j:Int)/\acc=fO (row.take j)/\Ef F w wa W3 ub acc A c B d wr) (λiv _=>row.length - (intOf iv).toNat)
   case atStart=>exact⟨0,z0,_,_,_,_,GR _,rfl,by rw[HZ.out]; rfl,HST.out⟩
   case round =>
    clear HST;obtain⟨j,acc,A2,c2,B2,d2,hj,rfl,hacc,hst⟩:=hrel;obtain⟨wb,rfl⟩:=FH wr;have HST:=Ac hst;have HAC:=Ac hacc;have hBu:=hst.bel;have ac3:=hB3.trans (hBu.mono (show w.heap.size<=ub by omega));have m1:=(ac3.cell (p:=⟨mb,mo+k,none⟩) y8).trans HVR.out;have aml:rl acc<=20000:=by rw[hacc];exact HSR.out j
    have mW:=hst.tu.lt;clear hst hacc;by_cases hjt:j < row.length
    ·obtain⟨x,hx⟩:=FC hjt;have HX:=Ac hx;refine zdh ?_;intro HXL;obtain⟨rb,ro,rc,vn,vd,e,aaW,adH,y0,y1,y2,hn,hd⟩:=FK.at (HRV.out.on (FZ ac3 _)) (show(row.map au)[j]? = some (au x) by rw[Gi,hx]; rfl);injection e with e1 e2 e3
     subst e1;refine zcI ?_;intro HXV;obtain⟨An,cn,rfl,-,-⟩:=hn;obtain⟨Ad,cd,rfl,-,-⟩:=hd;refine zcc ?_;intro u0 u1 u2 HUB;refine YG ?_;intro HAV;have hBn:=hBu;have hjr:(j:Int) < row.length:=EN;clear HST e2 e3 hx aaW adH;go_wp2_with fail
     refine aW (λw'=>w'.cell? ⟨ub,0,none⟩=some (Gj (au acc).neg)/\w'.cell? ⟨ub,1,none⟩=some (FQ A2 (au acc).num.length c2)/\w'.cell? ⟨ub,2,none⟩=some (FQ B2 (au acc).den.length d2)/\w'.cell? ⟨mb,mo+k,none⟩=some (FQ (some ⟨rb,ro,none⟩) row.length cr)/\w'.cell? ⟨rb,ro+j*3,none⟩=some (Gj (au x).neg)/\w'.cell? ⟨rb,ro+j*3+1,none⟩=some (FQ An (au x).num.length cn)/\w'.cell? ⟨rb,ro+j*3+2,none⟩=some (FQ Ad (au x).den.length cd)) 9 1 ak rfl ak ?_;have hHeld:(λw':FW=>w'.cell? ⟨ub,0,none⟩=some (Gj (au acc).neg)/\w'.cell? ⟨ub,1,none⟩=some (FQ A2 (au acc).num.length c2)/\w'.cell? ⟨ub,2,none⟩=some (FQ B2 (au acc).den.length d2)/\w'.cell? ⟨mb,mo+k,none⟩=some (FQ (some ⟨rb,ro,none⟩) row.length cr)/\w'.cell? ⟨rb,ro+j*3,none⟩=some (Gj (au x).neg)/\w'.cell? ⟨rb,ro+j*3+1,none⟩=some (FQ An (au x).num.length cn)/\w'.cell? ⟨rb,ro+j*3+2,none⟩=some (FQ Ad (au x).den.length cd)) wb.drew:=⟨u0,u1,u2,m1,y0,y1,y2⟩;refine Zv ?_;have hb:Below wb.heap.size wb wb.drew:=aI (F9 _ wb) 1;refine ZU ?_;clear u0 u1 u2 m1 y0 y1 y2 HXV;intro u0 u1 u2 m1 y0 y1 y2 HXV;refine YL ?_;clear HAV HUB hBn mW hb;intro HAV HUB hBn mW;generalize wb.drew=wn at *;refine tkm [0,1,2,3,4,5,6,7] ?_;refine tk2 8 ak rfl λK hK=>?_
     go_simp;refine(kV wn (λb=>(Old F w.heap.size b\/wa.heap.size<=b)/\b≠ub) _ _ acc x HAV.out HXV.out aml HXL.out).mono ?_;rintro e wn ⟨vp,rfl,hb,hu⟩;obtain⟨pr,hpr⟩:=FH (acc+x);rw[<-hpr] at hu;refine zdj ?_;intro HPV;have HPR:=Ac hpr;obtain⟨A4,c4,B4,d4,rfl,-⟩:=hu.opened;clear hu hpr;refine ZU ?_;clear u0 u1 u2 m1 y0 y1 y2 HXV;intro u0 u1 u2 m1 y0 y1 y2 HXV;refine YL ?_;clear HAV HUB hBn mW hb;intro HAV HUB hBn mW;refine zdi ?_;clear hHeld;intro hHeld;refine zaq ?_;clear hK K hHeld;intro f0 f1 f2 Wz hWz hrz hwz HWZ;have HPZ:=Ac (Ah.on HPV.out (hwz.same λb hb=>hb.2));have hBz:=Wrote.below hBn hwz (λb hb=>by omega) EN;clear hWz hwz HPV;go_wp2
     rw[<-HWZ.out];unfold Bj;refine zaB ?_;clear f0 f1 f2 u0 u1 u2 m1 y0 y1 y2 HWZ HXV HAV HUB;have hst2:Ef F w wa W3 ub pr A4 c4 B4 d4 Wz:=⟨hrz,Ah.aiG HPZ.out,hBz⟩;have Cc:=Ac hst2;clear hst2 hrz hBz HPZ;go_wp2
     go_roundw
     case rel=>exact⟨j+1,pr,_,_,_,_,EN,by go_num,by rw[HPR.out,FP HX.out,tN,<-HAC.out],Cc.out⟩
     case measure=>simp[intOf]; omega
    ·have hje:j=row.length:=EN;subst hje;have hsum:acc=fO row:=by rw[HAC.out,Gl (FV _)]
     have DJ:=Ac hsum;refine zcc ?_;intro u0 u1 u2 HUB;refine YG ?_;intro HAV;clear HST hsum;go_wp2_with fail
     refine(akh wb _ _ acc HAV.out).mono ?_;rintro e wq ⟨_,rfl,hb5,rfl⟩;replace hBu:=hBu.trans (hb5.mono EN);replace HUB:=Ac (HUB.out.below hb5 mW);replace HAV:=Ac (Hw HAV.out hb5);replace ac3:=ac3.trans (hb5.mono ac3.size);replace mW:=HUB.out.lt;replace m1:=ah m1 hb5;replace u0:=ah u0 hb5;replace u1:=ah u1 hb5;replace u2:=ah u2 hb5;have ac2:=hb3.trans (hBu.mono aou);have aiH:=ac2.size;clear hb5;by_cases ha0:acc=0
     ·have d0:decide (acc=0)=true:=Mc ha0;have HBR:=Ac (show jA row=mZ row.length from afm (by rw[<-DJ.out]; exact ha0));clear ha0;rw[d0];clear u0 u1 u2;dsimp only;go_wp2_with fail
      refine(akI _ row.length hr1000).mono ?_;rintro e w6 ⟨va,rfl,hb,hu⟩;have HHO:=Ac (HO.out.below (ac2.trans (hb.mono aiH)));have HF:=Ac (show FK w6 (Apart (Ext F w.heap.size) u5) va ((mZ row.length).map au) from FK.keep hu (λb hb _=>⟨.inr EN,λe=>by have:=(HO.out.row.lt b e).2; omega⟩) (Gh _ _));obtain⟨Au,cu,e,-,-⟩:=hu;have hla:((mZ row.length).map au).length=row.length:=by rw[FX];exact List.length_replicate ..
      rw[hla] at e;subst e;have hbw:=hbel.trans ((ac2.trans (hb.mono aiH)).mono hbz);clear hb hla m1;dsimp only;go_wp2_with (at_builtin; refine iH (K:=lV) (F:=Ext F w.heap.size) rfl _ _ 30 38 24 _ Tryz.underlying30 Tryz.infoRats rfl aA rfl W.heap.size (FV _) u5 L rfl (FQ Au row.length cu,(mZ row.length).map au) _ rfl (by have:=Ce.out; omega) rfl HHO.out HF.out hbw ?_; intro g' cap w' hown' aZ hlt' _; have HO':=Ac hown'; clear hown')
      go_roundw
      case rel=>exact⟨k+1,_,EN,by go_num,by rw[Gn,Ce.out]; rfl,by rw[HTK.out,HBR.out,GL,GL,HLM.out]; rfl,HO'.out,aZ⟩
      case measure=>simp[intOf]; omega
     ·have d0:decide (acc=0)=false:=L9 ha0;have HBR:=Ac (show jA row=row.map (· / acc) by rw[DJ.out]; exact agW (by rw[<-DJ.out]; exact ha0));have HA0:=Ac ha0;clear ha0;rw[d0];clear m1;dsimp only;go_wp2_with fail
      clear u0 u1 u2;go_loopw [9,10] (λlv iv wr=>∃ (j:Nat) (L2:List RV),j<=row.length/\iv = F6 F5 (j:Int)/\L2.length=j/\L2.map RV.r=((jA row).take j).map au/\OwnSl ratK wr wq.heap.size 42 (λb=>Old F w.heap.size b\/wa.heap.size<=b) lv L2/\Below wq.heap.size wq wr) (λ_ iv _=>row.length - (intOf iv).toNat)
      case atStart=>exact⟨0,[],GR _,rfl,rfl,rfl,OwnSl.nil _ _ _ _ _,F9 _ _⟩
      case round =>
       obtain⟨j,L2,hj,rfl,hLl,hLm,hown,fQ⟩:=hrel;obtain⟨wd,rfl⟩:=FH wr;have Dx:=Ac hLl;have Dy:=Ac hLm;have HO3:=Ac hown;have BA:=Ac (λb (e:u9.ownBlock=some b)=>HO3.out.row.lt b e);have hBd:=ac3.trans (fQ.mono EN);have hdz:=fQ.size;have m1:=(hBd.cell (p:=⟨mb,mo+k,none⟩) y8).trans HVR.out;clear hLl hLm hown;by_cases hjt:j < row.length
       ·obtain⟨x,hx⟩:=FC hjt;refine zdh ?_;intro HXL;obtain⟨rb,ro,rc,vn,vd,e,aaW,adH,y0,y1,y2,hn,hd⟩:=FK.at (HRV.out.on (FZ hBd _)) (show(row.map au)[j]? = some (au x) by rw[Gi,hx]; rfl);injection e with e1 e2 e3
        subst e1;have HXV:=Ac (Ah.mono (JL (r:=au x) rfl hn hd) (G:=λb=>(Old F w.heap.size b\/wa.heap.size<=b)/\b < wq.heap.size) (λb hb _=>⟨.inl hb,by have:=hb.2; omega⟩));obtain⟨An,cn,rfl,-,-⟩:=hn;obtain⟨Ad,cd,rfl,-,-⟩:=hd;have hrbw:=aaW.2;have afr:=HUB.out.below fQ mW;have u0:=afr.cell (i:=0) rfl;have u1:=afr.cell (i:=1) rfl;have u2:=afr.cell (i:=2) rfl;have Eh:=Ac (JR (G:=λb=>(Old F w.heap.size b\/wa.heap.size<=b)/\b < wq.heap.size) HAV.out (λb hb hl=>⟨hb.1,hl⟩) (FZ fQ _));have HOE:=Ac (show(jA row)[j]? = some (x / acc) by rw[HBR.out,Gi,hx]; rfl);have hjr:(j:Int) < row.length:=EN;have hBe:=F9 wd.heap.size wd;clear e2 e3 hx afr aaW adH;go_wp2_with fail
        refine Z8 ?_;intro hHeld hb;clear u0 u1 u2 m1 y0 y1 y2 HXV;intro u0 u1 u2 m1 y0 y1 y2 HXV;replace Eh:=Ac (Hw Eh.out hb);refine zaG ?_;clear HO3 hBe hb;intro HO3 hBe;generalize wd.drew=wn at *;refine tkm [0,1,2,3,4,5,6,7,8] ?_;refine tk2 9 ak rfl λK hK=>?_
        go_simp;refine(ah2 wn _ _ _ x acc HXV.out Eh.out HXL.out aml HA0.out).mono ?_;rintro e wn ⟨vp,rfl,hb,hu⟩;obtain⟨pr,hpr⟩:=FH (x / acc);rw[<-hpr] at hu HOE;have hez:=hBe.size;obtain⟨A4,c4,B4,d4,rfl,hf4⟩:=hu.opened;have HF4:=Ac (RV.fine.keep (G:=λb=>(Old F w.heap.size b\/wa.heap.size<=b)/\(b < wq.heap.size\/wd.heap.size<=b)) hf4 (λb hb _=>hb.elim (λh=>⟨h.1,.inl h.2⟩) λh=>⟨.inr EN,.inr EN⟩) (Gh _ _));clear hu hpr hf4;refine ZU ?_;clear u0 u1 u2 m1 y0 y1 y2 HXV;intro u0 u1 u2 m1 y0 y1 y2 HXV;replace Eh:=Ac (Hw Eh.out hb);refine zaG ?_;clear HO3 hBe hb;intro HO3 hBe;refine zdi ?_;clear hHeld;intro hHeld;clear hK K;refine Zb ?_;refine tk2 10 ak rfl λK hK=>?_
        go_simp;refine YS ?_;clear hK K;intro hHeld K hK;have hez:=hBe.size;refine wG (K:=ratK) (F:=λb=>Old F w.heap.size b\/wa.heap.size<=b) rfl _ _ 38 42 56 _ Tryz.underlying38 Tryz.infoRat rfl aA rfl wq.heap.size (by omega:wq.heap.size<=wn.heap.size) u9 L2 rfl ⟨au pr,FQ A4 (au pr).num.length c4,FQ B4 (au pr).den.length d4⟩ _ rfl (by have:=Dx.out; omega) rfl HO3.out (RV.fine.keep HF4.out (λb hb _=>⟨hb.1,λe=>by have:=BA.out b e; omega⟩) (Gh _ _)) (F9 _ _) ?_;intro gg cap w5 hown5 abu aiI lT;have HO5:=Ac hown5;have HB5:=Ac ((fQ.trans (hBe.mono hdz)).trans abu);have u05:=(Gs (lT.2 ub (λe=>by have:=BA.out ub e; omega) (Gg _ _ u0))).trans u0;have u15:=(Gs (lT.2 ub (λe=>by have:=BA.out ub e; omega) (Gg _ _ u1))).trans u1;have u25:=(Gs (lT.2 ub (λe=>by have:=BA.out ub e; omega) (Gg _ _ u2))).trans u2;have m15:=(Gs (lT.2 mb (λe=>by have:=BA.out mb e; omega) (Gg _ _ m1))).trans m1;have y05:=(Gs (lT.2 rb (λe=>by have:=BA.out rb e; omega) (Gg _ _ y0))).trans y0;have y15:=(Gs (lT.2 rb (λe=>by have:=BA.out rb e; omega) (Gg _ _ y1))).trans y1;have y25:=(Gs (lT.2 rb (λe=>by have:=BA.out rb e; omega) (Gg _ _ y2))).trans y2;clear hown5 abu aiI lT hBe hez HO3 u0 u1 u2 m1 y0 y1 y2;refine hK.out _ _ ⟨u05,u15,u25,m15,y05,y15,y25⟩ (λhHeld=>?_);clear hK K;refine Zb ?_;refine tkm [12] ?_;refine Yf ?_;clear hHeld u05 u15 u25 m15 y05 y15 y25;refine zaB ?_;go_wp2
        go_roundw
        case rel=>exact⟨j+1,L2 ++ [⟨au pr,FQ A4 (au pr).num.length c4,FQ B4 (au pr).den.length d4⟩],EN,by go_num,by rw[Gn,Dx.out]; rfl,by rw[GL,Dy.out,FP HOE.out,GL]; rfl,HO5.out,HB5.out⟩
        case measure=>simp[intOf]; omega
       ·have hje:j=row.length:=EN;subst hje;have hol:(jA row).length=row.length:=by rw[HBR.out,FX]
        have hHO:=HO.out.below (ac2.trans (fQ.mono aiH));have hrw:=HO3.out.raws (G:=Apart (Ext F w.heap.size) u5) (λb hb=>hb.elim (λh=>⟨.inl h.1,λe=>by have:=(HO.out.row.lt b e).1; have:=h.2; omega⟩) λh=>⟨.inr EN,λe=>by have:=(HO.out.row.lt b e).2; omega⟩) (λb hb=>⟨.inr EN,λe=>by have:=(HO.out.row.lt b e).2; omega⟩);rw[Dy.out,Gl EN] at hrw;obtain⟨Az,cz,e,-,-⟩:=(show FK _ _ _ _ from hrw);rw[FX,hol] at e;subst e;have HRW:=Ac hrw;have HOO:=Ac hHO;have hbw:=hbel.trans ((ac2.trans (fQ.mono aiH)).mono hbz);clear hrw hHO hol fQ hBd ac2 hBu;go_wp2_with (at_builtin; refine iH (K:=lV) (F:=Ext F w.heap.size) rfl _ _ 30 38 24 _ Tryz.underlying30 Tryz.infoRats rfl aA rfl W.heap.size (FV _) u5 L rfl (FQ Az row.length cz,(jA row).map au) _ rfl (by have:=Ce.out; omega) rfl HOO.out HRW.out hbw ?_; intro g' cap w' hown' aZ hlt' _; have HO':=Ac hown'; clear hown')
        go_roundw
        case rel=>exact⟨k+1,_,EN,by go_num,by rw[Gn,Ce.out]; rfl,by rw[HTK.out,GL,GL,HLM.out]; rfl,HO'.out,aZ⟩
        case measure=>simp[intOf]; omega
  ·have hke:k=n:=EN;subst hke;have hol:(dM m).length=k:=by unfold dM;rw[FX,HN.out]
   exact zas
section
variable {w:FW} {F:FI} {fb:Nat} {t:TypeId}
theorem C9.aaX (hr:Row w fb t [Gj false,FQ none 0 0,FQ none 0 0]) (h:C9 w F b o r):C9 w (λx=>F x/\x≠fb) b o r :=
 ⟨h.1,h.2.1.imp λ_ h=>⟨h.1,h.2.aaV hr⟩,h.2.2.imp λ_ h=>⟨h.1,h.2.aaV hr⟩⟩
theorem FK.aaX {v:F7} {l:List Raw} (hr:Row w fb t [Gj false,FQ none 0 0,FQ none 0 0]) (hd:∀ r∈l,r.den≠[]) (h:FK w F v l):FK w (λx=>F x/\x≠fb) v l:=by
 obtain⟨A,c,rfl,hc,hx⟩:=h;refine⟨A,c,rfl,hc,λh0=>?_⟩;obtain⟨b,o,rfl,hF,hb,hx⟩:=hx h0;refine⟨b,o,rfl,⟨hF,?_⟩,hb,λk r hk=>(hx k r hk).aaX hr⟩;rintro rfl;obtain⟨y,hy⟩:=FC (l:=l) (k:=0) h0;obtain⟨e0,_,⟨u,e2,A2,c2,rfl,_⟩⟩:=hx 0 y hy;have hy0:=hd y (FT hy);have hr':w.heap[b]? = some (.cells #[Gj false,FQ none 0 0,FQ none 0 0] t):=hr;rcases o with _ | _ | _ | o <;> simp[World.cell?,hr'] at e0 e2
 exact hy0 (by simpa using e2.2.1.symm)
theorem FM.aaX {v:F7} {m:List (List Raw)} (hr:Row w fb t [Gj false,FQ none 0 0,FQ none 0 0]) (hd:∀ l∈m,l≠[]/\∀ r∈l,r.den≠[]) (h:FM w F v m):FM w (λx=>F x/\x≠fb) v m:=by
 obtain⟨A,c,rfl,hc,hx⟩:=h;refine⟨A,c,rfl,hc,λh0=>?_⟩;obtain⟨b,o,rfl,hF,hb,hx⟩:=hx h0;refine⟨b,o,rfl,⟨hF,?_⟩,hb,λk l hk=>(hx k l hk).imp λ_ h=>⟨h.1,h.2.aaX hr (hd l (FT hk)).2⟩⟩;rintro rfl;obtain⟨y,hy⟩:=FC (l:=m) (k:=0) h0;obtain⟨u,e0,A2,c2,rfl,_⟩:=hx 0 y hy;have hy0:=(hd y (FT hy)).1;have hr':w.heap[b]? = some (.cells #[Gj false,FQ none 0 0,FQ none 0 0] t):=hr;rcases o with _ | _ | _ | o <;> simp[World.cell?,hr'] at e0
 all_goals exact hy0 (by simpa using e0.2.1.symm)
theorem abv (h:∀ l∈m,l≠[]):∀ l∈m.map (GK au),l≠[]/\∀ r∈l,r.den≠[]:=by
 intro l hl;obtain⟨l',hl',rfl⟩:=List.mem_map.1 hl;refine⟨by simpa using h l' hl',λr hr=>?_⟩;obtain⟨x,_,rfl⟩:=List.mem_map.1 hr;have h1:0 < (dig x.den).length:=bg.2 x.den_nz;exact List.ne_nil_of_length_pos h1
end
end Go.Proofs.YtnmeejofpkhlkaaGreatDoor
