import Derived.Test.YtenaplhghbcjhaaGreatDoorQ07
import Derived.Test.YtenaplhghbcjhaaGreatDoorQ11
set_option linter.all false
set_option maxRecDepth 100000
set_option maxHeartbeats 0
namespace Go.Proofs.YtenaplhghbcjhaaGreatDoor
open And renaming intro->Iu
open Go.RowKit.Below renaming refl->GR
open Go.IntKind renaming i64->GU
open Go renaming Value->GN,World->GK
open Go.Value renaming int->GV
open Int renaming mul_le_mul_of_nonneg_right->J6,natCast_nonneg->Ls
open List renaming drop_eq_nil_of_le->Ip,length_set->Hy,length_take->Ik,replicate->GX
open Nat renaming add_zero->Jb,div_add_mod->Jh,eq_zero_or_pos->H6,gcd->Hr,le_refl->Gy,mod_lt->Ja,mul_one->Ho,zero_mul->Jc
open Same renaming drewN->Jv
open Tryz renaming infoU32->Jf
open Go.Proofs.Tryz renaming prog->GI,underlying39->Iw,underlying40->Ie
open Go.RowKit
variable {l:List Nat} {n:Nat}
def Dn (F:Gq) (m a b:Nat) (v:GN) (w':GK):Prop:=∃ vq vr,v = .tuple #[vq,vr]/\Ah w' (Ext F m) vq (a / b)/\Ah w' (Ext F m) vr (a % b)
theorem jP {w:GK} {b:Nat} {t:TypeId} (h:Row w b t (aW l)) {F:Gq} (hF:F b) {c:Nat} (hn:l.length=n) (hc:n<=c):Aj w F (.slice (some ⟨b,0,none⟩) n c) l:=by
 have:=h.limbs hF (n:=n) (c:=c) FI hc;grind
theorem ajZ (w:GK) (F:Gq) (va vb:GN) (a b:Nat) (ha:Ah w F va a) (hb:Ah w F vb b) (hb0:2<=(dig b).length) (hla:(dig a).length<=100000) (hge:b<=a) :
  Calls GI 174 #[va,vb] w (Ret w (Dn F w.heap.size a b)):=by
 have HVA:=Ag ha;have HVB:=Ag hb;have hlb:(dig b).length<=(dig a).length:=aV hge;have hb00:b≠0:=bD.1 FI;have hord:decide (bZ a b < 0)=false:=by
  refine zcW ?_;split <;> (try split) <;> omega
 obtain⟨A,c,rfl,hc,_⟩:=ha;obtain⟨B,d,rfl,hd,hNb⟩:=hb;have hd1:(((dig b).length:Int)==1)=false:=beq_false_of_ne FI;obtain⟨n,hn⟩:=Gp ((dig b).length);obtain⟨la,aa9⟩:∃ la,la=(dig a).length:=⟨_,rfl⟩;obtain⟨b1,o1,rfl,_,hb1',hx⟩:=hNb FI;obtain⟨t,ht'⟩:=Gl (l:=dig b) (k:=n - 1) FI;have et:=hx (n - 1) t ht';unfold bY at et;rw[Ho] at et;have gt:(dig b).getD (n - 1) 0=t:=aJ ht';have htl:t < 1000000000:=(aO b).get ht';have ht1:1<=t:=by have:=(sK hb00).1;rw[<-hn,gt] at this;exact this
 obtain⟨f1,f2,_,_,_⟩:=iZ ht1 htl;have hfI:(1000000000:Int) / ((t:Int)+1)=((LB / (t+1):Nat):Int):=by
  rw[show((t:Int)+1)=((t+1:Nat):Int) by omega,show(1000000000:Int)=((LB:Nat):Int) from rfl,nP]
 refine za6 ?_;intro f hf agn hfit HDB;have HF1:=Ag hfit;have HF2:=Ag agn;have HOR:=Ag hord;have HD1:=Ag hd1;have HFI:=Ag hfI;have HF:=Ag hf;rw[<-hn] at hd1;rw[<-hf] at hfI f1 f2;rw[<-hn] at hb0 hlb hd HD1 ⊢;rw[<-aa9] at hla hlb hc ⊢;have HN:=Ag hn;have HLA:=Ag aa9;rw[<-hn] at HVB;rw[<-aa9] at HVA;refine zcM ?_;intro n1 hn1;have i1:(n:Int) - 1=(n1:Int):=FI;rw[show n - 1=n1 by omega] at et;have l1:n1 < n:=FI;clear hn aa9 gt hx ht' hf hfit agn hord hge hn1;go_in;go_wp2_with fail
 refine(aao w F _ _ a b HVA.o HVB.o (by rw[<-HLA.o]; omega) (by rw[<-HN.o]; omega)).mono ?_;rintro e w' ⟨rfl,z0,rfl⟩;have hord:=HOR.o;generalize bZ a b=od at *;go_wp2_with fail
 refine(acN _ F _ a f (la+1) (HVA.o.on (Jv _ _ _)) (by rw[HLA.o]; omega) FI f1 FI (by rw[HLA.o]; exact HF2.o)).mono ?_;rintro e w1 ⟨_,rfl,zI,rfl,U0,hul,agp,hun,hru⟩;have hzz:w.heap.size<=w1.heap.size:=zI.size;have aol:w.heap.size < w1.heap.size:=hru.lt;go_wp2_with fail
 refine(acN w1 F _ b f n ((HVB.o.on (Jv _ _ z0)).below zI) (by rw[HN.o]; exact Gy _) FI f1 FI HF1.o).mono ?_;rintro e w2 ⟨_,rfl,hbw2,rfl,vv,hvl,agq,hvn,hrv⟩;have hdb:=HDB.o vv hvl agq hvn;have HDV:=Ag hdb;clear hdb hvn;have alA:=hru.below hbw2 hru.lt;have alB:=hrv;have HRV:=Ag alB;have HRU:=Ag alA;refine zdR ?_;intro HSU hB2;have HVL:=Ag hvl;have hult:w1.heap.size < w2.heap.size:=hrv.lt;clear hrv alB hru alA hul agp hun hvl agq zI hbw2;have i3:(la:Int) - (n:Int)+1=((la - n+1:Nat):Int):=FI;go_wp2_with (at_make; refine fG _ rfl _ _ 40 rfl 103 (.int .u32 0) 4 Ie Jf rfl (la - n+1) rfl rfl FI FI ?_; intro w3 hb3 hz3 hrq)
 have HRQ:=Ag hrq;have hq3:w2.heap.size < w3.heap.size:=hrq.lt;have alC:=HRV.o.below hb3 HRV.o.lt;have alD:=HRU.o.below hb3 HRU.o.lt;have hB3:=hB2.trans (hb3.mono hB2.size);have EJ:=Ag alC;have EK:=Ag alD;clear hrq hb3 alC alD;go_loopw [12] (λi wr=>∃ (k:Nat) (U q:List Nat),i = GV GU ((k:Int) - 1)/\BP a f vv n la k U q/\k<=la - n+1/\Row wr w.heap.size 103 (aW U)/\Row wr w2.heap.size 103 (aW q)/\Row wr w1.heap.size 103 (aW vv)/\Below w.heap.size w wr/\w3.heap.size<=wr.heap.size) (λi _=>(intOf i+1).toNat)
 case atStart=>exact⟨la - n+1,U0,_,by go_num,HSU.o,FI,EK.o,by rw[fO]; exact HRQ.o,EJ.o,hB3,Gy _⟩
 case round =>
  clear HSU EK EJ HRQ hB3 HRV HRU hB2;obtain⟨k,U,q,rfl,hdi,hk,hru,hrq,hrv,hbel,hsz⟩:=hrel;rcases H6 k with h0 | h0
  ·subst h0;obtain⟨hq,hr,hu⟩:=hdi.last HDV.o;have HQ:=Ag hq;have HR:=Ag hr;have htl:(U.take n).length=n:=by rw[Ik,hdi.ul];omega
   have HTL:=Ag htl;have hdl:(dig (aF (U.take n))).length<=n:=by
    refine bC ?_;have:=gq (hdi.af0.take n);rwa [htl] at this
   have HUL:=Ag (hdi.af0.take n);have HQL:=Ag hdi.aoe;have HQN:=Ag hdi.ql;have hsl:=hru.limbs (F:=λb=>w.heap.size<=b) (n:=n) (c:=la+1) (by show w.heap.size<=w.heap.size; omega) (by rw[hdi.ul]; omega) FI;have HSL:=Ag hsl;clear hdi hq hr hu htl hsl;go_wp2_with fail
   refine(yt wr (λb=>w.heap.size<=b) (some ⟨w.heap.size,0,none⟩) n (la+1) (U.take n) HTL.o HSL.o FI).mono ?_;rintro e w' ⟨rfl,rfl⟩;have HTR:=Ag (Aj.trim HTL.o HSL.o HUL.o);go_wp2_with fail
   refine(acL wr (λb=>w.heap.size<=b) _ (aF (U.take n)) f HTR.o FI f1 FI).mono ?_;rintro e w5 ⟨_,rfl,hb5,vr,rfl,hvr⟩;have alE:=hrq.below hb5 hrq.lt;have HVR:=Ag hvr;have EL:=Ag alE;clear hvr alE;go_wp2_with fail
   refine(yt w5 (λb=>w.heap.size<=b) (some ⟨w2.heap.size,0,none⟩) (la - n+1) (la - n+1) q HQN.o (jP EL.o (by show w.heap.size<=w2.heap.size; omega) HQN.o (Gy _)) FI).mono ?_;rintro e w' ⟨rfl,rfl⟩;go_wp2
   go_ret2;refine⟨_,rfl,hbel.trans (hb5.mono hbel.size),_,_,rfl,?_,?_⟩
   ·exact zcH
   ·have h1:=HVR.o;rw[HR.o] at h1;exact h1.mono λb hb _=>.inr FI
  ·obtain⟨j,rfl⟩:∃ j,k=j+1:=⟨k - 1,FI⟩;refine Yn ?_;have HDI:=Ag hdi;have hjn:j+n<=la:=FI;have aeY:=hdi.est HDV.o hjn;have HES:=Ag aeY;have hPl:(U.take j).length=j:=by rw[Ik,hdi.ul];omega
   have HPL:=Ag hPl;have HRU:=Ag (show Row wr w.heap.size 103 (aW (U.take j++(U.drop j).take (n+1)++U.drop (j+(n+1)))) by rw[<-ahD]; exact hru);have HRQ:=Ag hrq;have HRV:=Ag hrv;have hql:=hdi.ql;obtain⟨z,hz⟩:=Gl (l:=q) (k:=j) FI;have HZ:=Ag hz;have HQ:=Ag hql;clear hdi aeY hPl hru hrq hrv hql hz;go_wp2_with fail
   rw[show j+n+1 - j=n+1 by omega];refine(ahX wr w.heap.size w1.heap.size _ _ _ vv j n (la+1 - j) n HPL.o HRU.o HRV.o FI HES.o FI FI FI FI).mono ?_;rintro e w4 ⟨rfl,⟨u',aa6,agr,hun',alF⟩,hgr⟩;have hq4:=HRQ.o.grown hgr FI;have hv4:=HRV.o.grown hgr FI;have hb4:=hbel.grown hgr hbel.size (λk hk=>by injection hk; omega);have hs4:=hgr.size;have hqc:=hq4.cell (bg HZ.o);have hqf:=hq4.frozen j;have hdl:=HES.o.q_lt;have HST:=Ag (HDI.o.step HDV.o hjn aa6 agr hun' rfl);have HQ4:=Ag hq4;have HV4:=Ag hv4;have HU4:=Ag alF;obtain⟨dd,hdd⟩:=Gp (aF ((U.drop j).take (n+1)) / aF vv);rw[<-hdd] at hdl HST ⊢;have hdl2:dd < 1000000000:=hdl;clear aa6 agr hun' alF hgr hq4 hv4 hdd hdl;go_wp2
   go_roundw
   case rel =>
    exact zay
   case measure=>simp[intOf]
theorem aff (w:GK) (F:Gq) (va vb:GN) (a b:Nat) (ha:Ah w F va a) (hb:Ah w F vb b) (hb0:2<=(dig b).length) (hla:(dig a).length<=100000) (hge:b<=a) :
  Calls GI 102 #[va,vb] w (Ret w (Dn F w.heap.size a b)):=by
 have HVA:=Ag ha;have HVB:=Ag hb;have hlb:(dig b).length<=(dig a).length:=aV hge;have hb00:b≠0:=bD.1 FI;have hord:decide (bZ a b < 0)=false:=by
  refine zcW ?_;split <;> (try split) <;> omega
 obtain⟨A,c,rfl,hc,_⟩:=ha;obtain⟨B,d,rfl,hd,hNb⟩:=hb;have hd1:(((dig b).length:Int)==1)=false:=beq_false_of_ne FI;obtain⟨n,hn⟩:=Gp ((dig b).length);obtain⟨la,aa9⟩:∃ la,la=(dig a).length:=⟨_,rfl⟩;obtain⟨b1,o1,rfl,_,hb1',hx⟩:=hNb FI;obtain⟨t,ht'⟩:=Gl (l:=dig b) (k:=n - 1) FI;have et:=hx (n - 1) t ht';unfold bY at et;rw[Ho] at et;have gt:(dig b).getD (n - 1) 0=t:=aJ ht';have htl:t < 1000000000:=(aO b).get ht';have ht1:1<=t:=by have:=(sK hb00).1;rw[<-hn,gt] at this;exact this
 obtain⟨f1,f2,_,_,_⟩:=iZ ht1 htl;have hfI:(1000000000:Int) / ((t:Int)+1)=((LB / (t+1):Nat):Int):=by
  rw[show((t:Int)+1)=((t+1:Nat):Int) by omega,show(1000000000:Int)=((LB:Nat):Int) from rfl,nP]
 refine za6 ?_;intro f hf agn hfit HDB;have HF1:=Ag hfit;have HF2:=Ag agn;have HOR:=Ag hord;have HD1:=Ag hd1;have HFI:=Ag hfI;have HF:=Ag hf;rw[<-hn] at hd1;rw[<-hf] at hfI f1 f2;rw[<-hn] at hb0 hlb hd HD1 ⊢;rw[<-aa9] at hla hlb hc ⊢;have HN:=Ag hn;have HLA:=Ag aa9;rw[<-hn] at HVB;rw[<-aa9] at HVA;refine zcM ?_;intro n1 hn1;have i1:(n:Int) - 1=(n1:Int):=FI;rw[show n - 1=n1 by omega] at et;have l1:n1 < n:=FI;clear hn aa9 gt hx ht' hf hfit agn hord hge hn1;go_in;go_wp2_with fail
 refine(jF w F _ _ a b HVA.o HVB.o (by rw[<-HLA.o]; omega) (by rw[<-HN.o]; omega)).mono ?_;rintro e w' ⟨rfl,z0,rfl⟩;have hord:=HOR.o;generalize bZ a b=od at *;go_wp2_with fail
 refine(abJ _ F _ b f n (HVB.o.on (Jv _ _ _)) (by rw[HN.o]; exact Gy _) FI f1 FI HF1.o).mono ?_;rintro e w1 ⟨_,rfl,zI,rfl,vv,hvl,agq,hvn,hrv⟩;have hdb:=HDB.o vv hvl agq hvn;have HDV:=Ag hdb;clear hdb hvn;have hzz:w.heap.size<=w1.heap.size:=zI.size;have aol:w.heap.size < w1.heap.size:=hrv.lt;go_wp2_with fail
 refine(abJ w1 F _ a f (la+1) ((HVA.o.on (Jv _ _ z0)).below zI) (by rw[HLA.o]; omega) FI f1 FI (by rw[HLA.o]; exact HF2.o)).mono ?_;rintro e w2 ⟨_,rfl,hbw2,rfl,U0,hul,agp,hun,hru⟩;have alB:=hrv.below hbw2 hrv.lt;have alA:=hru;have HRV:=Ag alB;have HRU:=Ag alA;refine zdR ?_;intro HSU hB2;have HVL:=Ag hvl;have hult:w1.heap.size < w2.heap.size:=hru.lt;clear hrv alB hru alA hul agp hun hvl agq zI hbw2;have i3:(la:Int) - (n:Int)+1=((la - n+1:Nat):Int):=FI;go_wp2_with (at_make; refine fG _ rfl _ _ 39 rfl 103 (.int .u32 0) 4 Iw Jf rfl (la - n+1) rfl rfl FI FI ?_; intro w3 hb3 hz3 hrq)
 have HRQ:=Ag hrq;have hq3:w2.heap.size < w3.heap.size:=hrq.lt;have alC:=HRV.o.below hb3 HRV.o.lt;have alD:=HRU.o.below hb3 HRU.o.lt;have hB3:=hB2.trans (hb3.mono hB2.size);have EJ:=Ag alC;have EK:=Ag alD;clear hrq hb3 alC alD;go_loopw [12] (λi wr=>∃ (k:Nat) (U q:List Nat),i = GV GU ((k:Int) - 1)/\BP a f vv n la k U q/\k<=la - n+1/\Row wr w1.heap.size 103 (aW U)/\Row wr w2.heap.size 103 (aW q)/\Row wr w.heap.size 103 (aW vv)/\Below w.heap.size w wr/\w3.heap.size<=wr.heap.size) (λi _=>(intOf i+1).toNat)
 case atStart=>exact⟨la - n+1,U0,_,by go_num,HSU.o,FI,EK.o,by rw[fO]; exact HRQ.o,EJ.o,hB3,Gy _⟩
 case round =>
  clear HSU EK EJ HRQ hB3 HRV HRU hB2;obtain⟨k,U,q,rfl,hdi,hk,hru,hrq,hrv,hbel,hsz⟩:=hrel;rcases H6 k with h0 | h0
  ·subst h0;obtain⟨hq,hr,hu⟩:=hdi.last HDV.o;have HQ:=Ag hq;have HR:=Ag hr;have htl:(U.take n).length=n:=by rw[Ik,hdi.ul];omega
   have HTL:=Ag htl;have hdl:(dig (aF (U.take n))).length<=n:=by
    refine bC ?_;have:=gq (hdi.af0.take n);rwa [htl] at this
   have HUL:=Ag (hdi.af0.take n);have HQL:=Ag hdi.aoe;have HQN:=Ag hdi.ql;have hsl:=hru.limbs (F:=λb=>w.heap.size<=b) (n:=n) (c:=la+1) (by show w.heap.size<=w1.heap.size; omega) (by rw[hdi.ul]; omega) FI;have HSL:=Ag hsl;clear hdi hq hr hu htl hsl;go_wp2_with fail
   refine(qN wr (λb=>w.heap.size<=b) (some ⟨w1.heap.size,0,none⟩) n (la+1) (U.take n) HTL.o HSL.o FI).mono ?_;rintro e w' ⟨rfl,rfl⟩;have HTR:=Ag (Aj.trim HTL.o HSL.o HUL.o);go_wp2_with fail
   refine(acK wr (λb=>w.heap.size<=b) _ (aF (U.take n)) f HTR.o FI f1 FI).mono ?_;rintro e w5 ⟨_,rfl,hb5,vr,rfl,hvr⟩;have alE:=hrq.below hb5 hrq.lt;have HVR:=Ag hvr;have EL:=Ag alE;clear hvr alE;go_wp2_with fail
   refine(qN w5 (λb=>w.heap.size<=b) (some ⟨w2.heap.size,0,none⟩) (la - n+1) (la - n+1) q HQN.o (jP EL.o (by show w.heap.size<=w2.heap.size; omega) HQN.o (Gy _)) FI).mono ?_;rintro e w' ⟨rfl,rfl⟩;go_wp2
   go_ret2;refine⟨_,rfl,hbel.trans (hb5.mono hbel.size),_,_,rfl,?_,?_⟩
   ·exact zcH
   ·have h1:=HVR.o;rw[HR.o] at h1;exact h1.mono λb hb _=>.inr FI
  ·obtain⟨j,rfl⟩:∃ j,k=j+1:=⟨k - 1,FI⟩;refine Yn ?_;have HDI:=Ag hdi;have hjn:j+n<=la:=FI;have aeY:=hdi.est HDV.o hjn;have HES:=Ag aeY;have hPl:(U.take j).length=j:=by rw[Ik,hdi.ul];omega
   have HPL:=Ag hPl;have HRU:=Ag (show Row wr w1.heap.size 103 (aW (U.take j++(U.drop j).take (n+1)++U.drop (j+(n+1)))) by rw[<-ahD]; exact hru);have HRQ:=Ag hrq;have HRV:=Ag hrv;have hql:=hdi.ql;obtain⟨z,hz⟩:=Gl (l:=q) (k:=j) FI;have HZ:=Ag hz;have HQ:=Ag hql;clear hdi aeY hPl hru hrq hrv hql hz;go_wp2_with fail
   rw[show j+n+1 - j=n+1 by omega];refine(ajS wr w1.heap.size w.heap.size _ _ _ vv j n (la+1 - j) n HPL.o HRU.o HRV.o FI HES.o FI FI FI FI).mono ?_;rintro e w4 ⟨rfl,⟨u',aa6,agr,hun',alF⟩,hgr⟩;have hq4:=HRQ.o.grown hgr FI;have hv4:=HRV.o.grown hgr FI;have hb4:=hbel.grown hgr hbel.size (λk hk=>by injection hk; omega);have hs4:=hgr.size;have hqc:=hq4.cell (bg HZ.o);have hqf:=hq4.frozen j;have hdl:=HES.o.q_lt;have HST:=Ag (HDI.o.step HDV.o hjn aa6 agr hun' rfl);have HQ4:=Ag hq4;have HV4:=Ag hv4;have HU4:=Ag alF;obtain⟨dd,hdd⟩:=Gp (aF ((U.drop j).take (n+1)) / aF vv);rw[<-hdd] at hdl HST ⊢;have hdl2:dd < 1000000000:=hdl;clear aa6 agr hun' alF hgr hq4 hv4 hdd hdl;go_wp2
   go_roundw
   case rel =>
    exact zay
   case measure=>simp[intOf]
theorem abK (w:GK) (F:Gq) (va vb:GN) (a b:Nat) (ha:Ah w F va a) (hb:Ah w F vb b) (hb0:b≠0) (hla:(dig a).length<=100000) (hlb:(dig b).length<=100000) :
  Calls GI 102 #[va,vb] w (Ret w (Dn F w.heap.size a b)):=by
 by_cases hlt:a < b
 ·have hord:decide (bZ a b < 0)=true:=by rw[iL hlt];rfl
  have HOR:=Ag hord;have HVA:=Ag ha;have HVB:=Ag hb;have HLT:=Ag hlt;clear ha hb hord hlt hb0;go_in;go_wp2_with fail
  refine(jF w F _ _ a b HVA.o HVB.o FI FI).mono ?_;rintro e w' ⟨rfl,z0,rfl⟩;have hord:=HOR.o;generalize bZ a b=od at *;go_wp2
  go_ret2;refine⟨_,rfl,aG (GR _ w) z0,_,_,rfl,?_,?_⟩
  ·exact zd8
  ·rw[Nat.mod_eq_of_lt HLT.o];exact HVA.o.ext (aG (GR _ w) z0)
 by_cases h1:(dig b).length=1
 ·have hord:decide (bZ a b < 0)=false:=by
   refine zcW ?_;split <;> (try split) <;> omega
  have HOR:=Ag hord;have HVA:=Ag ha;have HVB:=Ag hb;obtain⟨B,d,rfl,hd,hNb⟩:=hb;obtain⟨b1,o1,rfl,_,hb1',hx⟩:=hNb FI;obtain⟨x,hx'⟩:=Gl (l:=dig b) (k:=0) FI;have ex:=hx 0 x hx';unfold bY at ex;simp only[Jc,Jb] at ex;have hbx:b=x:=by
   exact zdi
  have hxl:x < 1000000000:=(aO b).get hx';have hl1:(((dig b).length:Int)==1)=true:=by rw[h1];rfl
  have hx1:1<=x:=FI;have hpos:0 < (dig b).length:=FI;have HBX:=Ag hbx;clear ha hord hlt hb0 hx hx' h1 hbx hNb;go_in;go_wp2_with fail
  refine(jF w F _ _ a b HVA.o HVB.o FI FI).mono ?_;rintro e w' ⟨rfl,z0,rfl⟩;have hord:=HOR.o;generalize bZ a b=od at *;go_wp2_with fail
  refine(acK _ F _ a x (HVA.o.on (Jv _ _ _)) FI hx1 FI).mono ?_;rintro e w1 ⟨_,rfl,zI,vq,rfl,hvq⟩;have hml:a % x < x:=Ja _ FI;have HVQ:=Ag hvq;clear hvq;obtain⟨m,hm⟩:=Gp (a % x);rw[<-hm] at hml ⊢;have HM:=Ag hm;clear hm;go_wp2_with fail
  refine(vM w1 m FI).mono ?_;rintro e w2 ⟨vr,rfl,hbw2,hvr⟩;have HVR:=Ag hvr;clear hvr;go_wp2
  go_ret2;have hz:w.heap.size<=w1.heap.size:=zI.size;refine⟨_,rfl,(aG (GR _ w) z0).trans (zI.trans (hbw2.mono hz)),_,_,rfl,?_,?_⟩
  ·rw[HBX.o];exact(HVQ.o.below hbw2).mono λb hb _=>.inr hb
  ·rw[HBX.o,<-HM.o];exact HVR.o.mono λb hb _=>.inr FI
 ·exact aff w F va vb a b ha hb (by have:=bD.2 hb0; omega) hla FI
theorem ags (w:GK) (F:Gq) (va vb:GN) (a b:Nat) (ha:Ah w F va a) (hb:Ah w F vb b) (hb0:b≠0) (hla:(dig a).length<=100000) (hlb:(dig b).length<=100000) :
  Calls GI 174 #[va,vb] w (Ret w (Dn F w.heap.size a b)):=by
 by_cases hlt:a < b
 ·have hord:decide (bZ a b < 0)=true:=by rw[iL hlt];rfl
  have HOR:=Ag hord;have HVA:=Ag ha;have HVB:=Ag hb;have HLT:=Ag hlt;clear ha hb hord hlt hb0;go_in;go_wp2_with fail
  refine(aao w F _ _ a b HVA.o HVB.o FI FI).mono ?_;rintro e w' ⟨rfl,z0,rfl⟩;have hord:=HOR.o;generalize bZ a b=od at *;go_wp2_with fail
  refine(aem _ F _ a (HVA.o.on (Jv _ _ _)) FI).mono ?_;rintro e w1 ⟨v,rfl,hb1,hv1⟩;have HV1:=Ag hv1;clear hv1;go_wp2
  go_ret2;refine⟨_,rfl,(aG (GR _ w) z0).trans hb1,_,_,rfl,?_,?_⟩
  ·exact zd8
  ·rw[Nat.mod_eq_of_lt HLT.o];exact HV1.o.mono λb hb _=>.inr hb
 by_cases h1:(dig b).length=1
 ·have hord:decide (bZ a b < 0)=false:=by
   refine zcW ?_;split <;> (try split) <;> omega
  have HOR:=Ag hord;have HVA:=Ag ha;have HVB:=Ag hb;obtain⟨B,d,rfl,hd,hNb⟩:=hb;obtain⟨b1,o1,rfl,_,hb1',hx⟩:=hNb FI;obtain⟨x,hx'⟩:=Gl (l:=dig b) (k:=0) FI;have ex:=hx 0 x hx';unfold bY at ex;simp only[Jc,Jb] at ex;have hbx:b=x:=by
   exact zdi
  have hxl:x < 1000000000:=(aO b).get hx';have hl1:(((dig b).length:Int)==1)=true:=by rw[h1];rfl
  have hx1:1<=x:=FI;have hpos:0 < (dig b).length:=FI;have HBX:=Ag hbx;clear ha hord hlt hb0 hx hx' h1 hbx hNb;go_in;go_wp2_with fail
  refine(aao w F _ _ a b HVA.o HVB.o FI FI).mono ?_;rintro e w' ⟨rfl,z0,rfl⟩;have hord:=HOR.o;generalize bZ a b=od at *;go_wp2_with fail
  refine(acL _ F _ a x (HVA.o.on (Jv _ _ _)) FI hx1 FI).mono ?_;rintro e w1 ⟨_,rfl,zI,vq,rfl,hvq⟩;have hml:a % x < x:=Ja _ FI;have HVQ:=Ag hvq;clear hvq;obtain⟨m,hm⟩:=Gp (a % x);rw[<-hm] at hml ⊢;have HM:=Ag hm;clear hm;go_wp2_with fail
  refine(ae9 w1 m FI).mono ?_;rintro e w2 ⟨vr,rfl,hbw2,hvr⟩;have HVR:=Ag hvr;clear hvr;go_wp2
  go_ret2;have hz:w.heap.size<=w1.heap.size:=zI.size;refine⟨_,rfl,(aG (GR _ w) z0).trans (zI.trans (hbw2.mono hz)),_,_,rfl,?_,?_⟩
  ·rw[HBX.o];exact(HVQ.o.below hbw2).mono λb hb _=>.inr hb
  ·rw[HBX.o,<-HM.o];exact HVR.o.mono λb hb _=>.inr FI
 ·exact ajZ w F va vb a b ha hb (by have:=bD.2 hb0; omega) hla FI
theorem yB {s:Int} {x:Nat} (h1:-1000000000<=s) (h2:s<=1000000000) (hx:x < 1000000000):-1000000000000000000<=s*(x:Int)/\s*(x:Int)<=1000000000000000000:=by
 constructor
 ·have:(-1000000000)*(x:Int)<=s*(x:Int):=J6 h1 FI;omega
 ·have:s*(x:Int)<=1000000000*(x:Int):=J6 h2 FI;omega
theorem tdm (v:Int):v=1000000000*v.tdiv 1000000000+v.tmod 1000000000∧-1000000000 < v.tmod 1000000000/\v.tmod 1000000000 < 1000000000:=by grind
theorem jf (w:GK) (F:Gq) (va vb:GN) (a b:Nat) (s t:Int) (R:Nat) (ha:Ah w F va a) (hb:Ah w F vb b) (hla:(dig a).length<=100000) (hlb:(dig b).length<=(dig a).length)
  (hs1:-1000000000<=s) (hs2:s<=1000000000) (ht1:-1000000000<=t) (ht2:t<=1000000000) (hR:s*a+t*b=(R:Int)) (hRa:R<=a) :
  Calls GI 137 #[va,vb,GV GU s,GV GU t] w (Ret w λv w'=>Ah w' (λb=>w.heap.size<=b) v R):=by
 obtain⟨A,c,rfl,hc,hNa⟩:=ha;obtain⟨B,d,rfl,hd,hNb⟩:=hb;have HA:=Ag hNa;have HB:=Ag hNb;clear hNa hNb;have HR:=Ag hR;have HRA:=Ag hRa;clear hR hRa;go_in;go_wp2_with (at_make; refine fG _ rfl _ _ 39 rfl 103 (.int .u32 0) 4 Iw Jf rfl (dig a).length rfl rfl FI FI ?_; intro w1 hb1 hz1 hrow1)
 have HR1:=Ag hrow1; clear hrow1;go_loopw [10,18] (λcv i wr=>∃ (k:Nat) (l:List Nat) (cr:Int),k<=(dig a).length/\i = GV GU (k:Int)/\cv = GV GU cr∧-3000000000<=cr/\cr<=3000000000/\l.length=(dig a).length/\Limbs l/\(aF (l.take k):Int)+(LB ^ k:Nat)*cr=s*aF ((dig a).take k)+t*aF ((dig b).take k) /\
  Row wr w.heap.size 103 (aW l)/\Below w.heap.size w wr) (λ_ i _=>(dig a).length - (intOf i).toNat)
 case atStart=>exact⟨0,GX (dig a).length 0,0,FI,rfl,rfl,FI,FI,aA,Limbs.zeros _,by simp[aF],by rw[fO]; exact HR1.o,hb1⟩
 case round =>
  obtain⟨k,l,cr,hk,rfl,rfl,hc1,hc2,hlen,hlim,hinv,hrow,hbel⟩:=hrel;refine zaJ ?_;intro HL HI HO HM hold;by_cases hlt:k < (dig a).length
  ·obtain⟨b1,o1,rfl,_,hb1',hx⟩:=HA.o FI;refine zbt ?_;intro x hx' ex;unfold bY at ex;refine Yk ?_;clear ex;intro ex hxl HX;refine zaV ?_;intro z hz rc fc;clear hx hx' hz hlen hinv hrow hlim;obtain⟨p1,p2⟩:=yB hs1 hs2 hxl;obtain⟨p,hp⟩:∃ p,s*(x:Int)=p:=⟨_,rfl⟩;rw[hp] at p1 p2;have HP:=Ag hp;by_cases hlt2:k < (dig b).length
   ·obtain⟨b2,o2,rfl,_,hb2',hy⟩:=HB.o FI;refine zd7 ?_;intro y hy' ey;unfold bY at ey;refine Y9 ?_;clear ey;intro ey hyl HY;clear hy hy';obtain⟨q1,q2⟩:=yB ht1 ht2 hyl;obtain⟨q,hq⟩:∃ q,t*(y:Int)=q:=⟨_,rfl⟩;rw[hq] at q1 q2;have HQ:=Ag hq;obtain⟨t1,t2,t3⟩:=tdm (p+cr+q);obtain⟨qd,hqd⟩:∃ qd,(p+cr+q).tdiv 1000000000=qd:=⟨_,rfl⟩;obtain⟨rm,hrm⟩:∃ rm,(p+cr+q).tmod 1000000000=rm:=⟨_,rfl⟩;rw[hqd,hrm] at t1;rw[hrm] at t2 t3;refine zdk ?_;intro T1 aom aon;clear t1;by_cases hneg:rm < 0
    ·refine zaK ?_;intro e HE;go_wp2
     go_roundw
     case rel =>
      have he:=HE.o;have h1:=T1.o;refine⟨k+1,l.set k e,qd - 1,FI,by go_num,rfl,FI,FI,by rw[Hy,HL.o],HM.o.set (by show _ < 1000000000; omega),o9 (by rw[HL.o]; exact hlt) HI.o ?_,?_,hbel.setCell (Gy _) _⟩
      ·exact zbw
      ·exact Yw
     case measure=>exact zMs
    ·refine zah ?_;intro e hdd HE;go_wp2
     go_roundw
     case rel =>
      have he:=HE.o;have h1:=T1.o;refine⟨k+1,l.set k e,qd,FI,by go_num,rfl,FI,FI,by rw[Hy,HL.o],HM.o.set (by show _ < 1000000000; omega),o9 (by rw[HL.o]; exact hlt) HI.o ?_,?_,hbel.setCell (Gy _) _⟩
      ·exact zbw
      ·exact Yw
     case measure=>exact zMs
   ·refine Yc ?_;intro hdd HY;obtain⟨t1,t2,t3⟩:=tdm (p+cr);obtain⟨qd,hqd⟩:∃ qd,(p+cr).tdiv 1000000000=qd:=⟨_,rfl⟩;obtain⟨rm,hrm⟩:∃ rm,(p+cr).tmod 1000000000=rm:=⟨_,rfl⟩;rw[hqd,hrm] at t1;rw[hrm] at t2 t3;refine zdk ?_;intro T1 aom aon;clear t1;by_cases hneg:rm < 0
    ·refine zaK ?_;intro e HE;go_wp2
     go_roundw
     case rel =>
      have he:=HE.o;have h1:=T1.o;refine⟨k+1,l.set k e,qd - 1,FI,by go_num,rfl,FI,FI,by rw[Hy,HL.o],HM.o.set (by show _ < 1000000000; omega),o9 (by rw[HL.o]; exact hlt) HI.o ?_,?_,hbel.setCell (Gy _) _⟩
      ·exact zb7
      ·exact Yw
     case measure=>exact zMs
    ·refine zah ?_;intro e hdd HE;go_wp2
     go_roundw
     case rel =>
      have he:=HE.o;have h1:=T1.o;refine⟨k+1,l.set k e,qd,FI,by go_num,rfl,FI,FI,by rw[Hy,HL.o],HM.o.set (by show _ < 1000000000; omega),o9 (by rw[HL.o]; exact hlt) HI.o ?_,?_,hbel.setCell (Gy _) _⟩
      ·exact zb7
      ·exact Yw
     case measure=>exact zMs
  ·have hke:k=(dig a).length:=FI;have hF:aF l=R:=by
    exact zaP
   have HF:=Ag hF;clear hF hke hinv hlim hlen;go_wp2_with fail
   refine(qN wr (λb=>w.heap.size<=b) (some ⟨w.heap.size,0,none⟩) (dig a).length (dig a).length l HL.o (jP hrow (Gy _) HL.o (Gy _)) FI).mono ?_;exact zbs
theorem agt (w:GK) (F:Gq) (va vb:GN) (a b:Nat) (s t:Int) (R:Nat) (ha:Ah w F va a) (hb:Ah w F vb b) (hla:(dig a).length<=100000) (hlb:(dig b).length<=(dig a).length)
  (hs1:-1000000000<=s) (hs2:s<=1000000000) (ht1:-1000000000<=t) (ht2:t<=1000000000) (hR:s*a+t*b=(R:Int)) (hRa:R<=a) :
  Calls GI 175 #[va,vb,GV GU s,GV GU t] w (Ret w λv w'=>Ah w' (λb=>w.heap.size<=b) v R):=by
 obtain⟨A,c,rfl,hc,hNa⟩:=ha;obtain⟨B,d,rfl,hd,hNb⟩:=hb;have HA:=Ag hNa;have HB:=Ag hNb;clear hNa hNb;have HR:=Ag hR;have HRA:=Ag hRa;clear hR hRa;go_in;go_wp2_with (at_make; refine fG _ rfl _ _ 40 rfl 103 (.int .u32 0) 4 Ie Jf rfl (dig a).length rfl rfl FI FI ?_; intro w1 hb1 hz1 hrow1)
 have HR1:=Ag hrow1; clear hrow1;go_loopw [10,18] (λcv i wr=>∃ (k:Nat) (l:List Nat) (cr:Int),k<=(dig a).length/\i = GV GU (k:Int)/\cv = GV GU cr∧-3000000000<=cr/\cr<=3000000000/\l.length=(dig a).length/\Limbs l/\(aF (l.take k):Int)+(LB ^ k:Nat)*cr=s*aF ((dig a).take k)+t*aF ((dig b).take k) /\
  Row wr w.heap.size 103 (aW l)/\Below w.heap.size w wr) (λ_ i _=>(dig a).length - (intOf i).toNat)
 case atStart=>exact⟨0,GX (dig a).length 0,0,FI,rfl,rfl,FI,FI,aA,Limbs.zeros _,by simp[aF],by rw[fO]; exact HR1.o,hb1⟩
 case round =>
  obtain⟨k,l,cr,hk,rfl,rfl,hc1,hc2,hlen,hlim,hinv,hrow,hbel⟩:=hrel;refine zaJ ?_;intro HL HI HO HM hold;by_cases hlt:k < (dig a).length
  ·obtain⟨b1,o1,rfl,_,hb1',hx⟩:=HA.o FI;refine zbt ?_;intro x hx' ex;unfold bY at ex;refine Yk ?_;clear ex;intro ex hxl HX;refine zaV ?_;intro z hz rc fc;clear hx hx' hz hlen hinv hrow hlim;obtain⟨p1,p2⟩:=yB hs1 hs2 hxl;obtain⟨p,hp⟩:∃ p,s*(x:Int)=p:=⟨_,rfl⟩;rw[hp] at p1 p2;have HP:=Ag hp;by_cases hlt2:k < (dig b).length
   ·obtain⟨b2,o2,rfl,_,hb2',hy⟩:=HB.o FI;refine zd7 ?_;intro y hy' ey;unfold bY at ey;refine Y9 ?_;clear ey;intro ey hyl HY;clear hy hy';obtain⟨q1,q2⟩:=yB ht1 ht2 hyl;obtain⟨q,hq⟩:∃ q,t*(y:Int)=q:=⟨_,rfl⟩;rw[hq] at q1 q2;have HQ:=Ag hq;obtain⟨t1,t2,t3⟩:=tdm (p+cr+q);obtain⟨qd,hqd⟩:∃ qd,(p+cr+q).tdiv 1000000000=qd:=⟨_,rfl⟩;obtain⟨rm,hrm⟩:∃ rm,(p+cr+q).tmod 1000000000=rm:=⟨_,rfl⟩;rw[hqd,hrm] at t1;rw[hrm] at t2 t3;refine zdk ?_;intro T1 aom aon;clear t1;have hrm2:p+cr+q - qd*1000000000=rm:=by have:=T1.o;omega
    by_cases hneg:rm < 0
    ·refine zaK ?_;intro e HE;go_wp2
     go_roundw
     case rel =>
      have he:=HE.o;have h1:=T1.o;refine⟨k+1,l.set k e,qd - 1,FI,by go_num,rfl,FI,FI,by rw[Hy,HL.o],HM.o.set (by show _ < 1000000000; omega),o9 (by rw[HL.o]; exact hlt) HI.o ?_,?_,hbel.setCell (Gy _) _⟩
      ·exact zbw
      ·exact Yw
     case measure=>exact zMs
    ·refine zah ?_;intro e hdd HE;go_wp2
     go_roundw
     case rel =>
      have he:=HE.o;have h1:=T1.o;refine⟨k+1,l.set k e,qd,FI,by go_num,rfl,FI,FI,by rw[Hy,HL.o],HM.o.set (by show _ < 1000000000; omega),o9 (by rw[HL.o]; exact hlt) HI.o ?_,?_,hbel.setCell (Gy _) _⟩
      ·exact zbw
      ·exact Yw
     case measure=>exact zMs
   ·refine Yc ?_;intro hdd HY;obtain⟨t1,t2,t3⟩:=tdm (p+cr);obtain⟨qd,hqd⟩:∃ qd,(p+cr).tdiv 1000000000=qd:=⟨_,rfl⟩;obtain⟨rm,hrm⟩:∃ rm,(p+cr).tmod 1000000000=rm:=⟨_,rfl⟩;rw[hqd,hrm] at t1;rw[hrm] at t2 t3;refine zdk ?_;intro T1 aom aon;clear t1;have hrm2:p+cr - qd*1000000000=rm:=by have:=T1.o;omega
    by_cases hneg:rm < 0
    ·refine zaK ?_;intro e HE;go_wp2
     go_roundw
     case rel =>
      have he:=HE.o;have h1:=T1.o;refine⟨k+1,l.set k e,qd - 1,FI,by go_num,rfl,FI,FI,by rw[Hy,HL.o],HM.o.set (by show _ < 1000000000; omega),o9 (by rw[HL.o]; exact hlt) HI.o ?_,?_,hbel.setCell (Gy _) _⟩
      ·exact zb7
      ·exact Yw
     case measure=>exact zMs
    ·refine zah ?_;intro e hdd HE;go_wp2
     go_roundw
     case rel =>
      have he:=HE.o;have h1:=T1.o;refine⟨k+1,l.set k e,qd,FI,by go_num,rfl,FI,FI,by rw[Hy,HL.o],HM.o.set (by show _ < 1000000000; omega),o9 (by rw[HL.o]; exact hlt) HI.o ?_,?_,hbel.setCell (Gy _) _⟩
      ·exact zb7
      ·exact Yw
     case measure=>exact zMs
  ·have hke:k=(dig a).length:=FI;have hF:aF l=R:=by
    exact zaP
   have HF:=Ag hF;clear hF hke hinv hlim hlen;go_wp2_with fail
   refine(yt wr (λb=>w.heap.size<=b) (some ⟨w.heap.size,0,none⟩) (dig a).length (dig a).length l HL.o (jP hrow (Gy _) HL.o (Gy _)) FI).mono ?_;exact zbs
theorem alG (hl:l.length<=n) (hn:2<=n) (hL:Limbs l):aF (l.drop (n - 2))=aF l / LB ^ (n - 2):=by
 rw[<-front_eq hl hn hL,cZ,show n - 2+1=n - 1 by omega,cZ,show n - 1+1=n by omega,Ip hl];grind [aF]
theorem acQ (w:GK) (F:Gq) (v:GN) (x n:Nat) (hv:Ah w F v x) (hl:(dig x).length<=n) (hn:2<=n) (hn2:n<=100000) :
  Calls GI 136 #[v,GV GU (n:Int)] w λe w'=>e = .returned (GV GU ((x / LB ^ (n - 2):Nat):Int))/\w=w':=by
 obtain⟨A,c,rfl,hc,hN⟩:=hv;have HN:=Ag hN;clear hN;obtain⟨R,hR⟩:=Gp (x / LB ^ (n - 2));rw[<-hR];have HR:=Ag hR;clear hR;go_in;go_wp2
 go_loop [5,6] (λm i=>∃ k:Nat,n - 2<=k/\k<=n/\i = GV GU ((k:Int) - 1)/\m = GV GU (aF ((dig x).drop k):Int)) (λ_ i=>(intOf i+1).toNat)
 case atStart=>exact⟨n,FI,Gy _,rfl,by rw[Ip hl]; rfl⟩
 case round =>
  obtain⟨k,hk1,hk2,rfl,rfl⟩:=hrel;by_cases h0:n - 2 < k
  ·obtain⟨j,rfl⟩:∃ j,k=j+1:=⟨k - 1,FI⟩;refine Yn ?_;have hm:aF ((dig x).drop (j+1)) < 1000000000:=by
    have h1:=gq ((aO x).drop (j+1));have h2:LB ^ ((dig x).drop (j+1)).length<=LB ^ 1:=Nat.pow_le_pow_right au (by rw[List.length_drop]; omega);have h3:LB ^ 1=1000000000:=au;omega
   have hdd:decide ((n:Int) - 2<=(j:Int))=true:=LK FI;have hjI:(n:Int) - 2<=(j:Int):=FI;by_cases hlt:j < (dig x).length
   ·obtain⟨b,o,rfl,_,hb,hx⟩:=HN.o FI;obtain⟨y,hx'⟩:=Gl hlt;have ex:=hx j y hx';unfold bY at ex;rw[Ho] at ex;have hyl:y < 1000000000:=(aO x).get hx';have HS:=Ag (show aF ((dig x).drop j)=y+LB*aF ((dig x).drop (j+1)) by rw[cZ,aJ hx']);clear hx hx';generalize aF ((dig x).drop (j+1))=m at *;go_wp2
    go_round
    case rel=>exact⟨j,FI,FI,by go_num,by rw[HS.o]; simp; omega⟩
    case measure=>simp[intOf]
   ·have hdl:decide (j < (dig x).length)=false:=LJ hlt;have HS:=Ag (show aF ((dig x).drop j)=0+LB*aF ((dig x).drop (j+1)) by rw[cZ,gI FI]);generalize aF ((dig x).drop (j+1))=m at *;go_wp2
    go_round
    case rel=>exact⟨j,FI,FI,by go_num,by rw[HS.o]; simp; omega⟩
    case measure=>simp[intOf]
  ·obtain rfl:k=n - 2:=FI;have hdd:decide ((n:Int) - 2<=((n - 2:Nat):Int) - 1)=false:=LJ FI;have HE:=Ag (alG hl hn (aO x));rw[aZ] at HE;generalize aF ((dig x).drop (n - 2))=m at *;have e2:((n - 2:Nat):Int) - 1=(n:Int) - 3:=FI;have hdd2:decide ((n:Int) - 2<=(n:Int) - 3)=false:=LJ FI;rw[e2];clear e2 hdd;go_wp2
   go_ret;exact⟨by rw[HR.o,<-HE.o]; rfl,rfl⟩
def adP (x y z u:Int):Int:=if u > (if z > (if y > x then y else x) then z else (if y > x then y else x)) then u else (if z > (if y > x then y else x) then z else (if y > x then y else x))
theorem agu (ts:Array TypeId) (t:TypeId) (x y z u:Int) (w:GK):(Builtin.max_ ts t #[GV GU x,GV GU y,GV GU z,GV GU u]).run GI w = .ok (GV GU (adP x y z u)) w:=by simp[Builtin.max_,Builtin.max2,adP]
theorem ajd {x z:Int}:1000000000<=adP x (-x) z (-z)↔(x≤-1000000000\/1000000000<=x\/z≤-1000000000\/1000000000<=z):=by grind [adP]
def Fg (a b:Nat) (m:Nat) (v:GN) (w':GK):Prop :=
 v = .tuple #[.slice none 0 0,.slice none 0 0,.bool false] \/
 ∃ vx vy x y,v = .tuple #[vx,vy,.bool true]/\Ah w' (λb=>m<=b) vx x/\Ah w' (λb=>m<=b) vy y/\y<=x/\x<=a/\y < b/\Hr x y=Hr a b
theorem aj0 (w:GK) (F:Gq) (va vb:GN) (a b:Nat) (ha:Ah w F va a) (hb:Ah w F vb b) (hba:b<=a) (hl3:3<=(dig a).length) (hla:(dig a).length<=100000) :
  Calls GI 101 #[va,vb] w (Ret w (Fg a b w.heap.size)):=by
 have HVA:=Ag ha;have HVB:=Ag hb;have hlb:(dig b).length<=(dig a).length:=aV hba;obtain⟨A,c,rfl,hc,_⟩:=ha;obtain⟨B,d,rfl,hd,_⟩:=hb;obtain⟨M,hM⟩:=Gp (LB ^ ((dig a).length - 2));have hMp:0 < M:=by rw[hM];exact BK _
 have hp0:a / M < 1000000000000000000:=by
  rw[Nat.div_lt_iff_lt_mul hMp,hM];have h1:=nI a;have h2:LB ^ (dig a).length=LB ^ 2*LB ^ ((dig a).length - 2):=by rw[<-Nat.pow_add];congr 1;omega
  have h3:LB ^ 2=1000000000000000000:=au;rw[h3] at h2;omega
 have hqp:b / M<=a / M:=Nat.div_le_div_right hba;have HST:=Ag (show Leh (a:Int) (b:Int) (M:Int) ((a / M:Nat):Int) ((b / M:Nat):Int) ((a % M:Nat):Int) ((b % M:Nat):Int) ((a / M:Nat):Int) ((b / M:Nat):Int) 1 0 0 1 from by
  have h1:=Jh a M;have h2:=Jh b M;have h3:=Ja a hMp;have h4:=Ja b hMp;refine Leh.start ?_ ?_ (Ls _) (Int.ofNat_lt.2 h3) (Ls _) (Int.ofNat_lt.2 h4) (Ls _) (Int.ofNat_le.2 hqp) FI FI
  ·rw[Int.mul_comm,<-Int.natCast_mul];omega
  ·rw[Int.mul_comm,<-Int.natCast_mul]; omega)
 have HM:=Ag hM;obtain⟨p0,anj⟩:∃ p0,p0=a / M:=⟨_,rfl⟩;obtain⟨q0,ank⟩:∃ q0,q0=b / M:=⟨_,rfl⟩;have e1:a / LB ^ ((dig a).length - 2)=p0:=by rw[anj,hM]
 have e2:b / LB ^ ((dig a).length - 2)=q0:=by rw[ank,hM]
 rw[<-anj,<-ank] at HST;rw[<-anj] at hp0 hqp;rw[<-ank] at hqp;have E1:=Ag e1;have E2:=Ag e2;generalize ((a % M:Nat):Int)=al at HST;generalize ((b % M:Nat):Int)=be at HST;clear e1 e2 anj ank hM hba;go_in;go_wp2_with fail
 refine(acQ w F _ a (dig a).length HVA.o (Gy _) FI hla).mono ?_;rintro e w' ⟨rfl,rfl⟩;rw[E1.o];go_wp2_with fail
 refine(acQ w F _ b (dig a).length HVB.o hlb FI hla).mono ?_;rintro e w' ⟨rfl,rfl⟩;rw[E2.o];go_wp2
 go_loopw [7,8,9,10,11,12] (λpv qv av bv cv dv wr=>∃ p q A B C D:Int,pv = GV GU p/\qv = GV GU q/\av = GV GU A/\bv = GV GU B/\cv = GV GU C/\dv = GV GU D/\Leh (a:Int) (b:Int) (M:Int) (p0:Int) (q0:Int) al be p q A B C D /\
  -1000000000 < A/\A < 1000000000∧-1000000000 < B/\B < 1000000000∧-1000000000 < C/\C < 1000000000∧-1000000000 < D/\D < 1000000000/\w=wr) (λ_ qv _ _ cv dv _=>(intOf cv*a+intOf dv*b).toNat)
 case atStart=>exact⟨_,_,_,_,_,_,rfl,rfl,rfl,rfl,rfl,rfl,HST.o,FI,FI,FI,FI,FI,FI,FI,FI,rfl⟩
 case round =>
  clear HST;obtain⟨p,q,A,B,C,D,rfl,rfl,rfl,rfl,rfl,rfl,kE,a1,a2,b1,b2,c1,c2,d1,d2,rfl⟩:=hrel;have HLE:=Ag kE;have pA:=kE.pA;have pB:=kE.pB;have qC:=kE.qC;have qD:=kE.qD;have pA1:=kE.pA1;have pB1:=kE.pB1;have qC1:=kE.qC1;have qD1:=kE.qD1;have pn:=kE.af4;have qn:=kE.acv;obtain⟨X,hX⟩:∃ X:Nat,A*a+B*b=(X:Int):=⟨(A*a+B*b).toNat,by have:=kE.y0; have:=kE.yx; omega⟩;obtain⟨Y,hY⟩:∃ Y:Nat,C*a+D*b=(Y:Int):=⟨(C*a+D*b).toNat,by have:=kE.y0; omega⟩;have HX:=Ag (Iu hX (Iu hY (show X<=a by have:=kE.xa; omega)));have HY:=Ag (show Y<=X/\(B=0\/Y < b)/\Hr X Y=Hr a b from⟨by have:=kE.yx; omega,by have:=kE.prog; omega,by have:=kE.gcd; rw[hX,hY] at this; simpa using this⟩);clear kE hX hY;by_cases hC:q+C=0
  ·have t1:(q+C != 0)=false:=by simp[hC]
   clear hC;by_cases hB0:B=0
   ·have tB:(B==0)=true:=by simp[hB0]
    clear hB0;go_wp2
    go_ret3;exact⟨_,rfl,GR _ _,.inl rfl⟩
   ·have tB:(B==0)=false:=by simp[hB0]
    have HB0:=Ag hB0;clear hB0;go_wp2_with fail
    refine Yy ?_;rintro e w1 ⟨vx,rfl,hb1,hvx⟩;have HVX:=Ag hvx;clear hvx;go_wp2_with fail
    refine ZO ?_;rintro e w2 ⟨vy,rfl,hb2,hvy⟩;have HVY:=Ag hvy;clear hvy;have hz:=hb1.size;go_wp2
    go_ret3;exact⟨_,rfl,hb1.trans (hb2.mono hz),.inr ⟨_,_,X,Y,rfl,HVX.o.below hb2,HVY.o.mono (λb hb _=>by omega),HY.o.1,HX.o.2.2,HY.o.2.1.resolve_left HB0.o,HY.o.2.2⟩⟩
  ·have t1:(q+C != 0)=true:=by simp[hC]
   have hC':0 < q+C:=FI;by_cases hD:q+D=0
   ·have t2:(q+D != 0)=false:=by simp[hD]
    have HC:=Ag hC;clear hC hD;by_cases hB0:B=0
    ·have tB:(B==0)=true:=by simp[hB0]
     clear hB0;go_wp2
     go_ret3;exact⟨_,rfl,GR _ _,.inl rfl⟩
    ·have tB:(B==0)=false:=by simp[hB0]
     have HB0:=Ag hB0;clear hB0;go_wp2_with fail
     refine Yy ?_;rintro e w1 ⟨vx,rfl,hb1,hvx⟩;have HVX:=Ag hvx;clear hvx;go_wp2_with fail
     refine ZO ?_;rintro e w2 ⟨vy,rfl,hb2,hvy⟩;have HVY:=Ag hvy;clear hvy;have hz:=hb1.size;go_wp2
     go_ret3;exact⟨_,rfl,hb1.trans (hb2.mono hz),.inr ⟨_,_,X,Y,rfl,HVX.o.below hb2,HVY.o.mono (λb hb _=>by omega),HY.o.1,HX.o.2.2,HY.o.2.1.resolve_left HB0.o,HY.o.2.2⟩⟩
   ·have t2:(q+D != 0)=true:=by simp[hD]
    have hD':0 < q+D:=FI;obtain⟨k,hk⟩:∃ k,(p+A) / (q+C)=k:=⟨_,rfl⟩;obtain⟨k2,hk2⟩:∃ k,(p+B) / (q+D)=k:=⟨_,rfl⟩;have kn:0<=k:=by rw[<-hk];exact Int.ediv_nonneg pA qC
    have k2n:0<=k2:=by rw[<-hk2];exact Int.ediv_nonneg pB qD
    have kle:k<=p+A:=by rw[<-hk];exact Int.ediv_le_self _ pA
    have k2le:k2<=p+B:=by rw[<-hk2];exact Int.ediv_le_self _ pB
    have HC:=Ag hC;have HD:=Ag hD;clear hC hD;by_cases hkk:k=k2
    ·subst hkk;have t3:(k != k)=false:=aA;obtain⟨_,kb,kq1,kq2,kc1,kc2,kd1,kd2⟩:=HLE.o.bounds HC.o HD.o hk.symm hk2.symm;by_cases hkb:1000000000<=k
     ·clear kq1 kq2 kc1 kc2 kd1 kd2;by_cases hB0:B=0
      ·have tB:(B==0)=true:=by simp[hB0]
       clear hB0;go_wp2
       go_ret3;exact⟨_,rfl,GR _ _,.inl rfl⟩
      ·have tB:(B==0)=false:=by simp[hB0]
       have HB0:=Ag hB0;clear hB0;go_wp2_with fail
       refine Yy ?_;rintro e w1 ⟨vx,rfl,hb1,hvx⟩;have HVX:=Ag hvx;clear hvx;go_wp2_with fail
       refine ZO ?_;rintro e w2 ⟨vy,rfl,hb2,hvy⟩;have HVY:=Ag hvy;clear hvy;have hz:=hb1.size;go_wp2
       go_ret3;exact⟨_,rfl,hb1.trans (hb2.mono hz),.inr ⟨_,_,X,Y,rfl,HVX.o.below hb2,HVY.o.mono (λb hb _=>by omega),HY.o.1,HX.o.2.2,HY.o.2.1.resolve_left HB0.o,HY.o.2.2⟩⟩
     ·have t4:decide ((1000000000:Int)<=k)=false:=LJ hkb;have HST:=Ag (HLE.o.step HC.o HD.o hk.symm hk2.symm);obtain⟨kc,hkc⟩:∃ kc,k*C=kc:=⟨_,rfl⟩;obtain⟨kd,hkd⟩:∃ kd,k*D=kd:=⟨_,rfl⟩;obtain⟨kq,hkq⟩:∃ kq,k*q=kq:=⟨_,rfl⟩;rw[hkc] at kc1 kc2 HST;rw[hkd] at kd1 kd2 HST;rw[hkq] at kq1 kq2 HST;have hm4:=agu;by_cases hmx:1000000000<=adP (A - kc) (-(A - kc)) (B - kd) (-(B - kd))
      ·have t5:decide (1000000000<=adP (A - kc) (-(A - kc)) (B - kd) (-(B - kd)))=true:=LK hmx;clear hmx;by_cases hB0:B=0
       ·have tB:(B==0)=true:=by simp[hB0]
        clear hB0;go_wp2
        go_ret3;exact⟨_,rfl,GR _ _,.inl rfl⟩
       ·have tB:(B==0)=false:=by simp[hB0]
        have HB0:=Ag hB0;clear hB0;go_wp2_with fail
        refine Yy ?_;rintro e w1 ⟨vx,rfl,hb1,hvx⟩;have HVX:=Ag hvx;clear hvx;go_wp2_with fail
        refine ZO ?_;rintro e w2 ⟨vy,rfl,hb2,hvy⟩;have HVY:=Ag hvy;clear hvy;have hz:=hb1.size;go_wp2
        go_ret3;exact⟨_,rfl,hb1.trans (hb2.mono hz),.inr ⟨_,_,X,Y,rfl,HVX.o.below hb2,HVY.o.mono (λb hb _=>by omega),HY.o.1,HX.o.2.2,HY.o.2.1.resolve_left HB0.o,HY.o.2.2⟩⟩
      ·refine zbO ?_;clear hmx;intro t5 n1 n2 n3 n4;go_wp2
       go_roundw
       case rel=>exact⟨q,p - kq,C,D,A - kc,B - kd,rfl,rfl,rfl,rfl,rfl,rfl,HST.o.1,FI,FI,FI,FI,FI,FI,FI,FI,by first | rfl | trivial⟩
       case measure =>
        have h1:=HST.o.2;have h2:=HST.o.1.y0;simp only[intOf];omega
    ·have t3:(k != k2)=true:=by simp[hkk]
     clear hkk;by_cases hB0:B=0
     ·have tB:(B==0)=true:=by simp[hB0]
      clear hB0;go_wp2
      go_ret3;exact⟨_,rfl,GR _ _,.inl rfl⟩
     ·have tB:(B==0)=false:=by simp[hB0]
      have HB0:=Ag hB0;clear hB0;go_wp2_with fail
      refine Yy ?_;rintro e w1 ⟨vx,rfl,hb1,hvx⟩;have HVX:=Ag hvx;clear hvx;go_wp2_with fail
      refine ZO ?_;rintro e w2 ⟨vy,rfl,hb2,hvy⟩;have HVY:=Ag hvy;clear hvy;have hz:=hb1.size;go_wp2
      go_ret3;exact⟨_,rfl,hb1.trans (hb2.mono hz),.inr ⟨_,_,X,Y,rfl,HVX.o.below hb2,HVY.o.mono (λb hb _=>by omega),HY.o.1,HX.o.2.2,HY.o.2.1.resolve_left HB0.o,HY.o.2.2⟩⟩
