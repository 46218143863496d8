/- Part of a claim. -/
import Derived.Test.YtnmeejofpkhlkaaGreatDoorE07
import Derived.Test.YtnmeejofpkhlkaaGreatDoorE11
set_option linter.all false
set_option maxRecDepth 100000
set_option maxHeartbeats 12800000
namespace Go.Proofs.YtnmeejofpkhlkaaGreatDoor
open And renaming intro->Ij
open Go.RowKit.Below renaming refl->F9
open Go.IntKind renaming i64->F5
open Go renaming Value->F7,World->FW
open Go.Value renaming int->F6
open Int renaming mul_le_mul_of_nonneg_right->J6,natCast_nonneg->LU
open List renaming drop_eq_nil_of_le->GU,length_set->He,length_take->G5,replicate->F8
open Nat renaming add_zero->J7,div_add_mod->I5,eq_zero_or_pos->Gt,gcd->Gv,le_refl->FV,mod_eq_of_lt->KX,mod_lt->IK,mul_one->Gp,zero_mul->KF
open Same renaming drewN->Jl
open Tryz renaming infoU32->IU
open Go.Proofs.Tryz renaming prog->FY,underlying39->Ie,underlying40->G8
open Lib renaming hid → Ac
open Go.RowKit
variable {l:List Nat} {n:Nat}
def CQ (F:FI) (m a b:Nat) (v:F7) (w':FW):Prop:=∃ vq vr,v = .tuple #[vq,vr]/\Ae w' (Ext F m) vq (a / b)/\Ae w' (Ext F m) vr (a % b)
theorem kH {w:FW} {b:Nat} {t:TypeId} (h:Row w b t (aU l)) {F:FI} (hF:F b) {c:Nat} (hn:l.length=n) (hc:n<=c):Ag w F (.slice (some ⟨b,0,none⟩) n c) l:=by
 have:=h.limbs hF (n:=n) (c:=c) EN hc;rwa [List.take_of_length_le EN] at this
theorem ajZ (w:FW) (F:FI) (va vb:F7) (a b:Nat) (ha:Ae w F va a) (hb:Ae w F vb b) (hb0:2<=(dig b).length) (hla:(dig a).length<=100000) (hge:b<=a) :
  Calls FY 185 #[va,vb] w (Ret w (CQ F w.heap.size a b)):=by
 have HVA:=Ac ha;have HVB:=Ac hb;have hlb:(dig b).length<=(dig a).length:=aT hge;have hb00:b≠0:=bg.1 EN;have hord:decide (dB a b < 0)=false:=by
  refine zcF ?_;split <;> (try split) <;> omega
 obtain⟨A,c,rfl,hc,_⟩:=ha;obtain⟨B,d,rfl,hd,hNb⟩:=hb;have hd1:(((dig b).length:Int)==1)=false:=beq_false_of_ne EN;obtain⟨n,hn⟩:=FH ((dig b).length);obtain⟨la,aaE⟩:∃ la,la=(dig a).length:=⟨_,rfl⟩;obtain⟨b1,o1,rfl,_,hb1',hx⟩:=hNb EN;obtain⟨t,ht'⟩:=FC (l:=dig b) (k:=n - 1) EN;have et:=hx (n - 1) t ht';unfold dF at et;rw[Gp] at et;have gt:(dig b).getD (n - 1) 0=t:=aN ht';have htl:t < 1000000000:=(aP b).get ht';have ht1:1<=t:=by have:=(rO hb00).1;rw[<-hn,gt] at this;exact this
 obtain⟨f1,f2,_,_,_⟩:=jB ht1 htl;have hfI:(1000000000:Int) / ((t:Int)+1)=((LB / (t+1):Nat):Int):=by
  rw[show((t:Int)+1)=((t+1:Nat):Int) by omega,show(1000000000:Int)=((LB:Nat):Int) from rfl,nZ]
 refine za1 ?_;intro f hf af5 hfit HDB;have HF1:=Ac hfit;have HF2:=Ac af5;have HOR:=Ac hord;have HD1:=Ac hd1;have HFI:=Ac hfI;have HF:=Ac hf;rw[<-hn] at hd1;rw[<-hf] at hfI f1 f2;rw[<-hn] at hb0 hlb hd HD1 ⊢;rw[<-aaE] at hla hlb hc ⊢;have HN:=Ac hn;have HLA:=Ac aaE;rw[<-hn] at HVB;rw[<-aaE] at HVA;refine zcr ?_;intro n1 hn1;have i1:(n:Int) - 1=(n1:Int):=EN;rw[show n - 1=n1 by omega] at et;have l1:n1 < n:=EN;clear hn aaE gt hx ht' hf hfit af5 hord hge hn1;go_in;go_wp2_with fail
 refine(zJ w F _ _ a b HVA.out HVB.out (by rw[<-HLA.out]; omega) (by rw[<-HN.out]; omega)).mono ?_;rintro e w' ⟨rfl,z0,rfl⟩;have hord:=HOR.out;generalize dB a b=od at *;go_wp2_with fail
 refine(acs _ F _ a f (la+1) (HVA.out.on (Jl _ _ _)) (by rw[HLA.out]; omega) EN f1 EN (by rw[HLA.out]; exact HF2.out)).mono ?_;rintro e w1 ⟨_,rfl,yQ,rfl,U0,hul,af6,hun,hru⟩;have hzz:w.heap.size<=w1.heap.size:=yQ.size;have anY:w.heap.size < w1.heap.size:=hru.lt;go_wp2_with fail
 refine(acs w1 F _ b f n ((HVB.out.on (Jl _ _ z0)).below yQ) (by rw[HN.out]; exact FV _) EN f1 EN HF1.out).mono ?_;rintro e w2 ⟨_,rfl,hbw2,rfl,vv,hvl,af7,hvn,hrv⟩;have hdb:=HDB.out vv hvl af7 hvn;have HDV:=Ac hdb;clear hdb hvn;have alx:=hru.below hbw2 hru.lt;have aly:=hrv;have HRV:=Ac aly;have HRU:=Ac alx;refine zdp ?_;intro HSU hB2;have HVL:=Ac hvl;have hult:w1.heap.size < w2.heap.size:=hrv.lt;clear hrv aly hru alx hul af6 hun hvl af7 yQ hbw2;have i3:(la:Int) - (n:Int)+1=((la - n+1:Nat):Int):=EN;go_wp2_with (at_make; refine gX _ rfl _ _ 40 rfl 103 (.int .u32 0) 4 G8 IU rfl (la - n+1) rfl rfl EN EN ?_; intro w3 hb3 hz3 hrq)
 have HRQ:=Ac hrq;have hq3:w2.heap.size < w3.heap.size:=hrq.lt;have alz:=HRV.out.below hb3 HRV.out.lt;have alA:=HRU.out.below hb3 HRU.out.lt;have hB3:=hB2.trans (hb3.mono hB2.size);have D9:=Ac alz;have Ea:=Ac alA;clear hrq hb3 alz alA;go_loopw [12] (λi wr=>∃ (k:Nat) (U q:List Nat),i = F6 F5 ((k:Int) - 1)/\BO a f vv n la k U q/\k<=la - n+1/\Row wr w.heap.size 103 (aU U)/\Row wr w2.heap.size 103 (aU q)/\Row wr w1.heap.size 103 (aU vv)/\Below w.heap.size w wr/\w3.heap.size<=wr.heap.size) (λi _=>(intOf i+1).toNat)
 case atStart=>exact⟨la - n+1,U0,_,by go_num,HSU.out,EN,Ea.out,by rw[gQ]; exact HRQ.out,D9.out,hB3,FV _⟩
 case round =>
  clear HSU Ea D9 HRQ hB3 HRV HRU hB2;obtain⟨k,U,q,rfl,hdi,hk,hru,hrq,hrv,hbel,hsz⟩:=hrel;rcases Gt k with h0 | h0
  ·subst h0;obtain⟨hq,hr,hu⟩:=hdi.last HDV.out;have HQ:=Ac hq;have HR:=Ac hr;have htl:(U.take n).length=n:=by rw[G5,hdi.ul];omega
   have HTL:=Ac htl;have hdl:(dig (aH (U.take n))).length<=n:=by
    refine aV ?_;have:=gV (hdi.afN.take n);rwa [htl] at this
   have HUL:=Ac (hdi.afN.take n);have HQL:=Ac hdi.anS;have HQN:=Ac hdi.ql;have hsl:=hru.limbs (F:=λb=>w.heap.size<=b) (n:=n) (c:=la+1) (by show w.heap.size<=w.heap.size; omega) (by rw[hdi.ul]; omega) EN;have HSL:=Ac hsl;clear hdi hq hr hu htl hsl;go_wp2_with fail
   refine(xq wr (λb=>w.heap.size<=b) (some ⟨w.heap.size,0,none⟩) n (la+1) (U.take n) HTL.out HSL.out EN).mono ?_;rintro e w' ⟨rfl,rfl⟩;have HTR:=Ac (Ag.trim HTL.out HSL.out HUL.out);go_wp2_with fail
   refine(acp wr (λb=>w.heap.size<=b) _ (aH (U.take n)) f HTR.out EN f1 EN).mono ?_;rintro e w5 ⟨_,rfl,hb5,vr,rfl,hvr⟩;have alB:=hrq.below hb5 hrq.lt;have HVR:=Ac hvr;have Eb:=Ac alB;clear hvr alB;go_wp2_with fail
   refine(xq w5 (λb=>w.heap.size<=b) (some ⟨w2.heap.size,0,none⟩) (la - n+1) (la - n+1) q HQN.out (kH Eb.out (by show w.heap.size<=w2.heap.size; omega) HQN.out (FV _)) EN).mono ?_;rintro e w' ⟨rfl,rfl⟩;go_wp2
   go_ret2;refine⟨_,rfl,hbel.trans (hb5.mono hbel.size),_,_,rfl,?_,?_⟩
   ·exact zcn
   ·have h1:=HVR.out;rw[HR.out] at h1;exact h1.mono λb hb _=>.inr EN
  ·obtain⟨j,rfl⟩:∃ j,k=j+1:=⟨k - 1,EN⟩;refine Yx ?_;have HDI:=Ac hdi;have hjn:j+n<=la:=EN;have aeH:=hdi.est HDV.out hjn;have HES:=Ac aeH;have hPl:(U.take j).length=j:=by rw[G5,hdi.ul];omega
   have HPL:=Ac hPl;have HRU:=Ac (show Row wr w.heap.size 103 (aU (U.take j++(U.drop j).take (n+1)++U.drop (j+(n+1)))) by rw[<-ahi]; exact hru);have HRQ:=Ac hrq;have HRV:=Ac hrv;have hql:=hdi.ql;obtain⟨z,hz⟩:=FC (l:=q) (k:=j) EN;have HZ:=Ac hz;have HQ:=Ac hql;clear hdi aeH hPl hru hrq hrv hql hz;go_wp2_with fail
   rw[show j+n+1 - j=n+1 by omega];refine(ahy wr w.heap.size w1.heap.size _ _ _ vv j n (la+1 - j) n HPL.out HRU.out HRV.out EN HES.out EN EN EN EN).mono ?_;rintro e w4 ⟨rfl,⟨u',aaA,af8,hun',alC⟩,hgr⟩;have hq4:=HRQ.out.grown hgr EN;have hv4:=HRV.out.grown hgr EN;have hb4:=hbel.grown hgr hbel.size (λk hk=>by injection hk; omega);have hs4:=hgr.size;have hqc:=hq4.cell (bn HZ.out);have hqf:=hq4.frozen j;have hdl:=HES.out.q_lt;have HST:=Ac (HDI.out.step HDV.out hjn aaA af8 hun' rfl);have HQ4:=Ac hq4;have HV4:=Ac hv4;have HU4:=Ac alC;obtain⟨dd,hdd⟩:=FH (aH ((U.drop j).take (n+1)) / aH vv);rw[<-hdd] at hdl HST ⊢;have am1:dd < 1000000000:=hdl;clear aaA af8 hun' alC hgr hq4 hv4 hdd hdl;go_wp2
   go_roundw
   case rel =>
    exact zaD
   case measure=>simp[intOf]
theorem aeY (w:FW) (F:FI) (va vb:F7) (a b:Nat) (ha:Ae w F va a) (hb:Ae w F vb b) (hb0:2<=(dig b).length) (hla:(dig a).length<=100000) (hge:b<=a) :
  Calls FY 171 #[va,vb] w (Ret w (CQ F w.heap.size a b)):=by
 have HVA:=Ac ha;have HVB:=Ac hb;have hlb:(dig b).length<=(dig a).length:=aT hge;have hb00:b≠0:=bg.1 EN;have hord:decide (dB a b < 0)=false:=by
  refine zcF ?_;split <;> (try split) <;> omega
 obtain⟨A,c,rfl,hc,_⟩:=ha;obtain⟨B,d,rfl,hd,hNb⟩:=hb;have hd1:(((dig b).length:Int)==1)=false:=beq_false_of_ne EN;obtain⟨n,hn⟩:=FH ((dig b).length);obtain⟨la,aaE⟩:∃ la,la=(dig a).length:=⟨_,rfl⟩;obtain⟨b1,o1,rfl,_,hb1',hx⟩:=hNb EN;obtain⟨t,ht'⟩:=FC (l:=dig b) (k:=n - 1) EN;have et:=hx (n - 1) t ht';unfold dF at et;rw[Gp] at et;have gt:(dig b).getD (n - 1) 0=t:=aN ht';have htl:t < 1000000000:=(aP b).get ht';have ht1:1<=t:=by have:=(rO hb00).1;rw[<-hn,gt] at this;exact this
 obtain⟨f1,f2,_,_,_⟩:=jB ht1 htl;have hfI:(1000000000:Int) / ((t:Int)+1)=((LB / (t+1):Nat):Int):=by
  rw[show((t:Int)+1)=((t+1:Nat):Int) by omega,show(1000000000:Int)=((LB:Nat):Int) from rfl,nZ]
 refine za1 ?_;intro f hf af5 hfit HDB;have HF1:=Ac hfit;have HF2:=Ac af5;have HOR:=Ac hord;have HD1:=Ac hd1;have HFI:=Ac hfI;have HF:=Ac hf;rw[<-hn] at hd1;rw[<-hf] at hfI f1 f2;rw[<-hn] at hb0 hlb hd HD1 ⊢;rw[<-aaE] at hla hlb hc ⊢;have HN:=Ac hn;have HLA:=Ac aaE;rw[<-hn] at HVB;rw[<-aaE] at HVA;refine zcr ?_;intro n1 hn1;have i1:(n:Int) - 1=(n1:Int):=EN;rw[show n - 1=n1 by omega] at et;have l1:n1 < n:=EN;clear hn aaE gt hx ht' hf hfit af5 hord hge hn1;go_in;go_wp2_with fail
 refine(jU w F _ _ a b HVA.out HVB.out (by rw[<-HLA.out]; omega) (by rw[<-HN.out]; omega)).mono ?_;rintro e w' ⟨rfl,z0,rfl⟩;have hord:=HOR.out;generalize dB a b=od at *;go_wp2_with fail
 refine(abe _ F _ b f n (HVB.out.on (Jl _ _ _)) (by rw[HN.out]; exact FV _) EN f1 EN HF1.out).mono ?_;rintro e w1 ⟨_,rfl,yQ,rfl,vv,hvl,af7,hvn,hrv⟩;have hdb:=HDB.out vv hvl af7 hvn;have HDV:=Ac hdb;clear hdb hvn;have hzz:w.heap.size<=w1.heap.size:=yQ.size;have anY:w.heap.size < w1.heap.size:=hrv.lt;go_wp2_with fail
 refine(abe w1 F _ a f (la+1) ((HVA.out.on (Jl _ _ z0)).below yQ) (by rw[HLA.out]; omega) EN f1 EN (by rw[HLA.out]; exact HF2.out)).mono ?_;rintro e w2 ⟨_,rfl,hbw2,rfl,U0,hul,af6,hun,hru⟩;have aly:=hrv.below hbw2 hrv.lt;have alx:=hru;have HRV:=Ac aly;have HRU:=Ac alx;refine zdp ?_;intro HSU hB2;have HVL:=Ac hvl;have hult:w1.heap.size < w2.heap.size:=hru.lt;clear hrv aly hru alx hul af6 hun hvl af7 yQ hbw2;have i3:(la:Int) - (n:Int)+1=((la - n+1:Nat):Int):=EN;go_wp2_with (at_make; refine gX _ rfl _ _ 39 rfl 103 (.int .u32 0) 4 Ie IU rfl (la - n+1) rfl rfl EN EN ?_; intro w3 hb3 hz3 hrq)
 have HRQ:=Ac hrq;have hq3:w2.heap.size < w3.heap.size:=hrq.lt;have alz:=HRV.out.below hb3 HRV.out.lt;have alA:=HRU.out.below hb3 HRU.out.lt;have hB3:=hB2.trans (hb3.mono hB2.size);have D9:=Ac alz;have Ea:=Ac alA;clear hrq hb3 alz alA;go_loopw [12] (λi wr=>∃ (k:Nat) (U q:List Nat),i = F6 F5 ((k:Int) - 1)/\BO a f vv n la k U q/\k<=la - n+1/\Row wr w1.heap.size 103 (aU U)/\Row wr w2.heap.size 103 (aU q)/\Row wr w.heap.size 103 (aU vv)/\Below w.heap.size w wr/\w3.heap.size<=wr.heap.size) (λi _=>(intOf i+1).toNat)
 case atStart=>exact⟨la - n+1,U0,_,by go_num,HSU.out,EN,Ea.out,by rw[gQ]; exact HRQ.out,D9.out,hB3,FV _⟩
 case round =>
  clear HSU Ea D9 HRQ hB3 HRV HRU hB2;obtain⟨k,U,q,rfl,hdi,hk,hru,hrq,hrv,hbel,hsz⟩:=hrel;rcases Gt k with h0 | h0
  ·subst h0;obtain⟨hq,hr,hu⟩:=hdi.last HDV.out;have HQ:=Ac hq;have HR:=Ac hr;have htl:(U.take n).length=n:=by rw[G5,hdi.ul];omega
   have HTL:=Ac htl;have hdl:(dig (aH (U.take n))).length<=n:=by
    refine aV ?_;have:=gV (hdi.afN.take n);rwa [htl] at this
   have HUL:=Ac (hdi.afN.take n);have HQL:=Ac hdi.anS;have HQN:=Ac hdi.ql;have hsl:=hru.limbs (F:=λb=>w.heap.size<=b) (n:=n) (c:=la+1) (by show w.heap.size<=w1.heap.size; omega) (by rw[hdi.ul]; omega) EN;have HSL:=Ac hsl;clear hdi hq hr hu htl hsl;go_wp2_with fail
   refine(qO wr (λb=>w.heap.size<=b) (some ⟨w1.heap.size,0,none⟩) n (la+1) (U.take n) HTL.out HSL.out EN).mono ?_;rintro e w' ⟨rfl,rfl⟩;have HTR:=Ac (Ag.trim HTL.out HSL.out HUL.out);go_wp2_with fail
   refine(aco wr (λb=>w.heap.size<=b) _ (aH (U.take n)) f HTR.out EN f1 EN).mono ?_;rintro e w5 ⟨_,rfl,hb5,vr,rfl,hvr⟩;have alB:=hrq.below hb5 hrq.lt;have HVR:=Ac hvr;have Eb:=Ac alB;clear hvr alB;go_wp2_with fail
   refine(qO w5 (λb=>w.heap.size<=b) (some ⟨w2.heap.size,0,none⟩) (la - n+1) (la - n+1) q HQN.out (kH Eb.out (by show w.heap.size<=w2.heap.size; omega) HQN.out (FV _)) EN).mono ?_;rintro e w' ⟨rfl,rfl⟩;go_wp2
   go_ret2;refine⟨_,rfl,hbel.trans (hb5.mono hbel.size),_,_,rfl,?_,?_⟩
   ·exact zcn
   ·have h1:=HVR.out;rw[HR.out] at h1;exact h1.mono λb hb _=>.inr EN
  ·obtain⟨j,rfl⟩:∃ j,k=j+1:=⟨k - 1,EN⟩;refine Yx ?_;have HDI:=Ac hdi;have hjn:j+n<=la:=EN;have aeH:=hdi.est HDV.out hjn;have HES:=Ac aeH;have hPl:(U.take j).length=j:=by rw[G5,hdi.ul];omega
   have HPL:=Ac hPl;have HRU:=Ac (show Row wr w1.heap.size 103 (aU (U.take j++(U.drop j).take (n+1)++U.drop (j+(n+1)))) by rw[<-ahi]; exact hru);have HRQ:=Ac hrq;have HRV:=Ac hrv;have hql:=hdi.ql;obtain⟨z,hz⟩:=FC (l:=q) (k:=j) EN;have HZ:=Ac hz;have HQ:=Ac hql;clear hdi aeH hPl hru hrq hrv hql hz;go_wp2_with fail
   rw[show j+n+1 - j=n+1 by omega];refine(ajR wr w1.heap.size w.heap.size _ _ _ vv j n (la+1 - j) n HPL.out HRU.out HRV.out EN HES.out EN EN EN EN).mono ?_;rintro e w4 ⟨rfl,⟨u',aaA,af8,hun',alC⟩,hgr⟩;have hq4:=HRQ.out.grown hgr EN;have hv4:=HRV.out.grown hgr EN;have hb4:=hbel.grown hgr hbel.size (λk hk=>by injection hk; omega);have hs4:=hgr.size;have hqc:=hq4.cell (bn HZ.out);have hqf:=hq4.frozen j;have hdl:=HES.out.q_lt;have HST:=Ac (HDI.out.step HDV.out hjn aaA af8 hun' rfl);have HQ4:=Ac hq4;have HV4:=Ac hv4;have HU4:=Ac alC;obtain⟨dd,hdd⟩:=FH (aH ((U.drop j).take (n+1)) / aH vv);rw[<-hdd] at hdl HST ⊢;have am1:dd < 1000000000:=hdl;clear aaA af8 hun' alC hgr hq4 hv4 hdd hdl;go_wp2
   go_roundw
   case rel =>
    exact zaD
   case measure=>simp[intOf]
theorem abh (w:FW) (F:FI) (va vb:F7) (a b:Nat) (ha:Ae w F va a) (hb:Ae w F vb b) (hb0:b≠0) (hla:(dig a).length<=100000) (hlb:(dig b).length<=100000) :
  Calls FY 171 #[va,vb] w (Ret w (CQ F w.heap.size a b)):=by
 by_cases hlt:a < b
 ·have hord:decide (dB a b < 0)=true:=by rw[je hlt];rfl
  have HOR:=Ac hord;have HVA:=Ac ha;have HVB:=Ac hb;have HLT:=Ac hlt;clear ha hb hord hlt hb0;go_in;go_wp2_with fail
  refine(jU w F _ _ a b HVA.out HVB.out EN EN).mono ?_;rintro e w' ⟨rfl,z0,rfl⟩;have hord:=HOR.out;generalize dB a b=od at *;go_wp2
  go_ret2;refine⟨_,rfl,aI (F9 _ w) z0,_,_,rfl,?_,?_⟩
  ·exact zdI
  ·rw[KX HLT.out];exact HVA.out.ext (aI (F9 _ w) z0)
 by_cases h1:(dig b).length=1
 ·have hord:decide (dB a b < 0)=false:=by
   refine zcF ?_;split <;> (try split) <;> omega
  have HOR:=Ac hord;have HVA:=Ac ha;have HVB:=Ac hb;obtain⟨B,d,rfl,hd,hNb⟩:=hb;obtain⟨b1,o1,rfl,_,hb1',hx⟩:=hNb EN;obtain⟨x,hx'⟩:=FC (l:=dig b) (k:=0) EN;have ex:=hx 0 x hx';unfold dF at ex;simp only[KF,J7] at ex;have hbx:b=x:=by
   exact zcU
  have hxl:x < 1000000000:=(aP b).get hx';have hl1:(((dig b).length:Int)==1)=true:=by rw[h1];rfl
  have hx1:1<=x:=EN;have hpos:0 < (dig b).length:=EN;have HBX:=Ac hbx;clear ha hord hlt hb0 hx hx' h1 hbx hNb;go_in;go_wp2_with fail
  refine(jU w F _ _ a b HVA.out HVB.out EN EN).mono ?_;rintro e w' ⟨rfl,z0,rfl⟩;have hord:=HOR.out;generalize dB a b=od at *;go_wp2_with fail
  refine(aco _ F _ a x (HVA.out.on (Jl _ _ _)) EN hx1 EN).mono ?_;rintro e w1 ⟨_,rfl,yQ,vq,rfl,hvq⟩;have hml:a % x < x:=IK _ EN;have HVQ:=Ac hvq;clear hvq;obtain⟨m,hm⟩:=FH (a % x);rw[<-hm] at hml ⊢;have HM:=Ac hm;clear hm;go_wp2_with fail
  refine(uI w1 m EN).mono ?_;rintro e w2 ⟨vr,rfl,hbw2,hvr⟩;have HVR:=Ac hvr;clear hvr;go_wp2
  go_ret2;have hz:w.heap.size<=w1.heap.size:=yQ.size;refine⟨_,rfl,(aI (F9 _ w) z0).trans (yQ.trans (hbw2.mono hz)),_,_,rfl,?_,?_⟩
  ·rw[HBX.out];exact(HVQ.out.below hbw2).mono λb hb _=>.inr hb
  ·rw[HBX.out,<-HM.out];exact HVR.out.mono λb hb _=>.inr EN
 ·exact aeY w F va vb a b ha hb (by have:=bg.2 hb0; omega) hla EN
theorem af9 (w:FW) (F:FI) (va vb:F7) (a b:Nat) (ha:Ae w F va a) (hb:Ae w F vb b) (hb0:b≠0) (hla:(dig a).length<=100000) (hlb:(dig b).length<=100000) :
  Calls FY 185 #[va,vb] w (Ret w (CQ F w.heap.size a b)):=by
 by_cases hlt:a < b
 ·have hord:decide (dB a b < 0)=true:=by rw[je hlt];rfl
  have HOR:=Ac hord;have HVA:=Ac ha;have HVB:=Ac hb;have HLT:=Ac hlt;clear ha hb hord hlt hb0;go_in;go_wp2_with fail
  refine(zJ w F _ _ a b HVA.out HVB.out EN EN).mono ?_;rintro e w' ⟨rfl,z0,rfl⟩;have hord:=HOR.out;generalize dB a b=od at *;go_wp2_with fail
  refine(ad2 _ F _ a (HVA.out.on (Jl _ _ _)) EN).mono ?_;rintro e w1 ⟨v,rfl,hb1,hv1⟩;have HV1:=Ac hv1;clear hv1;go_wp2
  go_ret2;refine⟨_,rfl,(aI (F9 _ w) z0).trans hb1,_,_,rfl,?_,?_⟩
  ·exact zdI
  ·rw[KX HLT.out];exact HV1.out.mono λb hb _=>.inr hb
 by_cases h1:(dig b).length=1
 ·have hord:decide (dB a b < 0)=false:=by
   refine zcF ?_;split <;> (try split) <;> omega
  have HOR:=Ac hord;have HVA:=Ac ha;have HVB:=Ac hb;obtain⟨B,d,rfl,hd,hNb⟩:=hb;obtain⟨b1,o1,rfl,_,hb1',hx⟩:=hNb EN;obtain⟨x,hx'⟩:=FC (l:=dig b) (k:=0) EN;have ex:=hx 0 x hx';unfold dF at ex;simp only[KF,J7] at ex;have hbx:b=x:=by
   exact zcU
  have hxl:x < 1000000000:=(aP b).get hx';have hl1:(((dig b).length:Int)==1)=true:=by rw[h1];rfl
  have hx1:1<=x:=EN;have hpos:0 < (dig b).length:=EN;have HBX:=Ac hbx;clear ha hord hlt hb0 hx hx' h1 hbx hNb;go_in;go_wp2_with fail
  refine(zJ w F _ _ a b HVA.out HVB.out EN EN).mono ?_;rintro e w' ⟨rfl,z0,rfl⟩;have hord:=HOR.out;generalize dB a b=od at *;go_wp2_with fail
  refine(acp _ F _ a x (HVA.out.on (Jl _ _ _)) EN hx1 EN).mono ?_;rintro e w1 ⟨_,rfl,yQ,vq,rfl,hvq⟩;have hml:a % x < x:=IK _ EN;have HVQ:=Ac hvq;clear hvq;obtain⟨m,hm⟩:=FH (a % x);rw[<-hm] at hml ⊢;have HM:=Ac hm;clear hm;go_wp2_with fail
  refine(aeT w1 m EN).mono ?_;rintro e w2 ⟨vr,rfl,hbw2,hvr⟩;have HVR:=Ac hvr;clear hvr;go_wp2
  go_ret2;have hz:w.heap.size<=w1.heap.size:=yQ.size;refine⟨_,rfl,(aI (F9 _ w) z0).trans (yQ.trans (hbw2.mono hz)),_,_,rfl,?_,?_⟩
  ·rw[HBX.out];exact(HVQ.out.below hbw2).mono λb hb _=>.inr hb
  ·rw[HBX.out,<-HM.out];exact HVR.out.mono λb hb _=>.inr EN
 ·exact ajZ w F va vb a b ha hb (by have:=bg.2 hb0; omega) hla EN
theorem xE {s:Int} {x:Nat} (h1:-1000000000<=s) (h2:s<=1000000000) (hx:x < 1000000000):-1000000000000000000<=s*(x:Int)/\s*(x:Int)<=1000000000000000000:=by
 constructor
 ·have:(-1000000000)*(x:Int)<=s*(x:Int):=J6 h1 EN;omega
 ·have:s*(x:Int)<=1000000000*(x:Int):=J6 h2 EN;omega
theorem tdm (v:Int):v=1000000000*v.tdiv 1000000000+v.tmod 1000000000∧-1000000000 < v.tmod 1000000000/\v.tmod 1000000000 < 1000000000:=by
 refine⟨(Int.mul_tdiv_add_tmod v 1000000000).symm,?_,?_⟩
 ·have:=Int.lt_tmod_of_pos v (b:=1000000000) aA;omega
 ·exact Int.tmod_lt_of_pos v aA
theorem jF (w:FW) (F:FI) (va vb:F7) (a b:Nat) (s t:Int) (R:Nat) (ha:Ae w F va a) (hb:Ae w F vb b) (hla:(dig a).length<=100000) (hlb:(dig b).length<=(dig a).length)
  (hs1:-1000000000<=s) (hs2:s<=1000000000) (ht1:-1000000000<=t) (ht2:t<=1000000000) (hR:s*a+t*b=(R:Int)) (hRa:R<=a) :
  Calls FY 196 #[va,vb,F6 F5 s,F6 F5 t] w (Ret w λv w'=>Ae w' (λb=>w.heap.size<=b) v R):=by
 obtain⟨A,c,rfl,hc,hNa⟩:=ha;obtain⟨B,d,rfl,hd,hNb⟩:=hb;have HA:=Ac hNa;have HB:=Ac hNb;clear hNa hNb;have HR:=Ac hR;have HRA:=Ac hRa;clear hR hRa;go_in;go_wp2_with (at_make; refine gX _ rfl _ _ 39 rfl 103 (.int .u32 0) 4 Ie IU rfl (dig a).length rfl rfl EN EN ?_; intro w1 hb1 hz1 hrow1)
 have HR1:=Ac hrow1; clear hrow1;go_loopw [10,18] (λcv i wr=>∃ (k:Nat) (l:List Nat) (cr:Int),k<=(dig a).length/\i = F6 F5 (k:Int)/\cv = F6 F5 cr∧-3000000000<=cr/\cr<=3000000000/\l.length=(dig a).length/\Limbs l/\(aH (l.take k):Int)+(LB ^ k:Nat)*cr=s*aH ((dig a).take k)+t*aH ((dig b).take k) /\
  Row wr w.heap.size 103 (aU l)/\Below w.heap.size w wr) (λ_ i _=>(dig a).length - (intOf i).toNat)
 case atStart=>exact⟨0,F8 (dig a).length 0,0,EN,rfl,rfl,EN,EN,aF,Limbs.zeros _,by simp[aH],by rw[gQ]; exact HR1.out,hb1⟩
 case round =>
  obtain⟨k,l,cr,hk,rfl,rfl,hc1,hc2,hlen,hlim,hinv,hrow,hbel⟩:=hrel;refine zaJ ?_;intro HL HI HO HM hold;by_cases hlt:k < (dig a).length
  ·obtain⟨b1,o1,rfl,_,hb1',hx⟩:=HA.out EN;refine zaQ ?_;intro x hx' ex;unfold dF at ex;refine Yu ?_;clear ex;intro ex hxl HX;refine zaU ?_;intro z hz rc fc;clear hx hx' hz hlen hinv hrow hlim;obtain⟨p1,p2⟩:=xE hs1 hs2 hxl;obtain⟨p,hp⟩:∃ p,s*(x:Int)=p:=⟨_,rfl⟩;rw[hp] at p1 p2;have HP:=Ac hp;by_cases hlt2:k < (dig b).length
   ·obtain⟨b2,o2,rfl,_,hb2',hy⟩:=HB.out EN;refine zdH ?_;intro y hy' ey;unfold dF at ey;refine Y8 ?_;clear ey;intro ey hyl HY;clear hy hy';obtain⟨q1,q2⟩:=xE ht1 ht2 hyl;obtain⟨q,hq⟩:∃ q,t*(y:Int)=q:=⟨_,rfl⟩;rw[hq] at q1 q2;have HQ:=Ac hq;obtain⟨t1,t2,t3⟩:=tdm (p+cr+q);obtain⟨qd,hqd⟩:∃ qd,(p+cr+q).tdiv 1000000000=qd:=⟨_,rfl⟩;obtain⟨rm,hrm⟩:∃ rm,(p+cr+q).tmod 1000000000=rm:=⟨_,rfl⟩;rw[hqd,hrm] at t1;rw[hrm] at t2 t3;refine zcW ?_;intro T1 an0 an1;clear t1;by_cases hneg:rm < 0
    ·refine zaK ?_;intro e HE;go_wp2
     go_roundw
     case rel =>
      have he:=HE.out;have h1:=T1.out;refine⟨k+1,l.set k e,qd - 1,EN,by go_num,rfl,EN,EN,by rw[He,HL.out],HM.out.set (by show _ < 1000000000; omega),pG (by rw[HL.out]; exact hlt) HI.out ?_,?_,hbel.setCell (FV _) _⟩
      ·exact zbp
      ·exact YC
     case measure=>simp[intOf]; omega
    ·refine zak ?_;intro e hdd HE;go_wp2
     go_roundw
     case rel =>
      have he:=HE.out;have h1:=T1.out;refine⟨k+1,l.set k e,qd,EN,by go_num,rfl,EN,EN,by rw[He,HL.out],HM.out.set (by show _ < 1000000000; omega),pG (by rw[HL.out]; exact hlt) HI.out ?_,?_,hbel.setCell (FV _) _⟩
      ·exact zbp
      ·exact YC
     case measure=>simp[intOf]; omega
   ·refine Yl ?_;intro hdd HY;obtain⟨t1,t2,t3⟩:=tdm (p+cr);obtain⟨qd,hqd⟩:∃ qd,(p+cr).tdiv 1000000000=qd:=⟨_,rfl⟩;obtain⟨rm,hrm⟩:∃ rm,(p+cr).tmod 1000000000=rm:=⟨_,rfl⟩;rw[hqd,hrm] at t1;rw[hrm] at t2 t3;refine zcW ?_;intro T1 an0 an1;clear t1;by_cases hneg:rm < 0
    ·refine zaK ?_;intro e HE;go_wp2
     go_roundw
     case rel =>
      have he:=HE.out;have h1:=T1.out;refine⟨k+1,l.set k e,qd - 1,EN,by go_num,rfl,EN,EN,by rw[He,HL.out],HM.out.set (by show _ < 1000000000; omega),pG (by rw[HL.out]; exact hlt) HI.out ?_,?_,hbel.setCell (FV _) _⟩
      ·exact zbR
      ·exact YC
     case measure=>simp[intOf]; omega
    ·refine zak ?_;intro e hdd HE;go_wp2
     go_roundw
     case rel =>
      have he:=HE.out;have h1:=T1.out;refine⟨k+1,l.set k e,qd,EN,by go_num,rfl,EN,EN,by rw[He,HL.out],HM.out.set (by show _ < 1000000000; omega),pG (by rw[HL.out]; exact hlt) HI.out ?_,?_,hbel.setCell (FV _) _⟩
      ·exact zbR
      ·exact YC
     case measure=>simp[intOf]; omega
  ·have hke:k=(dig a).length:=EN;have hF:aH l=R:=by
    exact zaR
   have HF:=Ac hF;clear hF hke hinv hlim hlen;go_wp2_with fail
   refine(qO wr (λb=>w.heap.size<=b) (some ⟨w.heap.size,0,none⟩) (dig a).length (dig a).length l HL.out (kH hrow (FV _) HL.out (FV _)) EN).mono ?_;exact zbc
theorem aga (w:FW) (F:FI) (va vb:F7) (a b:Nat) (s t:Int) (R:Nat) (ha:Ae w F va a) (hb:Ae w F vb b) (hla:(dig a).length<=100000) (hlb:(dig b).length<=(dig a).length)
  (hs1:-1000000000<=s) (hs2:s<=1000000000) (ht1:-1000000000<=t) (ht2:t<=1000000000) (hR:s*a+t*b=(R:Int)) (hRa:R<=a) :
  Calls FY 186 #[va,vb,F6 F5 s,F6 F5 t] w (Ret w λv w'=>Ae w' (λb=>w.heap.size<=b) v R):=by
 obtain⟨A,c,rfl,hc,hNa⟩:=ha;obtain⟨B,d,rfl,hd,hNb⟩:=hb;have HA:=Ac hNa;have HB:=Ac hNb;clear hNa hNb;have HR:=Ac hR;have HRA:=Ac hRa;clear hR hRa;go_in;go_wp2_with (at_make; refine gX _ rfl _ _ 40 rfl 103 (.int .u32 0) 4 G8 IU rfl (dig a).length rfl rfl EN EN ?_; intro w1 hb1 hz1 hrow1)
 have HR1:=Ac hrow1; clear hrow1;go_loopw [10,18] (λcv i wr=>∃ (k:Nat) (l:List Nat) (cr:Int),k<=(dig a).length/\i = F6 F5 (k:Int)/\cv = F6 F5 cr∧-3000000000<=cr/\cr<=3000000000/\l.length=(dig a).length/\Limbs l/\(aH (l.take k):Int)+(LB ^ k:Nat)*cr=s*aH ((dig a).take k)+t*aH ((dig b).take k) /\
  Row wr w.heap.size 103 (aU l)/\Below w.heap.size w wr) (λ_ i _=>(dig a).length - (intOf i).toNat)
 case atStart=>exact⟨0,F8 (dig a).length 0,0,EN,rfl,rfl,EN,EN,aF,Limbs.zeros _,by simp[aH],by rw[gQ]; exact HR1.out,hb1⟩
 case round =>
  obtain⟨k,l,cr,hk,rfl,rfl,hc1,hc2,hlen,hlim,hinv,hrow,hbel⟩:=hrel;refine zaJ ?_;intro HL HI HO HM hold;by_cases hlt:k < (dig a).length
  ·obtain⟨b1,o1,rfl,_,hb1',hx⟩:=HA.out EN;refine zaQ ?_;intro x hx' ex;unfold dF at ex;refine Yu ?_;clear ex;intro ex hxl HX;refine zaU ?_;intro z hz rc fc;clear hx hx' hz hlen hinv hrow hlim;obtain⟨p1,p2⟩:=xE hs1 hs2 hxl;obtain⟨p,hp⟩:∃ p,s*(x:Int)=p:=⟨_,rfl⟩;rw[hp] at p1 p2;have HP:=Ac hp;by_cases hlt2:k < (dig b).length
   ·obtain⟨b2,o2,rfl,_,hb2',hy⟩:=HB.out EN;refine zdH ?_;intro y hy' ey;unfold dF at ey;refine Y8 ?_;clear ey;intro ey hyl HY;clear hy hy';obtain⟨q1,q2⟩:=xE ht1 ht2 hyl;obtain⟨q,hq⟩:∃ q,t*(y:Int)=q:=⟨_,rfl⟩;rw[hq] at q1 q2;have HQ:=Ac hq;obtain⟨t1,t2,t3⟩:=tdm (p+cr+q);obtain⟨qd,hqd⟩:∃ qd,(p+cr+q).tdiv 1000000000=qd:=⟨_,rfl⟩;obtain⟨rm,hrm⟩:∃ rm,(p+cr+q).tmod 1000000000=rm:=⟨_,rfl⟩;rw[hqd,hrm] at t1;rw[hrm] at t2 t3;refine zcW ?_;intro T1 an0 an1;clear t1;have hrm2:p+cr+q - qd*1000000000=rm:=by have:=T1.out;omega
    by_cases hneg:rm < 0
    ·refine zaK ?_;intro e HE;go_wp2
     go_roundw
     case rel =>
      have he:=HE.out;have h1:=T1.out;refine⟨k+1,l.set k e,qd - 1,EN,by go_num,rfl,EN,EN,by rw[He,HL.out],HM.out.set (by show _ < 1000000000; omega),pG (by rw[HL.out]; exact hlt) HI.out ?_,?_,hbel.setCell (FV _) _⟩
      ·exact zbp
      ·exact YC
     case measure=>simp[intOf]; omega
    ·refine zak ?_;intro e hdd HE;go_wp2
     go_roundw
     case rel =>
      have he:=HE.out;have h1:=T1.out;refine⟨k+1,l.set k e,qd,EN,by go_num,rfl,EN,EN,by rw[He,HL.out],HM.out.set (by show _ < 1000000000; omega),pG (by rw[HL.out]; exact hlt) HI.out ?_,?_,hbel.setCell (FV _) _⟩
      ·exact zbp
      ·exact YC
     case measure=>simp[intOf]; omega
   ·refine Yl ?_;intro hdd HY;obtain⟨t1,t2,t3⟩:=tdm (p+cr);obtain⟨qd,hqd⟩:∃ qd,(p+cr).tdiv 1000000000=qd:=⟨_,rfl⟩;obtain⟨rm,hrm⟩:∃ rm,(p+cr).tmod 1000000000=rm:=⟨_,rfl⟩;rw[hqd,hrm] at t1;rw[hrm] at t2 t3;refine zcW ?_;intro T1 an0 an1;clear t1;have hrm2:p+cr - qd*1000000000=rm:=by have:=T1.out;omega
    by_cases hneg:rm < 0
    ·refine zaK ?_;intro e HE;go_wp2
     go_roundw
     case rel =>
      have he:=HE.out;have h1:=T1.out;refine⟨k+1,l.set k e,qd - 1,EN,by go_num,rfl,EN,EN,by rw[He,HL.out],HM.out.set (by show _ < 1000000000; omega),pG (by rw[HL.out]; exact hlt) HI.out ?_,?_,hbel.setCell (FV _) _⟩
      ·exact zbR
      ·exact YC
     case measure=>simp[intOf]; omega
    ·refine zak ?_;intro e hdd HE;go_wp2
     go_roundw
     case rel =>
      have he:=HE.out;have h1:=T1.out;refine⟨k+1,l.set k e,qd,EN,by go_num,rfl,EN,EN,by rw[He,HL.out],HM.out.set (by show _ < 1000000000; omega),pG (by rw[HL.out]; exact hlt) HI.out ?_,?_,hbel.setCell (FV _) _⟩
      ·exact zbR
      ·exact YC
     case measure=>simp[intOf]; omega
  ·have hke:k=(dig a).length:=EN;have hF:aH l=R:=by
    exact zaR
   have HF:=Ac hF;clear hF hke hinv hlim hlen;go_wp2_with fail
   refine(xq wr (λb=>w.heap.size<=b) (some ⟨w.heap.size,0,none⟩) (dig a).length (dig a).length l HL.out (kH hrow (FV _) HL.out (FV _)) EN).mono ?_;exact zbc
theorem alD (hl:l.length<=n) (hn:2<=n) (hL:Limbs l):aH (l.drop (n - 2))=aH l / LB ^ (n - 2):=by
 rw[<-front_eq hl hn hL,bT,show n - 2+1=n - 1 by omega,bT,show n - 1+1=n by omega,GU hl];simp[aH];rw[Nat.mul_comm,Nat.add_comm]
theorem acy (w:FW) (F:FI) (v:F7) (x n:Nat) (hv:Ae w F v x) (hl:(dig x).length<=n) (hn:2<=n) (hn2:n<=100000) :
  Calls FY 195 #[v,F6 F5 (n:Int)] w λe w'=>e = .returned (F6 F5 ((x / LB ^ (n - 2):Nat):Int))/\w=w':=by
 obtain⟨A,c,rfl,hc,hN⟩:=hv;have HN:=Ac hN;clear hN;obtain⟨R,hR⟩:=FH (x / LB ^ (n - 2));rw[<-hR];have HR:=Ac hR;clear hR;go_in;go_wp2
 go_loop [5,6] (λm i=>∃ k:Nat,n - 2<=k/\k<=n/\i = F6 F5 ((k:Int) - 1)/\m = F6 F5 (aH ((dig x).drop k):Int)) (λ_ i=>(intOf i+1).toNat)
 case atStart=>exact⟨n,EN,FV _,rfl,by rw[GU hl]; rfl⟩
 case round =>
  obtain⟨k,hk1,hk2,rfl,rfl⟩:=hrel;by_cases h0:n - 2 < k
  ·obtain⟨j,rfl⟩:∃ j,k=j+1:=⟨k - 1,EN⟩;refine Yx ?_;have hm:aH ((dig x).drop (j+1)) < 1000000000:=by
    have h1:=gV ((aP x).drop (j+1));have h2:LB ^ ((dig x).drop (j+1)).length<=LB ^ 1:=Nat.pow_le_pow_right aA (by rw[List.length_drop]; omega);have h3:LB ^ 1=1000000000:=aA;omega
   have hdd:decide ((n:Int) - 2<=(j:Int))=true:=Mc EN;have hjI:(n:Int) - 2<=(j:Int):=EN;by_cases hlt:j < (dig x).length
   ·obtain⟨b,o,rfl,_,hb,hx⟩:=HN.out EN;obtain⟨y,hx'⟩:=FC hlt;have ex:=hx j y hx';unfold dF at ex;rw[Gp] at ex;have hyl:y < 1000000000:=(aP x).get hx';have HS:=Ac (show aH ((dig x).drop j)=y+LB*aH ((dig x).drop (j+1)) by rw[bT,aN hx']);clear hx hx';generalize aH ((dig x).drop (j+1))=m at *;go_wp2
    go_round
    case rel=>exact⟨j,EN,EN,by go_num,by rw[HS.out]; simp; omega⟩
    case measure=>simp[intOf]
   ·have hdl:decide (j < (dig x).length)=false:=L9 hlt;have HS:=Ac (show aH ((dig x).drop j)=0+LB*aH ((dig x).drop (j+1)) by rw[bT,eU EN]);generalize aH ((dig x).drop (j+1))=m at *;go_wp2
    go_round
    case rel=>exact⟨j,EN,EN,by go_num,by rw[HS.out]; simp; omega⟩
    case measure=>simp[intOf]
  ·obtain rfl:k=n - 2:=EN;have hdd:decide ((n:Int) - 2<=((n - 2:Nat):Int) - 1)=false:=L9 EN;have HE:=Ac (alD hl hn (aP x));rw[aX] at HE;generalize aH ((dig x).drop (n - 2))=m at *;have e2:((n - 2:Nat):Int) - 1=(n:Int) - 3:=EN;have hdd2:decide ((n:Int) - 2<=(n:Int) - 3)=false:=L9 EN;rw[e2];clear e2 hdd;go_wp2
   go_ret;exact⟨by rw[HR.out,<-HE.out]; rfl,rfl⟩
def adu (x y z u:Int):Int:=if u > (if z > (if y > x then y else x) then z else (if y > x then y else x)) then u else (if z > (if y > x then y else x) then z else (if y > x then y else x))
theorem agb (ts:Array TypeId) (t:TypeId) (x y z u:Int) (w:FW):(Builtin.max_ ts t #[F6 F5 x,F6 F5 y,F6 F5 z,F6 F5 u]).run FY w = .ok (F6 F5 (adu x y z u)) w:=by
 simp[Builtin.max_,Builtin.max2,adu]
theorem ai8 {x z:Int}:1000000000<=adu x (-x) z (-z)↔(x≤-1000000000\/1000000000<=x\/z≤-1000000000\/1000000000<=z):=by
 unfold adu;split <;> split <;> split <;> omega
def Eo (a b:Nat) (m:Nat) (v:F7) (w':FW):Prop :=
 v = .tuple #[.slice none 0 0,.slice none 0 0,.bool false] \/
 ∃ vx vy x y,v = .tuple #[vx,vy,.bool true]/\Ae w' (λb=>m<=b) vx x/\Ae w' (λb=>m<=b) vy y/\y<=x/\x<=a/\y < b/\Gv x y=Gv a b
theorem aj0 (w:FW) (F:FI) (va vb:F7) (a b:Nat) (ha:Ae w F va a) (hb:Ae w F vb b) (hba:b<=a) (hl3:3<=(dig a).length) (hla:(dig a).length<=100000) :
  Calls FY 170 #[va,vb] w (Ret w (Eo a b w.heap.size)):=by
 have HVA:=Ac ha;have HVB:=Ac hb;have hlb:(dig b).length<=(dig a).length:=aT hba;obtain⟨A,c,rfl,hc,_⟩:=ha;obtain⟨B,d,rfl,hd,_⟩:=hb;obtain⟨M,hM⟩:=FH (LB ^ ((dig a).length - 2));have hMp:0 < M:=by rw[hM];exact Bl _
 have hp0:a / M < 1000000000000000000:=by
  rw[Nat.div_lt_iff_lt_mul hMp,hM];have h1:=lS a;have h2:LB ^ (dig a).length=LB ^ 2*LB ^ ((dig a).length - 2):=by rw[<-Nat.pow_add];congr 1;omega
  have h3:LB ^ 2=1000000000000000000:=aA;rw[h3] at h2;omega
 have hqp:b / M<=a / M:=Nat.div_le_div_right hba;have HST:=Ac (show Leh (a:Int) (b:Int) (M:Int) ((a / M:Nat):Int) ((b / M:Nat):Int) ((a % M:Nat):Int) ((b % M:Nat):Int) ((a / M:Nat):Int) ((b / M:Nat):Int) 1 0 0 1 from by
  have h1:=I5 a M;have h2:=I5 b M;have h3:=IK a hMp;have h4:=IK b hMp;refine Leh.start ?_ ?_ (LU _) (Int.ofNat_lt.2 h3) (LU _) (Int.ofNat_lt.2 h4) (LU _) (Int.ofNat_le.2 hqp) EN EN
  ·rw[Int.mul_comm,<-Int.natCast_mul];omega
  ·rw[Int.mul_comm,<-Int.natCast_mul]; omega)
 have HM:=Ac hM;obtain⟨p0,am2⟩:∃ p0,p0=a / M:=⟨_,rfl⟩;obtain⟨q0,am3⟩:∃ q0,q0=b / M:=⟨_,rfl⟩;have e1:a / LB ^ ((dig a).length - 2)=p0:=by rw[am2,hM]
 have e2:b / LB ^ ((dig a).length - 2)=q0:=by rw[am3,hM]
 rw[<-am2,<-am3] at HST;rw[<-am2] at hp0 hqp;rw[<-am3] at hqp;have E1:=Ac e1;have E2:=Ac e2;generalize ((a % M:Nat):Int)=al at HST;generalize ((b % M:Nat):Int)=be at HST;clear e1 e2 am2 am3 hM hba;go_in;go_wp2_with fail
 refine(acy w F _ a (dig a).length HVA.out (FV _) EN hla).mono ?_;rintro e w' ⟨rfl,rfl⟩;rw[E1.out];go_wp2_with fail
 refine(acy w F _ b (dig a).length HVB.out hlb EN hla).mono ?_;rintro e w' ⟨rfl,rfl⟩;rw[E2.out];go_wp2
 go_loopw [7,8,9,10,11,12] (λpv qv av bv cv dv wr=>∃ p q A B C D:Int,pv = F6 F5 p/\qv = F6 F5 q/\av = F6 F5 A/\bv = F6 F5 B/\cv = F6 F5 C/\dv = F6 F5 D/\Leh (a:Int) (b:Int) (M:Int) (p0:Int) (q0:Int) al be p q A B C D /\
  -1000000000 < A/\A < 1000000000∧-1000000000 < B/\B < 1000000000∧-1000000000 < C/\C < 1000000000∧-1000000000 < D/\D < 1000000000/\w=wr) (λ_ qv _ _ cv dv _=>(intOf cv*a+intOf dv*b).toNat)
 case atStart=>exact⟨_,_,_,_,_,_,rfl,rfl,rfl,rfl,rfl,rfl,HST.out,EN,EN,EN,EN,EN,EN,EN,EN,rfl⟩
 case round =>
  clear HST;obtain⟨p,q,A,B,C,D,rfl,rfl,rfl,rfl,rfl,rfl,kU,a1,a2,b1,b2,c1,c2,d1,d2,rfl⟩:=hrel;have HLE:=Ac kU;have pA:=kU.pA;have pB:=kU.pB;have qC:=kU.qC;have qD:=kU.qD;have pA1:=kU.pA1;have pB1:=kU.pB1;have qC1:=kU.qC1;have qD1:=kU.qD1;have pn:=kU.afP;have qn:=kU.ab3;obtain⟨X,hX⟩:∃ X:Nat,A*a+B*b=(X:Int):=⟨(A*a+B*b).toNat,by have:=kU.y0; have:=kU.yx; omega⟩;obtain⟨Y,hY⟩:∃ Y:Nat,C*a+D*b=(Y:Int):=⟨(C*a+D*b).toNat,by have:=kU.y0; omega⟩;have HX:=Ac (Ij hX (Ij hY (show X<=a by have:=kU.xa; omega)));have HY:=Ac (show Y<=X/\(B=0\/Y < b)/\Gv X Y=Gv a b from⟨by have:=kU.yx; omega,by have:=kU.prog; omega,by have:=kU.gcd; rw[hX,hY] at this; simpa using this⟩);clear kU hX hY;by_cases hC:q+C=0
  ·have t1:(q+C != 0)=false:=by simp[hC]
   clear hC;by_cases hB0:B=0
   ·have tB:(B==0)=true:=by simp[hB0]
    clear hB0;go_wp2
    go_ret3;exact⟨_,rfl,F9 _ _,.inl rfl⟩
   ·have tB:(B==0)=false:=by simp[hB0]
    have HB0:=Ac hB0;clear hB0;go_wp2_with fail
    refine YF ?_;rintro e w1 ⟨vx,rfl,hb1,hvx⟩;have HVX:=Ac hvx;clear hvx;go_wp2_with fail
    refine ZQ ?_;rintro e w2 ⟨vy,rfl,hb2,hvy⟩;have HVY:=Ac hvy;clear hvy;have hz:=hb1.size;go_wp2
    go_ret3;exact⟨_,rfl,hb1.trans (hb2.mono hz),.inr ⟨_,_,X,Y,rfl,HVX.out.below hb2,HVY.out.mono (λb hb _=>by omega),HY.out.1,HX.out.2.2,HY.out.2.1.resolve_left HB0.out,HY.out.2.2⟩⟩
  ·have t1:(q+C != 0)=true:=by simp[hC]
   have hC':0 < q+C:=EN;by_cases hD:q+D=0
   ·have t2:(q+D != 0)=false:=by simp[hD]
    have HC:=Ac hC;clear hC hD;by_cases hB0:B=0
    ·have tB:(B==0)=true:=by simp[hB0]
     clear hB0;go_wp2
     go_ret3;exact⟨_,rfl,F9 _ _,.inl rfl⟩
    ·have tB:(B==0)=false:=by simp[hB0]
     have HB0:=Ac hB0;clear hB0;go_wp2_with fail
     refine YF ?_;rintro e w1 ⟨vx,rfl,hb1,hvx⟩;have HVX:=Ac hvx;clear hvx;go_wp2_with fail
     refine ZQ ?_;rintro e w2 ⟨vy,rfl,hb2,hvy⟩;have HVY:=Ac hvy;clear hvy;have hz:=hb1.size;go_wp2
     go_ret3;exact⟨_,rfl,hb1.trans (hb2.mono hz),.inr ⟨_,_,X,Y,rfl,HVX.out.below hb2,HVY.out.mono (λb hb _=>by omega),HY.out.1,HX.out.2.2,HY.out.2.1.resolve_left HB0.out,HY.out.2.2⟩⟩
   ·have t2:(q+D != 0)=true:=by simp[hD]
    have hD':0 < q+D:=EN;obtain⟨k,hk⟩:∃ k,(p+A) / (q+C)=k:=⟨_,rfl⟩;obtain⟨k2,hk2⟩:∃ k,(p+B) / (q+D)=k:=⟨_,rfl⟩;have kn:0<=k:=by rw[<-hk];exact Int.ediv_nonneg pA qC
    have k2n:0<=k2:=by rw[<-hk2];exact Int.ediv_nonneg pB qD
    have kle:k<=p+A:=by rw[<-hk];exact Int.ediv_le_self _ pA
    have k2le:k2<=p+B:=by rw[<-hk2];exact Int.ediv_le_self _ pB
    have HC:=Ac hC;have HD:=Ac hD;clear hC hD;by_cases hkk:k=k2
    ·subst hkk;have t3:(k != k)=false:=aF;obtain⟨_,kb,kq1,kq2,kc1,kc2,kd1,kd2⟩:=HLE.out.bounds HC.out HD.out hk.symm hk2.symm;by_cases hkb:1000000000<=k
     ·clear kq1 kq2 kc1 kc2 kd1 kd2;by_cases hB0:B=0
      ·have tB:(B==0)=true:=by simp[hB0]
       clear hB0;go_wp2
       go_ret3;exact⟨_,rfl,F9 _ _,.inl rfl⟩
      ·have tB:(B==0)=false:=by simp[hB0]
       have HB0:=Ac hB0;clear hB0;go_wp2_with fail
       refine YF ?_;rintro e w1 ⟨vx,rfl,hb1,hvx⟩;have HVX:=Ac hvx;clear hvx;go_wp2_with fail
       refine ZQ ?_;rintro e w2 ⟨vy,rfl,hb2,hvy⟩;have HVY:=Ac hvy;clear hvy;have hz:=hb1.size;go_wp2
       go_ret3;exact⟨_,rfl,hb1.trans (hb2.mono hz),.inr ⟨_,_,X,Y,rfl,HVX.out.below hb2,HVY.out.mono (λb hb _=>by omega),HY.out.1,HX.out.2.2,HY.out.2.1.resolve_left HB0.out,HY.out.2.2⟩⟩
     ·have t4:decide ((1000000000:Int)<=k)=false:=L9 hkb;have HST:=Ac (HLE.out.step HC.out HD.out hk.symm hk2.symm);obtain⟨kc,hkc⟩:∃ kc,k*C=kc:=⟨_,rfl⟩;obtain⟨kd,hkd⟩:∃ kd,k*D=kd:=⟨_,rfl⟩;obtain⟨kq,hkq⟩:∃ kq,k*q=kq:=⟨_,rfl⟩;rw[hkc] at kc1 kc2 HST;rw[hkd] at kd1 kd2 HST;rw[hkq] at kq1 kq2 HST;have hm4:=agb;by_cases hmx:1000000000<=adu (A - kc) (-(A - kc)) (B - kd) (-(B - kd))
      ·have t5:decide (1000000000<=adu (A - kc) (-(A - kc)) (B - kd) (-(B - kd)))=true:=Mc hmx;clear hmx;by_cases hB0:B=0
       ·have tB:(B==0)=true:=by simp[hB0]
        clear hB0;go_wp2
        go_ret3;exact⟨_,rfl,F9 _ _,.inl rfl⟩
       ·have tB:(B==0)=false:=by simp[hB0]
        have HB0:=Ac hB0;clear hB0;go_wp2_with fail
        refine YF ?_;rintro e w1 ⟨vx,rfl,hb1,hvx⟩;have HVX:=Ac hvx;clear hvx;go_wp2_with fail
        refine ZQ ?_;rintro e w2 ⟨vy,rfl,hb2,hvy⟩;have HVY:=Ac hvy;clear hvy;have hz:=hb1.size;go_wp2
        go_ret3;exact⟨_,rfl,hb1.trans (hb2.mono hz),.inr ⟨_,_,X,Y,rfl,HVX.out.below hb2,HVY.out.mono (λb hb _=>by omega),HY.out.1,HX.out.2.2,HY.out.2.1.resolve_left HB0.out,HY.out.2.2⟩⟩
      ·refine zbE ?_;clear hmx;intro t5 n1 n2 n3 n4;go_wp2
       go_roundw
       case rel=>exact⟨q,p - kq,C,D,A - kc,B - kd,rfl,rfl,rfl,rfl,rfl,rfl,HST.out.1,EN,EN,EN,EN,EN,EN,EN,EN,by first | rfl | trivial⟩
       case measure =>
        have h1:=HST.out.2;have h2:=HST.out.1.y0;simp only[intOf];omega
    ·have t3:(k != k2)=true:=by simp[hkk]
     clear hkk;by_cases hB0:B=0
     ·have tB:(B==0)=true:=by simp[hB0]
      clear hB0;go_wp2
      go_ret3;exact⟨_,rfl,F9 _ _,.inl rfl⟩
     ·have tB:(B==0)=false:=by simp[hB0]
      have HB0:=Ac hB0;clear hB0;go_wp2_with fail
      refine YF ?_;rintro e w1 ⟨vx,rfl,hb1,hvx⟩;have HVX:=Ac hvx;clear hvx;go_wp2_with fail
      refine ZQ ?_;rintro e w2 ⟨vy,rfl,hb2,hvy⟩;have HVY:=Ac hvy;clear hvy;have hz:=hb1.size;go_wp2
      go_ret3;exact⟨_,rfl,hb1.trans (hb2.mono hz),.inr ⟨_,_,X,Y,rfl,HVX.out.below hb2,HVY.out.mono (λb hb _=>by omega),HY.out.1,HX.out.2.2,HY.out.2.1.resolve_left HB0.out,HY.out.2.2⟩⟩
end Go.Proofs.YtnmeejofpkhlkaaGreatDoor
