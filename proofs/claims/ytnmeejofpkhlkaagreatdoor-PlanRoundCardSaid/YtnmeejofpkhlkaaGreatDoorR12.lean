/- Quotient and remainder: wide.divide. -/
import Derived.Test.YtnmeejofpkhlkaaGreatDoorR07
import Derived.Test.YtnmeejofpkhlkaaGreatDoorR11
set_option linter.all false
set_option maxRecDepth 100000
set_option maxHeartbeats 12800000
namespace Go.Proofs.YtnmeejofpkhlkaaGreatDoor
open Lib renaming hid → Ag
open Go.RowKit
def CB (F:Foot) (m a b:Nat) (v:Value) (w':World):Prop:=∃ vq vr,v = .tuple #[vq,vr]∧Ah w' (Ext F m) vq (a / b)∧Ah w' (Ext F m) vr (a % b)
theorem jr {w:World} {b:Nat} {t:TypeId} {l:List Nat} (h:Row w b t (aT l)) {F:Foot} (hF:F b) {n c:Nat} (hn:l.length=n) (hc:n≤c):Aj w F (.slice (some ⟨b,0,none⟩) n c) l:=by
 have:=h.limbs hF (n:=n) (c:=c) byOmega hc;rwa [List.take_of_length_le byOmega] at this
theorem ag2 (w:World) (F:Foot) (va vb:Value) (a b:Nat) (ha:Ah w F va a) (hb:Ah w F vb b) (hb0:2≤(dig b).length) (hla:(dig a).length≤100000) (hge:b≤a) :
  Calls Tryz.prog 185 #[va,vb] w (Ret w (CB F w.heap.size a b)):=by
 have HVA:=Ag ha;have HVB:=Ag hb;have hlb:(dig b).length≤(dig a).length:=aU hge;have hb00:b≠0:=bG.1 byOmega;have hord:decide (bZ a b < 0)=false:=by
  refine zbx ?_;split <;> (try split) <;> omega
 obtain⟨A,c,rfl,hc,_⟩:=ha;obtain⟨B,d,rfl,hd,hNb⟩:=hb;have hd1:(((dig b).length:Int)==1)=false:=beq_false_of_ne byOmega;obtain⟨n,hn⟩:=named ((dig b).length);obtain⟨la,xR⟩:∃ la,la=(dig a).length:=⟨_,rfl⟩;obtain⟨b1,o1,rfl,_,hb1',hx⟩:=hNb byOmega;obtain⟨t,ht'⟩:=getSome (l:=dig b) (k:=n - 1) byOmega;have et:=hx (n - 1) t ht';unfold dB at et;rw[Nat.mul_one] at et;have gt:(dig b).getD (n - 1) 0=t:=aN ht';have htl:t < 1000000000:=(aP b).get ht';have ht1:1≤t:=by have:=(pq hb00).1;rw[← hn,gt] at this;exact this
 obtain⟨f1,f2,_,_,_⟩:=iM ht1 htl;have hfI:(1000000000:Int) / ((t:Int)+1)=((LB / (t+1):Nat):Int):=by
  rw[show((t:Int)+1)=((t+1:Nat):Int) by omega,show(1000000000:Int)=((LB:Nat):Int) from rfl,lF]
 refine zaj ?_;intro f hf adK hfit HDB;have HF1:=Ag hfit;have HF2:=Ag adK;have HOR:=Ag hord;have HD1:=Ag hd1;have HFI:=Ag hfI;have HF:=Ag hf;rw[← hn] at hd1;rw[← hf] at hfI f1 f2;rw[← hn] at hb0 hlb hd HD1 ⊢;rw[← xR] at hla hlb hc ⊢;have HN:=Ag hn;have HLA:=Ag xR;rw[← hn] at HVB;rw[← xR] at HVA;refine zbo ?_;intro n1 hn1;have i1:(n:Int) - 1=(n1:Int):=byOmega;rw[show n - 1=n1 by omega] at et;have l1:n1 < n:=byOmega;clear hn xR gt hx ht' hf hfit adK hord hge hn1;go_in;go_wp2_with fail
 refine(wF w F _ _ a b HVA.out HVB.out (by rw[← HLA.out]; omega) (by rw[← HN.out]; omega)).mono ?_;rintro e w' ⟨rfl,z0,rfl⟩;have hord:=HOR.out;generalize bZ a b=od at *;go_wp2_with fail
 refine(aar _ F _ a f (la+1) (HVA.out.on (Same.drewN _ _ _)) (by rw[HLA.out]; omega) byOmega f1 byOmega (by rw[HLA.out]; exact HF2.out)).mono ?_;rintro e w1 ⟨_,rfl,uY,rfl,U0,hul,adL,hun,hru⟩;have hzz:w.heap.size≤w1.heap.size:=uY.size;have akD:w.heap.size < w1.heap.size:=hru.lt;go_wp2_with fail
 refine(aar w1 F _ b f n ((HVB.out.on (Same.drewN _ _ z0)).below uY) (by rw[HN.out]; exact Nat.le_refl _) byOmega f1 byOmega HF1.out).mono ?_;rintro e w2 ⟨_,rfl,hbw2,rfl,vv,hvl,adM,hvn,hrv⟩;have hdb:=HDB.out vv hvl adM hvn;have HDV:=Ag hdb;clear hdb hvn;have aij:=hru.below hbw2 hru.lt;have aik:=hrv;have HRV:=Ag aik;have HRU:=Ag aij;refine zcb ?_;intro HSU hB2;have HVL:=Ag hvl;have hult:w1.heap.size < w2.heap.size:=hrv.lt;clear hrv aik hru aij hul adL hun hvl adM uY hbw2;have i3:(la:Int) - (n:Int)+1=((la - n+1:Nat):Int):=byOmega;go_wp2_with (at_make; refine dQ _ rfl _ _ 40 rfl 103 (.int .u32 0) 4 Tryz.underlying40 Tryz.infoU32 rfl (la - n+1) rfl rfl byOmega byOmega ?_; intro w3 hb3 hz3 hrq)
 have HRQ:=Ag hrq;have hq3:w2.heap.size < w3.heap.size:=hrq.lt;have ail:=HRV.out.below hb3 HRV.out.lt;have ain:=HRU.out.below hb3 HRU.out.lt;have hB3:=hB2.trans (hb3.mono hB2.size);have D5:=Ag ail;have D6:=Ag ain;clear hrq hb3 ail ain;go_loopw [12] (fun i wr=>∃ (k:Nat) (U q:List Nat),i = .int .i64 ((k:Int) - 1)∧BK a f vv n la k U q∧k≤la - n+1∧Row wr w.heap.size 103 (aT U)∧Row wr w2.heap.size 103 (aT q)∧Row wr w1.heap.size 103 (aT vv)∧Below w.heap.size w wr∧w3.heap.size≤wr.heap.size) (fun i _=>(intOf i+1).toNat)
 case atStart=>exact⟨la - n+1,U0,_,by go_num,HSU.out,byOmega,D6.out,by rw[fD]; exact HRQ.out,D5.out,hB3,Nat.le_refl _⟩
 case round =>
  clear HSU D6 D5 HRQ hB3 HRV HRU hB2;obtain⟨k,U,q,rfl,hdi,hk,hru,hrq,hrv,hbel,hsz⟩:=hrel;rcases Nat.eq_zero_or_pos k with h0 | h0
  ·subst h0;obtain⟨hq,hr,hu⟩:=hdi.last HDV.out;have HQ:=Ag hq;have HR:=Ag hr;have htl:(U.take n).length=n:=by rw[List.length_take,hdi.ul];omega
   have HTL:=Ag htl;have hdl:(dig (aH (U.take n))).length≤n:=by
    refine aS ?_;have:=fH (hdi.adv.take n);rwa [htl] at this
   have HUL:=Ag (hdi.adv.take n);have HQL:=Ag hdi.akx;have HQN:=Ag hdi.ql;have hsl:=hru.limbs (F:=fun b=>w.heap.size≤b) (n:=n) (c:=la+1) (by show w.heap.size≤w.heap.size; omega) (by rw[hdi.ul]; omega) byOmega;have HSL:=Ag hsl;clear hdi hq hr hu htl hsl;go_wp2_with fail
   refine(uf wr (fun b=>w.heap.size≤b) (some ⟨w.heap.size,0,none⟩) n (la+1) (U.take n) HTL.out HSL.out byOmega).mono ?_;rintro e w' ⟨rfl,rfl⟩;have HTR:=Ag (Aj.trim HTL.out HSL.out HUL.out);go_wp2_with fail
   refine(aap wr (fun b=>w.heap.size≤b) _ (aH (U.take n)) f HTR.out byOmega f1 byOmega).mono ?_;rintro e w5 ⟨_,rfl,hb5,vr,rfl,hvr⟩;have aio:=hrq.below hb5 hrq.lt;have HVR:=Ag hvr;have D7:=Ag aio;clear hvr aio;go_wp2_with fail
   refine(uf w5 (fun b=>w.heap.size≤b) (some ⟨w2.heap.size,0,none⟩) (la - n+1) (la - n+1) q HQN.out (jr D7.out (by show w.heap.size≤w2.heap.size; omega) HQN.out (Nat.le_refl _)) byOmega).mono ?_;rintro e w' ⟨rfl,rfl⟩;go_wp2
   go_ret2;refine⟨_,rfl,hbel.trans (hb5.mono hbel.size),_,_,rfl,?_,?_⟩
   ·exact zbk
   ·have h1:=HVR.out;rw[HR.out] at h1;exact h1.mono fun b hb _=>.inr byOmega
  ·obtain⟨j,rfl⟩:∃ j,k=j+1:=⟨k - 1,byOmega⟩;refine Z9 ?_;have HDI:=Ag hdi;have hjn:j+n≤la:=byOmega;have acg:=hdi.est HDV.out hjn;have HES:=Ag acg;have hPl:(U.take j).length=j:=by rw[List.length_take,hdi.ul];omega
   have HPL:=Ag hPl;have HRU:=Ag (show Row wr w.heap.size 103 (aT (U.take j++(U.drop j).take (n+1)++U.drop (j+(n+1)))) by rw[← aeZ]; exact hru);have HRQ:=Ag hrq;have HRV:=Ag hrv;have hql:=hdi.ql;obtain⟨z,hz⟩:=getSome (l:=q) (k:=j) byOmega;have HZ:=Ag hz;have HQ:=Ag hql;clear hdi acg hPl hru hrq hrv hql hz;go_wp2_with fail
   rw[show j+n+1 - j=n+1 by omega];refine(afg wr w.heap.size w1.heap.size _ _ _ vv j n (la+1 - j) n HPL.out HRU.out HRV.out byOmega HES.out byOmega byOmega byOmega byOmega).mono ?_;rintro e w4 ⟨rfl,⟨u',xQ,adN,hun',aip⟩,hgr⟩;have hq4:=HRQ.out.grown hgr byOmega;have hv4:=HRV.out.grown hgr byOmega;have hb4:=hbel.grown hgr hbel.size (fun k hk=>by injection hk; omega);have hs4:=hgr.size;have hqc:=hq4.cell (aY HZ.out);have hqf:=hq4.frozen j;have hdl:=HES.out.q_lt;have HST:=Ag (HDI.out.step HDV.out hjn xQ adN hun' rfl);have HQ4:=Ag hq4;have HV4:=Ag hv4;have HU4:=Ag aip;obtain⟨dd,hdd⟩:=named (aH ((U.drop j).take (n+1)) / aH vv);rw[← hdd] at hdl HST ⊢;have ajI:dd < 1000000000:=hdl;clear xQ adN hun' aip hgr hq4 hv4 hdd hdl;go_wp2
   go_roundw
   case rel =>
    exact YU
   case measure=>simp[intOf]
theorem acD (w:World) (F:Foot) (va vb:Value) (a b:Nat) (ha:Ah w F va a) (hb:Ah w F vb b) (hb0:2≤(dig b).length) (hla:(dig a).length≤100000) (hge:b≤a) :
  Calls Tryz.prog 171 #[va,vb] w (Ret w (CB F w.heap.size a b)):=by
 have HVA:=Ag ha;have HVB:=Ag hb;have hlb:(dig b).length≤(dig a).length:=aU hge;have hb00:b≠0:=bG.1 byOmega;have hord:decide (bZ a b < 0)=false:=by
  refine zbx ?_;split <;> (try split) <;> omega
 obtain⟨A,c,rfl,hc,_⟩:=ha;obtain⟨B,d,rfl,hd,hNb⟩:=hb;have hd1:(((dig b).length:Int)==1)=false:=beq_false_of_ne byOmega;obtain⟨n,hn⟩:=named ((dig b).length);obtain⟨la,xR⟩:∃ la,la=(dig a).length:=⟨_,rfl⟩;obtain⟨b1,o1,rfl,_,hb1',hx⟩:=hNb byOmega;obtain⟨t,ht'⟩:=getSome (l:=dig b) (k:=n - 1) byOmega;have et:=hx (n - 1) t ht';unfold dB at et;rw[Nat.mul_one] at et;have gt:(dig b).getD (n - 1) 0=t:=aN ht';have htl:t < 1000000000:=(aP b).get ht';have ht1:1≤t:=by have:=(pq hb00).1;rw[← hn,gt] at this;exact this
 obtain⟨f1,f2,_,_,_⟩:=iM ht1 htl;have hfI:(1000000000:Int) / ((t:Int)+1)=((LB / (t+1):Nat):Int):=by
  rw[show((t:Int)+1)=((t+1:Nat):Int) by omega,show(1000000000:Int)=((LB:Nat):Int) from rfl,lF]
 refine zaj ?_;intro f hf adK hfit HDB;have HF1:=Ag hfit;have HF2:=Ag adK;have HOR:=Ag hord;have HD1:=Ag hd1;have HFI:=Ag hfI;have HF:=Ag hf;rw[← hn] at hd1;rw[← hf] at hfI f1 f2;rw[← hn] at hb0 hlb hd HD1 ⊢;rw[← xR] at hla hlb hc ⊢;have HN:=Ag hn;have HLA:=Ag xR;rw[← hn] at HVB;rw[← xR] at HVA;refine zbo ?_;intro n1 hn1;have i1:(n:Int) - 1=(n1:Int):=byOmega;rw[show n - 1=n1 by omega] at et;have l1:n1 < n:=byOmega;clear hn xR gt hx ht' hf hfit adK hord hge hn1;go_in;go_wp2_with fail
 refine(jd w F _ _ a b HVA.out HVB.out (by rw[← HLA.out]; omega) (by rw[← HN.out]; omega)).mono ?_;rintro e w' ⟨rfl,z0,rfl⟩;have hord:=HOR.out;generalize bZ a b=od at *;go_wp2_with fail
 refine(yO _ F _ b f n (HVB.out.on (Same.drewN _ _ _)) (by rw[HN.out]; exact Nat.le_refl _) byOmega f1 byOmega HF1.out).mono ?_;rintro e w1 ⟨_,rfl,uY,rfl,vv,hvl,adM,hvn,hrv⟩;have hdb:=HDB.out vv hvl adM hvn;have HDV:=Ag hdb;clear hdb hvn;have hzz:w.heap.size≤w1.heap.size:=uY.size;have akD:w.heap.size < w1.heap.size:=hrv.lt;go_wp2_with fail
 refine(yO w1 F _ a f (la+1) ((HVA.out.on (Same.drewN _ _ z0)).below uY) (by rw[HLA.out]; omega) byOmega f1 byOmega (by rw[HLA.out]; exact HF2.out)).mono ?_;rintro e w2 ⟨_,rfl,hbw2,rfl,U0,hul,adL,hun,hru⟩;have aik:=hrv.below hbw2 hrv.lt;have aij:=hru;have HRV:=Ag aik;have HRU:=Ag aij;refine zcb ?_;intro HSU hB2;have HVL:=Ag hvl;have hult:w1.heap.size < w2.heap.size:=hru.lt;clear hrv aik hru aij hul adL hun hvl adM uY hbw2;have i3:(la:Int) - (n:Int)+1=((la - n+1:Nat):Int):=byOmega;go_wp2_with (at_make; refine dQ _ rfl _ _ 39 rfl 103 (.int .u32 0) 4 Tryz.underlying39 Tryz.infoU32 rfl (la - n+1) rfl rfl byOmega byOmega ?_; intro w3 hb3 hz3 hrq)
 have HRQ:=Ag hrq;have hq3:w2.heap.size < w3.heap.size:=hrq.lt;have ail:=HRV.out.below hb3 HRV.out.lt;have ain:=HRU.out.below hb3 HRU.out.lt;have hB3:=hB2.trans (hb3.mono hB2.size);have D5:=Ag ail;have D6:=Ag ain;clear hrq hb3 ail ain;go_loopw [12] (fun i wr=>∃ (k:Nat) (U q:List Nat),i = .int .i64 ((k:Int) - 1)∧BK a f vv n la k U q∧k≤la - n+1∧Row wr w1.heap.size 103 (aT U)∧Row wr w2.heap.size 103 (aT q)∧Row wr w.heap.size 103 (aT vv)∧Below w.heap.size w wr∧w3.heap.size≤wr.heap.size) (fun i _=>(intOf i+1).toNat)
 case atStart=>exact⟨la - n+1,U0,_,by go_num,HSU.out,byOmega,D6.out,by rw[fD]; exact HRQ.out,D5.out,hB3,Nat.le_refl _⟩
 case round =>
  clear HSU D6 D5 HRQ hB3 HRV HRU hB2;obtain⟨k,U,q,rfl,hdi,hk,hru,hrq,hrv,hbel,hsz⟩:=hrel;rcases Nat.eq_zero_or_pos k with h0 | h0
  ·subst h0;obtain⟨hq,hr,hu⟩:=hdi.last HDV.out;have HQ:=Ag hq;have HR:=Ag hr;have htl:(U.take n).length=n:=by rw[List.length_take,hdi.ul];omega
   have HTL:=Ag htl;have hdl:(dig (aH (U.take n))).length≤n:=by
    refine aS ?_;have:=fH (hdi.adv.take n);rwa [htl] at this
   have HUL:=Ag (hdi.adv.take n);have HQL:=Ag hdi.akx;have HQN:=Ag hdi.ql;have hsl:=hru.limbs (F:=fun b=>w.heap.size≤b) (n:=n) (c:=la+1) (by show w.heap.size≤w1.heap.size; omega) (by rw[hdi.ul]; omega) byOmega;have HSL:=Ag hsl;clear hdi hq hr hu htl hsl;go_wp2_with fail
   refine(oh wr (fun b=>w.heap.size≤b) (some ⟨w1.heap.size,0,none⟩) n (la+1) (U.take n) HTL.out HSL.out byOmega).mono ?_;rintro e w' ⟨rfl,rfl⟩;have HTR:=Ag (Aj.trim HTL.out HSL.out HUL.out);go_wp2_with fail
   refine(aao wr (fun b=>w.heap.size≤b) _ (aH (U.take n)) f HTR.out byOmega f1 byOmega).mono ?_;rintro e w5 ⟨_,rfl,hb5,vr,rfl,hvr⟩;have aio:=hrq.below hb5 hrq.lt;have HVR:=Ag hvr;have D7:=Ag aio;clear hvr aio;go_wp2_with fail
   refine(oh w5 (fun b=>w.heap.size≤b) (some ⟨w2.heap.size,0,none⟩) (la - n+1) (la - n+1) q HQN.out (jr D7.out (by show w.heap.size≤w2.heap.size; omega) HQN.out (Nat.le_refl _)) byOmega).mono ?_;rintro e w' ⟨rfl,rfl⟩;go_wp2
   go_ret2;refine⟨_,rfl,hbel.trans (hb5.mono hbel.size),_,_,rfl,?_,?_⟩
   ·exact zbk
   ·have h1:=HVR.out;rw[HR.out] at h1;exact h1.mono fun b hb _=>.inr byOmega
  ·obtain⟨j,rfl⟩:∃ j,k=j+1:=⟨k - 1,byOmega⟩;refine Z9 ?_;have HDI:=Ag hdi;have hjn:j+n≤la:=byOmega;have acg:=hdi.est HDV.out hjn;have HES:=Ag acg;have hPl:(U.take j).length=j:=by rw[List.length_take,hdi.ul];omega
   have HPL:=Ag hPl;have HRU:=Ag (show Row wr w1.heap.size 103 (aT (U.take j++(U.drop j).take (n+1)++U.drop (j+(n+1)))) by rw[← aeZ]; exact hru);have HRQ:=Ag hrq;have HRV:=Ag hrv;have hql:=hdi.ql;obtain⟨z,hz⟩:=getSome (l:=q) (k:=j) byOmega;have HZ:=Ag hz;have HQ:=Ag hql;clear hdi acg hPl hru hrq hrv hql hz;go_wp2_with fail
   rw[show j+n+1 - j=n+1 by omega];refine(agV wr w1.heap.size w.heap.size _ _ _ vv j n (la+1 - j) n HPL.out HRU.out HRV.out byOmega HES.out byOmega byOmega byOmega byOmega).mono ?_;rintro e w4 ⟨rfl,⟨u',xQ,adN,hun',aip⟩,hgr⟩;have hq4:=HRQ.out.grown hgr byOmega;have hv4:=HRV.out.grown hgr byOmega;have hb4:=hbel.grown hgr hbel.size (fun k hk=>by injection hk; omega);have hs4:=hgr.size;have hqc:=hq4.cell (aY HZ.out);have hqf:=hq4.frozen j;have hdl:=HES.out.q_lt;have HST:=Ag (HDI.out.step HDV.out hjn xQ adN hun' rfl);have HQ4:=Ag hq4;have HV4:=Ag hv4;have HU4:=Ag aip;obtain⟨dd,hdd⟩:=named (aH ((U.drop j).take (n+1)) / aH vv);rw[← hdd] at hdl HST ⊢;have ajI:dd < 1000000000:=hdl;clear xQ adN hun' aip hgr hq4 hv4 hdd hdl;go_wp2
   go_roundw
   case rel =>
    exact YU
   case measure=>simp[intOf]
theorem yQ (w:World) (F:Foot) (va vb:Value) (a b:Nat) (ha:Ah w F va a) (hb:Ah w F vb b) (hb0:b≠0) (hla:(dig a).length≤100000) (hlb:(dig b).length≤100000) :
  Calls Tryz.prog 171 #[va,vb] w (Ret w (CB F w.heap.size a b)):=by
 by_cases hlt:a < b
 ·have hord:decide (bZ a b < 0)=true:=by rw[iy hlt];rfl
  have HOR:=Ag hord;have HVA:=Ag ha;have HVB:=Ag hb;have HLT:=Ag hlt;clear ha hb hord hlt hb0;go_in;go_wp2_with fail
  refine(jd w F _ _ a b HVA.out HVB.out byOmega byOmega).mono ?_;rintro e w' ⟨rfl,z0,rfl⟩;have hord:=HOR.out;generalize bZ a b=od at *;go_wp2
  go_ret2;refine⟨_,rfl,aI (Below.refl _ w) z0,_,_,rfl,?_,?_⟩
  ·exact zcq
  ·rw[Nat.mod_eq_of_lt HLT.out];exact HVA.out.ext (aI (Below.refl _ w) z0)
 by_cases h1:(dig b).length=1
 ·have hord:decide (bZ a b < 0)=false:=by
   refine zbx ?_;split <;> (try split) <;> omega
  have HOR:=Ag hord;have HVA:=Ag ha;have HVB:=Ag hb;obtain⟨B,d,rfl,hd,hNb⟩:=hb;obtain⟨b1,o1,rfl,_,hb1',hx⟩:=hNb byOmega;obtain⟨x,hx'⟩:=getSome (l:=dig b) (k:=0) byOmega;have ex:=hx 0 x hx';unfold dB at ex;simp only[Nat.zero_mul,Nat.add_zero] at ex;have hbx:b=x:=by
   exact zbL
  have hxl:x < 1000000000:=(aP b).get hx';have hl1:(((dig b).length:Int)==1)=true:=by rw[h1];rfl
  have hx1:1≤x:=byOmega;have hpos:0 < (dig b).length:=byOmega;have HBX:=Ag hbx;clear ha hord hlt hb0 hx hx' h1 hbx hNb;go_in;go_wp2_with fail
  refine(jd w F _ _ a b HVA.out HVB.out byOmega byOmega).mono ?_;rintro e w' ⟨rfl,z0,rfl⟩;have hord:=HOR.out;generalize bZ a b=od at *;go_wp2_with fail
  refine(aao _ F _ a x (HVA.out.on (Same.drewN _ _ _)) byOmega hx1 byOmega).mono ?_;rintro e w1 ⟨_,rfl,uY,vq,rfl,hvq⟩;have hml:a % x < x:=Nat.mod_lt _ byOmega;have HVQ:=Ag hvq;clear hvq;obtain⟨m,hm⟩:=named (a % x);rw[← hm] at hml ⊢;have HM:=Ag hm;clear hm;go_wp2_with fail
  refine(qQ w1 m byOmega).mono ?_;rintro e w2 ⟨vr,rfl,hbw2,hvr⟩;have HVR:=Ag hvr;clear hvr;go_wp2
  go_ret2;have hz:w.heap.size≤w1.heap.size:=uY.size;refine⟨_,rfl,(aI (Below.refl _ w) z0).trans (uY.trans (hbw2.mono hz)),_,_,rfl,?_,?_⟩
  ·rw[HBX.out];exact(HVQ.out.below hbw2).mono fun b hb _=>.inr hb
  ·rw[HBX.out,← HM.out];exact HVR.out.mono fun b hb _=>.inr byOmega
 ·exact acD w F va vb a b ha hb (by have:=bG.2 hb0; omega) hla byOmega
theorem adO (w:World) (F:Foot) (va vb:Value) (a b:Nat) (ha:Ah w F va a) (hb:Ah w F vb b) (hb0:b≠0) (hla:(dig a).length≤100000) (hlb:(dig b).length≤100000) :
  Calls Tryz.prog 185 #[va,vb] w (Ret w (CB F w.heap.size a b)):=by
 by_cases hlt:a < b
 ·have hord:decide (bZ a b < 0)=true:=by rw[iy hlt];rfl
  have HOR:=Ag hord;have HVA:=Ag ha;have HVB:=Ag hb;have HLT:=Ag hlt;clear ha hb hord hlt hb0;go_in;go_wp2_with fail
  refine(wF w F _ _ a b HVA.out HVB.out byOmega byOmega).mono ?_;rintro e w' ⟨rfl,z0,rfl⟩;have hord:=HOR.out;generalize bZ a b=od at *;go_wp2_with fail
  refine(abJ _ F _ a (HVA.out.on (Same.drewN _ _ _)) byOmega).mono ?_;rintro e w1 ⟨v,rfl,hb1,hv1⟩;have HV1:=Ag hv1;clear hv1;go_wp2
  go_ret2;refine⟨_,rfl,(aI (Below.refl _ w) z0).trans hb1,_,_,rfl,?_,?_⟩
  ·exact zcq
  ·rw[Nat.mod_eq_of_lt HLT.out];exact HV1.out.mono fun b hb _=>.inr hb
 by_cases h1:(dig b).length=1
 ·have hord:decide (bZ a b < 0)=false:=by
   refine zbx ?_;split <;> (try split) <;> omega
  have HOR:=Ag hord;have HVA:=Ag ha;have HVB:=Ag hb;obtain⟨B,d,rfl,hd,hNb⟩:=hb;obtain⟨b1,o1,rfl,_,hb1',hx⟩:=hNb byOmega;obtain⟨x,hx'⟩:=getSome (l:=dig b) (k:=0) byOmega;have ex:=hx 0 x hx';unfold dB at ex;simp only[Nat.zero_mul,Nat.add_zero] at ex;have hbx:b=x:=by
   exact zbL
  have hxl:x < 1000000000:=(aP b).get hx';have hl1:(((dig b).length:Int)==1)=true:=by rw[h1];rfl
  have hx1:1≤x:=byOmega;have hpos:0 < (dig b).length:=byOmega;have HBX:=Ag hbx;clear ha hord hlt hb0 hx hx' h1 hbx hNb;go_in;go_wp2_with fail
  refine(wF w F _ _ a b HVA.out HVB.out byOmega byOmega).mono ?_;rintro e w' ⟨rfl,z0,rfl⟩;have hord:=HOR.out;generalize bZ a b=od at *;go_wp2_with fail
  refine(aap _ F _ a x (HVA.out.on (Same.drewN _ _ _)) byOmega hx1 byOmega).mono ?_;rintro e w1 ⟨_,rfl,uY,vq,rfl,hvq⟩;have hml:a % x < x:=Nat.mod_lt _ byOmega;have HVQ:=Ag hvq;clear hvq;obtain⟨m,hm⟩:=named (a % x);rw[← hm] at hml ⊢;have HM:=Ag hm;clear hm;go_wp2_with fail
  refine(acy w1 m byOmega).mono ?_;rintro e w2 ⟨vr,rfl,hbw2,hvr⟩;have HVR:=Ag hvr;clear hvr;go_wp2
  go_ret2;have hz:w.heap.size≤w1.heap.size:=uY.size;refine⟨_,rfl,(aI (Below.refl _ w) z0).trans (uY.trans (hbw2.mono hz)),_,_,rfl,?_,?_⟩
  ·rw[HBX.out];exact(HVQ.out.below hbw2).mono fun b hb _=>.inr hb
  ·rw[HBX.out,← HM.out];exact HVR.out.mono fun b hb _=>.inr byOmega
 ·exact ag2 w F va vb a b ha hb (by have:=bG.2 hb0; omega) hla byOmega
theorem uh {s:Int} {x:Nat} (h1:-1000000000≤s) (h2:s≤1000000000) (hx:x < 1000000000):-1000000000000000000≤s*(x:Int)∧s*(x:Int)≤1000000000000000000:=by
 constructor
 ·have:(-1000000000)*(x:Int)≤s*(x:Int):=Int.mul_le_mul_of_nonneg_right h1 byOmega;omega
 ·have:s*(x:Int)≤1000000000*(x:Int):=Int.mul_le_mul_of_nonneg_right h2 byOmega;omega
theorem tdm (v:Int):v=1000000000*v.tdiv 1000000000+v.tmod 1000000000∧-1000000000 < v.tmod 1000000000∧v.tmod 1000000000 < 1000000000:=by
 refine⟨(Int.mul_tdiv_add_tmod v 1000000000).symm,?_,?_⟩
 ·have:=Int.lt_tmod_of_pos v (b:=1000000000) ay;omega
 ·exact Int.tmod_lt_of_pos v ay
theorem iP (w:World) (F:Foot) (va vb:Value) (a b:Nat) (s t:Int) (R:Nat) (ha:Ah w F va a) (hb:Ah w F vb b) (hla:(dig a).length≤100000) (hlb:(dig b).length≤(dig a).length)
  (hs1:-1000000000≤s) (hs2:s≤1000000000) (ht1:-1000000000≤t) (ht2:t≤1000000000) (hR:s*a+t*b=(R:Int)) (hRa:R≤a) :
  Calls Tryz.prog 196 #[va,vb,.int .i64 s,.int .i64 t] w (Ret w fun v w'=>Ah w' (fun b=>w.heap.size≤b) v R):=by
 obtain⟨A,c,rfl,hc,hNa⟩:=ha;obtain⟨B,d,rfl,hd,hNb⟩:=hb;have HA:=Ag hNa;have HB:=Ag hNb;clear hNa hNb;have HR:=Ag hR;have HRA:=Ag hRa;clear hR hRa;go_in;go_wp2_with (at_make; refine dQ _ rfl _ _ 39 rfl 103 (.int .u32 0) 4 Tryz.underlying39 Tryz.infoU32 rfl (dig a).length rfl rfl byOmega byOmega ?_; intro w1 hb1 hz1 hrow1)
 have HR1:=Ag hrow1; clear hrow1;go_loopw [10,18] (fun cv i wr=>∃ (k:Nat) (l:List Nat) (cr:Int),k≤(dig a).length∧i = .int .i64 (k:Int)∧cv = .int .i64 cr∧-3000000000≤cr∧cr≤3000000000∧l.length=(dig a).length∧Limbs l∧(aH (l.take k):Int)+(LB ^ k:Nat)*cr=s*aH ((dig a).take k)+t*aH ((dig b).take k) ∧
  Row wr w.heap.size 103 (aT l)∧Below w.heap.size w wr) (fun _ i _=>(dig a).length - (intOf i).toNat)
 case atStart=>exact⟨0,List.replicate (dig a).length 0,0,byOmega,rfl,rfl,byOmega,byOmega,aB,Limbs.zeros _,by simp[aH],by rw[fD]; exact HR1.out,hb1⟩
 case round =>
  obtain⟨k,l,cr,hk,rfl,rfl,hc1,hc2,hlen,hlim,hinv,hrow,hbel⟩:=hrel;refine Y0 ?_;intro HL HI HO HM hold;by_cases hlt:k < (dig a).length
  ·obtain⟨b1,o1,rfl,_,hb1',hx⟩:=HA.out byOmega;refine zbj ?_;intro x hx' ex;unfold dB at ex;refine Yi ?_;clear ex;intro ex hxl HX;refine zab ?_;intro z hz rc fc;clear hx hx' hz hlen hinv hrow hlim;obtain⟨p1,p2⟩:=uh hs1 hs2 hxl;obtain⟨p,hp⟩:∃ p,s*(x:Int)=p:=⟨_,rfl⟩;rw[hp] at p1 p2;have HP:=Ag hp;by_cases hlt2:k < (dig b).length
   ·obtain⟨b2,o2,rfl,_,hb2',hy⟩:=HB.out byOmega;obtain⟨y,hy'⟩:=getSome hlt2;have ey:=hy k y hy';unfold dB at ey;refine zae ?_;clear ey;intro ey hyl HY;clear hy hy';obtain⟨q1,q2⟩:=uh ht1 ht2 hyl;obtain⟨q,hq⟩:∃ q,t*(y:Int)=q:=⟨_,rfl⟩;rw[hq] at q1 q2;have HQ:=Ag hq;obtain⟨t1,t2,t3⟩:=tdm (p+cr+q);obtain⟨qd,hqd⟩:∃ qd,(p+cr+q).tdiv 1000000000=qd:=⟨_,rfl⟩;obtain⟨rm,hrm⟩:∃ rm,(p+cr+q).tmod 1000000000=rm:=⟨_,rfl⟩;rw[hqd,hrm] at t1;rw[hrm] at t2 t3;refine zbN ?_;intro T1 akG akH;clear t1;by_cases hneg:rm < 0
    ·refine Y1 ?_;intro e HE;go_wp2
     go_roundw
     case rel =>
      have he:=HE.out;have h1:=T1.out;refine⟨k+1,l.set k e,qd - 1,byOmega,by go_num,rfl,byOmega,byOmega,by rw[List.length_set,HL.out],HM.out.set (by show _ < 1000000000; omega),mP (by rw[HL.out]; exact hlt) HI.out ?_,?_,hbel.setCell (Nat.le_refl _) _⟩
      ·exact zaz
      ·exact Yc
     case measure=>simp[intOf]; omega
    ·refine YJ ?_;intro e hdd HE;go_wp2
     go_roundw
     case rel =>
      have he:=HE.out;have h1:=T1.out;refine⟨k+1,l.set k e,qd,byOmega,by go_num,rfl,byOmega,byOmega,by rw[List.length_set,HL.out],HM.out.set (by show _ < 1000000000; omega),mP (by rw[HL.out]; exact hlt) HI.out ?_,?_,hbel.setCell (Nat.le_refl _) _⟩
      ·exact zaz
      ·exact Yc
     case measure=>simp[intOf]; omega
   ·refine YH ?_;intro hdd HY;obtain⟨t1,t2,t3⟩:=tdm (p+cr);obtain⟨qd,hqd⟩:∃ qd,(p+cr).tdiv 1000000000=qd:=⟨_,rfl⟩;obtain⟨rm,hrm⟩:∃ rm,(p+cr).tmod 1000000000=rm:=⟨_,rfl⟩;rw[hqd,hrm] at t1;rw[hrm] at t2 t3;refine zbN ?_;intro T1 akG akH;clear t1;by_cases hneg:rm < 0
    ·refine Y1 ?_;intro e HE;go_wp2
     go_roundw
     case rel =>
      have he:=HE.out;have h1:=T1.out;refine⟨k+1,l.set k e,qd - 1,byOmega,by go_num,rfl,byOmega,byOmega,by rw[List.length_set,HL.out],HM.out.set (by show _ < 1000000000; omega),mP (by rw[HL.out]; exact hlt) HI.out ?_,?_,hbel.setCell (Nat.le_refl _) _⟩
      ·exact zaY
      ·exact Yc
     case measure=>simp[intOf]; omega
    ·refine YJ ?_;intro e hdd HE;go_wp2
     go_roundw
     case rel =>
      have he:=HE.out;have h1:=T1.out;refine⟨k+1,l.set k e,qd,byOmega,by go_num,rfl,byOmega,byOmega,by rw[List.length_set,HL.out],HM.out.set (by show _ < 1000000000; omega),mP (by rw[HL.out]; exact hlt) HI.out ?_,?_,hbel.setCell (Nat.le_refl _) _⟩
      ·exact zaY
      ·exact Yc
     case measure=>simp[intOf]; omega
  ·have hke:k=(dig a).length:=byOmega;have hF:aH l=R:=by
    exact Y6
   have HF:=Ag hF;clear hF hke hinv hlim hlen;go_wp2_with fail
   refine(oh wr (fun b=>w.heap.size≤b) (some ⟨w.heap.size,0,none⟩) (dig a).length (dig a).length l HL.out (jr hrow (Nat.le_refl _) HL.out (Nat.le_refl _)) byOmega).mono ?_;exact zar
theorem adP (w:World) (F:Foot) (va vb:Value) (a b:Nat) (s t:Int) (R:Nat) (ha:Ah w F va a) (hb:Ah w F vb b) (hla:(dig a).length≤100000) (hlb:(dig b).length≤(dig a).length)
  (hs1:-1000000000≤s) (hs2:s≤1000000000) (ht1:-1000000000≤t) (ht2:t≤1000000000) (hR:s*a+t*b=(R:Int)) (hRa:R≤a) :
  Calls Tryz.prog 186 #[va,vb,.int .i64 s,.int .i64 t] w (Ret w fun v w'=>Ah w' (fun b=>w.heap.size≤b) v R):=by
 obtain⟨A,c,rfl,hc,hNa⟩:=ha;obtain⟨B,d,rfl,hd,hNb⟩:=hb;have HA:=Ag hNa;have HB:=Ag hNb;clear hNa hNb;have HR:=Ag hR;have HRA:=Ag hRa;clear hR hRa;go_in;go_wp2_with (at_make; refine dQ _ rfl _ _ 40 rfl 103 (.int .u32 0) 4 Tryz.underlying40 Tryz.infoU32 rfl (dig a).length rfl rfl byOmega byOmega ?_; intro w1 hb1 hz1 hrow1)
 have HR1:=Ag hrow1; clear hrow1;go_loopw [10,18] (fun cv i wr=>∃ (k:Nat) (l:List Nat) (cr:Int),k≤(dig a).length∧i = .int .i64 (k:Int)∧cv = .int .i64 cr∧-3000000000≤cr∧cr≤3000000000∧l.length=(dig a).length∧Limbs l∧(aH (l.take k):Int)+(LB ^ k:Nat)*cr=s*aH ((dig a).take k)+t*aH ((dig b).take k) ∧
  Row wr w.heap.size 103 (aT l)∧Below w.heap.size w wr) (fun _ i _=>(dig a).length - (intOf i).toNat)
 case atStart=>exact⟨0,List.replicate (dig a).length 0,0,byOmega,rfl,rfl,byOmega,byOmega,aB,Limbs.zeros _,by simp[aH],by rw[fD]; exact HR1.out,hb1⟩
 case round =>
  obtain⟨k,l,cr,hk,rfl,rfl,hc1,hc2,hlen,hlim,hinv,hrow,hbel⟩:=hrel;refine Y0 ?_;intro HL HI HO HM hold;by_cases hlt:k < (dig a).length
  ·obtain⟨b1,o1,rfl,_,hb1',hx⟩:=HA.out byOmega;refine zbj ?_;intro x hx' ex;unfold dB at ex;refine Yi ?_;clear ex;intro ex hxl HX;refine zab ?_;intro z hz rc fc;clear hx hx' hz hlen hinv hrow hlim;obtain⟨p1,p2⟩:=uh hs1 hs2 hxl;obtain⟨p,hp⟩:∃ p,s*(x:Int)=p:=⟨_,rfl⟩;rw[hp] at p1 p2;have HP:=Ag hp;by_cases hlt2:k < (dig b).length
   ·obtain⟨b2,o2,rfl,_,hb2',hy⟩:=HB.out byOmega;obtain⟨y,hy'⟩:=getSome hlt2;have ey:=hy k y hy';unfold dB at ey;refine zae ?_;clear ey;intro ey hyl HY;clear hy hy';obtain⟨q1,q2⟩:=uh ht1 ht2 hyl;obtain⟨q,hq⟩:∃ q,t*(y:Int)=q:=⟨_,rfl⟩;rw[hq] at q1 q2;have HQ:=Ag hq;obtain⟨t1,t2,t3⟩:=tdm (p+cr+q);obtain⟨qd,hqd⟩:∃ qd,(p+cr+q).tdiv 1000000000=qd:=⟨_,rfl⟩;obtain⟨rm,hrm⟩:∃ rm,(p+cr+q).tmod 1000000000=rm:=⟨_,rfl⟩;rw[hqd,hrm] at t1;rw[hrm] at t2 t3;refine zbN ?_;intro T1 akG akH;clear t1;have hrm2:p+cr+q - qd*1000000000=rm:=by have:=T1.out;omega
    by_cases hneg:rm < 0
    ·refine Y1 ?_;intro e HE;go_wp2
     go_roundw
     case rel =>
      have he:=HE.out;have h1:=T1.out;refine⟨k+1,l.set k e,qd - 1,byOmega,by go_num,rfl,byOmega,byOmega,by rw[List.length_set,HL.out],HM.out.set (by show _ < 1000000000; omega),mP (by rw[HL.out]; exact hlt) HI.out ?_,?_,hbel.setCell (Nat.le_refl _) _⟩
      ·exact zaz
      ·exact Yc
     case measure=>simp[intOf]; omega
    ·refine YJ ?_;intro e hdd HE;go_wp2
     go_roundw
     case rel =>
      have he:=HE.out;have h1:=T1.out;refine⟨k+1,l.set k e,qd,byOmega,by go_num,rfl,byOmega,byOmega,by rw[List.length_set,HL.out],HM.out.set (by show _ < 1000000000; omega),mP (by rw[HL.out]; exact hlt) HI.out ?_,?_,hbel.setCell (Nat.le_refl _) _⟩
      ·exact zaz
      ·exact Yc
     case measure=>simp[intOf]; omega
   ·refine YH ?_;intro hdd HY;obtain⟨t1,t2,t3⟩:=tdm (p+cr);obtain⟨qd,hqd⟩:∃ qd,(p+cr).tdiv 1000000000=qd:=⟨_,rfl⟩;obtain⟨rm,hrm⟩:∃ rm,(p+cr).tmod 1000000000=rm:=⟨_,rfl⟩;rw[hqd,hrm] at t1;rw[hrm] at t2 t3;refine zbN ?_;intro T1 akG akH;clear t1;have hrm2:p+cr - qd*1000000000=rm:=by have:=T1.out;omega
    by_cases hneg:rm < 0
    ·refine Y1 ?_;intro e HE;go_wp2
     go_roundw
     case rel =>
      have he:=HE.out;have h1:=T1.out;refine⟨k+1,l.set k e,qd - 1,byOmega,by go_num,rfl,byOmega,byOmega,by rw[List.length_set,HL.out],HM.out.set (by show _ < 1000000000; omega),mP (by rw[HL.out]; exact hlt) HI.out ?_,?_,hbel.setCell (Nat.le_refl _) _⟩
      ·exact zaY
      ·exact Yc
     case measure=>simp[intOf]; omega
    ·refine YJ ?_;intro e hdd HE;go_wp2
     go_roundw
     case rel =>
      have he:=HE.out;have h1:=T1.out;refine⟨k+1,l.set k e,qd,byOmega,by go_num,rfl,byOmega,byOmega,by rw[List.length_set,HL.out],HM.out.set (by show _ < 1000000000; omega),mP (by rw[HL.out]; exact hlt) HI.out ?_,?_,hbel.setCell (Nat.le_refl _) _⟩
      ·exact zaY
      ·exact Yc
     case measure=>simp[intOf]; omega
  ·have hke:k=(dig a).length:=byOmega;have hF:aH l=R:=by
    exact Y6
   have HF:=Ag hF;clear hF hke hinv hlim hlen;go_wp2_with fail
   refine(uf wr (fun b=>w.heap.size≤b) (some ⟨w.heap.size,0,none⟩) (dig a).length (dig a).length l HL.out (jr hrow (Nat.le_refl _) HL.out (Nat.le_refl _)) byOmega).mono ?_;exact zar
theorem aiq {l:List Nat} {n:Nat} (hl:l.length≤n) (hn:2≤n) (hL:Limbs l):aH (l.drop (n - 2))=aH l / LB ^ (n - 2):=by
 rw[← front_eq hl hn hL,bM,show n - 2+1=n - 1 by omega,bM,show n - 1+1=n by omega,List.drop_eq_nil_of_le hl];simp[aH];rw[Nat.mul_comm,Nat.add_comm]
theorem aav (w:World) (F:Foot) (v:Value) (x n:Nat) (hv:Ah w F v x) (hl:(dig x).length≤n) (hn:2≤n) (hn2:n≤100000) :
  Calls Tryz.prog 195 #[v,.int .i64 (n:Int)] w fun e w'=>e = .returned (.int .i64 ((x / LB ^ (n - 2):Nat):Int))∧w=w':=by
 obtain⟨A,c,rfl,hc,hN⟩:=hv;have HN:=Ag hN;clear hN;obtain⟨R,hR⟩:=named (x / LB ^ (n - 2));rw[← hR];have HR:=Ag hR;clear hR;go_in;go_wp2
 go_loop [5,6] (fun m i=>∃ k:Nat,n - 2≤k∧k≤n∧i = .int .i64 ((k:Int) - 1)∧m = .int .i64 (aH ((dig x).drop k):Int)) (fun _ i=>(intOf i+1).toNat)
 case atStart=>exact⟨n,byOmega,Nat.le_refl _,rfl,by rw[List.drop_eq_nil_of_le hl]; rfl⟩
 case round =>
  obtain⟨k,hk1,hk2,rfl,rfl⟩:=hrel;by_cases h0:n - 2 < k
  ·obtain⟨j,rfl⟩:∃ j,k=j+1:=⟨k - 1,byOmega⟩;refine Z9 ?_;have hm:aH ((dig x).drop (j+1)) < 1000000000:=by
    have h1:=fH ((aP x).drop (j+1));have h2:LB ^ ((dig x).drop (j+1)).length≤LB ^ 1:=Nat.pow_le_pow_right ay (by rw[List.length_drop]; omega);have h3:LB ^ 1=1000000000:=ay;omega
   have hdd:decide ((n:Int) - 2≤(j:Int))=true:=decide_eq_true byOmega;have hjI:(n:Int) - 2≤(j:Int):=byOmega;by_cases hlt:j < (dig x).length
   ·obtain⟨b,o,rfl,_,hb,hx⟩:=HN.out byOmega;obtain⟨y,hx'⟩:=getSome hlt;have ex:=hx j y hx';unfold dB at ex;rw[Nat.mul_one] at ex;have hyl:y < 1000000000:=(aP x).get hx';have HS:=Ag (show aH ((dig x).drop j)=y+LB*aH ((dig x).drop (j+1)) by rw[bM,aN hx']);clear hx hx';generalize aH ((dig x).drop (j+1))=m at *;go_wp2
    go_round
    case rel=>exact⟨j,byOmega,byOmega,by go_num,by rw[HS.out]; simp; omega⟩
    case measure=>simp[intOf]
   ·have hdl:decide (j < (dig x).length)=false:=decide_eq_false hlt;have HS:=Ag (show aH ((dig x).drop j)=0+LB*aH ((dig x).drop (j+1)) by rw[bM,eF byOmega]);generalize aH ((dig x).drop (j+1))=m at *;go_wp2
    go_round
    case rel=>exact⟨j,byOmega,byOmega,by go_num,by rw[HS.out]; simp; omega⟩
    case measure=>simp[intOf]
  ·obtain rfl:k=n - 2:=byOmega;have hdd:decide ((n:Int) - 2≤((n - 2:Nat):Int) - 1)=false:=decide_eq_false byOmega;have HE:=Ag (aiq hl hn (aP x));rw[aW] at HE;generalize aH ((dig x).drop (n - 2))=m at *;have e2:((n - 2:Nat):Int) - 1=(n:Int) - 3:=byOmega;have hdd2:decide ((n:Int) - 2≤(n:Int) - 3)=false:=decide_eq_false byOmega;rw[e2];clear e2 hdd;go_wp2
   go_ret;exact⟨by rw[HR.out,← HE.out]; rfl,rfl⟩
def abb (x y z u:Int):Int:=if u > (if z > (if y > x then y else x) then z else (if y > x then y else x)) then u else (if z > (if y > x then y else x) then z else (if y > x then y else x))
theorem adQ (ts:Array TypeId) (t:TypeId) (x y z u:Int) (w:World):(Builtin.max_ ts t #[.int .i64 x,.int .i64 y,.int .i64 z,.int .i64 u]).run Tryz.prog w = .ok (.int .i64 (abb x y z u)) w:=by
 simp[Builtin.max_,Builtin.max2,abb]
theorem agm {x z:Int}:1000000000≤abb x (-x) z (-z)↔(x≤-1000000000∨1000000000≤x∨z≤-1000000000∨1000000000≤z):=by
 unfold abb;split <;> split <;> split <;> omega
def Ee (a b:Nat) (m:Nat) (v:Value) (w':World):Prop :=
 v = .tuple #[.slice none 0 0,.slice none 0 0,.bool false] ∨
 ∃ vx vy x y,v = .tuple #[vx,vy,.bool true]∧Ah w' (fun b=>m≤b) vx x∧Ah w' (fun b=>m≤b) vy y∧y≤x∧x≤a∧y < b∧Nat.gcd x y=Nat.gcd a b
theorem ag3 (w:World) (F:Foot) (va vb:Value) (a b:Nat) (ha:Ah w F va a) (hb:Ah w F vb b) (hba:b≤a) (hl3:3≤(dig a).length) (hla:(dig a).length≤100000) :
  Calls Tryz.prog 170 #[va,vb] w (Ret w (Ee a b w.heap.size)):=by
 have HVA:=Ag ha;have HVB:=Ag hb;have hlb:(dig b).length≤(dig a).length:=aU hba;obtain⟨A,c,rfl,hc,_⟩:=ha;obtain⟨B,d,rfl,hd,_⟩:=hb;obtain⟨M,hM⟩:=named (LB ^ ((dig a).length - 2));have hMp:0 < M:=by rw[hM];exact Bj _
 have hp0:a / M < 1000000000000000000:=by
  rw[Nat.div_lt_iff_lt_mul hMp,hM];have h1:=jW a;have h2:LB ^ (dig a).length=LB ^ 2*LB ^ ((dig a).length - 2):=by rw[← Nat.pow_add];congr 1;omega
  have h3:LB ^ 2=1000000000000000000:=ay;rw[h3] at h2;omega
 have hqp:b / M≤a / M:=Nat.div_le_div_right hba;have HST:=Ag (show Leh (a:Int) (b:Int) (M:Int) ((a / M:Nat):Int) ((b / M:Nat):Int) ((a % M:Nat):Int) ((b % M:Nat):Int) ((a / M:Nat):Int) ((b / M:Nat):Int) 1 0 0 1 from by
  have h1:=Nat.div_add_mod a M;have h2:=Nat.div_add_mod b M;have h3:=Nat.mod_lt a hMp;have h4:=Nat.mod_lt b hMp;refine Leh.start ?_ ?_ (Int.natCast_nonneg _) (Int.ofNat_lt.2 h3) (Int.natCast_nonneg _) (Int.ofNat_lt.2 h4) (Int.natCast_nonneg _) (Int.ofNat_le.2 hqp) byOmega byOmega
  ·rw[Int.mul_comm,← Int.natCast_mul];omega
  ·rw[Int.mul_comm,← Int.natCast_mul]; omega)
 have HM:=Ag hM;obtain⟨p0,ajJ⟩:∃ p0,p0=a / M:=⟨_,rfl⟩;obtain⟨q0,ajK⟩:∃ q0,q0=b / M:=⟨_,rfl⟩;have e1:a / LB ^ ((dig a).length - 2)=p0:=by rw[ajJ,hM]
 have e2:b / LB ^ ((dig a).length - 2)=q0:=by rw[ajK,hM]
 rw[← ajJ,← ajK] at HST;rw[← ajJ] at hp0 hqp;rw[← ajK] at hqp;have E1:=Ag e1;have E2:=Ag e2;generalize ((a % M:Nat):Int)=al at HST;generalize ((b % M:Nat):Int)=be at HST;clear e1 e2 ajJ ajK hM hba;go_in;go_wp2_with fail
 refine(aav w F _ a (dig a).length HVA.out (Nat.le_refl _) byOmega hla).mono ?_;rintro e w' ⟨rfl,rfl⟩;rw[E1.out];go_wp2_with fail
 refine(aav w F _ b (dig a).length HVB.out hlb byOmega hla).mono ?_;rintro e w' ⟨rfl,rfl⟩;rw[E2.out];go_wp2
 go_loopw [7,8,9,10,11,12] (fun pv qv av bv cv dv wr=>∃ p q A B C D:Int,pv = .int .i64 p∧qv = .int .i64 q∧av = .int .i64 A∧bv = .int .i64 B∧cv = .int .i64 C∧dv = .int .i64 D∧Leh (a:Int) (b:Int) (M:Int) (p0:Int) (q0:Int) al be p q A B C D ∧
  -1000000000 < A∧A < 1000000000∧-1000000000 < B∧B < 1000000000∧-1000000000 < C∧C < 1000000000∧-1000000000 < D∧D < 1000000000∧w=wr) (fun _ qv _ _ cv dv _=>(intOf cv*a+intOf dv*b).toNat)
 case atStart=>exact⟨_,_,_,_,_,_,rfl,rfl,rfl,rfl,rfl,rfl,HST.out,byOmega,byOmega,byOmega,byOmega,byOmega,byOmega,byOmega,byOmega,rfl⟩
 case round =>
  clear HST;obtain⟨p,q,A,B,C,D,rfl,rfl,rfl,rfl,rfl,rfl,jH,a1,a2,b1,b2,c1,c2,d1,d2,rfl⟩:=hrel;have HLE:=Ag jH;have pA:=jH.pA;have pB:=jH.pB;have qC:=jH.qC;have qD:=jH.qD;have pA1:=jH.pA1;have pB1:=jH.pB1;have qC1:=jH.qC1;have qD1:=jH.qD1;have pn:=jH.adx;have qn:=jH.zW;obtain⟨X,hX⟩:∃ X:Nat,A*a+B*b=(X:Int):=⟨(A*a+B*b).toNat,by have:=jH.y0; have:=jH.yx; omega⟩;obtain⟨Y,hY⟩:∃ Y:Nat,C*a+D*b=(Y:Int):=⟨(C*a+D*b).toNat,by have:=jH.y0; omega⟩;have HX:=Ag (And.intro hX (And.intro hY (show X≤a by have:=jH.xa; omega)));have HY:=Ag (show Y≤X∧(B=0∨Y < b)∧Nat.gcd X Y=Nat.gcd a b from⟨by have:=jH.yx; omega,by have:=jH.prog; omega,by have:=jH.gcd; rw[hX,hY] at this; simpa using this⟩);clear jH hX hY;by_cases hC:q+C=0
  ·have t1:(q+C != 0)=false:=by simp[hC]
   clear hC;by_cases hB0:B=0
   ·have tB:(B==0)=true:=by simp[hB0]
    clear hB0;go_wp2
    go_ret3;exact⟨_,rfl,Below.refl _ _,.inl rfl⟩
   ·have tB:(B==0)=false:=by simp[hB0]
    have HB0:=Ag hB0;clear hB0;go_wp2_with fail
    refine Yf ?_;rintro e w1 ⟨vx,rfl,hb1,hvx⟩;have HVX:=Ag hvx;clear hvx;go_wp2_with fail
    refine ZI ?_;rintro e w2 ⟨vy,rfl,hb2,hvy⟩;have HVY:=Ag hvy;clear hvy;have hz:=hb1.size;go_wp2
    go_ret3;exact⟨_,rfl,hb1.trans (hb2.mono hz),.inr ⟨_,_,X,Y,rfl,HVX.out.below hb2,HVY.out.mono (fun b hb _=>by omega),HY.out.1,HX.out.2.2,HY.out.2.1.resolve_left HB0.out,HY.out.2.2⟩⟩
  ·have t1:(q+C != 0)=true:=by simp[hC]
   have hC':0 < q+C:=byOmega;by_cases hD:q+D=0
   ·have t2:(q+D != 0)=false:=by simp[hD]
    have HC:=Ag hC;clear hC hD;by_cases hB0:B=0
    ·have tB:(B==0)=true:=by simp[hB0]
     clear hB0;go_wp2
     go_ret3;exact⟨_,rfl,Below.refl _ _,.inl rfl⟩
    ·have tB:(B==0)=false:=by simp[hB0]
     have HB0:=Ag hB0;clear hB0;go_wp2_with fail
     refine Yf ?_;rintro e w1 ⟨vx,rfl,hb1,hvx⟩;have HVX:=Ag hvx;clear hvx;go_wp2_with fail
     refine ZI ?_;rintro e w2 ⟨vy,rfl,hb2,hvy⟩;have HVY:=Ag hvy;clear hvy;have hz:=hb1.size;go_wp2
     go_ret3;exact⟨_,rfl,hb1.trans (hb2.mono hz),.inr ⟨_,_,X,Y,rfl,HVX.out.below hb2,HVY.out.mono (fun b hb _=>by omega),HY.out.1,HX.out.2.2,HY.out.2.1.resolve_left HB0.out,HY.out.2.2⟩⟩
   ·have t2:(q+D != 0)=true:=by simp[hD]
    have hD':0 < q+D:=byOmega;obtain⟨k,hk⟩:∃ k,(p+A) / (q+C)=k:=⟨_,rfl⟩;obtain⟨k2,hk2⟩:∃ k,(p+B) / (q+D)=k:=⟨_,rfl⟩;have kn:0≤k:=by rw[← hk];exact Int.ediv_nonneg pA qC
    have k2n:0≤k2:=by rw[← hk2];exact Int.ediv_nonneg pB qD
    have kle:k≤p+A:=by rw[← hk];exact Int.ediv_le_self _ pA
    have k2le:k2≤p+B:=by rw[← hk2];exact Int.ediv_le_self _ pB
    have HC:=Ag hC;have HD:=Ag hD;clear hC hD;by_cases hkk:k=k2
    ·subst hkk;have t3:(k != k)=false:=aB;obtain⟨_,kb,kq1,kq2,kc1,kc2,kd1,kd2⟩:=HLE.out.bounds HC.out HD.out hk.symm hk2.symm;by_cases hkb:1000000000≤k
     ·clear kq1 kq2 kc1 kc2 kd1 kd2;by_cases hB0:B=0
      ·have tB:(B==0)=true:=by simp[hB0]
       clear hB0;go_wp2
       go_ret3;exact⟨_,rfl,Below.refl _ _,.inl rfl⟩
      ·have tB:(B==0)=false:=by simp[hB0]
       have HB0:=Ag hB0;clear hB0;go_wp2_with fail
       refine Yf ?_;rintro e w1 ⟨vx,rfl,hb1,hvx⟩;have HVX:=Ag hvx;clear hvx;go_wp2_with fail
       refine ZI ?_;rintro e w2 ⟨vy,rfl,hb2,hvy⟩;have HVY:=Ag hvy;clear hvy;have hz:=hb1.size;go_wp2
       go_ret3;exact⟨_,rfl,hb1.trans (hb2.mono hz),.inr ⟨_,_,X,Y,rfl,HVX.out.below hb2,HVY.out.mono (fun b hb _=>by omega),HY.out.1,HX.out.2.2,HY.out.2.1.resolve_left HB0.out,HY.out.2.2⟩⟩
     ·have t4:decide ((1000000000:Int)≤k)=false:=decide_eq_false hkb;have HST:=Ag (HLE.out.step HC.out HD.out hk.symm hk2.symm);obtain⟨kc,hkc⟩:∃ kc,k*C=kc:=⟨_,rfl⟩;obtain⟨kd,hkd⟩:∃ kd,k*D=kd:=⟨_,rfl⟩;obtain⟨kq,hkq⟩:∃ kq,k*q=kq:=⟨_,rfl⟩;rw[hkc] at kc1 kc2 HST;rw[hkd] at kd1 kd2 HST;rw[hkq] at kq1 kq2 HST;have hm4:=adQ;by_cases hmx:1000000000≤abb (A - kc) (-(A - kc)) (B - kd) (-(B - kd))
      ·have t5:decide (1000000000≤abb (A - kc) (-(A - kc)) (B - kd) (-(B - kd)))=true:=decide_eq_true hmx;clear hmx;by_cases hB0:B=0
       ·have tB:(B==0)=true:=by simp[hB0]
        clear hB0;go_wp2
        go_ret3;exact⟨_,rfl,Below.refl _ _,.inl rfl⟩
       ·have tB:(B==0)=false:=by simp[hB0]
        have HB0:=Ag hB0;clear hB0;go_wp2_with fail
        refine Yf ?_;rintro e w1 ⟨vx,rfl,hb1,hvx⟩;have HVX:=Ag hvx;clear hvx;go_wp2_with fail
        refine ZI ?_;rintro e w2 ⟨vy,rfl,hb2,hvy⟩;have HVY:=Ag hvy;clear hvy;have hz:=hb1.size;go_wp2
        go_ret3;exact⟨_,rfl,hb1.trans (hb2.mono hz),.inr ⟨_,_,X,Y,rfl,HVX.out.below hb2,HVY.out.mono (fun b hb _=>by omega),HY.out.1,HX.out.2.2,HY.out.2.1.resolve_left HB0.out,HY.out.2.2⟩⟩
      ·refine zaL ?_;clear hmx;intro t5 n1 n2 n3 n4;go_wp2
       go_roundw
       case rel=>exact⟨q,p - kq,C,D,A - kc,B - kd,rfl,rfl,rfl,rfl,rfl,rfl,HST.out.1,byOmega,byOmega,byOmega,byOmega,byOmega,byOmega,byOmega,byOmega,by first | rfl | trivial⟩
       case measure =>
        have h1:=HST.out.2;have h2:=HST.out.1.y0;simp only[intOf];omega
    ·have t3:(k != k2)=true:=by simp[hkk]
     clear hkk;by_cases hB0:B=0
     ·have tB:(B==0)=true:=by simp[hB0]
      clear hB0;go_wp2
      go_ret3;exact⟨_,rfl,Below.refl _ _,.inl rfl⟩
     ·have tB:(B==0)=false:=by simp[hB0]
      have HB0:=Ag hB0;clear hB0;go_wp2_with fail
      refine Yf ?_;rintro e w1 ⟨vx,rfl,hb1,hvx⟩;have HVX:=Ag hvx;clear hvx;go_wp2_with fail
      refine ZI ?_;rintro e w2 ⟨vy,rfl,hb2,hvy⟩;have HVY:=Ag hvy;clear hvy;have hz:=hb1.size;go_wp2
      go_ret3;exact⟨_,rfl,hb1.trans (hb2.mono hz),.inr ⟨_,_,X,Y,rfl,HVX.out.below hb2,HVY.out.mono (fun b hb _=>by omega),HY.out.1,HX.out.2.2,HY.out.2.1.resolve_left HB0.out,HY.out.2.2⟩⟩
end Go.Proofs.YtnmeejofpkhlkaaGreatDoor
