/- Quotient and remainder: wide.divide. -/
import Derived.Test.YthmklhapjegfdaaGreatDoorL05
import Derived.Test.YthmklhapjegfdaaGreatDoorL12
set_option linter.all false
set_option maxRecDepth 100000
set_option maxHeartbeats 12800000
namespace Go.Proofs.YthmklhapjegfdaaGreatDoor
open Lib renaming hid → Aa
open Go.RowKit
def Dh (F:Ac) (m a b:Nat) (v:Value) (w':World):Prop:=∃ vq vr,v = .tuple #[vq,vr]∧Ag w' (Ext F m) vq (a / b)∧Ag w' (Ext F m) vr (a % b)
theorem lI {w:World} {b:Nat} {t:TypeId} {l:List Nat} (h:Row w b t (aQ l)) {F:Ac} (hF:F b) {n c:Nat} (hn:l.length=n) (hc:n≤c):Ah w F (.slice (some ⟨b,0,none⟩) n c) l:=by
 have:=h.limbs hF (n:=n) (c:=c) (by omega) hc;rwa [List.take_of_length_le (by omega)] at this
theorem agm (w:World) (F:Ac) (va vb:Value) (a b:Nat) (ha:Ag w F va a) (hb:Ag w F vb b) (hb0:2≤(dig b).length) (hla:(dig a).length≤100000) (hge:b≤a) :
  Calls Tryz.prog 221 #[va,vb] w (Ret w (Dh F w.heap.size a b)):=by
 have HVA:=Aa ha; have HVB:=Aa hb;have hlb:(dig b).length≤(dig a).length:=aV hge;have hb00:b≠0:=bJ.1 (by omega);have hord:decide (bY a b < 0)=false:=by
  refine decide_eq_false ?_;unfold bY; split <;> (try split) <;> omega
 obtain⟨A,c,rfl,hc,_⟩:=ha;obtain⟨B,d,rfl,hd,hNb⟩:=hb;have hd1:(((dig b).length:Int)==1)=false:=beq_false_of_ne (by omega);obtain⟨n,hn⟩:∃ n,n=(dig b).length:=⟨_,rfl⟩;obtain⟨la,aco⟩:∃ la,la=(dig a).length:=⟨_,rfl⟩;obtain⟨b1,o1,rfl,_,hb1',hx⟩:=hNb (by omega);obtain⟨t,ht'⟩:=au (l:=dig b) (k:=n - 1) (by omega);have et:=hx (n - 1) t ht';unfold dU at et; rw[Nat.mul_one] at et;have gt:(dig b).getD (n - 1) 0=t:=aI ht';have htl:t < 1000000000:=(aO b).get ht';have ht1:1≤t:=by have:=(yY hb00).1; rw[← hn,gt] at this; exact this
 obtain⟨f1,f2,_,_,_⟩:=jO ht1 htl;have hfI:(1000000000:Int) / ((t:Int)+1)=((LB / (t+1):Nat):Int):=by
  rw[show((t:Int)+1)=((t+1:Nat):Int) by omega,show(1000000000:Int)=((LB:Nat):Int) from rfl,oV]
 obtain⟨f,hf⟩:∃ f,f=LB / (t+1):=⟨_,rfl⟩;have hfit:=xM hn hb00;have adp:=vH (a:=a) (f:=f) (by omega);rw[gt,← hf] at hfit;have HDB:=Aa (fun (v:List Nat) (h1:v.length=n) (h2:Limbs v) (h3:ay v=b*f)=>(by have:=ac1 (b:=b) (v:=v) hn (by omega) h1 h2 (by rw[gt,← hf]; exact h3); rw[gt,← hf] at this; exact this:CY v n b f));have HF1:=Aa hfit; have HF2:=Aa adp;have HOR:=Aa hord; have HD1:=Aa hd1; have HFI:=Aa hfI; have HF:=Aa hf;rw[← hn] at hd1;rw[← hf] at hfI f1 f2;rw[← hn] at hb0 hlb hd HD1 ⊢;rw[← aco] at hla hlb hc ⊢;have HN:=Aa hn; have HLA:=Aa aco;rw[← hn] at HVB;rw[← aco] at HVA;obtain⟨n1,hn1⟩:∃ n1,n1+1=n:=⟨n - 1,by omega⟩;have i1:(n:Int) - 1=(n1:Int):=by omega
 rw[show n - 1=n1 by omega] at et;have l1:n1 < n:=by omega
 clear hn aco gt hx ht' hf hfit adp hord hge hn1;go_enter Tryz.func221,Tryz.ntmps221;go_wp2_with fail
 refine(vM w F _ _ a b HVA.out HVB.out (by rw[← HLA.out]; omega) (by rw[← HN.out]; omega)).mono ?_;rintro e w' ⟨rfl,z0,rfl⟩;have hord:=HOR.out;generalize bY a b=od at *;go_wp2_with fail
 refine(zZ _ F _ a f (la+1) (HVA.out.on (Same.drewN _ _ _)) (by rw[HLA.out]; omega) (by omega) f1 (by omega) (by rw[HLA.out]; exact HF2.out)).mono ?_;rintro e w1 ⟨_,rfl,uD,rfl,U0,hul,adq,hun,hru⟩;have hzz:w.heap.size≤w1.heap.size:=uD.size;have ajE:w.heap.size < w1.heap.size:=hru.lt;go_wp2_with fail
 refine(zZ w1 F _ b f n ((HVB.out.on (Same.drewN _ _ z0)).below uD) (by rw[HN.out]; exact Nat.le_refl _) (by omega) f1 (by omega) HF1.out).mono ?_;rintro e w2 ⟨_,rfl,hbw2,rfl,vv,hvl,adr,hvn,hrv⟩;have hdb:=HDB.out vv hvl adr hvn;have HDV:=Aa hdb;clear hdb hvn;have aht:=hru.below hbw2 hru.lt;have ahu:=hrv;have HRV:=Aa ahu; have HRU:=Aa aht;have HSU:=Aa (BD.start (U:=U0) HDV.out HN.out HLA.out hlb hul adq hun);have hB2:Below w.heap.size w w2:=(aG (Below.refl _ w) z0).trans (uD.trans (hbw2.mono hzz));have HVL:=Aa hvl;have hult:w1.heap.size < w2.heap.size:=hrv.lt;clear hrv ahu hru aht hul adq hun hvl adr uD hbw2;have i3:(la:Int) - (n:Int)+1=((la - n+1:Nat):Int):=by omega
 go_wp2_with (at_make; refine fG _ rfl _ _ 81 rfl 166 (.int .u32 0) 4 Tryz.underlying81 Tryz.infoU32 rfl (la - n+1) rfl rfl (by omega) (by omega) ?_; intro w3 hb3 hz3 hrq)
 have HRQ:=Aa hrq;have hq3:w2.heap.size < w3.heap.size:=hrq.lt;have ahv:=HRV.out.below hb3 HRV.out.lt;have ahw:=HRU.out.below hb3 HRU.out.lt;have hB3:=hB2.trans (hb3.mono hB2.size);have DV:=Aa ahv; have DW:=Aa ahw;clear hrq hb3 ahv ahw;go_loopw [12] (fun i wr=>∃ (k:Nat) (U q:List Nat),i = .int .i64 ((k:Int) - 1)∧BD a f vv n la k U q∧k≤la - n+1∧Row wr w.heap.size 166 (aQ U)∧Row wr w2.heap.size 166 (aQ q)∧Row wr w1.heap.size 166 (aQ vv)∧Below w.heap.size w wr∧w3.heap.size≤wr.heap.size) (fun i _=>(intOf i+1).toNat)
 case atStart=>exact⟨la - n+1,U0,_,by go_num,HSU.out,by omega,DW.out,by rw[fP]; exact HRQ.out,DV.out,hB3,Nat.le_refl _⟩
 case round =>
  clear HSU DW DV HRQ hB3 HRV HRU hB2;obtain⟨k,U,q,rfl,hdi,hk,hru,hrq,hrv,hbel,hsz⟩:=hrel;rcases Nat.eq_zero_or_pos k with h0 | h0
  ·subst h0;obtain⟨hq,hr,hu⟩:=hdi.last HDV.out;have HQ:=Aa hq; have HR:=Aa hr;have htl:(U.take n).length=n:=by rw[List.length_take,hdi.ul]; omega
   have HTL:=Aa htl;have hdl:(dig (ay (U.take n))).length≤n:=by
    refine dH ?_;have:=gJ (hdi.ac0.take n);rwa [htl] at this
   have HUL:=Aa (hdi.ac0.take n); have HQL:=Aa hdi.ajA; have HQN:=Aa hdi.ql;have hsl:=hru.limbs (F:=fun b=>w.heap.size≤b) (n:=n) (c:=la+1) (by show w.heap.size≤w.heap.size; omega) (by rw[hdi.ul]; omega) (by omega);have HSL:=Aa hsl;clear hdi hq hr hu htl hsl;go_wp2_with fail
   refine(sG wr (fun b=>w.heap.size≤b) (some ⟨w.heap.size,0,none⟩) n (la+1) (U.take n) HTL.out HSL.out (by omega)).mono ?_;rintro e w' ⟨rfl,rfl⟩;have HTR:=Aa (Ah.trim HTL.out HSL.out HUL.out);go_wp2_with fail
   refine(zX wr (fun b=>w.heap.size≤b) _ (ay (U.take n)) f HTR.out (by omega) f1 (by omega)).mono ?_;rintro e w5 ⟨_,rfl,hb5,vr,rfl,hvr⟩;have ahx:=hrq.below hb5 hrq.lt;have HVR:=Aa hvr; have DX:=Aa ahx;clear hvr ahx;go_wp2_with fail
   refine(sG w5 (fun b=>w.heap.size≤b) (some ⟨w2.heap.size,0,none⟩) (la - n+1) (la - n+1) q HQN.out (lI DX.out (by show w.heap.size≤w2.heap.size; omega) HQN.out (Nat.le_refl _)) (by omega)).mono ?_;rintro e w' ⟨rfl,rfl⟩;go_wp2
   go_ret2;refine⟨_,rfl,hbel.trans (hb5.mono hbel.size),_,_,rfl,?_,?_⟩
   ·have h1:=eH DX.out HQL.out (F:=Ext F w.heap.size) (.inr (by omega)) (c:=la - n+1) HQN.out (Nat.le_refl _);rw[HQ.out] at h1;exact h1
   ·have h1:=HVR.out;rw[HR.out] at h1;exact h1.mono fun b hb _=>.inr (by omega)
  ·obtain⟨j,rfl⟩:∃ j,k=j+1:=⟨k - 1,by omega⟩;have e1:((j+1:Nat):Int) - 1=(j:Int):=by omega
   rw[e1]; clear e1;have HDI:=Aa hdi;have hjn:j+n≤la:=by omega
   have abZ:=hdi.est HDV.out hjn;have HES:=Aa abZ;have hPl:(U.take j).length=j:=by rw[List.length_take,hdi.ul]; omega
   have HPL:=Aa hPl;have HRU:=Aa (show Row wr w.heap.size 166 (aQ (U.take j++(U.drop j).take (n+1)++U.drop (j+(n+1)))) by rw[← aen]; exact hru);have HRQ:=Aa hrq; have HRV:=Aa hrv;have hql:=hdi.ql;obtain⟨z,hz⟩:=au (l:=q) (k:=j) (by omega);have HZ:=Aa hz;have HQ:=Aa hql;clear hdi abZ hPl hru hrq hrv hql hz;go_wp2_with fail
   rw[show j+n+1 - j=n+1 by omega];refine(aeA wr w.heap.size w1.heap.size _ _ _ vv j n (la+1 - j) n HPL.out HRU.out HRV.out (by omega) HES.out (by omega) (by omega) (by omega) (by omega)).mono ?_;rintro e w4 ⟨rfl,⟨u',wO,ads,hun',ahy⟩,hgr⟩;have hq4:=HRQ.out.grown hgr (by omega);have hv4:=HRV.out.grown hgr (by omega);have hb4:=hbel.grown hgr hbel.size (fun k hk=>by injection hk; omega);have hs4:=hgr.size;have hqc:=hq4.cell (aP HZ.out);have hqf:=hq4.frozen j;have hdl:=HES.out.q_lt;have HST:=Aa (HDI.out.step HDV.out hjn wO ads hun' rfl);have HQ4:=Aa hq4; have HV4:=Aa hv4; have HU4:=Aa ahy;obtain⟨dd,hdd⟩:∃ dd,dd=ay ((U.drop j).take (n+1)) / ay vv:=⟨_,rfl⟩;rw[← hdd] at hdl HST ⊢;have aiH:dd < 1000000000:=hdl;clear wO ads hun' ahy hgr hq4 hv4 hdd hdl;go_wp2
   go_roundw
   case rel =>
    refine⟨j,_,q.set j dd,by go_num,HST.out,by omega,HU4.out.other (a:=⟨w2.heap.size,j,none⟩) (by simp; omega) _,?_,HV4.out.other (a:=⟨w2.heap.size,j,none⟩) (by simp; omega) _,hb4.setCell (by simp; omega) _,by simp; omega⟩;have hr:=HQ4.out.set j (.int .u32 (dd:Int));rw[aT] at hr;exact hr
   case measure=>simp[intOf]
theorem acp (w:World) (F:Ac) (va vb:Value) (a b:Nat) (ha:Ag w F va a) (hb:Ag w F vb b) (hb0:2≤(dig b).length) (hla:(dig a).length≤100000) (hge:b≤a) :
  Calls Tryz.prog 213 #[va,vb] w (Ret w (Dh F w.heap.size a b)):=by
 have HVA:=Aa ha; have HVB:=Aa hb;have hlb:(dig b).length≤(dig a).length:=aV hge;have hb00:b≠0:=bJ.1 (by omega);have hord:decide (bY a b < 0)=false:=by
  refine decide_eq_false ?_;unfold bY; split <;> (try split) <;> omega
 obtain⟨A,c,rfl,hc,_⟩:=ha;obtain⟨B,d,rfl,hd,hNb⟩:=hb;have hd1:(((dig b).length:Int)==1)=false:=beq_false_of_ne (by omega);obtain⟨n,hn⟩:∃ n,n=(dig b).length:=⟨_,rfl⟩;obtain⟨la,aco⟩:∃ la,la=(dig a).length:=⟨_,rfl⟩;obtain⟨b1,o1,rfl,_,hb1',hx⟩:=hNb (by omega);obtain⟨t,ht'⟩:=au (l:=dig b) (k:=n - 1) (by omega);have et:=hx (n - 1) t ht';unfold dU at et; rw[Nat.mul_one] at et;have gt:(dig b).getD (n - 1) 0=t:=aI ht';have htl:t < 1000000000:=(aO b).get ht';have ht1:1≤t:=by have:=(yY hb00).1; rw[← hn,gt] at this; exact this
 obtain⟨f1,f2,_,_,_⟩:=jO ht1 htl;have hfI:(1000000000:Int) / ((t:Int)+1)=((LB / (t+1):Nat):Int):=by
  rw[show((t:Int)+1)=((t+1:Nat):Int) by omega,show(1000000000:Int)=((LB:Nat):Int) from rfl,oV]
 obtain⟨f,hf⟩:∃ f,f=LB / (t+1):=⟨_,rfl⟩;have hfit:=xM hn hb00;have adp:=vH (a:=a) (f:=f) (by omega);rw[gt,← hf] at hfit;have HDB:=Aa (fun (v:List Nat) (h1:v.length=n) (h2:Limbs v) (h3:ay v=b*f)=>(by have:=ac1 (b:=b) (v:=v) hn (by omega) h1 h2 (by rw[gt,← hf]; exact h3); rw[gt,← hf] at this; exact this:CY v n b f));have HF1:=Aa hfit; have HF2:=Aa adp;have HOR:=Aa hord; have HD1:=Aa hd1; have HFI:=Aa hfI; have HF:=Aa hf;rw[← hn] at hd1;rw[← hf] at hfI f1 f2;rw[← hn] at hb0 hlb hd HD1 ⊢;rw[← aco] at hla hlb hc ⊢;have HN:=Aa hn; have HLA:=Aa aco;rw[← hn] at HVB;rw[← aco] at HVA;obtain⟨n1,hn1⟩:∃ n1,n1+1=n:=⟨n - 1,by omega⟩;have i1:(n:Int) - 1=(n1:Int):=by omega
 rw[show n - 1=n1 by omega] at et;have l1:n1 < n:=by omega
 clear hn aco gt hx ht' hf hfit adp hord hge hn1;go_enter Tryz.func213,Tryz.ntmps213;go_wp2_with fail
 refine(iW w F _ _ a b HVA.out HVB.out (by rw[← HLA.out]; omega) (by rw[← HN.out]; omega)).mono ?_;rintro e w' ⟨rfl,z0,rfl⟩;have hord:=HOR.out;generalize bY a b=od at *;go_wp2_with fail
 refine(xZ _ F _ b f n (HVB.out.on (Same.drewN _ _ _)) (by rw[HN.out]; exact Nat.le_refl _) (by omega) f1 (by omega) HF1.out).mono ?_;rintro e w1 ⟨_,rfl,uD,rfl,vv,hvl,adr,hvn,hrv⟩;have hdb:=HDB.out vv hvl adr hvn;have HDV:=Aa hdb;clear hdb hvn;have hzz:w.heap.size≤w1.heap.size:=uD.size;have ajE:w.heap.size < w1.heap.size:=hrv.lt;go_wp2_with fail
 refine(xZ w1 F _ a f (la+1) ((HVA.out.on (Same.drewN _ _ z0)).below uD) (by rw[HLA.out]; omega) (by omega) f1 (by omega) (by rw[HLA.out]; exact HF2.out)).mono ?_;rintro e w2 ⟨_,rfl,hbw2,rfl,U0,hul,adq,hun,hru⟩;have ahu:=hrv.below hbw2 hrv.lt;have aht:=hru;have HRV:=Aa ahu; have HRU:=Aa aht;have HSU:=Aa (BD.start (U:=U0) HDV.out HN.out HLA.out hlb hul adq hun);have hB2:Below w.heap.size w w2:=(aG (Below.refl _ w) z0).trans (uD.trans (hbw2.mono hzz));have HVL:=Aa hvl;have hult:w1.heap.size < w2.heap.size:=hru.lt;clear hrv ahu hru aht hul adq hun hvl adr uD hbw2;have i3:(la:Int) - (n:Int)+1=((la - n+1:Nat):Int):=by omega
 go_wp2_with (at_make; refine fG _ rfl _ _ 80 rfl 166 (.int .u32 0) 4 Tryz.underlying80 Tryz.infoU32 rfl (la - n+1) rfl rfl (by omega) (by omega) ?_; intro w3 hb3 hz3 hrq)
 have HRQ:=Aa hrq;have hq3:w2.heap.size < w3.heap.size:=hrq.lt;have ahv:=HRV.out.below hb3 HRV.out.lt;have ahw:=HRU.out.below hb3 HRU.out.lt;have hB3:=hB2.trans (hb3.mono hB2.size);have DV:=Aa ahv; have DW:=Aa ahw;clear hrq hb3 ahv ahw;go_loopw [12] (fun i wr=>∃ (k:Nat) (U q:List Nat),i = .int .i64 ((k:Int) - 1)∧BD a f vv n la k U q∧k≤la - n+1∧Row wr w1.heap.size 166 (aQ U)∧Row wr w2.heap.size 166 (aQ q)∧Row wr w.heap.size 166 (aQ vv)∧Below w.heap.size w wr∧w3.heap.size≤wr.heap.size) (fun i _=>(intOf i+1).toNat)
 case atStart=>exact⟨la - n+1,U0,_,by go_num,HSU.out,by omega,DW.out,by rw[fP]; exact HRQ.out,DV.out,hB3,Nat.le_refl _⟩
 case round =>
  clear HSU DW DV HRQ hB3 HRV HRU hB2;obtain⟨k,U,q,rfl,hdi,hk,hru,hrq,hrv,hbel,hsz⟩:=hrel;rcases Nat.eq_zero_or_pos k with h0 | h0
  ·subst h0;obtain⟨hq,hr,hu⟩:=hdi.last HDV.out;have HQ:=Aa hq; have HR:=Aa hr;have htl:(U.take n).length=n:=by rw[List.length_take,hdi.ul]; omega
   have HTL:=Aa htl;have hdl:(dig (ay (U.take n))).length≤n:=by
    refine dH ?_;have:=gJ (hdi.ac0.take n);rwa [htl] at this
   have HUL:=Aa (hdi.ac0.take n); have HQL:=Aa hdi.ajA; have HQN:=Aa hdi.ql;have hsl:=hru.limbs (F:=fun b=>w.heap.size≤b) (n:=n) (c:=la+1) (by show w.heap.size≤w1.heap.size; omega) (by rw[hdi.ul]; omega) (by omega);have HSL:=Aa hsl;clear hdi hq hr hu htl hsl;go_wp2_with fail
   refine(mW wr (fun b=>w.heap.size≤b) (some ⟨w1.heap.size,0,none⟩) n (la+1) (U.take n) HTL.out HSL.out (by omega)).mono ?_;rintro e w' ⟨rfl,rfl⟩;have HTR:=Aa (Ah.trim HTL.out HSL.out HUL.out);go_wp2_with fail
   refine(zV wr (fun b=>w.heap.size≤b) _ (ay (U.take n)) f HTR.out (by omega) f1 (by omega)).mono ?_;rintro e w5 ⟨_,rfl,hb5,vr,rfl,hvr⟩;have ahx:=hrq.below hb5 hrq.lt;have HVR:=Aa hvr; have DX:=Aa ahx;clear hvr ahx;go_wp2_with fail
   refine(mW w5 (fun b=>w.heap.size≤b) (some ⟨w2.heap.size,0,none⟩) (la - n+1) (la - n+1) q HQN.out (lI DX.out (by show w.heap.size≤w2.heap.size; omega) HQN.out (Nat.le_refl _)) (by omega)).mono ?_;rintro e w' ⟨rfl,rfl⟩;go_wp2
   go_ret2;refine⟨_,rfl,hbel.trans (hb5.mono hbel.size),_,_,rfl,?_,?_⟩
   ·have h1:=eH DX.out HQL.out (F:=Ext F w.heap.size) (.inr (by omega)) (c:=la - n+1) HQN.out (Nat.le_refl _);rw[HQ.out] at h1;exact h1
   ·have h1:=HVR.out;rw[HR.out] at h1;exact h1.mono fun b hb _=>.inr (by omega)
  ·obtain⟨j,rfl⟩:∃ j,k=j+1:=⟨k - 1,by omega⟩;have e1:((j+1:Nat):Int) - 1=(j:Int):=by omega
   rw[e1]; clear e1;have HDI:=Aa hdi;have hjn:j+n≤la:=by omega
   have abZ:=hdi.est HDV.out hjn;have HES:=Aa abZ;have hPl:(U.take j).length=j:=by rw[List.length_take,hdi.ul]; omega
   have HPL:=Aa hPl;have HRU:=Aa (show Row wr w1.heap.size 166 (aQ (U.take j++(U.drop j).take (n+1)++U.drop (j+(n+1)))) by rw[← aen]; exact hru);have HRQ:=Aa hrq; have HRV:=Aa hrv;have hql:=hdi.ql;obtain⟨z,hz⟩:=au (l:=q) (k:=j) (by omega);have HZ:=Aa hz;have HQ:=Aa hql;clear hdi abZ hPl hru hrq hrv hql hz;go_wp2_with fail
   rw[show j+n+1 - j=n+1 by omega];refine(agh wr w1.heap.size w.heap.size _ _ _ vv j n (la+1 - j) n HPL.out HRU.out HRV.out (by omega) HES.out (by omega) (by omega) (by omega) (by omega)).mono ?_;rintro e w4 ⟨rfl,⟨u',wO,ads,hun',ahy⟩,hgr⟩;have hq4:=HRQ.out.grown hgr (by omega);have hv4:=HRV.out.grown hgr (by omega);have hb4:=hbel.grown hgr hbel.size (fun k hk=>by injection hk; omega);have hs4:=hgr.size;have hqc:=hq4.cell (aP HZ.out);have hqf:=hq4.frozen j;have hdl:=HES.out.q_lt;have HST:=Aa (HDI.out.step HDV.out hjn wO ads hun' rfl);have HQ4:=Aa hq4; have HV4:=Aa hv4; have HU4:=Aa ahy;obtain⟨dd,hdd⟩:∃ dd,dd=ay ((U.drop j).take (n+1)) / ay vv:=⟨_,rfl⟩;rw[← hdd] at hdl HST ⊢;have aiH:dd < 1000000000:=hdl;clear wO ads hun' ahy hgr hq4 hv4 hdd hdl;go_wp2
   go_roundw
   case rel =>
    refine⟨j,_,q.set j dd,by go_num,HST.out,by omega,HU4.out.other (a:=⟨w2.heap.size,j,none⟩) (by simp; omega) _,?_,HV4.out.other (a:=⟨w2.heap.size,j,none⟩) (by simp; omega) _,hb4.setCell (by simp; omega) _,by simp; omega⟩;have hr:=HQ4.out.set j (.int .u32 (dd:Int));rw[aT] at hr;exact hr
   case measure=>simp[intOf]
theorem yh (w:World) (F:Ac) (va vb:Value) (a b:Nat) (ha:Ag w F va a) (hb:Ag w F vb b) (hb0:b≠0) (hla:(dig a).length≤100000) (hlb:(dig b).length≤100000) :
  Calls Tryz.prog 213 #[va,vb] w (Ret w (Dh F w.heap.size a b)):=by
 by_cases hlt:a < b
 ·have hord:decide (bY a b < 0)=true:=by rw[jA hlt]; rfl
  have HOR:=Aa hord;have HVA:=Aa ha; have HVB:=Aa hb;have HLT:=Aa hlt;clear ha hb hord hlt hb0;go_enter Tryz.func213,Tryz.ntmps213;go_wp2_with fail
  refine(iW w F _ _ a b HVA.out HVB.out (by omega) (by omega)).mono ?_;rintro e w' ⟨rfl,z0,rfl⟩;have hord:=HOR.out;generalize bY a b=od at *;go_wp2
  go_ret2;refine⟨_,rfl,aG (Below.refl _ w) z0,_,_,rfl,?_,?_⟩
  ·rw[Nat.div_eq_of_lt HLT.out]; exact Ag.zero _ _ _ _
  ·rw[Nat.mod_eq_of_lt HLT.out]; exact HVA.out.ext (aG (Below.refl _ w) z0)
 by_cases h1:(dig b).length=1
 ·have hord:decide (bY a b < 0)=false:=by
   refine decide_eq_false ?_;unfold bY; split <;> (try split) <;> omega
  have HOR:=Aa hord;have HVA:=Aa ha; have HVB:=Aa hb;obtain⟨B,d,rfl,hd,hNb⟩:=hb;obtain⟨b1,o1,rfl,_,hb1',hx⟩:=hNb (by omega);obtain⟨x,hx'⟩:=au (l:=dig b) (k:=0) (by omega);have ex:=hx 0 x hx';unfold dU at ex;simp only[Nat.zero_mul,Nat.add_zero] at ex;have hbx:b=x:=by
   obtain⟨y,hy⟩:=List.length_eq_one_iff.1 h1;have h2:=aU b;rw[hy] at hx' h2;simp at hx';simp[ay] at h2;omega
  have hxl:x < 1000000000:=(aO b).get hx';have hl1:(((dig b).length:Int)==1)=true:=by rw[h1]; rfl
  have hx1:1≤x:=by omega
  have hpos:0 < (dig b).length:=by omega
  have HBX:=Aa hbx;clear ha hord hlt hb0 hx hx' h1 hbx hNb;go_enter Tryz.func213,Tryz.ntmps213;go_wp2_with fail
  refine(iW w F _ _ a b HVA.out HVB.out (by omega) (by omega)).mono ?_;rintro e w' ⟨rfl,z0,rfl⟩;have hord:=HOR.out;generalize bY a b=od at *;go_wp2_with fail
  refine(zV _ F _ a x (HVA.out.on (Same.drewN _ _ _)) (by omega) hx1 (by omega)).mono ?_;rintro e w1 ⟨_,rfl,uD,vq,rfl,hvq⟩;have hml:a % x < x:=Nat.mod_lt _ (by omega);have HVQ:=Aa hvq; clear hvq;obtain⟨m,hm⟩:∃ m,m=a % x:=⟨_,rfl⟩;rw[← hm] at hml ⊢;have HM:=Aa hm; clear hm;go_wp2_with fail
  refine(pX w1 m (by omega)).mono ?_;rintro e w2 ⟨vr,rfl,hbw2,hvr⟩;have HVR:=Aa hvr; clear hvr;go_wp2
  go_ret2;have hz:w.heap.size≤w1.heap.size:=uD.size;refine⟨_,rfl,(aG (Below.refl _ w) z0).trans (uD.trans (hbw2.mono hz)),_,_,rfl,?_,?_⟩
  ·rw[HBX.out]; exact(HVQ.out.below hbw2).mono fun b hb _=>.inr hb
  ·rw[HBX.out,← HM.out]; exact HVR.out.mono fun b hb _=>.inr (by omega)
 ·exact acp w F va vb a b ha hb (by have:=bJ.2 hb0; omega) hla (by omega)
theorem adt (w:World) (F:Ac) (va vb:Value) (a b:Nat) (ha:Ag w F va a) (hb:Ag w F vb b) (hb0:b≠0) (hla:(dig a).length≤100000) (hlb:(dig b).length≤100000) :
  Calls Tryz.prog 221 #[va,vb] w (Ret w (Dh F w.heap.size a b)):=by
 by_cases hlt:a < b
 ·have hord:decide (bY a b < 0)=true:=by rw[jA hlt]; rfl
  have HOR:=Aa hord;have HVA:=Aa ha; have HVB:=Aa hb;have HLT:=Aa hlt;clear ha hb hord hlt hb0;go_enter Tryz.func221,Tryz.ntmps221;go_wp2_with fail
  refine(vM w F _ _ a b HVA.out HVB.out (by omega) (by omega)).mono ?_;rintro e w' ⟨rfl,z0,rfl⟩;have hord:=HOR.out;generalize bY a b=od at *;go_wp2_with fail
  refine(abD _ F _ a (HVA.out.on (Same.drewN _ _ _)) (by omega)).mono ?_;rintro e w1 ⟨v,rfl,hb1,hv1⟩;have HV1:=Aa hv1; clear hv1;go_wp2
  go_ret2;refine⟨_,rfl,(aG (Below.refl _ w) z0).trans hb1,_,_,rfl,?_,?_⟩
  ·rw[Nat.div_eq_of_lt HLT.out]; exact Ag.zero _ _ _ _
  ·rw[Nat.mod_eq_of_lt HLT.out]; exact HV1.out.mono fun b hb _=>.inr hb
 by_cases h1:(dig b).length=1
 ·have hord:decide (bY a b < 0)=false:=by
   refine decide_eq_false ?_;unfold bY; split <;> (try split) <;> omega
  have HOR:=Aa hord;have HVA:=Aa ha; have HVB:=Aa hb;obtain⟨B,d,rfl,hd,hNb⟩:=hb;obtain⟨b1,o1,rfl,_,hb1',hx⟩:=hNb (by omega);obtain⟨x,hx'⟩:=au (l:=dig b) (k:=0) (by omega);have ex:=hx 0 x hx';unfold dU at ex;simp only[Nat.zero_mul,Nat.add_zero] at ex;have hbx:b=x:=by
   obtain⟨y,hy⟩:=List.length_eq_one_iff.1 h1;have h2:=aU b;rw[hy] at hx' h2;simp at hx';simp[ay] at h2;omega
  have hxl:x < 1000000000:=(aO b).get hx';have hl1:(((dig b).length:Int)==1)=true:=by rw[h1]; rfl
  have hx1:1≤x:=by omega
  have hpos:0 < (dig b).length:=by omega
  have HBX:=Aa hbx;clear ha hord hlt hb0 hx hx' h1 hbx hNb;go_enter Tryz.func221,Tryz.ntmps221;go_wp2_with fail
  refine(vM w F _ _ a b HVA.out HVB.out (by omega) (by omega)).mono ?_;rintro e w' ⟨rfl,z0,rfl⟩;have hord:=HOR.out;generalize bY a b=od at *;go_wp2_with fail
  refine(zX _ F _ a x (HVA.out.on (Same.drewN _ _ _)) (by omega) hx1 (by omega)).mono ?_;rintro e w1 ⟨_,rfl,uD,vq,rfl,hvq⟩;have hml:a % x < x:=Nat.mod_lt _ (by omega);have HVQ:=Aa hvq; clear hvq;obtain⟨m,hm⟩:∃ m,m=a % x:=⟨_,rfl⟩;rw[← hm] at hml ⊢;have HM:=Aa hm; clear hm;go_wp2_with fail
  refine(acf w1 m (by omega)).mono ?_;rintro e w2 ⟨vr,rfl,hbw2,hvr⟩;have HVR:=Aa hvr; clear hvr;go_wp2
  go_ret2;have hz:w.heap.size≤w1.heap.size:=uD.size;refine⟨_,rfl,(aG (Below.refl _ w) z0).trans (uD.trans (hbw2.mono hz)),_,_,rfl,?_,?_⟩
  ·rw[HBX.out]; exact(HVQ.out.below hbw2).mono fun b hb _=>.inr hb
  ·rw[HBX.out,← HM.out]; exact HVR.out.mono fun b hb _=>.inr (by omega)
 ·exact agm w F va vb a b ha hb (by have:=bJ.2 hb0; omega) hla (by omega)
theorem sH {s:Int} {x:Nat} (h1:-1000000000≤s) (h2:s≤1000000000) (hx:x < 1000000000):-1000000000000000000≤s*(x:Int)∧s*(x:Int)≤1000000000000000000:=by
 constructor
 ·have:(-1000000000)*(x:Int)≤s*(x:Int):=Int.mul_le_mul_of_nonneg_right h1 (by omega);omega
 ·have:s*(x:Int)≤1000000000*(x:Int):=Int.mul_le_mul_of_nonneg_right h2 (by omega);omega
theorem tdm (v:Int):v=1000000000*v.tdiv 1000000000+v.tmod 1000000000∧-1000000000 < v.tmod 1000000000∧v.tmod 1000000000 < 1000000000:=by
 refine⟨(Int.mul_tdiv_add_tmod v 1000000000).symm,?_,?_⟩
 ·have:=Int.lt_tmod_of_pos v (b:=1000000000) (by decide);omega
 ·exact Int.tmod_lt_of_pos v (by decide)
theorem iy (w:World) (F:Ac) (va vb:Value) (a b:Nat) (s t:Int) (R:Nat) (ha:Ag w F va a) (hb:Ag w F vb b) (hla:(dig a).length≤100000) (hlb:(dig b).length≤(dig a).length)
  (hs1:-1000000000≤s) (hs2:s≤1000000000) (ht1:-1000000000≤t) (ht2:t≤1000000000) (hR:s*a+t*b=(R:Int)) (hRa:R≤a) :
  Calls Tryz.prog 232 #[va,vb,.int .i64 s,.int .i64 t] w (Ret w fun v w'=>Ag w' (fun b=>w.heap.size≤b) v R):=by
 obtain⟨A,c,rfl,hc,hNa⟩:=ha;obtain⟨B,d,rfl,hd,hNb⟩:=hb;have HA:=Aa hNa; have HB:=Aa hNb; clear hNa hNb;have HR:=Aa hR; have HRA:=Aa hRa; clear hR hRa;go_enter Tryz.func232,Tryz.ntmps232;go_wp2_with (at_make; refine fG _ rfl _ _ 80 rfl 166 (.int .u32 0) 4 Tryz.underlying80 Tryz.infoU32 rfl (dig a).length rfl rfl (by omega) (by omega) ?_; intro w1 hb1 hz1 hrow1)
 have HR1:=Aa hrow1; clear hrow1;go_loopw [10,18] (fun cv i wr=>∃ (k:Nat) (l:List Nat) (cr:Int),k≤(dig a).length∧i = .int .i64 (k:Int)∧cv = .int .i64 cr∧-3000000000≤cr∧cr≤3000000000∧l.length=(dig a).length∧Limbs l∧(ay (l.take k):Int)+(LB ^ k:Nat)*cr=s*ay ((dig a).take k)+t*ay ((dig b).take k) ∧
  Row wr w.heap.size 166 (aQ l)∧Below w.heap.size w wr) (fun _ i _=>(dig a).length - (intOf i).toNat)
 case atStart=>exact⟨0,List.replicate (dig a).length 0,0,by omega,rfl,rfl,by omega,by omega,by simp,Limbs.zeros _,by simp[ay],by rw[fP]; exact HR1.out,hb1⟩
 case round =>
  obtain⟨k,l,cr,hk,rfl,rfl,hc1,hc2,hlen,hlim,hinv,hrow,hbel⟩:=hrel;have HL:=Aa hlen; have HI:=Aa hinv; have HO:=Aa hrow; have HM:=Aa hlim;have hold:=aA hbel;by_cases hlt:k < (dig a).length
  ·obtain⟨b1,o1,rfl,_,hb1',hx⟩:=HA.out (by omega);obtain⟨x,hx'⟩:=au hlt;have ex:=hx k x hx';unfold dU at ex; rw[Nat.mul_one] at ex;have hxl:x < 1000000000:=(aO a).get hx';have HX:=Aa (aI hx');obtain⟨z,hz⟩:=au (l:=l) (k:=k) (by omega);have rc:=hrow.cell (aP hz);have fc:=hrow.frozen k;clear hx hx' hz hlen hinv hrow hlim;obtain⟨p1,p2⟩:=sH hs1 hs2 hxl;obtain⟨p,hp⟩:∃ p,s*(x:Int)=p:=⟨_,rfl⟩;rw[hp] at p1 p2;have HP:=Aa hp;by_cases hlt2:k < (dig b).length
   ·obtain⟨b2,o2,rfl,_,hb2',hy⟩:=HB.out (by omega);obtain⟨y,hy'⟩:=au hlt2;have ey:=hy k y hy';unfold dU at ey; rw[Nat.mul_one] at ey;have hyl:y < 1000000000:=(aO b).get hy';have HY:=Aa (aI hy');clear hy hy';obtain⟨q1,q2⟩:=sH ht1 ht2 hyl;obtain⟨q,hq⟩:∃ q,t*(y:Int)=q:=⟨_,rfl⟩;rw[hq] at q1 q2;have HQ:=Aa hq;obtain⟨t1,t2,t3⟩:=tdm (p+cr+q);obtain⟨qd,hqd⟩:∃ qd,(p+cr+q).tdiv 1000000000=qd:=⟨_,rfl⟩;obtain⟨rm,hrm⟩:∃ rm,(p+cr+q).tmod 1000000000=rm:=⟨_,rfl⟩;rw[hqd,hrm] at t1; rw[hrm] at t2 t3;have T1:=Aa t1;have ajG:-2500000000≤qd:=by omega
    have ajH:qd≤2500000000:=by omega
    clear t1;by_cases hneg:rm < 0
    ·obtain⟨e,he⟩:∃ e:Nat,(e:Int)=rm+1000000000:=⟨(rm+1000000000).toNat,by omega⟩;have HE:=Aa he; clear he;go_wp2
     go_roundw
     case rel =>
      have he:=HE.out; have h1:=T1.out;refine⟨k+1,l.set k e,qd - 1,by omega,by go_num,rfl,by omega,by omega,by rw[List.length_set,HL.out],HM.out.set (by show _ < 1000000000; omega),lN (by rw[HL.out]; exact hlt) HI.out ?_,?_,hbel.setCell (Nat.le_refl _) _⟩
      ·rw[HX.out,HY.out,HP.out,HQ.out]; show(e:Int)+1000000000*_=_; omega
      ·have hr:=HO.out.set k (.int .u32 (e:Int));rw[aT,he] at hr;exact hr
     case measure=>simp[intOf]; omega
    ·obtain⟨e,he⟩:∃ e:Nat,(e:Int)=rm:=⟨rm.toNat,by omega⟩;have hdd:decide (rm < 0)=false:=decide_eq_false hneg;have HE:=Aa he; clear he;go_wp2
     go_roundw
     case rel =>
      have he:=HE.out; have h1:=T1.out;refine⟨k+1,l.set k e,qd,by omega,by go_num,rfl,by omega,by omega,by rw[List.length_set,HL.out],HM.out.set (by show _ < 1000000000; omega),lN (by rw[HL.out]; exact hlt) HI.out ?_,?_,hbel.setCell (Nat.le_refl _) _⟩
      ·rw[HX.out,HY.out,HP.out,HQ.out]; show(e:Int)+1000000000*_=_; omega
      ·have hr:=HO.out.set k (.int .u32 (e:Int));rw[aT,he] at hr;exact hr
     case measure=>simp[intOf]; omega
   ·have hdd:decide (k < (dig b).length)=false:=decide_eq_false hlt2;have HY:=Aa (dQ (l:=dig b) (k:=k) (by omega));obtain⟨t1,t2,t3⟩:=tdm (p+cr);obtain⟨qd,hqd⟩:∃ qd,(p+cr).tdiv 1000000000=qd:=⟨_,rfl⟩;obtain⟨rm,hrm⟩:∃ rm,(p+cr).tmod 1000000000=rm:=⟨_,rfl⟩;rw[hqd,hrm] at t1; rw[hrm] at t2 t3;have T1:=Aa t1;have ajG:-2500000000≤qd:=by omega
    have ajH:qd≤2500000000:=by omega
    clear t1;by_cases hneg:rm < 0
    ·obtain⟨e,he⟩:∃ e:Nat,(e:Int)=rm+1000000000:=⟨(rm+1000000000).toNat,by omega⟩;have HE:=Aa he; clear he;go_wp2
     go_roundw
     case rel =>
      have he:=HE.out; have h1:=T1.out;refine⟨k+1,l.set k e,qd - 1,by omega,by go_num,rfl,by omega,by omega,by rw[List.length_set,HL.out],HM.out.set (by show _ < 1000000000; omega),lN (by rw[HL.out]; exact hlt) HI.out ?_,?_,hbel.setCell (Nat.le_refl _) _⟩
      ·rw[HX.out,HY.out,HP.out]; show(e:Int)+1000000000*_=_; omega
      ·have hr:=HO.out.set k (.int .u32 (e:Int));rw[aT,he] at hr;exact hr
     case measure=>simp[intOf]; omega
    ·obtain⟨e,he⟩:∃ e:Nat,(e:Int)=rm:=⟨rm.toNat,by omega⟩;have hdd:decide (rm < 0)=false:=decide_eq_false hneg;have HE:=Aa he; clear he;go_wp2
     go_roundw
     case rel =>
      have he:=HE.out; have h1:=T1.out;refine⟨k+1,l.set k e,qd,by omega,by go_num,rfl,by omega,by omega,by rw[List.length_set,HL.out],HM.out.set (by show _ < 1000000000; omega),lN (by rw[HL.out]; exact hlt) HI.out ?_,?_,hbel.setCell (Nat.le_refl _) _⟩
      ·rw[HX.out,HY.out,HP.out]; show(e:Int)+1000000000*_=_; omega
      ·have hr:=HO.out.set k (.int .u32 (e:Int));rw[aT,he] at hr;exact hr
     case measure=>simp[intOf]; omega
  ·have hke:k=(dig a).length:=by omega
   have hF:ay l=R:=by
    have h1:=hinv;rw[hke,List.take_length,List.take_of_length_le (by omega),List.take_of_length_le hlb,aU,aU,HR.out] at h1;have h2:=gJ hlim;rw[hlen] at h2;have h3:=lY a;have h4:=HRA.out;have:=afG h2 (by omega) (by omega) h1;omega
   have HF:=Aa hF;clear hF hke hinv hlim hlen;go_wp2_with fail
   refine(mW wr (fun b=>w.heap.size≤b) (some ⟨w.heap.size,0,none⟩) (dig a).length (dig a).length l HL.out (lI hrow (Nat.le_refl _) HL.out (Nat.le_refl _)) (by omega)).mono ?_;rintro e w' ⟨rfl,rfl⟩;go_wp2
   go_ret;refine⟨_,rfl,hbel,?_⟩;have:=eH HO.out HM.out (F:=fun b=>w.heap.size≤b) (Nat.le_refl _) HL.out (Nat.le_refl _);rw[HF.out] at this;exact this
theorem adu (w:World) (F:Ac) (va vb:Value) (a b:Nat) (s t:Int) (R:Nat) (ha:Ag w F va a) (hb:Ag w F vb b) (hla:(dig a).length≤100000) (hlb:(dig b).length≤(dig a).length)
  (hs1:-1000000000≤s) (hs2:s≤1000000000) (ht1:-1000000000≤t) (ht2:t≤1000000000) (hR:s*a+t*b=(R:Int)) (hRa:R≤a) :
  Calls Tryz.prog 222 #[va,vb,.int .i64 s,.int .i64 t] w (Ret w fun v w'=>Ag w' (fun b=>w.heap.size≤b) v R):=by
 obtain⟨A,c,rfl,hc,hNa⟩:=ha;obtain⟨B,d,rfl,hd,hNb⟩:=hb;have HA:=Aa hNa; have HB:=Aa hNb; clear hNa hNb;have HR:=Aa hR; have HRA:=Aa hRa; clear hR hRa;go_enter Tryz.func222,Tryz.ntmps222;go_wp2_with (at_make; refine fG _ rfl _ _ 81 rfl 166 (.int .u32 0) 4 Tryz.underlying81 Tryz.infoU32 rfl (dig a).length rfl rfl (by omega) (by omega) ?_; intro w1 hb1 hz1 hrow1)
 have HR1:=Aa hrow1; clear hrow1;go_loopw [10,18] (fun cv i wr=>∃ (k:Nat) (l:List Nat) (cr:Int),k≤(dig a).length∧i = .int .i64 (k:Int)∧cv = .int .i64 cr∧-3000000000≤cr∧cr≤3000000000∧l.length=(dig a).length∧Limbs l∧(ay (l.take k):Int)+(LB ^ k:Nat)*cr=s*ay ((dig a).take k)+t*ay ((dig b).take k) ∧
  Row wr w.heap.size 166 (aQ l)∧Below w.heap.size w wr) (fun _ i _=>(dig a).length - (intOf i).toNat)
 case atStart=>exact⟨0,List.replicate (dig a).length 0,0,by omega,rfl,rfl,by omega,by omega,by simp,Limbs.zeros _,by simp[ay],by rw[fP]; exact HR1.out,hb1⟩
 case round =>
  obtain⟨k,l,cr,hk,rfl,rfl,hc1,hc2,hlen,hlim,hinv,hrow,hbel⟩:=hrel;have HL:=Aa hlen; have HI:=Aa hinv; have HO:=Aa hrow; have HM:=Aa hlim;have hold:=aA hbel;by_cases hlt:k < (dig a).length
  ·obtain⟨b1,o1,rfl,_,hb1',hx⟩:=HA.out (by omega);obtain⟨x,hx'⟩:=au hlt;have ex:=hx k x hx';unfold dU at ex; rw[Nat.mul_one] at ex;have hxl:x < 1000000000:=(aO a).get hx';have HX:=Aa (aI hx');obtain⟨z,hz⟩:=au (l:=l) (k:=k) (by omega);have rc:=hrow.cell (aP hz);have fc:=hrow.frozen k;clear hx hx' hz hlen hinv hrow hlim;obtain⟨p1,p2⟩:=sH hs1 hs2 hxl;obtain⟨p,hp⟩:∃ p,s*(x:Int)=p:=⟨_,rfl⟩;rw[hp] at p1 p2;have HP:=Aa hp;by_cases hlt2:k < (dig b).length
   ·obtain⟨b2,o2,rfl,_,hb2',hy⟩:=HB.out (by omega);obtain⟨y,hy'⟩:=au hlt2;have ey:=hy k y hy';unfold dU at ey; rw[Nat.mul_one] at ey;have hyl:y < 1000000000:=(aO b).get hy';have HY:=Aa (aI hy');clear hy hy';obtain⟨q1,q2⟩:=sH ht1 ht2 hyl;obtain⟨q,hq⟩:∃ q,t*(y:Int)=q:=⟨_,rfl⟩;rw[hq] at q1 q2;have HQ:=Aa hq;obtain⟨t1,t2,t3⟩:=tdm (p+cr+q);obtain⟨qd,hqd⟩:∃ qd,(p+cr+q).tdiv 1000000000=qd:=⟨_,rfl⟩;obtain⟨rm,hrm⟩:∃ rm,(p+cr+q).tmod 1000000000=rm:=⟨_,rfl⟩;rw[hqd,hrm] at t1; rw[hrm] at t2 t3;have T1:=Aa t1;have ajG:-2500000000≤qd:=by omega
    have ajH:qd≤2500000000:=by omega
    clear t1;have hrm2:p+cr+q - qd*1000000000=rm:=by have:=T1.out; omega
    by_cases hneg:rm < 0
    ·obtain⟨e,he⟩:∃ e:Nat,(e:Int)=rm+1000000000:=⟨(rm+1000000000).toNat,by omega⟩;have HE:=Aa he; clear he;go_wp2
     go_roundw
     case rel =>
      have he:=HE.out; have h1:=T1.out;refine⟨k+1,l.set k e,qd - 1,by omega,by go_num,rfl,by omega,by omega,by rw[List.length_set,HL.out],HM.out.set (by show _ < 1000000000; omega),lN (by rw[HL.out]; exact hlt) HI.out ?_,?_,hbel.setCell (Nat.le_refl _) _⟩
      ·rw[HX.out,HY.out,HP.out,HQ.out]; show(e:Int)+1000000000*_=_; omega
      ·have hr:=HO.out.set k (.int .u32 (e:Int));rw[aT,he] at hr;exact hr
     case measure=>simp[intOf]; omega
    ·obtain⟨e,he⟩:∃ e:Nat,(e:Int)=rm:=⟨rm.toNat,by omega⟩;have hdd:decide (rm < 0)=false:=decide_eq_false hneg;have HE:=Aa he; clear he;go_wp2
     go_roundw
     case rel =>
      have he:=HE.out; have h1:=T1.out;refine⟨k+1,l.set k e,qd,by omega,by go_num,rfl,by omega,by omega,by rw[List.length_set,HL.out],HM.out.set (by show _ < 1000000000; omega),lN (by rw[HL.out]; exact hlt) HI.out ?_,?_,hbel.setCell (Nat.le_refl _) _⟩
      ·rw[HX.out,HY.out,HP.out,HQ.out]; show(e:Int)+1000000000*_=_; omega
      ·have hr:=HO.out.set k (.int .u32 (e:Int));rw[aT,he] at hr;exact hr
     case measure=>simp[intOf]; omega
   ·have hdd:decide (k < (dig b).length)=false:=decide_eq_false hlt2;have HY:=Aa (dQ (l:=dig b) (k:=k) (by omega));obtain⟨t1,t2,t3⟩:=tdm (p+cr);obtain⟨qd,hqd⟩:∃ qd,(p+cr).tdiv 1000000000=qd:=⟨_,rfl⟩;obtain⟨rm,hrm⟩:∃ rm,(p+cr).tmod 1000000000=rm:=⟨_,rfl⟩;rw[hqd,hrm] at t1; rw[hrm] at t2 t3;have T1:=Aa t1;have ajG:-2500000000≤qd:=by omega
    have ajH:qd≤2500000000:=by omega
    clear t1;have hrm2:p+cr - qd*1000000000=rm:=by have:=T1.out; omega
    by_cases hneg:rm < 0
    ·obtain⟨e,he⟩:∃ e:Nat,(e:Int)=rm+1000000000:=⟨(rm+1000000000).toNat,by omega⟩;have HE:=Aa he; clear he;go_wp2
     go_roundw
     case rel =>
      have he:=HE.out; have h1:=T1.out;refine⟨k+1,l.set k e,qd - 1,by omega,by go_num,rfl,by omega,by omega,by rw[List.length_set,HL.out],HM.out.set (by show _ < 1000000000; omega),lN (by rw[HL.out]; exact hlt) HI.out ?_,?_,hbel.setCell (Nat.le_refl _) _⟩
      ·rw[HX.out,HY.out,HP.out]; show(e:Int)+1000000000*_=_; omega
      ·have hr:=HO.out.set k (.int .u32 (e:Int));rw[aT,he] at hr;exact hr
     case measure=>simp[intOf]; omega
    ·obtain⟨e,he⟩:∃ e:Nat,(e:Int)=rm:=⟨rm.toNat,by omega⟩;have hdd:decide (rm < 0)=false:=decide_eq_false hneg;have HE:=Aa he; clear he;go_wp2
     go_roundw
     case rel =>
      have he:=HE.out; have h1:=T1.out;refine⟨k+1,l.set k e,qd,by omega,by go_num,rfl,by omega,by omega,by rw[List.length_set,HL.out],HM.out.set (by show _ < 1000000000; omega),lN (by rw[HL.out]; exact hlt) HI.out ?_,?_,hbel.setCell (Nat.le_refl _) _⟩
      ·rw[HX.out,HY.out,HP.out]; show(e:Int)+1000000000*_=_; omega
      ·have hr:=HO.out.set k (.int .u32 (e:Int));rw[aT,he] at hr;exact hr
     case measure=>simp[intOf]; omega
  ·have hke:k=(dig a).length:=by omega
   have hF:ay l=R:=by
    have h1:=hinv;rw[hke,List.take_length,List.take_of_length_le (by omega),List.take_of_length_le hlb,aU,aU,HR.out] at h1;have h2:=gJ hlim;rw[hlen] at h2;have h3:=lY a;have h4:=HRA.out;have:=afG h2 (by omega) (by omega) h1;omega
   have HF:=Aa hF;clear hF hke hinv hlim hlen;go_wp2_with fail
   refine(sG wr (fun b=>w.heap.size≤b) (some ⟨w.heap.size,0,none⟩) (dig a).length (dig a).length l HL.out (lI hrow (Nat.le_refl _) HL.out (Nat.le_refl _)) (by omega)).mono ?_;rintro e w' ⟨rfl,rfl⟩;go_wp2
   go_ret;refine⟨_,rfl,hbel,?_⟩;have:=eH HO.out HM.out (F:=fun b=>w.heap.size≤b) (Nat.le_refl _) HL.out (Nat.le_refl _);rw[HF.out] at this;exact this
theorem ahz {l:List Nat} {n:Nat} (hl:l.length≤n) (hn:2≤n) (hL:Limbs l):ay (l.drop (n - 2))=ay l / LB ^ (n - 2):=by
 rw[← front_eq hl hn hL,bD,show n - 2+1=n - 1 by omega,bD,show n - 1+1=n by omega,List.drop_eq_nil_of_le hl];simp[ay]; rw[Nat.mul_comm,Nat.add_comm]
theorem aai (w:World) (F:Ac) (v:Value) (x n:Nat) (hv:Ag w F v x) (hl:(dig x).length≤n) (hn:2≤n) (hn2:n≤100000) :
  Calls Tryz.prog 231 #[v,.int .i64 (n:Int)] w fun e w'=>e = .returned (.int .i64 ((x / LB ^ (n - 2):Nat):Int))∧w=w':=by
 obtain⟨A,c,rfl,hc,hN⟩:=hv;have HN:=Aa hN; clear hN;obtain⟨R,hR⟩:∃ R,R=x / LB ^ (n - 2):=⟨_,rfl⟩;rw[← hR];have HR:=Aa hR; clear hR;go_enter Tryz.func231,Tryz.ntmps231;go_wp2
 go_loop [5,6] (fun m i=>∃ k:Nat,n - 2≤k∧k≤n∧i = .int .i64 ((k:Int) - 1)∧m = .int .i64 (ay ((dig x).drop k):Int)) (fun _ i=>(intOf i+1).toNat)
 case atStart=>exact⟨n,by omega,Nat.le_refl _,rfl,by rw[List.drop_eq_nil_of_le hl]; rfl⟩
 case round =>
  obtain⟨k,hk1,hk2,rfl,rfl⟩:=hrel;by_cases h0:n - 2 < k
  ·obtain⟨j,rfl⟩:∃ j,k=j+1:=⟨k - 1,by omega⟩;have e1:((j+1:Nat):Int) - 1=(j:Int):=by omega
   rw[e1]; clear e1;have hm:ay ((dig x).drop (j+1)) < 1000000000:=by
    have h1:=gJ ((aO x).drop (j+1));have h2:LB ^ ((dig x).drop (j+1)).length≤LB ^ 1:=Nat.pow_le_pow_right (by decide) (by rw[List.length_drop]; omega);have h3:LB ^ 1=1000000000:=by decide
    omega
   have hdd:decide ((n:Int) - 2≤(j:Int))=true:=decide_eq_true (by omega);have hjI:(n:Int) - 2≤(j:Int):=by omega
   by_cases hlt:j < (dig x).length
   ·obtain⟨b,o,rfl,_,hb,hx⟩:=HN.out (by omega);obtain⟨y,hx'⟩:=au hlt;have ex:=hx j y hx';unfold dU at ex; rw[Nat.mul_one] at ex;have hyl:y < 1000000000:=(aO x).get hx';have HS:=Aa (show ay ((dig x).drop j)=y+LB*ay ((dig x).drop (j+1)) by rw[bD,aI hx']);clear hx hx';generalize ay ((dig x).drop (j+1))=m at *;go_wp2
    go_round
    case rel=>exact⟨j,by omega,by omega,by go_num,by rw[HS.out]; simp; omega⟩
    case measure=>simp[intOf]
   ·have hdl:decide (j < (dig x).length)=false:=decide_eq_false hlt;have HS:=Aa (show ay ((dig x).drop j)=0+LB*ay ((dig x).drop (j+1)) by rw[bD,dQ (by omega)]);generalize ay ((dig x).drop (j+1))=m at *;go_wp2
    go_round
    case rel=>exact⟨j,by omega,by omega,by go_num,by rw[HS.out]; simp; omega⟩
    case measure=>simp[intOf]
  ·obtain rfl:k=n - 2:=by omega
   have hdd:decide ((n:Int) - 2≤((n - 2:Nat):Int) - 1)=false:=decide_eq_false (by omega);have HE:=Aa (ahz hl hn (aO x));rw[aU] at HE;generalize ay ((dig x).drop (n - 2))=m at *;have e2:((n - 2:Nat):Int) - 1=(n:Int) - 3:=by omega
   have hdd2:decide ((n:Int) - 2≤(n:Int) - 3)=false:=decide_eq_false (by omega);rw[e2]; clear e2 hdd;go_wp2
   go_ret;exact⟨by rw[HR.out,← HE.out]; rfl,rfl⟩
def aa5 (x y z u:Int):Int:=if u > (if z > (if y > x then y else x) then z else (if y > x then y else x)) then u else (if z > (if y > x then y else x) then z else (if y > x then y else x))
theorem adv (ts:Array TypeId) (t:TypeId) (x y z u:Int) (w:World):(Builtin.max_ ts t #[.int .i64 x,.int .i64 y,.int .i64 z,.int .i64 u]).run Tryz.prog w = .ok (.int .i64 (aa5 x y z u)) w:=by
 simp[Builtin.max_,Builtin.max2,aa5]
theorem afK {x z:Int}:1000000000≤aa5 x (-x) z (-z)↔(x≤-1000000000∨1000000000≤x∨z≤-1000000000∨1000000000≤z):=by
 unfold aa5;split <;> split <;> split <;> omega
def D6 (a b:Nat) (m:Nat) (v:Value) (w':World):Prop :=
 v = .tuple #[.slice none 0 0,.slice none 0 0,.bool false] ∨
 ∃ vx vy x y,v = .tuple #[vx,vy,.bool true]∧Ag w' (fun b=>m≤b) vx x∧Ag w' (fun b=>m≤b) vy y∧y≤x∧x≤a∧y < b∧Nat.gcd x y=Nat.gcd a b
theorem agn (w:World) (F:Ac) (va vb:Value) (a b:Nat) (ha:Ag w F va a) (hb:Ag w F vb b) (hba:b≤a) (hl3:3≤(dig a).length) (hla:(dig a).length≤100000) :
  Calls Tryz.prog 212 #[va,vb] w (Ret w (D6 a b w.heap.size)):=by
 have HVA:=Aa ha; have HVB:=Aa hb;have hlb:(dig b).length≤(dig a).length:=aV hba;obtain⟨A,c,rfl,hc,_⟩:=ha;obtain⟨B,d,rfl,hd,_⟩:=hb;obtain⟨M,hM⟩:∃ M,M=LB ^ ((dig a).length - 2):=⟨_,rfl⟩;have hMp:0 < M:=by rw[hM]; exact BA _
 have hp0:a / M < 1000000000000000000:=by
  rw[Nat.div_lt_iff_lt_mul hMp,hM];have h1:=lY a;have h2:LB ^ (dig a).length=LB ^ 2*LB ^ ((dig a).length - 2):=by rw[← Nat.pow_add]; congr 1; omega
  have h3:LB ^ 2=1000000000000000000:=by decide
  rw[h3] at h2; omega
 have hqp:b / M≤a / M:=Nat.div_le_div_right hba;have HST:=Aa (show Leh (a:Int) (b:Int) (M:Int) ((a / M:Nat):Int) ((b / M:Nat):Int) ((a % M:Nat):Int) ((b % M:Nat):Int) ((a / M:Nat):Int) ((b / M:Nat):Int) 1 0 0 1 from by
  have h1:=Nat.div_add_mod a M; have h2:=Nat.div_add_mod b M;have h3:=Nat.mod_lt a hMp; have h4:=Nat.mod_lt b hMp;refine Leh.start ?_ ?_ (Int.natCast_nonneg _) (Int.ofNat_lt.2 h3) (Int.natCast_nonneg _) (Int.ofNat_lt.2 h4) (Int.natCast_nonneg _) (Int.ofNat_le.2 hqp) (by omega) (by omega)
  ·rw[Int.mul_comm,← Int.natCast_mul]; omega
  ·rw[Int.mul_comm,← Int.natCast_mul]; omega)
 have HM:=Aa hM;obtain⟨p0,aiI⟩:∃ p0,p0=a / M:=⟨_,rfl⟩;obtain⟨q0,aiJ⟩:∃ q0,q0=b / M:=⟨_,rfl⟩;have e1:a / LB ^ ((dig a).length - 2)=p0:=by rw[aiI,hM]
 have e2:b / LB ^ ((dig a).length - 2)=q0:=by rw[aiJ,hM]
 rw[← aiI,← aiJ] at HST;rw[← aiI] at hp0 hqp;rw[← aiJ] at hqp;have E1:=Aa e1; have E2:=Aa e2;generalize ((a % M:Nat):Int)=al at HST;generalize ((b % M:Nat):Int)=be at HST;clear e1 e2 aiI aiJ hM hba;go_enter Tryz.func212,Tryz.ntmps212;go_wp2_with fail
 refine(aai w F _ a (dig a).length HVA.out (Nat.le_refl _) (by omega) hla).mono ?_;rintro e w' ⟨rfl,rfl⟩;rw[E1.out];go_wp2_with fail
 refine(aai w F _ b (dig a).length HVB.out hlb (by omega) hla).mono ?_;rintro e w' ⟨rfl,rfl⟩;rw[E2.out];go_wp2
 go_loopw [7,8,9,10,11,12] (fun pv qv av bv cv dv wr=>∃ p q A B C D:Int,pv = .int .i64 p∧qv = .int .i64 q∧av = .int .i64 A∧bv = .int .i64 B∧cv = .int .i64 C∧dv = .int .i64 D∧Leh (a:Int) (b:Int) (M:Int) (p0:Int) (q0:Int) al be p q A B C D ∧
  -1000000000 < A∧A < 1000000000∧-1000000000 < B∧B < 1000000000∧-1000000000 < C∧C < 1000000000∧-1000000000 < D∧D < 1000000000∧w=wr) (fun _ qv _ _ cv dv _=>(intOf cv*a+intOf dv*b).toNat)
 case atStart=>exact⟨_,_,_,_,_,_,rfl,rfl,rfl,rfl,rfl,rfl,HST.out,by omega,by omega,by omega,by omega,by omega,by omega,by omega,by omega,rfl⟩
 case round =>
  clear HST;obtain⟨p,q,A,B,C,D,rfl,rfl,rfl,rfl,rfl,rfl,jC,a1,a2,b1,b2,c1,c2,d1,d2,rfl⟩:=hrel;have HLE:=Aa jC;have pA:=jC.pA; have pB:=jC.pB; have qC:=jC.qC; have qD:=jC.qD;have pA1:=jC.pA1; have pB1:=jC.pB1; have qC1:=jC.qC1; have qD1:=jC.qD1;have pn:=jC.ac2; have qn:=jC.zC;obtain⟨X,hX⟩:∃ X:Nat,A*a+B*b=(X:Int):=⟨(A*a+B*b).toNat,by have:=jC.y0; have:=jC.yx; omega⟩;obtain⟨Y,hY⟩:∃ Y:Nat,C*a+D*b=(Y:Int):=⟨(C*a+D*b).toNat,by have:=jC.y0; omega⟩;have HX:=Aa (And.intro hX (And.intro hY (show X≤a by have:=jC.xa; omega)));have HY:=Aa (show Y≤X∧(B=0∨Y < b)∧Nat.gcd X Y=Nat.gcd a b from⟨by have:=jC.yx; omega,by have:=jC.prog; omega,by have:=jC.gcd; rw[hX,hY] at this; simpa using this⟩);clear jC hX hY;by_cases hC:q+C=0
  ·have t1:(q+C != 0)=false:=by simp[hC]
   clear hC;by_cases hB0:B=0
   ·have tB:(B==0)=true:=by simp[hB0]
    clear hB0;go_wp2
    go_ret3;exact⟨_,rfl,Below.refl _ _,.inl rfl⟩
   ·have tB:(B==0)=false:=by simp[hB0]
    have HB0:=Aa hB0; clear hB0;go_wp2_with fail
    refine(iy w F _ _ a b A B X HVA.out HVB.out hla hlb (by omega) (by omega) (by omega) (by omega) HX.out.1 HX.out.2.2).mono ?_;rintro e w1 ⟨vx,rfl,hb1,hvx⟩;have HVX:=Aa hvx; clear hvx;go_wp2_with fail
    refine(iy w1 F _ _ a b C D Y (HVA.out.below hb1) (HVB.out.below hb1) hla hlb (by omega) (by omega) (by omega) (by omega) HX.out.2.1 (by have:=HY.out.1; have:=HX.out.2.2; omega)).mono ?_;rintro e w2 ⟨vy,rfl,hb2,hvy⟩;have HVY:=Aa hvy; clear hvy;have hz:=hb1.size;go_wp2
    go_ret3;exact⟨_,rfl,hb1.trans (hb2.mono hz),.inr ⟨_,_,X,Y,rfl,HVX.out.below hb2,HVY.out.mono (fun b hb _=>by omega),HY.out.1,HX.out.2.2,HY.out.2.1.resolve_left HB0.out,HY.out.2.2⟩⟩
  ·have t1:(q+C != 0)=true:=by simp[hC]
   have hC':0 < q+C:=by omega
   by_cases hD:q+D=0
   ·have t2:(q+D != 0)=false:=by simp[hD]
    have HC:=Aa hC; clear hC hD;by_cases hB0:B=0
    ·have tB:(B==0)=true:=by simp[hB0]
     clear hB0;go_wp2
     go_ret3;exact⟨_,rfl,Below.refl _ _,.inl rfl⟩
    ·have tB:(B==0)=false:=by simp[hB0]
     have HB0:=Aa hB0; clear hB0;go_wp2_with fail
     refine(iy w F _ _ a b A B X HVA.out HVB.out hla hlb (by omega) (by omega) (by omega) (by omega) HX.out.1 HX.out.2.2).mono ?_;rintro e w1 ⟨vx,rfl,hb1,hvx⟩;have HVX:=Aa hvx; clear hvx;go_wp2_with fail
     refine(iy w1 F _ _ a b C D Y (HVA.out.below hb1) (HVB.out.below hb1) hla hlb (by omega) (by omega) (by omega) (by omega) HX.out.2.1 (by have:=HY.out.1; have:=HX.out.2.2; omega)).mono ?_;rintro e w2 ⟨vy,rfl,hb2,hvy⟩;have HVY:=Aa hvy; clear hvy;have hz:=hb1.size;go_wp2
     go_ret3;exact⟨_,rfl,hb1.trans (hb2.mono hz),.inr ⟨_,_,X,Y,rfl,HVX.out.below hb2,HVY.out.mono (fun b hb _=>by omega),HY.out.1,HX.out.2.2,HY.out.2.1.resolve_left HB0.out,HY.out.2.2⟩⟩
   ·have t2:(q+D != 0)=true:=by simp[hD]
    have hD':0 < q+D:=by omega
    obtain⟨k,hk⟩:∃ k,(p+A) / (q+C)=k:=⟨_,rfl⟩;obtain⟨k2,hk2⟩:∃ k,(p+B) / (q+D)=k:=⟨_,rfl⟩;have kn:0≤k:=by rw[← hk]; exact Int.ediv_nonneg pA qC
    have k2n:0≤k2:=by rw[← hk2]; exact Int.ediv_nonneg pB qD
    have kle:k≤p+A:=by rw[← hk]; exact Int.ediv_le_self _ pA
    have k2le:k2≤p+B:=by rw[← hk2]; exact Int.ediv_le_self _ pB
    have HC:=Aa hC; have HD:=Aa hD; clear hC hD;by_cases hkk:k=k2
    ·subst hkk;have t3:(k != k)=false:=by simp
     obtain⟨_,kb,kq1,kq2,kc1,kc2,kd1,kd2⟩:=HLE.out.bounds HC.out HD.out hk.symm hk2.symm;by_cases hkb:1000000000≤k
     ·clear kq1 kq2 kc1 kc2 kd1 kd2;by_cases hB0:B=0
      ·have tB:(B==0)=true:=by simp[hB0]
       clear hB0;go_wp2
       go_ret3;exact⟨_,rfl,Below.refl _ _,.inl rfl⟩
      ·have tB:(B==0)=false:=by simp[hB0]
       have HB0:=Aa hB0; clear hB0;go_wp2_with fail
       refine(iy w F _ _ a b A B X HVA.out HVB.out hla hlb (by omega) (by omega) (by omega) (by omega) HX.out.1 HX.out.2.2).mono ?_;rintro e w1 ⟨vx,rfl,hb1,hvx⟩;have HVX:=Aa hvx; clear hvx;go_wp2_with fail
       refine(iy w1 F _ _ a b C D Y (HVA.out.below hb1) (HVB.out.below hb1) hla hlb (by omega) (by omega) (by omega) (by omega) HX.out.2.1 (by have:=HY.out.1; have:=HX.out.2.2; omega)).mono ?_;rintro e w2 ⟨vy,rfl,hb2,hvy⟩;have HVY:=Aa hvy; clear hvy;have hz:=hb1.size;go_wp2
       go_ret3;exact⟨_,rfl,hb1.trans (hb2.mono hz),.inr ⟨_,_,X,Y,rfl,HVX.out.below hb2,HVY.out.mono (fun b hb _=>by omega),HY.out.1,HX.out.2.2,HY.out.2.1.resolve_left HB0.out,HY.out.2.2⟩⟩
     ·have t4:decide ((1000000000:Int)≤k)=false:=decide_eq_false hkb;have HST:=Aa (HLE.out.step HC.out HD.out hk.symm hk2.symm);obtain⟨kc,hkc⟩:∃ kc,k*C=kc:=⟨_,rfl⟩;obtain⟨kd,hkd⟩:∃ kd,k*D=kd:=⟨_,rfl⟩;obtain⟨kq,hkq⟩:∃ kq,k*q=kq:=⟨_,rfl⟩;rw[hkc] at kc1 kc2 HST;rw[hkd] at kd1 kd2 HST;rw[hkq] at kq1 kq2 HST;have hm4:=adv;by_cases hmx:1000000000≤aa5 (A - kc) (-(A - kc)) (B - kd) (-(B - kd))
      ·have t5:decide (1000000000≤aa5 (A - kc) (-(A - kc)) (B - kd) (-(B - kd)))=true:=decide_eq_true hmx;clear hmx;by_cases hB0:B=0
       ·have tB:(B==0)=true:=by simp[hB0]
        clear hB0;go_wp2
        go_ret3;exact⟨_,rfl,Below.refl _ _,.inl rfl⟩
       ·have tB:(B==0)=false:=by simp[hB0]
        have HB0:=Aa hB0; clear hB0;go_wp2_with fail
        refine(iy w F _ _ a b A B X HVA.out HVB.out hla hlb (by omega) (by omega) (by omega) (by omega) HX.out.1 HX.out.2.2).mono ?_;rintro e w1 ⟨vx,rfl,hb1,hvx⟩;have HVX:=Aa hvx; clear hvx;go_wp2_with fail
        refine(iy w1 F _ _ a b C D Y (HVA.out.below hb1) (HVB.out.below hb1) hla hlb (by omega) (by omega) (by omega) (by omega) HX.out.2.1 (by have:=HY.out.1; have:=HX.out.2.2; omega)).mono ?_;rintro e w2 ⟨vy,rfl,hb2,hvy⟩;have HVY:=Aa hvy; clear hvy;have hz:=hb1.size;go_wp2
        go_ret3;exact⟨_,rfl,hb1.trans (hb2.mono hz),.inr ⟨_,_,X,Y,rfl,HVX.out.below hb2,HVY.out.mono (fun b hb _=>by omega),HY.out.1,HX.out.2.2,HY.out.2.1.resolve_left HB0.out,HY.out.2.2⟩⟩
      ·have t5:decide (1000000000≤aa5 (A - kc) (-(A - kc)) (B - kd) (-(B - kd)))=false:=decide_eq_false hmx;have hn:=mt afK.2 hmx;have n1:-1000000000 < A - kc:=by omega
       have n2:A - kc < 1000000000:=by omega
       have n3:-1000000000 < B - kd:=by omega
       have n4:B - kd < 1000000000:=by omega
       clear hmx hn;go_wp2
       go_roundw
       case rel=>exact⟨q,p - kq,C,D,A - kc,B - kd,rfl,rfl,rfl,rfl,rfl,rfl,HST.out.1,by omega,by omega,by omega,by omega,by omega,by omega,by omega,by omega,by first | rfl | trivial⟩
       case measure =>
        have h1:=HST.out.2;have h2:=HST.out.1.y0;simp only[intOf];omega
    ·have t3:(k != k2)=true:=by simp[hkk]
     clear hkk;by_cases hB0:B=0
     ·have tB:(B==0)=true:=by simp[hB0]
      clear hB0;go_wp2
      go_ret3;exact⟨_,rfl,Below.refl _ _,.inl rfl⟩
     ·have tB:(B==0)=false:=by simp[hB0]
      have HB0:=Aa hB0; clear hB0;go_wp2_with fail
      refine(iy w F _ _ a b A B X HVA.out HVB.out hla hlb (by omega) (by omega) (by omega) (by omega) HX.out.1 HX.out.2.2).mono ?_;rintro e w1 ⟨vx,rfl,hb1,hvx⟩;have HVX:=Aa hvx; clear hvx;go_wp2_with fail
      refine(iy w1 F _ _ a b C D Y (HVA.out.below hb1) (HVB.out.below hb1) hla hlb (by omega) (by omega) (by omega) (by omega) HX.out.2.1 (by have:=HY.out.1; have:=HX.out.2.2; omega)).mono ?_;rintro e w2 ⟨vy,rfl,hb2,hvy⟩;have HVY:=Aa hvy; clear hvy;have hz:=hb1.size;go_wp2
      go_ret3;exact⟨_,rfl,hb1.trans (hb2.mono hz),.inr ⟨_,_,X,Y,rfl,HVX.out.below hb2,HVY.out.mono (fun b hb _=>by omega),HY.out.1,HX.out.2.2,HY.out.2.1.resolve_left HB0.out,HY.out.2.2⟩⟩
end Go.Proofs.YthmklhapjegfdaaGreatDoor
