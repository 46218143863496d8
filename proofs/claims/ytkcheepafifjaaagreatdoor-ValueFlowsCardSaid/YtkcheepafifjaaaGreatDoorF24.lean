/- The reference's long division: parlourref01.Over. -/
import Derived.Test.YtkcheepafifjaaaGreatDoorF23
import Derived.Test.YtkcheepafifjaaaGreatDoorF17
import Derived.BigQuiet
set_option linter.all false
set_option maxRecDepth 100000
set_option maxHeartbeats 12800000
namespace Go.Proofs.YtkcheepafifjaaaGreatDoor
open Lib renaming hid → Ac
open List renaming getElem_toArray → lq1, getElem_cons_zero → lq2, getElem_cons_succ → lq3, setIfInBounds_toArray → lq4, set_cons_zero → lq5, set_cons_succ → lq6
open Go.RowKit
theorem aeI (w:World) (F:Ag) (va vb:Value) (a b:Nat) (ha:Aj w F va a) (hb:Aj w F vb b) (hb0:b≠0) (hla:(dig a).length≤50000) (hge:b≤a) :
  Calls Tryz.prog 106 #[va,vb] w (Ret w (CQ F w.heap.size a b)):=by
 have HVA:=Ac ha; have HVB:=Ac hb;have hlb:(dig b).length≤(dig a).length:=aK hge;have hord:decide (bK a b < 0)=false:=by
  refine decide_eq_false ?_;unfold bK; split <;> (try split) <;> omega
 obtain⟨A,c,rfl,hc,_⟩:=ha;obtain⟨B,d,rfl,hd,hNb⟩:=hb;obtain⟨n,hn⟩:∃ n,n=(dig b).length:=⟨_,rfl⟩;have hn1':1≤n:=by rw[hn]; exact aY.2 hb0
 obtain⟨b1,o1,rfl,_,hb1',hx⟩:=hNb (by omega);obtain⟨t,ht'⟩:=aB (l:=dig b) (k:=n - 1) (by omega);have et:=hx (n - 1) t ht';unfold bZ at et; rw[Nat.mul_one] at et;have gt:(dig b).getD (n - 1) 0=t:=aI ht';have htl:t < 1000000000:=(aJ b).get ht';have ht1:1≤t:=by have:=(o7 hb0).1; rw[← hn,gt] at this; exact this
 obtain⟨f1,f2,_,_,_⟩:=iL ht1 htl;have hfI:(1000000000:Int) / ((t:Int)+1)=((LB / (t+1):Nat):Int):=by
  rw[show((t:Int)+1)=((t+1:Nat):Int) by omega,show(1000000000:Int)=((LB:Nat):Int) from rfl,lU]
 obtain⟨f,hf⟩:∃ f,f=LB / (t+1):=⟨_,rfl⟩;have hbl:=aeG hn hb0;rw[gt,← hf] at hbl;have hal:(dig (a*f)).length≤(dig a).length+1:=aS (qL (by omega));rw[← hf] at hfI f1 f2;obtain⟨a',ha'⟩:∃ a',a'=a*f:=⟨_,rfl⟩;obtain⟨b',hb'⟩:∃ b',b'=b*f:=⟨_,rfl⟩;rw[← ha'] at hal;rw[← hb'] at hbl;have hba':b'≤a':=by rw[ha',hb']; exact Nat.mul_le_mul_right _ hge
 have agi:b'≠0:=by rw[hb']; exact Nat.mul_ne_zero hb0 (by omega)
 obtain⟨la,xI⟩:∃ la,la=(dig a').length:=⟨_,rfl⟩;have hnla:n≤la:=by rw[xI,← hbl]; exact aK hba'
 have HSC:=Ac (And.intro ha' hb'); have HBL:=Ac hbl; have HLA:=Ac xI;have hlal:la≤50001:=by omega
 rw[← hn] at HVB hd hlb ⊢;have hla2:(dig a).length≤50000:=hla;obtain⟨n1,hn1⟩:∃ n1,n1+1=n:=⟨n - 1,by omega⟩;have i1:(n:Int) - 1=(n1:Int):=by omega
 rw[show n - 1=n1 by omega] at et;have l1:n1 < n:=by omega
 have HN:=Ac hn; have HB0:=Ac hb0;clear hn gt hx ht' hf hge ha' hb' xI hbl hb0;go_enter Tryz.func106,Tryz.ntmps106;go_wp2_with fail
 have Ed:=Ac (show Aj w F (.slice (some ⟨b1,o1,none⟩) n d) b from HVB.out);refine(qR w F _ _ a b HVA.out HVB.out (by omega) (by rw[← HN.out]; omega)).mono ?_;rintro e wn ⟨_,rfl,hb,rfl⟩;have hB:=hb;replace et:=ah et hb;replace HVA:=Ac (HVA.out.below hb);replace HVB:=Ac (HVB.out.below hb);clear hb;generalize bK a b=od at *;dsimp only;go_wp2_with fail
 refine(vC _ f (by omega)).mono ?_;rintro e wn ⟨vf,rfl,hb,hu⟩;have HF:=Ac (hu.mono (G:=fun b=>w.heap.size≤b) (fun b h _=>Nat.le_trans hB.size h)); clear hu;replace et:=ah et hb;replace HVA:=Ac (HVA.out.below hb);replace HVB:=Ac (HVB.out.below hb);replace hB:=hB.trans (hb.mono hB.size);clear hb;dsimp only;go_wp2_with fail
 refine(ji _ (fun b=>F b∨w.heap.size≤b) _ _ a f (HVA.out.mono (fun _ h _=>.inl h)) (HF.out.mono (fun _ h _=>.inr h)) (by omega) (by have:=aS (n:=f) (k:=1) (by unfold LB; omega); omega)).mono ?_;rintro e wn ⟨va',rfl,hb,hu⟩;rw[← HSC.out.1] at hu;have HA:=Ac (hu.mono (G:=fun b=>w.heap.size≤b) (fun b h _=>Nat.le_trans hB.size h)); clear hu;replace et:=ah et hb;replace HVA:=Ac (HVA.out.below hb);replace HVB:=Ac (HVB.out.below hb);replace HF:=Ac (HF.out.below hb);replace hB:=hB.trans (hb.mono hB.size);clear hb;dsimp only;go_wp2_with fail
 refine(ji _ (fun b=>F b∨w.heap.size≤b) _ _ b f (HVB.out.mono (fun _ h _=>.inl h)) (HF.out.mono (fun _ h _=>.inr h)) (by rw[← HN.out]; omega) (by have:=aS (n:=f) (k:=1) (by unfold LB; omega); omega)).mono ?_;rintro e wn ⟨vb',rfl,hb,hu⟩;rw[← HSC.out.2] at hu;have HB:=Ac (hu.mono (G:=fun b=>w.heap.size≤b) (fun b h _=>Nat.le_trans hB.size h)); clear hu;replace et:=ah et hb;replace HVA:=Ac (HVA.out.below hb);replace HVB:=Ac (HVB.out.below hb);replace HF:=Ac (HF.out.below hb);replace HA:=Ac (HA.out.below hb);replace hB:=hB.trans (hb.mono hB.size);clear hb;dsimp only;clear et HVA HVB Ed hb1' i1;obtain⟨Aa,ca,rfl,hca,hNa'⟩:=HA.out;obtain⟨Ab,cb,rfl,hcb,hNb'⟩:=HB.out;obtain⟨ba,oa,rfl,_,hba1,_⟩:=hNa' (by rw[← HLA.out]; omega);obtain⟨bb,ob,rfl,_,hbb1,hxb⟩:=hNb' (by rw[HBL.out]; omega);obtain⟨t',ht2⟩:=aB (l:=dig b') (k:=n1) (by rw[HBL.out]; omega);have et:=hxb n1 t' ht2;unfold bZ at et; rw[Nat.mul_one] at et;have ht'l:t' < 1000000000:=(aJ b').get ht2;have HTP:=Ac (show(dig b').getD ((dig b').length - 1) 0=t' by rw[HBL.out,show n - 1=n1 by omega]; exact aI ht2);have ht'1:1≤t':=by have:=(o7 agi).1; rw[HTP.out] at this; exact this
 rw[← HLA.out] at hca HA ⊢;rw[HBL.out] at hcb HB ⊢;clear hNa' hNb' hxb ht2;have i1:(n:Int) - 1=(n1:Int):=by omega
 obtain⟨m,hm⟩:∃ m,m+n=la+1:=⟨la+1 - n,by omega⟩;have hwm:IntKind.i64.wrap (IntKind.i64.wrap ((la:Int) - (n:Int))+1)=(m:Int):=by rw[IntWalk.i64_in ((la:Int) - (n:Int)) (by omega),IntWalk.i64_in _ (by omega)]; omega
 have HAL:=Ac (show Ak wn (fun b=>w.heap.size≤b) (.slice (some ⟨ba,oa,none⟩) (dig a').length ca) (dig a') by rw[← HLA.out]; exact HA.out);have HDR:=Ac (show Ak wn (fun b=>w.heap.size≤b) (.slice (some ⟨ba,oa+m,none⟩) ((dig a').drop m).length (ca - m)) ((dig a').drop m) from HAL.out.drop (by rw[← HLA.out]; omega) _ _ rfl);have hdl:((dig a').drop m).length=la - m:=by rw[List.length_drop,← HLA.out]
 have HDL:=Ac hdl;obtain⟨D,hD⟩:∃ D,D=(dig a').drop m:=⟨_,rfl⟩;rw[← hD] at HDR HDL hdl;have HDE:=Ac hD; clear hD HAL;have hwb:=hB.size;go_wp2_with fail
 clear hfI i1;refine wp_region_held_drew (S:=fun _=>True) (by kernel_rfl) trivial (fun hHeld=>?_);refine tk0 [0,1,2,3,4,6,7,8,9,10,11,12] ?_;iterate 12 (refine tk (v:=?_) rfl (by kernel_rfl) (by kernel_rfl) (by kernel_rfl) (fun _ _ _ h=>h) (Or.inl ⟨by rfl,?_⟩) hHeld ?_;rotate_left;(focus intro wx hSx;(try dsimp only at hSx);go_split_ands;go_simp;try with_reducible rfl);try simp only[Act.put,lq1,lq2,lq3,lq4,lq5,lq6])
 refine tk1 ?_;clear hwm;refine wC (js:=[5,13,14,15,16]) ((Hold.of (Fact.limbs (fun b=>w.heap.size≤b) D) (.slice (some ⟨ba,oa+m,none⟩) D.length (ca - m))).and (Hold.below wn.heap.size wn))
  [(5,Fact.zeros wn.heap.size m),(13,Fact.limbs (fun b=>w.heap.size≤b) D),(14,Fact.limbs (fun b=>w.heap.size≤b) D),(15,Fact.zeros wn.heap.size m),(16,Fact.limbs (fun b=>w.heap.size≤b) D)] (by kernel_rfl) ⟨Ak.on HDR.out (Same.drewN _ _ 1),Nat.le_refl _,aG (Below.refl _ wn) 1⟩ (fun _ _=>trivial) ?_
 refine Flow.cons (o:=_) rfl (fun wk hS hf K hK=>?_) (fun v5=>?_)
 ·refine ifT' rfl ?_;refine aeF _ _ _ 51 rfl 115 (.int .u32 0) 4 Tryz.underlying51 Tryz.infoU32 rfl m rfl rfl (by omega) (by omega) ?_;intro w1 hb1 hz1 hr1;exact hK.out _ _ hb1 ⟨_,rfl,hS.2.1,by rw[fA]; exact hr1⟩
 try simp only[Act.put,lq1,lq2,lq3,lq4,lq5,lq6]
 refine Flow.cons (o:=_) rfl (fun wk hS hf K hK=>?_) (fun v13=>?_)
 ·have hSl:=hS.1;go_simp;try simp only[Int.toNat_natCast]
  have hml:m≤la:=by omega
  rw[if_pos hml];rw[show la - m=D.length from hdl.symm];by_cases hcm:ca=m
  ·have hD0:D = []:=List.eq_nil_of_length_eq_zero (by omega);rw[if_pos hcm];refine hK.out _ _ (Below.refl _ _) ?_;show Ak wk _ _ D;rw[hD0];exact iC _ _ _ _
  ·rw[if_neg hcm];exact hK.out _ _ (Below.refl _ _) hSl
 try simp only[Act.put,lq1,lq2,lq3,lq4,lq5,lq6]
 refine Flow.cons (o:=_) rfl (fun wk hS hf K hK=>?_) (fun v14=>?_)
 ·have f13:=lq (f:=Fact.limbs (fun b=>w.heap.size≤b) D) (hf (13,v13) (by simp) (by kernel_rfl)) rfl;refine ifT' rfl ?_;refine aak _ _ 51 Tryz.underlying51 rfl none (fun _ h=>by cases h) v13 D rfl rfl f13 (by omega) ?_;intro u w' hb hi;exact hK.out _ _ hb (Ak.keep hi.limbs (fun b h _=>Nat.le_trans (Nat.le_trans hwb hS.2.1) h) (Same.refl _ _))
 try simp only[Act.put,lq1,lq2,lq3,lq4,lq5,lq6]
 refine Flow.cons (o:=_) rfl (fun wk hS hf K hK=>?_) (fun v15=>?_)
 ·have f5:=lq (f:=Fact.zeros wn.heap.size m) (hf (5,v5) (by simp) (by kernel_rfl)) rfl;go_simp;exact hK.out _ _ (Below.refl _ _) f5
 try simp only[Act.put,lq1,lq2,lq3,lq4,lq5,lq6]
 refine Flow.cons (o:=_) rfl (fun wk hS hf K hK=>?_) (fun v16=>?_)
 ·have f14:=lq (f:=Fact.limbs (fun b=>w.heap.size≤b) D) (hf (14,v14) (by simp) (by kernel_rfl)) rfl;go_simp;exact hK.out _ _ (Below.refl _ _) f14
 try simp only[Act.put,lq1,lq2,lq3,lq4,lq5,lq6]
 refine Flow.nil (fun wE hS hf=>?_);have f15:=lq (f:=Fact.zeros wn.heap.size m) (hf (15,v15) (by simp)) rfl;have f16:=lq (f:=Fact.limbs (fun b=>w.heap.size≤b) D) (hf (16,v16) (by simp)) rfl;obtain⟨_,hSz,hSb⟩:=hS;obtain⟨bq,hv15,hbq,hrq⟩:=f15;dsimp only at hv15;subst hv15;have HRQ:=Ac hrq;have hBE:Below wn.heap.size wn wE:=hSb;have hBQ:=hrq.lt;have hR0:aC D < b':=by
  rw[HDE.out];refine Nat.lt_of_lt_of_le (afE a' m) ?_;have h1:=wZ agi;rw[HBL.out] at h1;rw[← HLA.out,show la - m=n - 1 by omega];exact h1
 have HR0:=Ac hR0;have HR16:=Ac (show Aj wE (fun b=>w.heap.size≤b) v16 (aC D) by unfold Aj; rw[HDE.out,ahF,← HDE.out]; exact f16);clear hf f16 hrq hHeld HDR hdl et hR0 hSz;have i4:(la:Int) - (n:Int)=(m:Int) - 1:=by omega
 go_wp2_with fail
 clear i4;try generalize IntKind.i64.wrap ((la:Int) - (n:Int))=jk
 go_loopw [5,9,10,11,12] (fun rv iv _ _ _ wr=>∃ (k R:Nat) (Q:List Nat),k≤m∧iv = .int .i64 ((k:Int) - 1)∧aC ((dig a').drop k)=b'*aC (Q.drop k)+R∧R < b'∧Q.length=m∧Limbs Q∧Row wr bq 115 (aN Q) ∧
  ((k=m∧Aj wr (fun b=>w.heap.size≤b) rv R)∨Bc (bq+1) (dig R) rv wr)∧Below wn.heap.size wn wr∧wE.heap.size≤wr.heap.size) (fun _ iv _ _ _ _=>(intOf iv+1).toNat)
 case atStart =>
  refine⟨m,aC D,List.replicate m 0,Nat.le_refl _,rfl,?_,HR0.out,by simp,Limbs.zeros _,HRQ.out,.inl ⟨rfl,HR16.out⟩,hBE,Nat.le_refl _⟩;rw[← HDE.out,List.drop_of_length_le (by simp)];simp[aC]
 case round =>
  clear HRQ HR0 HR16 hBE;obtain⟨k,R,Q,hk,rfl,hinv,hR,hQl,ai9,hrq,hown,hbel,hsz⟩:=hrel;have hzw:=hbel.size;have hB2:Below w.heap.size w wr:=hB.trans (hbel.mono hwb);have HQL:=Ac hQl; have HQM:=Ac ai9; have HI:=Ac hinv; have HO:=Ac hown;have hvr:Aj wr (fun b=>w.heap.size≤b) u5 R:=by
   rcases hown with h | h
   ·exact h.2
   ·exact Ak.keep h.limbs (fun b hb _=>by omega) (Same.refl _ _)
  have hRl:(dig R).length≤n:=by have:=aK (Nat.le_of_lt hR); rw[HBL.out] at this; exact this
  clear hQl ai9 hinv hown;rcases Nat.eq_zero_or_pos k with h0 | h0
  ·subst h0;have aeJ:Bc (bq+1) (dig R) u5 wr:=by
    rcases HO.out with h | h
    ·omega
    ·exact h
   clear hvr HO;have hsc:=yG (a:=a) (b:=b) (f:=f) (q:=aC Q) (r:=R) (by omega) (by have:=HI.out; rw[List.drop_zero,List.drop_zero,aP,HSC.out.1,HSC.out.2] at this; exact this) (by rw[← HSC.out.2]; exact hR);have HQR:=Ac hsc; clear hsc;have hfd:dig f = [f]:=lQ (by omega) (by unfold LB; omega);obtain⟨Af,cf,hvf,hcf,hNf⟩:=HF.out;have hfl:(dig f).length=1:=by rw[hfd]; rfl
   obtain⟨bf,of,rfl,_,hbf,hxf⟩:=hNf (by omega);have ef:wn.cell? ⟨bf,of,none⟩=some (.int .u32 (f:Int)):=by
    have:=hxf 0 f (by rw[hfd]; rfl);unfold bZ at this;simpa using this
   rw[hfl] at hvf hcf;subst hvf;obtain⟨Ar,cr,rfl,hcr,hrr⟩:=aeJ;obtain⟨t0,ht0⟩:∃ t0,t0=(dig R).length:=⟨_,rfl⟩;rw[← ht0] at hcr hrr hRl ⊢;have HT0:=Ac ht0;have ahG:Ak wr (fun b=>w.heap.size≤b) (.slice (some ⟨bq,0,none⟩) m m) Q:=jC hrq (by show w.heap.size≤bq; omega) HQL.out (Nat.le_refl _);clear hNf hxf hfd hfl HI;rcases Nat.eq_zero_or_pos t0 with h0 | hpos
   ·subst h0;have HR0:=Ac (show R=0 by rw[← vU]; exact HT0.out.symm);have HQW:=Ac ahG; clear ahG;clear ht0;obtain⟨wp,rfl⟩:∃ wp:World,wp=wr:=⟨_,rfl⟩;go_wp2_with fail
    go_loopw [13,14] (fun _ iv wr=>iv = .int .i64 (-1)∧wp=wr) (fun _ _ _=>0)
    case atStart=>exact⟨rfl,rfl⟩
    case round =>
     obtain⟨rfl,rfl⟩:=hrel;go_wp2_with fail
     refine(kY wp (fun b=>w.heap.size≤b) (some ⟨bq,0,none⟩) m m Q HQL.out HQW.out (by omega)).mono ?_;rintro e w' ⟨rfl,rfl⟩;have HTQ:=Ac (Ak.trim HQL.out HQW.out HQM.out);dsimp only;go_wp2_with fail
     refine(kY wp (fun b=>w.heap.size≤b) Ar 0 cr [] rfl (iC _ _ _ _) (by omega)).mono ?_;rintro e w' ⟨rfl,rfl⟩;dsimp only;go_wp2
     go_ret2;refine⟨_,rfl,hB2,_,_,rfl,?_,?_⟩
     ·rw[← HQR.out.1]; exact HTQ.out.mono fun b hb _=>.inr hb
     ·rw[← HQR.out.2,HR0.out,Nat.zero_div];exact Aj.zero _ _ _ _
   ·obtain⟨g,rest,rfl,hg,hrow⟩:=hrr hpos;have hglt:=hrow.lt;have Cc:=Ac hrow;clear hrr ahG hrow ht0;have HRQ2:=Ac hrq; clear hrq;have hd0:aC ((dig R).drop t0)=0:=by rw[List.drop_of_length_le (by rw[← HT0.out]; omega)]; rfl
    obtain⟨wp,rfl⟩:∃ wp:World,wp=wr:=⟨_,rfl⟩;go_wp2_with fail
    go_loopw [13,14] (fun sv iv wr=>∃ (kk s:Nat) (l:List Nat),kk≤t0∧iv = .int .i64 ((kk:Int) - 1)∧sv = .int .u64 (s:Int)∧s < f∧l.length=t0∧l.take kk=(dig R).take kk∧aC ((dig R).drop kk)=f*aC (l.drop kk)+s∧Limbs l ∧
     Row wr g 115 (aN l++rest)∧Row wr bq 115 (aN Q)∧Below wn.heap.size wn wr∧wp.heap.size≤wr.heap.size) (fun _ iv _=>(intOf iv+1).toNat)
    case atStart =>
     exact⟨t0,0,dig R,Nat.le_refl _,rfl,rfl,by omega,HT0.out.symm,rfl,by rw[hd0]; omega,aJ R,Cc.out,HRQ2.out,hbel,Nat.le_refl _⟩
    case round =>
     clear Cc HRQ2 hd0;obtain⟨kk,s,l,hkk,rfl,rfl,hsf,hll,htk,hinv,hlim,hrow,hrq,jL,hsz2⟩:=hrel;have HTK:=Ac htk; have HINV:=Ac hinv; have Ee:=Ac hlim; have HLL:=Ac hll;have hef:wr.cell? ⟨bf,of,none⟩=some (.int .u32 (f:Int)):=(aO jL bf of hbf).trans ef;have hzb:=jL.size;have hBw:Below w.heap.size w wr:=hB.trans (jL.mono hwb);clear htk hinv hlim;rcases Nat.eq_zero_or_pos kk with h0 | h0
     ·subst h0;have hfin:aC l=R / f:=by
       have h1:=HINV.out;rw[List.drop_zero,List.drop_zero,aP] at h1;rw[h1,Nat.mul_add_div (by omega),Nat.div_eq_of_lt hsf,Nat.add_zero]
      have HFIN:=Ac hfin;have HQW:=Ac (show Ak wr (fun b=>w.heap.size≤b) (.slice (some ⟨bq,0,none⟩) m m) Q from jC hrq (by show w.heap.size≤bq; omega) HQL.out (Nat.le_refl _));have HRW:=Ac (show Ak wr (fun b=>w.heap.size≤b) (.slice (some ⟨g,0,none⟩) t0 cr) l from(Bc.limbs (B:=w.heap.size) ⟨_,cr,by rw[hll],by omega,fun _=>⟨g,rest,rfl,by omega,hrow⟩⟩));clear hfin hrow hrq hll;go_wp2_with fail
      refine(kY wr (fun b=>w.heap.size≤b) (some ⟨bq,0,none⟩) m m Q HQL.out HQW.out (by omega)).mono ?_;rintro e w' ⟨rfl,rfl⟩;have HTQ:=Ac (Ak.trim HQL.out HQW.out HQM.out);dsimp only;go_wp2_with fail
      refine(kY wr (fun b=>w.heap.size≤b) (some ⟨g,0,none⟩) t0 cr l HLL.out HRW.out (by omega)).mono ?_;rintro e w' ⟨rfl,rfl⟩;have HTR:=Ac (Ak.trim HLL.out HRW.out Ee.out);dsimp only;go_wp2
      go_ret2;refine⟨_,rfl,hBw,_,_,rfl,?_,?_⟩
      ·rw[← HQR.out.1]; exact HTQ.out.mono fun b hb _=>.inr hb
      ·rw[← HQR.out.2,← HFIN.out]; exact HTR.out.mono fun b hb _=>.inr hb
     ·obtain⟨k2,rfl⟩:∃ k2,kk=k2+1:=⟨kk - 1,by omega⟩;have e3:((k2+1:Nat):Int) - 1=(k2:Int):=by omega
      rw[e3];obtain⟨y,hy⟩:=aB (l:=l) (k:=k2) (by omega);have hyl:y < 1000000000:=Ee.out.get hy;have hyd:(dig R)[k2]? = some y:=by
       have h1:(l.take (k2+1))[k2]? = ((dig R).take (k2+1))[k2]?:=by rw[HTK.out]
       rw[List.getElem?_take_of_lt (by omega),List.getElem?_take_of_lt (by omega),hy] at h1;exact h1.symm
      have hyc:(aN l++rest)[k2]? = some (.int .u32 (y:Int)):=by
       rw[List.getElem?_append_left (by simp; omega)];exact aQ hy
      have ey:=hrow.cell hyc;have fy:=hrow.frozen k2;obtain⟨e,he⟩:∃ e,e=(s*LB+y) / f:=⟨_,rfl⟩;obtain⟨s2,hs2⟩:∃ s2,s2=(s*LB+y) % f:=⟨_,rfl⟩;have hel:e < LB:=by rw[he]; exact sF hsf hyl
      have hs2l:s2 < f:=by rw[hs2]; exact Nat.mod_lt _ (by omega)
      have hqI:((s:Int)*1000000000+(y:Int)) / (f:Int)=(e:Int):=by
       rw[he,← lU]; congr 1
      have hrI:((s:Int)*1000000000+(y:Int)) % (f:Int)=(s2:Int):=by
       rw[hs2,← qA]; congr 1
      have HST:=Ac (uO (A:=0) (q:=l) (a:=dig R) (i:=k2) (d:=f) (r:=s) (r':=s2) (s:=e) (by omega) HINV.out (by rw[aI hyd,he,hs2]; exact(Nat.div_add_mod _ _).symm));have Dh:=Ac hrow; have HRQ3:=Ac hrq;have hgw:g < wr.heap.size:=by omega
      have hell:e < 1000000000:=hel;clear he hs2 hyd hyc hy hrow hrq hll;go_wp2
      go_roundw
      case rel =>
       refine⟨k2,s2,l.set k2 e,by omega,by go_num,by go_num,hs2l,by rw[List.length_set]; exact HLL.out,?_,HST.out,Ee.out.set hel,?_,?_,?_,?_⟩
       ·have h1:=HTK.out;have h2:=congrArg (List.take k2) h1;rw[List.take_take,List.take_take,Nat.min_eq_left (by omega)] at h2;rw[List.take_set_of_le (by omega)];exact h2
       ·have h:=Dh.out.set k2 (.int .u32 (e:Int));rw[List.set_append_left _ _ (by have:=HLL.out; simp; omega),aU] at h;exact h
       ·exact HRQ3.out.other (a:=⟨g,k2,none⟩) (by simp; omega) _
       ·exact jL.setCell (p:=⟨g,k2,none⟩) (by show wn.heap.size≤g; omega) _
       ·simp; omega
      case measure=>simp[intOf]
  ·obtain⟨j,rfl⟩:∃ j,k=j+1:=⟨k - 1,by omega⟩;have e1:((j+1:Nat):Int) - 1=(j:Int):=by omega
   rw[e1];have hjm:j < m:=by omega
   have hjla:j < la:=by omega
   have hRA:=HA.out.below hbel;obtain⟨x,hx'⟩:=aB (l:=dig a') (k:=j) (by rw[← HLA.out]; omega);have ex:wr.cell? ⟨ba,oa+j,none⟩=some (.int .u32 (x:Int)):=by
    obtain⟨A2,c2,hE,_,hh⟩:=hRA;cases hE
    obtain⟨b2,o2,hE2,_,_,hxx⟩:=hh (by rw[← HLA.out]; omega);cases hE2
    have:=hxx j x hx';unfold bZ at this; rw[Nat.mul_one] at this;exact this
   have hxl:x < 1000000000:=(aJ a').get hx';have HX:=Ac (aI hx');clear hx' hRA;have HVR:=Ac hvr;obtain⟨Ar,cr,rfl,hcr,_⟩:=hvr;obtain⟨wp,rfl⟩:∃ wp:World,wp=wr:=⟨_,rfl⟩;go_wp2_with (at_builtin; refine adA (w:=wp) (F:=fun b=>w.heap.size≤b) rfl _ _ 51 Tryz.underlying51 rfl x _ (dig R) rfl rfl rfl HVR.out (by omega) ?_; intro A3 c3 w3 hb3 hi3; have HI3:=Ac hi3; clear hi3)
   have hz3:=hb3.size;refine(kY w3 (fun b=>wp.heap.size≤b) A3 ((dig R).length+1) c3 (x :: dig R) (by simp) HI3.out (by omega)).mono ?_;rintro e w' ⟨rfl,rfl⟩;have htr:=Ak.trim (by simp) HI3.out (fun y hy=>by
    rcases List.mem_cons.1 hy with h | h
    ·subst h; exact hxl
    ·exact aJ R y h)
   rw[show aC (x :: dig R)=x+LB*R by show x+LB*aC (dig R)=_; rw[aP]] at htr;obtain⟨hRb,hRrl⟩:=adB (x:=x) hR HBL.out hxl;obtain⟨Rr,hRr⟩:∃ Rr,Rr=x+LB*R:=⟨_,rfl⟩;rw[← hRr] at htr hRb hRrl;have HRR:=Ac hRr;have hte:dH (x :: dig R) ((dig R).length+1)=(dig Rr).length:=by
    obtain⟨A5,c5,he,_⟩:=htr;injection he
   rw[hte] at htr ⊢;have HTR:=Ac htr;obtain⟨lr,hlr⟩:∃ lr,lr=(dig Rr).length:=⟨_,rfl⟩;rw[← hlr] at hRrl HTR ⊢;have HLR:=Ac hlr;have hxr:∀ k y:Nat,(dig Rr)[k]? = some y→∃ b o,A3=some ⟨b,o,none⟩∧w3.cell? ⟨b,o+k,none⟩=some (.int .u32 (y:Int)):=by
    intro k y hk;obtain⟨A5,c5,he,_,hh⟩:=htr;cases he
    obtain⟨b5,o5,e5,_,_,hx5⟩:=hh (by have:=aF hk; omega);have h9:=hx5 k y hk;unfold bZ at h9; rw[Nat.mul_one] at h9;exact⟨b5,o5,e5,h9⟩
   have HXR:=Ac hxr;clear hRr hte hlr hxr htr HI3 HVR hcr;dsimp only;go_wp2_with fail
   go_loopw [10,11] (fun lv kv wr=>∃ kk L:Nat,kk≤lr∧(n1≤kk∨kk=lr)∧kv = .int .i64 ((kk:Int) - 1)∧lv = .int .u64 (L:Int)∧L=aC ((dig Rr).drop kk)∧w3=wr) (fun _ kv _=>(intOf kv+1).toNat)
   case atStart=>exact⟨lr,0,Nat.le_refl _,.inr rfl,rfl,rfl,by rw[List.drop_of_length_le (by rw[← HLR.out]; omega)]; rfl,rfl⟩
   case round =>
    obtain⟨kk,L,hkk,hkn,rfl,rfl,hL,rfl⟩:=hrel;have HLL:=Ac hL;clear hL;by_cases hkc:n1+1≤kk
    ·obtain⟨k1,rfl⟩:∃ k1,kk=k1+1:=⟨kk - 1,by omega⟩;have e2:((k1+1:Nat):Int) - 1=(k1:Int):=by omega
     rw[e2];obtain⟨y,hy⟩:=aB (l:=dig Rr) (k:=k1) (by rw[← HLR.out]; omega);obtain⟨b5,o5,rfl,ey⟩:=HXR.out k1 y hy;have hyl:y < 1000000000:=(aJ Rr).get hy;have hL1:L < 1000000000:=by
      rw[HLL.out];refine Nat.lt_of_lt_of_le (afE Rr (k1+1)) ?_;rw[← HLR.out];have:LB ^ (lr - (k1+1))≤LB ^ 1:=Nat.pow_le_pow_right (by decide) (by omega);simpa using this
     have HNX:=Ac (agh (n:=n) hy HLL.out);clear hy;have hi5:(n:Int) - 1=(n1:Int):=by omega
     have hc5:decide ((n1:Int)≤(k1:Int))=true:=decide_eq_true (by omega);go_wp2
     go_roundw
     case rel=>exact⟨k1,L*LB+y,by omega,by omega,by go_num,by go_num,HNX.out,by first | rfl | trivial⟩
     case measure=>simp[intOf]
    ·have hLv:L=Rr / LB ^ n1:=by
      rw[HLL.out];rcases hkn with h | h
      ·rw[show kk=n1 by omega,aaZ _ (aJ Rr),aP]
      ·rw[h,List.drop_of_length_le (by rw[← HLR.out]; omega)];have h2:=kR Rr;rw[← HLR.out] at h2;have h3:LB ^ lr≤LB ^ n1:=Nat.pow_le_pow_right (by decide) (by omega);rw[Nat.div_eq_of_lt (by omega)]; rfl
     have HLV:=Ac hLv;clear hLv HLL;have hi5:(n:Int) - 1=(n1:Int):=by omega
     have hc5:decide ((n1:Int)≤(kk:Int) - 1)=false:=decide_eq_false (by omega);have hbn:aC []=0:=rfl;have hge:=ag9 (b:=b') (r:=Rr) agi hRb;rw[HBL.out,show n - 1=n1 by omega,show(dig b').getD n1 0=t' by have:=HTP.out; rwa [HBL.out,show n - 1=n1 by omega] at this,← HLV.out] at hge;obtain⟨q,hq⟩:∃ q,q=L / t':=⟨_,rfl⟩;rw[← hq] at hge;have hqI:(L:Int) / (t':Int)=(q:Int):=by rw[hq,lU]
     have hLlt:L < 1000000000000000000:=by
      rw[HLV.out];refine(Nat.div_lt_iff_lt_mul (Bh _)).2 ?_;refine Nat.lt_of_lt_of_le (kR Rr) ?_;rw[← HLR.out,show(1000000000000000000:Nat)=LB ^ 2 by decide,← Nat.pow_add];exact Nat.pow_le_pow_right (by decide) (by omega)
     have hql:q < 1000000000000000000:=by rw[hq]; exact Nat.lt_of_le_of_lt (Nat.div_le_self _ _) hLlt
     have HGE:=Ac hge;have HB3:=Ac ((HB.out.below hbel).below hb3);clear hq hge hkn;go_wp2_with fail
     all_goals
      go_loopw [12] (fun dv wr=>∃ d:Nat,dv = .int .u64 (d:Int)∧Rr / b'≤d∧d < 1000000000∧Below w3.heap.size w3 wr) (fun dv _=>(intOf dv).toNat)
      case atStart =>
       first
        | exact⟨q,by first | rfl | go_num,by have:=HGE.out; omega,by omega,Below.refl _ _⟩
        | exact⟨999999999,by first | rfl | go_num,by have:=HGE.out; unfold LB at this; omega,by omega,Below.refl _ _⟩
      case round =>
       obtain⟨d,rfl,hdge,hdl,hb4⟩:=hrel;have hz4:=hb4.size;have HD:=Ac hdge;clear hdge;have HBR:=Ac (HB3.out.below hb4);have HRR4:=Ac (Aj.below (n:=Rr) HTR.out hb4);go_wp2_with fail
       refine(vC wr d (by omega)).mono ?_;rintro e w5 ⟨vd,rfl,hb5,hvd⟩;have HVD:=Ac hvd; clear hvd;have hz5:=hb5.size;have HBR5:=Ac (HBR.out.below hb5);have HRR5:=Ac (Aj.below (n:=Rr) HRR4.out hb5);dsimp only;go_wp2_with fail
       refine(ji w5 (fun b=>w.heap.size≤b) _ _ b' d HBR5.out (HVD.out.mono (fun b hb _=>by omega)) (by rw[HBL.out]; omega) (by have:=aS (n:=d) (k:=1) (by unfold LB; omega); omega)).mono ?_;rintro e w6 ⟨vt,rfl,hb6,hvt⟩;have HVT:=Ac hvt; clear hvt;have hz6:=hb6.size;have HRR6:=Ac (Aj.below (n:=Rr) HRR5.out hb6);have hltd:(dig (b'*d)).length≤n+1:=Nat.le_trans (dF _ _) (by rw[HBL.out]; have:=aS (n:=d) (k:=1) (by unfold LB; omega); omega);dsimp only;go_wp2_with fail
       refine(qR w6 (fun b=>w.heap.size≤b) _ _ (b'*d) Rr (HVT.out.mono (fun b hb _=>by omega)) (HRR6.out.mono (fun b hb _=>by omega)) (by omega) (by rw[← HLR.out]; omega)).mono ?_;rintro e w7 ⟨_,rfl,hb7,rfl⟩;have hb47:Below w3.heap.size w3 w7:=hb4.trans ((hb5.trans ((hb6.trans (hb7.mono hz6)).mono hz5)).mono hz4);by_cases hgt:Rr < b'*d
       ·have hdd:decide (0 < bK (b'*d) Rr)=true:=decide_eq_true (adC.2 hgt);have ajr:Rr / b' < d:=(Nat.div_lt_iff_lt_mul (by omega)).2 (by rw[Nat.mul_comm]; exact hgt);have hd1:1≤d:=Nat.lt_of_le_of_lt (Nat.zero_le _) ajr;have HDL:=Ac ajr;clear hgt ajr;dsimp only;go_wp2
        go_roundw
        case rel=>exact⟨d - 1,by go_num,Nat.le_sub_one_of_lt HDL.out,by omega,hb47⟩
        case measure=>simp[intOf]; omega
       ·have hdd:decide (0 < bK (b'*d) Rr)=false:=decide_eq_false (fun h=>hgt (adC.1 h));have hde:d=Rr / b':=aha agi HD.out (by omega);have Ef:=Ac hde;clear hgt hde;have hz7:=hb7.size;have HBR7:=Ac (HBR5.out.below (hb6.trans (hb7.mono hz6)));have HRR7:=Ac (Aj.below (n:=Rr) HRR6.out hb7);have hz47:=hb47.size;dsimp only;go_wp2_with fail
        refine(vC w7 d (by omega)).mono ?_;rintro e w8 ⟨vd,rfl,hb8,hvd⟩;have HVD8:=Ac hvd; clear hvd;have hz8:=hb8.size;dsimp only;go_wp2_with fail
        refine(ji w8 (fun b=>w.heap.size≤b) _ _ b' d (HBR7.out.below hb8) (HVD8.out.mono (fun b hb _=>by omega)) (by rw[HBL.out]; omega) (by have:=aS (n:=d) (k:=1) (by unfold LB; omega); omega)).mono ?_;rintro e w9 ⟨vt,rfl,hb9,hvt⟩;have HVT9:=Ac hvt; clear hvt;have hz9:=hb9.size;have hle9:b'*d≤Rr:=by rw[Ef.out]; exact Nat.mul_div_le _ _
        dsimp only;go_wp2_with fail
        refine(uX w9 (fun b=>w.heap.size≤b) _ _ Rr (b'*d) ((Aj.below (n:=Rr) HRR7.out (hb8.trans (hb9.mono hz8))).mono (fun b hb _=>by omega)) (HVT9.out.mono (fun b hb _=>by omega)) hle9 (by rw[← HLR.out]; omega)).mono ?_;rintro e w10 ⟨_,rfl,hb10,l10,A10,c10,rfl,hn10,hl10,ahH⟩;have aeJ:=oM ahH hl10;rw[hn10,show Rr - b'*d=Rr % b' from afT Ef.out] at aeJ;have ahI:Below w3.heap.size w3 w10:=hb47.trans ((hb8.trans ((hb9.trans (hb10.mono hz9)).mono hz8)).mono hz47);have ahJ:Below wp.heap.size wp w10:=hb3.trans (ahI.mono hz3);have hbqw:bq < wp.heap.size:=Nat.lt_of_lt_of_le hBQ hsz;have afF:=hrq.below ahJ hbqw;have hz10:=hb10.size;have HCOP:=Ac aeJ;have hvl:∃ v10,v10=Value.slice A10 (dH l10 l10.length) c10:=⟨_,rfl⟩;obtain⟨v10,hv10⟩:=hvl;have HV10:=Ac hv10;have hqd:Q.length=m:=HQL.out;have hjQ:(aN Q).length=m:=by simp[hqd]
        obtain⟨yq,hyq⟩:=aB (l:=aN Q) (k:=j) (by omega);have hcq:=afF.cell hyq;have hfq:=afF.frozen j;have ahK:Below wn.heap.size wn w10:=hbel.trans (ahJ.mono hzw);have Es:=Ac ahK;have Et:=Ac afF;have HNXT:=Ac (afU (a:=dig a') (q:=Q) (i:=j) (b:=b') (r:=R) (d:=d) (by omega) HI.out (by rw[HX.out,← HRR.out]; exact Ef.out));have nK:bq+1≤w9.heap.size:=by omega
        have hwq:wE.heap.size≤w10.heap.size:=by omega
        clear ahH hn10 hl10 aeJ hyq afF hb10 hb9 hb8 hb7 hb6 hb5 hb4 ahI ahJ ahK hle9 hv10 hrq;dsimp only;go_wp2
        go_roundw
        case rel =>
         refine⟨j,Rr % b',Q.set j d,by omega,by go_num,?_,Nat.mod_lt _ (by omega),by rw[List.length_set]; exact hqd,HQM.out.set hdl,?_,.inr ?_,?_,?_⟩
         ·have h:=HNXT.out;rw[HX.out,← HRR.out] at h;exact h
         ·have h:=Et.out.set j (.int .u32 (d:Int));rw[aU] at h;exact h
         ·refine Bc.lower (B:=w9.heap.size) (HCOP.out.other (fun g hg _=>?_)) nK;exact Below.heap_setCell _ _ _ _ (fun e=>by simp at e; omega)
         ·exact Es.out.setCell (p:=⟨bq,j,none⟩) hbq _
         ·simp; exact hwq
        case measure=>simp[intOf]
theorem xK (w:World) (F:Ag) (va vb:Value) (a b:Nat) (ha:Aj w F va a) (hb:Aj w F vb b) (hb0:b≠0) (hla:(dig a).length≤50000) (hlb:(dig b).length≤50000) :
  Calls Tryz.prog 106 #[va,vb] w (Ret w (CQ F w.heap.size a b)):=by
 by_cases hlt:a < b
 ·have hord:decide (bK a b < 0)=true:=by rw[iw hlt]; rfl
  have HLT:=Ac hlt;have HVA:=Ac ha; have HVB:=Ac hb;clear ha hb hlt hb0;go_enter Tryz.func106,Tryz.ntmps106;go_wp2_with fail
  refine(qR w F _ _ a b HVA.out HVB.out (by omega) (by omega)).mono ?_;rintro e wn ⟨_,rfl,hb1,rfl⟩;generalize bK a b=od at *;dsimp only;go_wp2
  go_ret2;refine⟨_,rfl,hb1,_,_,rfl,?_,?_⟩
  ·rw[Nat.div_eq_of_lt HLT.out]; exact Aj.zero _ _ _ _
  ·rw[Nat.mod_eq_of_lt HLT.out]; exact HVA.out.ext hb1
 ·exact aeI w F va vb a b ha hb hb0 hla (by omega)
theorem adE (w:World) (F:Ag) (va vb:Value) (a0 b0:Nat) (ha:Aj w F va a0) (hb:Aj w F vb b0) (hla:(dig a0).length≤50000) (hlb:(dig b0).length≤50000) :
  Calls Tryz.prog 105 #[va,vb] w (Ret w fun v w'=>Aj w' (Ext F w.heap.size) v (Nat.gcd a0 b0)):=by
 have HA:=Ac ha; have HB:=Ac hb;clear ha hb;obtain⟨G,hG⟩:∃ G,G=Nat.gcd a0 b0:=⟨_,rfl⟩;rw[← hG];have HG:=Ac hG; clear hG;go_enter Tryz.func105,Tryz.ntmps105;go_wp2_with fail
 go_loopg [0,1,5,6] b0 (fun f va vb _ _ wr=>∃ a b,b=f∧Aj wr (Ext F w.heap.size) va a∧Aj wr (Ext F w.heap.size) vb b∧G=Nat.gcd a b∧(dig a).length≤50000∧(dig b).length≤50000∧Below w.heap.size w wr)
 case atStart=>exact⟨a0,b0,rfl,HA.out.mono (fun b h _=>.inl h),HB.out.mono (fun b h _=>.inl h),HG.out,hla,hlb,Below.refl _ _⟩
 case round =>
  clear HA HB hla hlb HG;obtain⟨a,b,rfl,hna,hnb,wu,hla,hlb,hbel⟩:=hrel;have HNA:=Ac hna; have HNB:=Ac hnb; have HGC:=Ac wu;obtain⟨A,c,rfl,hc,_⟩:=hna;obtain⟨B,d,rfl,hd,_⟩:=hnb;have hz:=hbel.size;clear wu;by_cases hb0:b=0
  ·have d1:decide (0 < (dig b).length)=false:=decide_eq_false (by rw[hb0,aZ]; simp);have HF:=Ac (show G=a by rw[HGC.out,hb0,Nat.gcd_zero_right]);clear hb0;go_wp2
   go_ret;exact⟨_,rfl,hbel,by rw[HF.out]; exact HNA.out⟩
  ·have d1:decide (0 < (dig b).length)=true:=decide_eq_true (aY.2 hb0);have HB0:=Ac hb0;have hml:a % b < b:=Nat.mod_lt _ (by omega);clear hb0;go_wp2_with fail
   refine(xK wr (Ext F w.heap.size) _ _ a b HNA.out HNB.out HB0.out hla hlb).mono ?_;rintro e w2 ⟨_,rfl,hb2,vq,vr,rfl,hq,hr⟩;have HR:=Ac hr;clear hq hr;have hlr:(dig (a % b)).length≤50000:=by have:=aK (Nat.le_of_lt hml); omega
   have HML:=Ac hml;go_wp2
   go_roundg (a % b)
   case measure=>exact HML.out
   case rel=>exact⟨b,a % b,rfl,HNB.out.below hb2,HR.out.mono (fun b hb _=>hb.elim id fun h=>.inr (by omega)),by rw[HGC.out,Nat.gcd_comm,Nat.gcd_rec,Nat.gcd_comm],hlb,hlr,hbel.trans (hb2.mono hz)⟩
theorem aiF {neg:Bool} {n d g:Nat} (hd:d≠0) (hn:n≠0) (hg:g=Nat.gcd n d):ay (mkRat (sgI neg n) d)=⟨neg,dig (n / g),dig (d / g)⟩:=by
 have h:=iY (sgI neg n) hd;rw[nS,← hg] at h;unfold ay;rw[h.1,h.2.1,kS _ hd,tJ hn]
theorem aeK:ay 0=⟨false,[],[1]⟩:=by
 unfold ay;rw[show(0:Rat).num=0 from rfl,show(0:Rat).den=1 from rfl,Int.natAbs_zero,aZ,iD]; rfl
theorem qU (w:World) (F:Ag) (neg:Bool) (vn vd:Value) (n d:Nat) (hn:Aj w F vn n) (hd:Aj w F vd d) (hd0:d≠0) (hln:(dig n).length≤50000) (hld:(dig d).length≤50000) :
  Calls Tryz.prog 69 #[.bool neg,vn,vd] w (Ret w fun v w'=>RtV w' (Ext F w.heap.size) v (mkRat (sgI neg n) d)):=by
 have HN:=Ac hn.old; have HD:=Ac hd.old;obtain⟨A,c,rfl,hc,_⟩:=hn;obtain⟨B,e,rfl,he,_⟩:=hd;by_cases h0:n=0
 ·have HZ:=Ac (show mkRat (sgI neg n) d=0 by rw[h0,afA]);have hl0:(((dig n).length:Int)==0)=true:=by rw[h0,aZ]; rfl
  clear h0 hd0;go_enter Tryz.func69,Tryz.ntmps69;go_wp2
  obtain⟨W,hW,hr,hr2,hB,hz⟩:=alloc2 w 53 #[.bool false,.slice none 0 0,.slice (some ⟨w.heap.size+1,0,none⟩) 1 1] 115 #[.int .u32 1];rw[← hW];clear hW;have t0:=hr.cell (i:=0) rfl;have t1:=hr.cell (i:=1) rfl;have t2:=hr.cell (i:=2) rfl;refine bodyPost_ret (v:=.agg #[.bool false,.slice none 0 0,.slice (some ⟨w.heap.size+1,0,none⟩) 1 1]) (by simp[results,Tryz.results69,go_sem,t0,t1,t2]) rfl ?_;refine⟨_,rfl,hB,?_⟩;unfold RtV;rw[HZ.out,aeK];refine AL.make rfl (iC _ _ _ _) ?_;have h2:=Row.limbs (l:=[1]) (by simpa [aN] using hr2) (F:=Ext F w.heap.size) (.inr (by omega)) (n:=1) (c:=1) (by simp) (Nat.le_refl _);simpa using h2
 ·obtain⟨g,hg⟩:∃ g,g=Nat.gcd n d:=⟨_,rfl⟩;have HLR:=Ac (aiF (neg:=neg) hd0 h0 hg);have hg0:g≠0:=by rw[hg]; exact Nat.ne_of_gt (Nat.gcd_pos_of_pos_right _ (Nat.pos_of_ne_zero hd0))
  have hlg:(dig g).length≤50000:=Nat.le_trans (aK (by rw[hg]; exact Nat.gcd_le_right _ (Nat.pos_of_ne_zero hd0))) hld;have hl0:(((dig n).length:Int)==0)=false:=by have:=aY.2 h0; exact beq_false_of_ne (by omega)
  have HG:=Ac hg;clear hg h0 hd0;go_enter Tryz.func69,Tryz.ntmps69;go_wp2_with fail
  obtain⟨W,hW,hr,hB,hz'⟩:=aH w 53 #[.bool false,.slice none 0 0,.slice none 0 0];rw[← hW];clear hW;have hz:w.heap.size+1≤W.heap.size:=by omega
  clear hz';replace HN:=Ac (Aj.below (n:=n) HN.out hB); replace HD:=Ac (Aj.below (n:=d) HD.out hB);refine(adE _ _ _ _ n d HN.out HD.out hln hld).mono ?_;rintro e wn ⟨vg,rfl,hb,hu⟩;rw[← HG.out] at hu;have HGG:=Ac (hu.mono (G:=(Ext (Old F w.heap.size) (w.heap.size+1))) (fun b hb _=>hb.elim .inl fun h=>.inr (by omega))); clear hu;replace HN:=Ac (HN.out.below hb);replace HD:=Ac (HD.out.below hb);replace hr:=hr.below hb hr.lt;replace hz:=Nat.le_trans hz hb.size;replace hB:=hB.trans (hb.mono hB.size);clear hb;dsimp only;go_wp2_with fail
  refine(xK _ (Ext (Old F w.heap.size) (w.heap.size+1)) _ _ n g (Aj.mono HN.out (fun b hb _=>.inl hb)) HGG.out hg0 hln hlg).mono ?_;rintro e wn ⟨_,rfl,hb,vq,vr,rfl,hu,hu2⟩;have HQ:=Ac (hu.mono (G:=(Ext (Old F w.heap.size) (w.heap.size+1))) (fun b hb _=>hb.elim id fun h=>.inr (by omega)));obtain⟨Aq,cq,rfl,_,_⟩:=hu;clear hu2;replace HN:=Ac (HN.out.below hb);replace HD:=Ac (HD.out.below hb);replace HGG:=Ac (HGG.out.below hb);replace hr:=hr.below hb hr.lt;replace hz:=Nat.le_trans hz hb.size;replace hB:=hB.trans (hb.mono hB.size);clear hb;dsimp only;go_wp2_with fail
  refine(xK _ (Ext (Old F w.heap.size) (w.heap.size+1)) _ _ d g (Aj.mono HD.out (fun b hb _=>.inl hb)) HGG.out hg0 hld hlg).mono ?_;rintro e wn ⟨_,rfl,hb,vq2,vr2,rfl,hu,hu2⟩;have HP:=Ac (hu.mono (G:=(Ext (Old F w.heap.size) (w.heap.size+1))) (fun b hb _=>hb.elim id fun h=>.inr (by omega)));obtain⟨Ap,cp,rfl,_,_⟩:=hu;clear hu2;replace HN:=Ac (HN.out.below hb);replace HD:=Ac (HD.out.below hb);replace HGG:=Ac (HGG.out.below hb);replace HQ:=Ac (HQ.out.below hb);replace hr:=hr.below hb hr.lt;replace hz:=Nat.le_trans hz hb.size;replace hB:=hB.trans (hb.mono hB.size);clear hb;dsimp only;have q0:=hr.cell (i:=0) rfl;have y0:=hr.frozen 0;have q1:=hr.cell (i:=1) rfl;have y1:=hr.frozen 1;have q2:=hr.cell (i:=2) rfl;have y2:=hr.frozen 2;go_wp2
  obtain⟨Wz,hWz,hrz,hwz,hkz⟩:=aV hr (.bool neg) (.slice Aq (dig (n / g)).length cq) (.slice Ap (dig (d / g)).length cp);rw[← hWz];clear hWz q0 q1 q2 y0 y1 y2;have t0:=hrz.cell (i:=0) rfl;have t1:=hrz.cell (i:=1) rfl;have t2:=hrz.cell (i:=2) rfl;refine bodyPost_ret (v:=.agg #[.bool neg,.slice Aq (dig (n / g)).length cq,.slice Ap (dig (d / g)).length cp]) (by simp[results,Tryz.results69,go_sem,t0,t1,t2]) rfl ?_;exact⟨_,rfl,hwz _ _ (Nat.le_refl _) hB,by unfold RtV; rw[HLR.out]; exact(AL.make (r:=⟨neg,dig (n / g),dig (d / g)⟩) rfl HQ.out HP.out).keep (fun b hb _=>hb.elim (fun h=>.inl h.1) fun h=>.inr (by omega)) (hkz _ (fun h=>h.elim (fun h=>by have:=h.2; omega) fun h=>by omega))⟩
theorem aiG (x y:Rat):mkRat (sgI (dI x != dI y) (x.num.natAbs*y.num.natAbs)) (x.den*y.den)=x*y:=by
 rw[ait,kN,kN,← Rat.mul_def']
theorem aiH (x y:Rat):mkRat (sgI (dI x) (x.num.natAbs*y.den)+sgI (dI y) (y.num.natAbs*x.den)) (x.den*y.den)=x+y:=by
 rw[kX,kX,kN,kN,Rat.add_def']
theorem yP (w:World) (F:Ag) (va vb:Value) (x y:Rat) (ha:RtV w F va x) (hb:RtV w F vb y) (hlx:rl x≤20000) (hly:rl y≤20000) :
  Calls Tryz.prog 37 #[va,vb] w (Ret w fun v w'=>RtV w' (Ext F w.heap.size) v (x*y)):=by
 have lx:=gV x; have lx2:=gW x; have ly:=gV y; have ly2:=gW y;have hl1:(dig (x.num.natAbs*y.num.natAbs)).length≤40000:=Nat.le_trans (dF _ _) (by omega);have hl2:(dig (x.den*y.den)).length≤40000:=Nat.le_trans (dF _ _) (by omega);have HML:=Ac (aiG x y);have hd0:x.den*y.den≠0:=Nat.mul_ne_zero x.den_nz y.den_nz;have HX:=Ac ha.old; have HY:=Ac hb.old;obtain⟨A,c,B,d,rfl,hn,hd⟩:=ha.open;obtain⟨A',c',B',d',rfl,hn',hd'⟩:=hb.open;clear hn hd hn' hd' ha hb;go_enter Tryz.func37,Tryz.ntmps37;go_wp2_with fail
 obtain⟨W,hW,rx,ry,rz,hB,hz⟩:=oG w 53 #[.bool (ay x).neg,.slice A (ay x).num.length c,.slice B (ay x).den.length d] 53 #[.bool (ay y).neg,.slice A' (ay y).num.length c',.slice B' (ay y).den.length d'] 53 #[.bool false,.slice none 0 0,.slice none 0 0];rw[← hW];clear hW;replace HX:=Ac (HX.out.on (Below.same' hB _)); replace HY:=Ac (HY.out.on (Below.same' hB _));have hz:w.heap.size+3≤W.heap.size:=hz;have x0:=rx.cell (i:=0) rfl;have x1:=rx.cell (i:=1) rfl;have x2:=rx.cell (i:=2) rfl;have y0:=ry.cell (i:=0) rfl;have y1:=ry.cell (i:=1) rfl;have y2:=ry.cell (i:=2) rfl;clear rx ry;obtain⟨_,_,hh,hn,hd⟩:=HX.out; have HNX:=Ac (Aj.mono (n:=x.num.natAbs) (G:=(Ext (Old F w.heap.size) (w.heap.size+3))) hn (fun b hb _=>.inl hb)); have HDX:=Ac (Aj.mono (n:=x.den) (G:=(Ext (Old F w.heap.size) (w.heap.size+3))) hd (fun b hb _=>.inl hb)); cases hh; clear hn hd;obtain⟨_,_,hh,hn,hd⟩:=HY.out; have HNY:=Ac (Aj.mono (n:=y.num.natAbs) (G:=(Ext (Old F w.heap.size) (w.heap.size+3))) hn (fun b hb _=>.inl hb)); have HDY:=Ac (Aj.mono (n:=y.den) (G:=(Ext (Old F w.heap.size) (w.heap.size+3))) hd (fun b hb _=>.inl hb)); cases hh; clear hn hd;refine aT (fun w'=>w'.cell? ⟨w.heap.size,0,none⟩=some (.bool (ay x).neg)∧w'.cell? ⟨w.heap.size,1,none⟩=some (.slice A (ay x).num.length c)∧w'.cell? ⟨w.heap.size,2,none⟩=some (.slice B (ay x).den.length d)∧w'.cell? ⟨w.heap.size+1,0,none⟩=some (.bool (ay y).neg)∧w'.cell? ⟨w.heap.size+1,1,none⟩=some (.slice A' (ay y).num.length c')∧w'.cell? ⟨w.heap.size+1,2,none⟩=some (.slice B' (ay y).den.length d')) 16 1 (by kernel_rfl) rfl (by kernel_rfl) ?_;have hHeld:(fun w':World=>w'.cell? ⟨w.heap.size,0,none⟩=some (.bool (ay x).neg)∧w'.cell? ⟨w.heap.size,1,none⟩=some (.slice A (ay x).num.length c)∧w'.cell? ⟨w.heap.size,2,none⟩=some (.slice B (ay x).den.length d)∧w'.cell? ⟨w.heap.size+1,0,none⟩=some (.bool (ay y).neg)∧w'.cell? ⟨w.heap.size+1,1,none⟩=some (.slice A' (ay y).num.length c')∧w'.cell? ⟨w.heap.size+1,2,none⟩=some (.slice B' (ay y).den.length d')) W.drew:=⟨x0,x1,x2,y0,y1,y2⟩;simp only[List.take_succ_cons,List.take_zero];have hb:Below W.heap.size W W.drew:=aG (Below.refl _ W) 1;replace x0:=ah x0 hb;replace x1:=ah x1 hb;replace x2:=ah x2 hb;replace y0:=ah y0 hb;replace y1:=ah y1 hb;replace y2:=ah y2 hb;replace HX:=Ac (HX.out.below hb);replace HY:=Ac (HY.out.below hb);replace HNX:=Ac (HNX.out.below hb);replace HNY:=Ac (HNY.out.below hb);replace HDX:=Ac (HDX.out.below hb);replace HDY:=Ac (HDY.out.below hb);replace rz:=rz.below hb rz.lt;replace hz:=Nat.le_trans hz hb.size;replace hB:=hB.trans (hb.mono hB.size);clear hb;generalize W.drew=wn at *;refine tk0 [0,1,2,3,4,5,6,7,8,10,11,12,13] ?_;iterate 13 (refine tk (v:=?_) rfl (by kernel_rfl) (by kernel_rfl) (by kernel_rfl) (fun _ _ _ h=>h) (Or.inl ⟨by rfl,?_⟩) hHeld ?_;rotate_left;(focus intro wx hSx;(try dsimp only at hSx);go_split_ands;go_simp;try with_reducible rfl);try simp only[Act.put,lq1,lq2,lq3,lq4,lq5,lq6])
 refine tk1 ?_;refine tk2 9 (by kernel_rfl) rfl fun K hK=>?_
 go_simp;refine(ji _ _ _ _ x.num.natAbs y.num.natAbs HNX.out HNY.out (by omega) (by omega)).mono ?_;rintro e wn ⟨vn,rfl,hb,hu⟩;have HP:=Ac (hu.mono (G:=(Ext (Old F w.heap.size) (w.heap.size+3))) (fun b hb _=>.inr (by omega))); clear hu;replace x0:=ah x0 hb;replace x1:=ah x1 hb;replace x2:=ah x2 hb;replace y0:=ah y0 hb;replace y1:=ah y1 hb;replace y2:=ah y2 hb;replace HX:=Ac (HX.out.below hb);replace HY:=Ac (HY.out.below hb);replace HNX:=Ac (HNX.out.below hb);replace HNY:=Ac (HNY.out.below hb);replace HDX:=Ac (HDX.out.below hb);replace HDY:=Ac (HDY.out.below hb);replace rz:=rz.below hb rz.lt;replace hz:=Nat.le_trans hz hb.size;replace hB:=hB.trans (hb.mono hB.size);clear hb;dsimp only;clear hHeld;refine hK.out _ _ ⟨x0,x1,x2,y0,y1,y2⟩ (fun hHeld=>?_);clear hK K;try simp only[Act.put,lq1,lq2,lq3,lq4,lq5,lq6]
 refine tk2 14 (by kernel_rfl) rfl fun K hK=>?_
 go_simp;refine(ji _ _ _ _ x.den y.den HDX.out HDY.out (by omega) (by omega)).mono ?_;rintro e wn ⟨vd,rfl,hb,hu⟩;have HQ:=Ac (hu.mono (G:=(Ext (Old F w.heap.size) (w.heap.size+3))) (fun b hb _=>.inr (by omega))); clear hu;replace x0:=ah x0 hb;replace x1:=ah x1 hb;replace x2:=ah x2 hb;replace y0:=ah y0 hb;replace y1:=ah y1 hb;replace y2:=ah y2 hb;replace HX:=Ac (HX.out.below hb);replace HY:=Ac (HY.out.below hb);replace HNX:=Ac (HNX.out.below hb);replace HNY:=Ac (HNY.out.below hb);replace HDX:=Ac (HDX.out.below hb);replace HDY:=Ac (HDY.out.below hb);replace HP:=Ac (HP.out.below hb);replace rz:=rz.below hb rz.lt;replace hz:=Nat.le_trans hz hb.size;replace hB:=hB.trans (hb.mono hB.size);clear hb;dsimp only;clear hHeld;refine hK.out _ _ ⟨x0,x1,x2,y0,y1,y2⟩ (fun hHeld=>?_);clear hK K;try simp only[Act.put,lq1,lq2,lq3,lq4,lq5,lq6]
 refine tk2 15 (by kernel_rfl) rfl fun K hK=>?_
 go_simp;refine(qU _ _ _ _ _ (x.num.natAbs*y.num.natAbs) (x.den*y.den) HP.out HQ.out hd0 (by omega) (by omega)).mono ?_;rintro e wn ⟨vm,rfl,hb,hu⟩;have hu2:RtV wn (Ext (Old F w.heap.size) (w.heap.size+3)) vm (x*y):=by rw[show(!(ay x).neg==(ay y).neg)=(dI x != dI y) from rfl,HML.out] at hu; exact hu.mono (fun b hb _=>hb.elim id fun h=>.inr (by omega))
 have HM:=Ac hu2;obtain⟨Am,cm,Bm,dm,rfl,hn,hd⟩:=hu2.open;clear hn hd hu hu2;replace x0:=ah x0 hb;replace x1:=ah x1 hb;replace x2:=ah x2 hb;replace y0:=ah y0 hb;replace y1:=ah y1 hb;replace y2:=ah y2 hb;replace HX:=Ac (HX.out.below hb);replace HY:=Ac (HY.out.below hb);replace HNX:=Ac (HNX.out.below hb);replace HNY:=Ac (HNY.out.below hb);replace HDX:=Ac (HDX.out.below hb);replace HDY:=Ac (HDY.out.below hb);replace HP:=Ac (HP.out.below hb);replace HQ:=Ac (HQ.out.below hb);replace rz:=rz.below hb rz.lt;replace hz:=Nat.le_trans hz hb.size;replace hB:=hB.trans (hb.mono hB.size);clear hb;dsimp only;clear hHeld;refine hK.out _ _ ⟨x0,x1,x2,y0,y1,y2⟩ (fun hHeld=>?_);clear hK K;try simp only[Act.put,lq1,lq2,lq3,lq4,lq5,lq6]
 refine wpAnyH_done (by kernel_rfl) ?_ _;clear hHeld;show wpList _ _ _ _ _ _;clear x0 x1 x2 y0 y1 y2;have q0:=rz.cell (i:=0) rfl;have y0:=rz.frozen 0;have q1:=rz.cell (i:=1) rfl;have y1:=rz.frozen 1;have q2:=rz.cell (i:=2) rfl;have y2:=rz.frozen 2;go_wp2
 show Exit.then _ _ .normal _ _;go_wp2
 obtain⟨Wz,hWz,hrz,hwz,hkz⟩:=aV rz (.bool (ay (x*y)).neg) (.slice Am (ay (x*y)).num.length cm) (.slice Bm (ay (x*y)).den.length dm);rw[← hWz];clear hWz q0 q1 q2 y0 y1 y2;have t0:=hrz.cell (i:=0) rfl;have t1:=hrz.cell (i:=1) rfl;have t2:=hrz.cell (i:=2) rfl;refine bodyPost_ret (v:=.agg #[.bool (ay (x*y)).neg,.slice Am (ay (x*y)).num.length cm,.slice Bm (ay (x*y)).den.length dm]) (by simp[results,Tryz.results37,go_sem,t0,t1,t2]) rfl ?_;exact⟨_,rfl,hwz _ _ (by omega) hB,HM.out.keep (fun b hb _=>hb.elim (fun h=>.inl h.1) fun h=>.inr (by omega)) (hkz _ (fun h=>h.elim (fun h=>by have:=h.2; omega) fun h=>by omega))⟩
theorem vF (w:World) (F:Ag) (va vb:Value) (x y:Rat) (ha:RtV w F va x) (hb:RtV w F vb y) (hlx:rl x≤20000) (hly:rl y≤20000) :
  Calls Tryz.prog 38 #[va,vb] w (Ret w fun v w'=>RtV w' (Ext F w.heap.size) v (x+y)):=by
 have lx:=gV x; have lx2:=gW x; have ly:=gV y; have ly2:=gW y;obtain⟨p,hp⟩:∃ p,p=x.num.natAbs*y.den:=⟨_,rfl⟩;obtain⟨q,hq⟩:∃ q,q=y.num.natAbs*x.den:=⟨_,rfl⟩;obtain⟨D,hD⟩:∃ D,D=x.den*y.den:=⟨_,rfl⟩;have hlp:(dig p).length≤40000:=by rw[hp]; exact Nat.le_trans (dF _ _) (by omega)
 have hlq:(dig q).length≤40000:=by rw[hq]; exact Nat.le_trans (dF _ _) (by omega)
 have hlD:(dig D).length≤40000:=by rw[hD]; exact Nat.le_trans (dF _ _) (by omega)
 have hls:=rP p q;have hlm1:=aK (Nat.sub_le p q); have hlm2:=aK (Nat.sub_le q p);have hal:=aiH x y;rw[← hp,← hq,← hD] at hal;have HML:=Ac hal; have HP:=Ac hp; have HQ:=Ac hq; have HDD:=Ac hD;have hd0:D≠0:=by rw[hD]; exact Nat.mul_ne_zero x.den_nz y.den_nz
 clear hal hp hq hD;have HX:=Ac ha.old; have HY:=Ac hb.old;obtain⟨A,c,B,d,rfl,hn,hd⟩:=ha.open;obtain⟨A',c',B',d',rfl,hn',hd'⟩:=hb.open;clear hn hd hn' hd' ha hb;go_enter Tryz.func38,Tryz.ntmps38;go_wp2_with fail
 obtain⟨W,hW,rx,ry,rz,hB,hz⟩:=oG w 53 #[.bool (ay x).neg,.slice A (ay x).num.length c,.slice B (ay x).den.length d] 53 #[.bool (ay y).neg,.slice A' (ay y).num.length c',.slice B' (ay y).den.length d'] 53 #[.bool false,.slice none 0 0,.slice none 0 0];rw[← hW];clear hW;replace HX:=Ac (HX.out.on (Below.same' hB _)); replace HY:=Ac (HY.out.on (Below.same' hB _));have hz:w.heap.size+3≤W.heap.size:=hz;have x0:=rx.cell (i:=0) rfl;have x1:=rx.cell (i:=1) rfl;have x2:=rx.cell (i:=2) rfl;have y0:=ry.cell (i:=0) rfl;have y1:=ry.cell (i:=1) rfl;have y2:=ry.cell (i:=2) rfl;clear rx ry;obtain⟨_,_,hh,hn,hd⟩:=HX.out; have HNX:=Ac (Aj.mono (n:=x.num.natAbs) (G:=(Ext (Old F w.heap.size) (w.heap.size+3))) hn (fun b hb _=>.inl hb)); have HDX:=Ac (Aj.mono (n:=x.den) (G:=(Ext (Old F w.heap.size) (w.heap.size+3))) hd (fun b hb _=>.inl hb)); cases hh; clear hn hd;obtain⟨_,_,hh,hn,hd⟩:=HY.out; have HNY:=Ac (Aj.mono (n:=y.num.natAbs) (G:=(Ext (Old F w.heap.size) (w.heap.size+3))) hn (fun b hb _=>.inl hb)); have HDY:=Ac (Aj.mono (n:=y.den) (G:=(Ext (Old F w.heap.size) (w.heap.size+3))) hd (fun b hb _=>.inl hb)); cases hh; clear hn hd;refine wp_region_held_drew (S:=fun w'=>w'.cell? ⟨w.heap.size,0,none⟩=some (.bool (ay x).neg)∧w'.cell? ⟨w.heap.size,1,none⟩=some (.slice A (ay x).num.length c)∧w'.cell? ⟨w.heap.size,2,none⟩=some (.slice B (ay x).den.length d)∧w'.cell? ⟨w.heap.size+1,0,none⟩=some (.bool (ay y).neg)∧w'.cell? ⟨w.heap.size+1,1,none⟩=some (.slice A' (ay y).num.length c')∧w'.cell? ⟨w.heap.size+1,2,none⟩=some (.slice B' (ay y).den.length d')) (by kernel_rfl) ⟨x0,x1,x2,y0,y1,y2⟩ (fun hHeld=>?_);have hb:Below W.heap.size W W.drew:=aG (Below.refl _ W) 1;replace x0:=ah x0 hb;replace x1:=ah x1 hb;replace x2:=ah x2 hb;replace y0:=ah y0 hb;replace y1:=ah y1 hb;replace y2:=ah y2 hb;replace HX:=Ac (HX.out.below hb);replace HY:=Ac (HY.out.below hb);replace HNX:=Ac (HNX.out.below hb);replace HNY:=Ac (HNY.out.below hb);replace HDX:=Ac (HDX.out.below hb);replace HDY:=Ac (HDY.out.below hb);replace rz:=rz.below hb rz.lt;replace hz:=Nat.le_trans hz hb.size;replace hB:=hB.trans (hb.mono hB.size);clear hb;generalize W.drew=wn at *;refine tk0 [0,1,2,3,5,6,7,8,10,11,12,13] ?_;iterate 12 (refine tk (v:=?_) rfl (by kernel_rfl) (by kernel_rfl) (by kernel_rfl) (fun _ _ _ h=>h) (Or.inl ⟨by rfl,?_⟩) hHeld ?_;rotate_left;(focus intro wx hSx;(try dsimp only at hSx);go_split_ands;go_simp;try with_reducible rfl);try simp only[Act.put,lq1,lq2,lq3,lq4,lq5,lq6])
 refine tk1 ?_;refine tk2 4 (by kernel_rfl) rfl fun K hK=>?_
 go_simp;refine(ji _ _ _ _ x.num.natAbs y.den HNX.out HDY.out (by omega) (by omega)).mono ?_;rintro e wn ⟨vp,rfl,hb,hu⟩;rw[← HP.out] at hu;have HVP:=Ac (hu.mono (G:=(Ext (Old F w.heap.size) (w.heap.size+3))) (fun b hb _=>.inr (by omega))); clear hu;replace x0:=ah x0 hb;replace x1:=ah x1 hb;replace x2:=ah x2 hb;replace y0:=ah y0 hb;replace y1:=ah y1 hb;replace y2:=ah y2 hb;replace HX:=Ac (HX.out.below hb);replace HY:=Ac (HY.out.below hb);replace HNX:=Ac (HNX.out.below hb);replace HNY:=Ac (HNY.out.below hb);replace HDX:=Ac (HDX.out.below hb);replace HDY:=Ac (HDY.out.below hb);replace rz:=rz.below hb rz.lt;replace hz:=Nat.le_trans hz hb.size;replace hB:=hB.trans (hb.mono hB.size);clear hb;dsimp only;clear hHeld;refine hK.out _ _ ⟨x0,x1,x2,y0,y1,y2⟩ (fun hHeld=>?_);clear hK K;try simp only[Act.put,lq1,lq2,lq3,lq4,lq5,lq6]
 refine tk2 9 (by kernel_rfl) rfl fun K hK=>?_
 go_simp;refine(ji _ _ _ _ y.num.natAbs x.den HNY.out HDX.out (by omega) (by omega)).mono ?_;rintro e wn ⟨vq,rfl,hb,hu⟩;rw[← HQ.out] at hu;have HVQ:=Ac (hu.mono (G:=(Ext (Old F w.heap.size) (w.heap.size+3))) (fun b hb _=>.inr (by omega))); clear hu;replace x0:=ah x0 hb;replace x1:=ah x1 hb;replace x2:=ah x2 hb;replace y0:=ah y0 hb;replace y1:=ah y1 hb;replace y2:=ah y2 hb;replace HX:=Ac (HX.out.below hb);replace HY:=Ac (HY.out.below hb);replace HNX:=Ac (HNX.out.below hb);replace HNY:=Ac (HNY.out.below hb);replace HDX:=Ac (HDX.out.below hb);replace HDY:=Ac (HDY.out.below hb);replace HVP:=Ac (HVP.out.below hb);replace rz:=rz.below hb rz.lt;replace hz:=Nat.le_trans hz hb.size;replace hB:=hB.trans (hb.mono hB.size);clear hb;dsimp only;clear hHeld;refine hK.out _ _ ⟨x0,x1,x2,y0,y1,y2⟩ (fun hHeld=>?_);clear hK K;try simp only[Act.put,lq1,lq2,lq3,lq4,lq5,lq6]
 refine tk2 14 (by kernel_rfl) rfl fun K hK=>?_
 go_simp;refine(ji _ _ _ _ x.den y.den HDX.out HDY.out (by omega) (by omega)).mono ?_;rintro e wn ⟨vD,rfl,hb,hu⟩;rw[← HDD.out] at hu;have HVD:=Ac (hu.mono (G:=(Ext (Old F w.heap.size) (w.heap.size+3))) (fun b hb _=>.inr (by omega))); clear hu;replace x0:=ah x0 hb;replace x1:=ah x1 hb;replace x2:=ah x2 hb;replace y0:=ah y0 hb;replace y1:=ah y1 hb;replace y2:=ah y2 hb;replace HX:=Ac (HX.out.below hb);replace HY:=Ac (HY.out.below hb);replace HNX:=Ac (HNX.out.below hb);replace HNY:=Ac (HNY.out.below hb);replace HDX:=Ac (HDX.out.below hb);replace HDY:=Ac (HDY.out.below hb);replace HVP:=Ac (HVP.out.below hb);replace HVQ:=Ac (HVQ.out.below hb);replace rz:=rz.below hb rz.lt;replace hz:=Nat.le_trans hz hb.size;replace hB:=hB.trans (hb.mono hB.size);clear hb;dsimp only;clear hHeld;refine hK.out _ _ ⟨x0,x1,x2,y0,y1,y2⟩ (fun hHeld=>?_);clear hK K;try simp only[Act.put,lq1,lq2,lq3,lq4,lq5,lq6]
 refine tk0 [15,16,17] ?_;iterate 3 (refine tk (v:=?_) rfl (by kernel_rfl) (by kernel_rfl) (by kernel_rfl) (fun _ _ _ h=>h) (Or.inl ⟨by rfl,?_⟩) hHeld ?_;rotate_left;(focus intro wx hSx;(try dsimp only at hSx);go_split_ands;go_simp;try with_reducible rfl);try simp only[Act.put,lq1,lq2,lq3,lq4,lq5,lq6])
 refine tk1 ?_;refine wpAnyH_done (by kernel_rfl) ?_ _;clear hHeld;by_cases hs:(ay x).neg=(ay y).neg
 ·have hbb:((ay x).neg==(ay y).neg)=true:=by simp[hs]
  have HJ:=Ac (show mkRat (sgI (ay x).neg (p+q)) D=x+y by rw[← HML.out,← jX x,← jX y,← hs,abq]);clear hs;go_wp2_with fail
  refine aT (fun w'=>w'.cell? ⟨w.heap.size,0,none⟩=some (.bool (ay x).neg)∧w'.cell? ⟨w.heap.size,1,none⟩=some (.slice A (ay x).num.length c)∧w'.cell? ⟨w.heap.size,2,none⟩=some (.slice B (ay x).den.length d)∧w'.cell? ⟨w.heap.size+1,0,none⟩=some (.bool (ay y).neg)∧w'.cell? ⟨w.heap.size+1,1,none⟩=some (.slice A' (ay y).num.length c')∧w'.cell? ⟨w.heap.size+1,2,none⟩=some (.slice B' (ay y).den.length d')) 7 1 (by kernel_rfl) rfl (by kernel_rfl) ?_;have hHeld:(fun w':World=>w'.cell? ⟨w.heap.size,0,none⟩=some (.bool (ay x).neg)∧w'.cell? ⟨w.heap.size,1,none⟩=some (.slice A (ay x).num.length c)∧w'.cell? ⟨w.heap.size,2,none⟩=some (.slice B (ay x).den.length d)∧w'.cell? ⟨w.heap.size+1,0,none⟩=some (.bool (ay y).neg)∧w'.cell? ⟨w.heap.size+1,1,none⟩=some (.slice A' (ay y).num.length c')∧w'.cell? ⟨w.heap.size+1,2,none⟩=some (.slice B' (ay y).den.length d')) wn.drew:=⟨x0,x1,x2,y0,y1,y2⟩;simp only[List.take_succ_cons,List.take_zero];have hb:Below wn.heap.size wn wn.drew:=aG (Below.refl _ wn) 1;replace x0:=ah x0 hb;replace x1:=ah x1 hb;replace x2:=ah x2 hb;replace y0:=ah y0 hb;replace y1:=ah y1 hb;replace y2:=ah y2 hb;replace HX:=Ac (HX.out.below hb);replace HY:=Ac (HY.out.below hb);replace HNX:=Ac (HNX.out.below hb);replace HNY:=Ac (HNY.out.below hb);replace HDX:=Ac (HDX.out.below hb);replace HDY:=Ac (HDY.out.below hb);replace HVP:=Ac (HVP.out.below hb);replace HVQ:=Ac (HVQ.out.below hb);replace HVD:=Ac (HVD.out.below hb);replace rz:=rz.below hb rz.lt;replace hz:=Nat.le_trans hz hb.size;replace hB:=hB.trans (hb.mono hB.size);clear hb;generalize wn.drew=wn at *;refine tk0 [0,1,2,3,5] ?_;iterate 5 (refine tk (v:=?_) rfl (by kernel_rfl) (by kernel_rfl) (by kernel_rfl) (fun _ _ _ h=>h) (Or.inl ⟨by rfl,?_⟩) hHeld ?_;rotate_left;(focus intro wx hSx;(try dsimp only at hSx);go_split_ands;go_simp;try with_reducible rfl);try simp only[Act.put,lq1,lq2,lq3,lq4,lq5,lq6])
  refine tk1 ?_;refine tk2 4 (by kernel_rfl) rfl fun K hK=>?_
  go_simp;refine(af6 _ _ _ _ p q HVP.out HVQ.out (by omega) (by omega)).mono ?_;rintro e wn ⟨vs,rfl,hb,hu⟩;have HVS:=Ac (hu.mono (G:=(Ext (Old F w.heap.size) (w.heap.size+3))) (fun b hb _=>.inr (by omega))); clear hu;replace x0:=ah x0 hb;replace x1:=ah x1 hb;replace x2:=ah x2 hb;replace y0:=ah y0 hb;replace y1:=ah y1 hb;replace y2:=ah y2 hb;replace HX:=Ac (HX.out.below hb);replace HY:=Ac (HY.out.below hb);replace HNX:=Ac (HNX.out.below hb);replace HNY:=Ac (HNY.out.below hb);replace HDX:=Ac (HDX.out.below hb);replace HDY:=Ac (HDY.out.below hb);replace HVP:=Ac (HVP.out.below hb);replace HVQ:=Ac (HVQ.out.below hb);replace HVD:=Ac (HVD.out.below hb);replace rz:=rz.below hb rz.lt;replace hz:=Nat.le_trans hz hb.size;replace hB:=hB.trans (hb.mono hB.size);clear hb;dsimp only;clear hHeld;refine hK.out _ _ ⟨x0,x1,x2,y0,y1,y2⟩ (fun hHeld=>?_);clear hK K;try simp only[Act.put,lq1,lq2,lq3,lq4,lq5,lq6]
  refine tk2 6 (by kernel_rfl) rfl fun K hK=>?_
  go_simp;refine(qU _ (Ext (Old F w.heap.size) (w.heap.size+3)) _ _ _ (p+q) D HVS.out HVD.out hd0 (by omega) (by omega)).mono ?_;rintro e wn ⟨vm,rfl,hb,hu⟩;have hu2:RtV wn (Ext (Old F w.heap.size) (w.heap.size+3)) vm (x+y):=by rw[HJ.out] at hu; exact hu.mono (fun b hb _=>hb.elim id fun h=>.inr (by omega))
  have HM:=Ac hu2;obtain⟨Am,cm,Bm,dm,rfl,hn,hd⟩:=hu2.open;clear hn hd hu hu2;replace x0:=ah x0 hb;replace x1:=ah x1 hb;replace x2:=ah x2 hb;replace y0:=ah y0 hb;replace y1:=ah y1 hb;replace y2:=ah y2 hb;replace HX:=Ac (HX.out.below hb);replace HY:=Ac (HY.out.below hb);replace HNX:=Ac (HNX.out.below hb);replace HNY:=Ac (HNY.out.below hb);replace HDX:=Ac (HDX.out.below hb);replace HDY:=Ac (HDY.out.below hb);replace HVP:=Ac (HVP.out.below hb);replace HVQ:=Ac (HVQ.out.below hb);replace HVD:=Ac (HVD.out.below hb);replace HVS:=Ac (HVS.out.below hb);replace rz:=rz.below hb rz.lt;replace hz:=Nat.le_trans hz hb.size;replace hB:=hB.trans (hb.mono hB.size);clear hb;dsimp only;clear hHeld;refine hK.out _ _ ⟨x0,x1,x2,y0,y1,y2⟩ (fun hHeld=>?_);clear hK K;try simp only[Act.put,lq1,lq2,lq3,lq4,lq5,lq6]
  refine wpAnyH_done (by kernel_rfl) ?_ _;clear hHeld;show wpList _ _ _ _ _ _;clear x0 x1 x2 y0 y1 y2;have q0:=rz.cell (i:=0) rfl;have y0:=rz.frozen 0;have q1:=rz.cell (i:=1) rfl;have y1:=rz.frozen 1;have q2:=rz.cell (i:=2) rfl;have y2:=rz.frozen 2;go_wp2
  show Exit.then _ _ .normal _ _;go_wp2
  obtain⟨Wz,hWz,hrz,hwz,hkz⟩:=aV rz (.bool (ay (x+y)).neg) (.slice Am (ay (x+y)).num.length cm) (.slice Bm (ay (x+y)).den.length dm);rw[← hWz];clear hWz q0 q1 q2 y0 y1 y2;have t0:=hrz.cell (i:=0) rfl;have t1:=hrz.cell (i:=1) rfl;have t2:=hrz.cell (i:=2) rfl;refine bodyPost_ret (v:=.agg #[.bool (ay (x+y)).neg,.slice Am (ay (x+y)).num.length cm,.slice Bm (ay (x+y)).den.length dm]) (by simp[results,Tryz.results38,go_sem,t0,t1,t2]) rfl ?_;exact⟨_,rfl,hwz _ _ (by omega) hB,HM.out.keep (fun b hb _=>hb.elim (fun h=>.inl h.1) fun h=>.inr (by omega)) (hkz _ (fun h=>h.elim (fun h=>by have:=h.2; omega) fun h=>by omega))⟩
 ·have hbb:((ay x).neg==(ay y).neg)=false:=by simp[hs]
  go_wp2_with fail
  refine(qR _ _ _ _ p q HVP.out HVQ.out (by omega) (by omega)).mono ?_;rintro e wn ⟨_,rfl,hb,rfl⟩;replace x0:=ah x0 hb;replace x1:=ah x1 hb;replace x2:=ah x2 hb;replace y0:=ah y0 hb;replace y1:=ah y1 hb;replace y2:=ah y2 hb;replace HX:=Ac (HX.out.below hb);replace HY:=Ac (HY.out.below hb);replace HNX:=Ac (HNX.out.below hb);replace HNY:=Ac (HNY.out.below hb);replace HDX:=Ac (HDX.out.below hb);replace HDY:=Ac (HDY.out.below hb);replace HVP:=Ac (HVP.out.below hb);replace HVQ:=Ac (HVQ.out.below hb);replace HVD:=Ac (HVD.out.below hb);replace rz:=rz.below hb rz.lt;replace hz:=Nat.le_trans hz hb.size;replace hB:=hB.trans (hb.mono hB.size);clear hb;dsimp only;by_cases hpq:q≤p
  ·have hord:decide (0≤bK p q)=true:=decide_eq_true (by unfold bK; split <;> (try split) <;> omega);have HJ:=Ac (show mkRat (sgI (ay x).neg (p - q)) D=x+y by rw[← HML.out,← jX x,← jX y,afB hs hpq]);have HPQ:=Ac hpq; clear hs hpq;generalize bK p q=od at *;go_wp2_with fail
   refine aT (fun w'=>w'.cell? ⟨w.heap.size,0,none⟩=some (.bool (ay x).neg)∧w'.cell? ⟨w.heap.size,1,none⟩=some (.slice A (ay x).num.length c)∧w'.cell? ⟨w.heap.size,2,none⟩=some (.slice B (ay x).den.length d)∧w'.cell? ⟨w.heap.size+1,0,none⟩=some (.bool (ay y).neg)∧w'.cell? ⟨w.heap.size+1,1,none⟩=some (.slice A' (ay y).num.length c')∧w'.cell? ⟨w.heap.size+1,2,none⟩=some (.slice B' (ay y).den.length d')) 7 1 (by kernel_rfl) rfl (by kernel_rfl) ?_;have hHeld:(fun w':World=>w'.cell? ⟨w.heap.size,0,none⟩=some (.bool (ay x).neg)∧w'.cell? ⟨w.heap.size,1,none⟩=some (.slice A (ay x).num.length c)∧w'.cell? ⟨w.heap.size,2,none⟩=some (.slice B (ay x).den.length d)∧w'.cell? ⟨w.heap.size+1,0,none⟩=some (.bool (ay y).neg)∧w'.cell? ⟨w.heap.size+1,1,none⟩=some (.slice A' (ay y).num.length c')∧w'.cell? ⟨w.heap.size+1,2,none⟩=some (.slice B' (ay y).den.length d')) wn.drew:=⟨x0,x1,x2,y0,y1,y2⟩;simp only[List.take_succ_cons,List.take_zero];have hb:Below wn.heap.size wn wn.drew:=aG (Below.refl _ wn) 1;replace x0:=ah x0 hb;replace x1:=ah x1 hb;replace x2:=ah x2 hb;replace y0:=ah y0 hb;replace y1:=ah y1 hb;replace y2:=ah y2 hb;replace HX:=Ac (HX.out.below hb);replace HY:=Ac (HY.out.below hb);replace HNX:=Ac (HNX.out.below hb);replace HNY:=Ac (HNY.out.below hb);replace HDX:=Ac (HDX.out.below hb);replace HDY:=Ac (HDY.out.below hb);replace HVP:=Ac (HVP.out.below hb);replace HVQ:=Ac (HVQ.out.below hb);replace HVD:=Ac (HVD.out.below hb);replace rz:=rz.below hb rz.lt;replace hz:=Nat.le_trans hz hb.size;replace hB:=hB.trans (hb.mono hB.size);clear hb;generalize wn.drew=wn at *;refine tk0 [0,1,2,3,5] ?_;iterate 5 (refine tk (v:=?_) rfl (by kernel_rfl) (by kernel_rfl) (by kernel_rfl) (fun _ _ _ h=>h) (Or.inl ⟨by rfl,?_⟩) hHeld ?_;rotate_left;(focus intro wx hSx;(try dsimp only at hSx);go_split_ands;go_simp;try with_reducible rfl);try simp only[Act.put,lq1,lq2,lq3,lq4,lq5,lq6])
   refine tk1 ?_;refine tk2 4 (by kernel_rfl) rfl fun K hK=>?_
   go_simp;refine(uX _ _ _ _ p q HVP.out HVQ.out HPQ.out (by omega)).mono ?_;rintro e wn ⟨vs,rfl,hb,hu⟩;obtain⟨ls,As,cs,hvs,hns,adF,howns⟩:=hu;subst hvs;have hcs:=oM howns adF;rw[hns] at hcs;have HVS:=Ac (show Aj wn (Ext (Old F w.heap.size) (w.heap.size+3)) (.slice As (dH ls ls.length) cs) (p - q) from Ak.keep (G:=(Ext (Old F w.heap.size) (w.heap.size+3))) hcs.limbs (fun b hb _=>.inr (by omega)) (Same.refl _ _)); clear howns adF hns hcs;replace x0:=ah x0 hb;replace x1:=ah x1 hb;replace x2:=ah x2 hb;replace y0:=ah y0 hb;replace y1:=ah y1 hb;replace y2:=ah y2 hb;replace HX:=Ac (HX.out.below hb);replace HY:=Ac (HY.out.below hb);replace HNX:=Ac (HNX.out.below hb);replace HNY:=Ac (HNY.out.below hb);replace HDX:=Ac (HDX.out.below hb);replace HDY:=Ac (HDY.out.below hb);replace HVP:=Ac (HVP.out.below hb);replace HVQ:=Ac (HVQ.out.below hb);replace HVD:=Ac (HVD.out.below hb);replace rz:=rz.below hb rz.lt;replace hz:=Nat.le_trans hz hb.size;replace hB:=hB.trans (hb.mono hB.size);clear hb;dsimp only;clear hHeld;refine hK.out _ _ ⟨x0,x1,x2,y0,y1,y2⟩ (fun hHeld=>?_);clear hK K;try simp only[Act.put,lq1,lq2,lq3,lq4,lq5,lq6]
   refine tk2 6 (by kernel_rfl) rfl fun K hK=>?_
   go_simp;refine(qU _ (Ext (Old F w.heap.size) (w.heap.size+3)) _ _ _ (p - q) D HVS.out HVD.out hd0 (by omega) (by omega)).mono ?_;rintro e wn ⟨vm,rfl,hb,hu⟩;have hu2:RtV wn (Ext (Old F w.heap.size) (w.heap.size+3)) vm (x+y):=by rw[HJ.out] at hu; exact hu.mono (fun b hb _=>hb.elim id fun h=>.inr (by omega))
   have HM:=Ac hu2;obtain⟨Am,cm,Bm,dm,rfl,hn,hd⟩:=hu2.open;clear hn hd hu hu2;replace x0:=ah x0 hb;replace x1:=ah x1 hb;replace x2:=ah x2 hb;replace y0:=ah y0 hb;replace y1:=ah y1 hb;replace y2:=ah y2 hb;replace HX:=Ac (HX.out.below hb);replace HY:=Ac (HY.out.below hb);replace HNX:=Ac (HNX.out.below hb);replace HNY:=Ac (HNY.out.below hb);replace HDX:=Ac (HDX.out.below hb);replace HDY:=Ac (HDY.out.below hb);replace HVP:=Ac (HVP.out.below hb);replace HVQ:=Ac (HVQ.out.below hb);replace HVD:=Ac (HVD.out.below hb);replace HVS:=Ac (HVS.out.below hb);replace rz:=rz.below hb rz.lt;replace hz:=Nat.le_trans hz hb.size;replace hB:=hB.trans (hb.mono hB.size);clear hb;dsimp only;clear hHeld;refine hK.out _ _ ⟨x0,x1,x2,y0,y1,y2⟩ (fun hHeld=>?_);clear hK K;try simp only[Act.put,lq1,lq2,lq3,lq4,lq5,lq6]
   refine wpAnyH_done (by kernel_rfl) ?_ _;clear hHeld;show wpList _ _ _ _ _ _;clear x0 x1 x2 y0 y1 y2;have q0:=rz.cell (i:=0) rfl;have y0:=rz.frozen 0;have q1:=rz.cell (i:=1) rfl;have y1:=rz.frozen 1;have q2:=rz.cell (i:=2) rfl;have y2:=rz.frozen 2;go_wp2
   show Exit.then _ _ .normal _ _;go_wp2
   obtain⟨Wz,hWz,hrz,hwz,hkz⟩:=aV rz (.bool (ay (x+y)).neg) (.slice Am (ay (x+y)).num.length cm) (.slice Bm (ay (x+y)).den.length dm);rw[← hWz];clear hWz q0 q1 q2 y0 y1 y2;have t0:=hrz.cell (i:=0) rfl;have t1:=hrz.cell (i:=1) rfl;have t2:=hrz.cell (i:=2) rfl;refine bodyPost_ret (v:=.agg #[.bool (ay (x+y)).neg,.slice Am (ay (x+y)).num.length cm,.slice Bm (ay (x+y)).den.length dm]) (by simp[results,Tryz.results38,go_sem,t0,t1,t2]) rfl ?_;exact⟨_,rfl,hwz _ _ (by omega) hB,HM.out.keep (fun b hb _=>hb.elim (fun h=>.inl h.1) fun h=>.inr (by omega)) (hkz _ (fun h=>h.elim (fun h=>by have:=h.2; omega) fun h=>by omega))⟩
  ·have hord:decide (0≤bK p q)=false:=decide_eq_false (by unfold bK; split <;> (try split) <;> omega);have HJ:=Ac (show mkRat (sgI (ay y).neg (q - p)) D=x+y by rw[← HML.out,← jX x,← jX y,afC hs (by omega)]);have HPQ:=Ac (show p≤q by omega); clear hs hpq;generalize bK p q=od at *;go_wp2_with fail
   refine aT (fun w'=>w'.cell? ⟨w.heap.size,0,none⟩=some (.bool (ay x).neg)∧w'.cell? ⟨w.heap.size,1,none⟩=some (.slice A (ay x).num.length c)∧w'.cell? ⟨w.heap.size,2,none⟩=some (.slice B (ay x).den.length d)∧w'.cell? ⟨w.heap.size+1,0,none⟩=some (.bool (ay y).neg)∧w'.cell? ⟨w.heap.size+1,1,none⟩=some (.slice A' (ay y).num.length c')∧w'.cell? ⟨w.heap.size+1,2,none⟩=some (.slice B' (ay y).den.length d')) 7 1 (by kernel_rfl) rfl (by kernel_rfl) ?_;have hHeld:(fun w':World=>w'.cell? ⟨w.heap.size,0,none⟩=some (.bool (ay x).neg)∧w'.cell? ⟨w.heap.size,1,none⟩=some (.slice A (ay x).num.length c)∧w'.cell? ⟨w.heap.size,2,none⟩=some (.slice B (ay x).den.length d)∧w'.cell? ⟨w.heap.size+1,0,none⟩=some (.bool (ay y).neg)∧w'.cell? ⟨w.heap.size+1,1,none⟩=some (.slice A' (ay y).num.length c')∧w'.cell? ⟨w.heap.size+1,2,none⟩=some (.slice B' (ay y).den.length d')) wn.drew:=⟨x0,x1,x2,y0,y1,y2⟩;simp only[List.take_succ_cons,List.take_zero];have hb:Below wn.heap.size wn wn.drew:=aG (Below.refl _ wn) 1;replace x0:=ah x0 hb;replace x1:=ah x1 hb;replace x2:=ah x2 hb;replace y0:=ah y0 hb;replace y1:=ah y1 hb;replace y2:=ah y2 hb;replace HX:=Ac (HX.out.below hb);replace HY:=Ac (HY.out.below hb);replace HNX:=Ac (HNX.out.below hb);replace HNY:=Ac (HNY.out.below hb);replace HDX:=Ac (HDX.out.below hb);replace HDY:=Ac (HDY.out.below hb);replace HVP:=Ac (HVP.out.below hb);replace HVQ:=Ac (HVQ.out.below hb);replace HVD:=Ac (HVD.out.below hb);replace rz:=rz.below hb rz.lt;replace hz:=Nat.le_trans hz hb.size;replace hB:=hB.trans (hb.mono hB.size);clear hb;generalize wn.drew=wn at *;refine tk0 [0,1,2,3,5] ?_;iterate 5 (refine tk (v:=?_) rfl (by kernel_rfl) (by kernel_rfl) (by kernel_rfl) (fun _ _ _ h=>h) (Or.inl ⟨by rfl,?_⟩) hHeld ?_;rotate_left;(focus intro wx hSx;(try dsimp only at hSx);go_split_ands;go_simp;try with_reducible rfl);try simp only[Act.put,lq1,lq2,lq3,lq4,lq5,lq6])
   refine tk1 ?_;refine tk2 4 (by kernel_rfl) rfl fun K hK=>?_
   go_simp;refine(uX _ _ _ _ q p HVQ.out HVP.out HPQ.out (by omega)).mono ?_;rintro e wn ⟨vs,rfl,hb,hu⟩;obtain⟨ls,As,cs,hvs,hns,adF,howns⟩:=hu;subst hvs;have hcs:=oM howns adF;rw[hns] at hcs;have HVS:=Ac (show Aj wn (Ext (Old F w.heap.size) (w.heap.size+3)) (.slice As (dH ls ls.length) cs) (q - p) from Ak.keep (G:=(Ext (Old F w.heap.size) (w.heap.size+3))) hcs.limbs (fun b hb _=>.inr (by omega)) (Same.refl _ _)); clear howns adF hns hcs;replace x0:=ah x0 hb;replace x1:=ah x1 hb;replace x2:=ah x2 hb;replace y0:=ah y0 hb;replace y1:=ah y1 hb;replace y2:=ah y2 hb;replace HX:=Ac (HX.out.below hb);replace HY:=Ac (HY.out.below hb);replace HNX:=Ac (HNX.out.below hb);replace HNY:=Ac (HNY.out.below hb);replace HDX:=Ac (HDX.out.below hb);replace HDY:=Ac (HDY.out.below hb);replace HVP:=Ac (HVP.out.below hb);replace HVQ:=Ac (HVQ.out.below hb);replace HVD:=Ac (HVD.out.below hb);replace rz:=rz.below hb rz.lt;replace hz:=Nat.le_trans hz hb.size;replace hB:=hB.trans (hb.mono hB.size);clear hb;dsimp only;clear hHeld;refine hK.out _ _ ⟨x0,x1,x2,y0,y1,y2⟩ (fun hHeld=>?_);clear hK K;try simp only[Act.put,lq1,lq2,lq3,lq4,lq5,lq6]
   refine tk2 6 (by kernel_rfl) rfl fun K hK=>?_
   go_simp;refine(qU _ (Ext (Old F w.heap.size) (w.heap.size+3)) _ _ _ (q - p) D HVS.out HVD.out hd0 (by omega) (by omega)).mono ?_;rintro e wn ⟨vm,rfl,hb,hu⟩;have hu2:RtV wn (Ext (Old F w.heap.size) (w.heap.size+3)) vm (x+y):=by rw[HJ.out] at hu; exact hu.mono (fun b hb _=>hb.elim id fun h=>.inr (by omega))
   have HM:=Ac hu2;obtain⟨Am,cm,Bm,dm,rfl,hn,hd⟩:=hu2.open;clear hn hd hu hu2;replace x0:=ah x0 hb;replace x1:=ah x1 hb;replace x2:=ah x2 hb;replace y0:=ah y0 hb;replace y1:=ah y1 hb;replace y2:=ah y2 hb;replace HX:=Ac (HX.out.below hb);replace HY:=Ac (HY.out.below hb);replace HNX:=Ac (HNX.out.below hb);replace HNY:=Ac (HNY.out.below hb);replace HDX:=Ac (HDX.out.below hb);replace HDY:=Ac (HDY.out.below hb);replace HVP:=Ac (HVP.out.below hb);replace HVQ:=Ac (HVQ.out.below hb);replace HVD:=Ac (HVD.out.below hb);replace HVS:=Ac (HVS.out.below hb);replace rz:=rz.below hb rz.lt;replace hz:=Nat.le_trans hz hb.size;replace hB:=hB.trans (hb.mono hB.size);clear hb;dsimp only;clear hHeld;refine hK.out _ _ ⟨x0,x1,x2,y0,y1,y2⟩ (fun hHeld=>?_);clear hK K;try simp only[Act.put,lq1,lq2,lq3,lq4,lq5,lq6]
   refine wpAnyH_done (by kernel_rfl) ?_ _;clear hHeld;show wpList _ _ _ _ _ _;clear x0 x1 x2 y0 y1 y2;have q0:=rz.cell (i:=0) rfl;have y0:=rz.frozen 0;have q1:=rz.cell (i:=1) rfl;have y1:=rz.frozen 1;have q2:=rz.cell (i:=2) rfl;have y2:=rz.frozen 2;go_wp2
   show Exit.then _ _ .normal _ _;go_wp2
   obtain⟨Wz,hWz,hrz,hwz,hkz⟩:=aV rz (.bool (ay (x+y)).neg) (.slice Am (ay (x+y)).num.length cm) (.slice Bm (ay (x+y)).den.length dm);rw[← hWz];clear hWz q0 q1 q2 y0 y1 y2;have t0:=hrz.cell (i:=0) rfl;have t1:=hrz.cell (i:=1) rfl;have t2:=hrz.cell (i:=2) rfl;refine bodyPost_ret (v:=.agg #[.bool (ay (x+y)).neg,.slice Am (ay (x+y)).num.length cm,.slice Bm (ay (x+y)).den.length dm]) (by simp[results,Tryz.results38,go_sem,t0,t1,t2]) rfl ?_;exact⟨_,rfl,hwz _ _ (by omega) hB,HM.out.keep (fun b hb _=>hb.elim (fun h=>.inl h.1) fun h=>.inr (by omega)) (hkz _ (fun h=>h.elim (fun h=>by have:=h.2; omega) fun h=>by omega))⟩
theorem abu (w:World) (F:Ag) (v:Value) (x:Rat) (hv:RtV w F v x) :
  Calls Tryz.prog 39 #[v] w (Ret w fun u _=>u = .bool (decide (x=0))):=by
 obtain⟨A,c,B,d,rfl,hn,hd⟩:=hv.open;clear hn hd hv;rw[jX,tV];generalize (ay x).den.length=dl;by_cases h:x=0
 ·have h0:=aaf h;have HD:=Ac (show decide (x=0)=true from decide_eq_true h);clear h;go_enter Tryz.func39,Tryz.ntmps39;go_wp2
  go_ret;exact⟨_,rfl,(Below.refl _ _).alloc (Nat.le_refl _) _,by rw[HD.out]; rfl⟩
 ·have h0:=aag h;have HD:=Ac (show decide (x=0)=false from decide_eq_false h);clear h;go_enter Tryz.func39,Tryz.ntmps39;go_wp2
  go_ret;exact⟨_,rfl,(Below.refl _ _).alloc (Nat.le_refl _) _,by rw[HD.out]; rfl⟩
theorem uf (w:World) (n:Nat) (h2:n≤1000000000000) :
  Calls Tryz.prog 101 #[.int .i64 (n:Int)] w (Ret w fun v w'=>Aj w' (fun b=>w.heap.size≤b) v n):=by
 go_enter Tryz.func101,Tryz.ntmps101;go_wp2
 go_loopw [0,3] (fun u v wr=>∃ (m:Nat) (l:List Nat),u = .int .i64 (m:Int)∧m≤1000000000000∧l++dig m=dig n∧wr.ownsRow w.heap.size 115 1 v l.length (aN l)∧Below w.heap.size w wr) (fun u _ _=>(intOf u).natAbs)
 case atStart=>exact⟨n,[],rfl,h2,rfl,World.ownsRow_nil _ _ _ _,Below.refl _ _⟩
 case round =>
  obtain⟨m,l,rfl,hm2,hd,hown,hbel⟩:=hrel;have HD:=Ac hd;have HO:=Ac hown;have hll:l.length≤1000000:=by
   have h1:(dig n).length≤3:=aS (by unfold LB; omega);rw[← hd,List.length_append] at h1; omega
  clear hd hown;by_cases h0:m=0
  ·subst h0;go_wp2
   go_ret;refine⟨_,rfl,hbel,?_⟩;have h2:=HD.out;rw[aZ,List.append_nil] at h2;unfold Aj; rw[← h2];exact jf HO.out fun b hb=>(HO.out.lt b hb).1
  ·have hne:decide (0 < m)=true:=by simp; omega
   have HD2:=Ac (show l ++ [m % 1000000000]++dig (m / 1000000000)=dig n by rw[← HD.out,lN h0]; simp[LB]);obtain⟨r,hr⟩:∃ r:Nat,r=m % 1000000000:=⟨_,rfl⟩;obtain⟨m2,ajs⟩:∃ m2:Nat,m2=m / 1000000000:=⟨_,rfl⟩;rw[← hr,← ajs] at HD2;have hr9:r < 1000000000:=by omega
   have HLT:=Ac (show m2 < m by omega);have hm2b:m2≤1000000000000:=by omega
   have ht:(m:Int).tmod 1000000000=(r:Int):=by rw[hr]; rfl
   have hq:(m:Int).tdiv 1000000000=(m2:Int):=by rw[ajs]; rfl
   clear hr ajs h0;go_wp2_with (at_builtin; refine bV rfl _ _ 51 Tryz.underlying51 rfl w.heap.size (Nat.le_refl _) u3 l rfl _ r (by omega) hll rfl HO.out hbel ?_; intro g cap w' hown' dD hlt' jE; have HO':=Ac hown'; clear hown' jE)
   go_roundw
   case rel=>exact⟨m2,l ++ [r],by go_num,hm2b,HD2.out,by simpa using HO'.out,dD⟩
   case measure=>simp only[intOf]; have:=HLT.out; omega
theorem afG (w:World) (a b:Nat) (h1:a≤1000000000000) (h2:b≤1000000000000) :
  Calls Tryz.prog 100 #[.int .i64 (a:Int),.int .i64 (b:Int)] w (Ret w fun v _=>v = .int .i64 (Nat.gcd a b:Int)):=by
 go_enter Tryz.func100,Tryz.ntmps100;go_wp2
 go_loopw [0,1] (fun u v wr=>∃ (x y:Nat),u = .int .i64 (x:Int)∧v = .int .i64 (y:Int)∧x≤1000000000000∧y≤1000000000000∧Nat.gcd x y=Nat.gcd a b∧Below w.heap.size w wr) (fun _ v _=>(intOf v).natAbs)
 case atStart=>exact⟨a,b,rfl,rfl,h1,h2,rfl,Below.refl _ _⟩
 case round =>
  obtain⟨x,y,rfl,rfl,hx,hy,hg,hbel⟩:=hrel;have HG:=Ac hg; clear hg;by_cases h0:y=0
  ·subst h0;have hmx:(if -(x:Int) > (x:Int) then -(x:Int) else (x:Int))=(x:Int):=if_neg (by omega);have hnl:¬ ((x:Int) < -(x:Int)):=by omega
   go_wp2
   go_ret;refine⟨_,rfl,hbel,?_⟩;have:=HG.out;rw[Nat.gcd_zero_right] at this;rw[← this]; first | rfl | (rw[hmx]) | (simp[hnl])
  ·have hne:((y:Int) != 0)=true:=by simp; omega
   obtain⟨r,hr⟩:∃ r:Nat,r=x % y:=⟨_,rfl⟩;have ht:(x:Int).tmod (y:Int)=(r:Int):=by rw[hr]; rfl
   have hlt:r < y:=by rw[hr]; exact Nat.mod_lt _ (by omega)
   have HG2:=Ac (show Nat.gcd y r=Nat.gcd a b by rw[← HG.out,hr,Nat.gcd_comm x y,Nat.gcd_rec y x,Nat.gcd_comm]);clear hr;have hy0:(y:Int)≠0:=by omega
   go_wp2
   go_quiet (fail)
   go_wp2
   go_roundw
   case rel=>exact⟨y,r,rfl,by go_num,hy,by omega,HG2.out,aG hbel _⟩
   case measure=>simp only[intOf]; omega
theorem lD (neg:Bool) (n b:Nat) (hb:b≠0):ay (mkRat (sgI neg n) b)=⟨neg&&decide (n≠0),dig (n / Nat.gcd n b),dig (b / Nat.gcd n b)⟩:=by
 have h:=iY (sgI neg n) hb;rw[nS] at h;unfold ay;rw[h.1,h.2.1,kS _ hb];by_cases h0:n=0
 ·subst h0; rw[zG]; simp
 ·rw[tJ h0]; simp[h0]
theorem abv (w:World) (n b:Nat) (h1:n≤1000000000000) (h2:b≤1000000000000) (hb0:b≠0) :
  Calls Tryz.prog 64 #[.int .i64 (n:Int),.int .i64 (b:Int)] w (Ret w fun v w'=>RtV w' (fun b=>w.heap.size≤b) v (mkRat (sgI false n) b)):=by
 have HM:=Ac (lD false n b hb0);unfold RtV;rw[HM.out];clear HM;have hg0:0 < Nat.gcd n b:=Nat.gcd_pos_of_pos_right _ (by omega);have HGN:=Ac (Nat.gcd_dvd_left n b);have HG:=Ac (show ∀ w,Calls Tryz.prog 100 #[.int .i64 (n:Int),.int .i64 (b:Int)] w (Ret w fun v _=>v = .int .i64 (Nat.gcd n b:Int)) from fun w=>afG w n b h1 h2);generalize Nat.gcd n b=g at *;have e1:n / g≤n:=Nat.div_le_self _ _;have e2:b / g≤b:=Nat.div_le_self _ _;have t2:(b:Int).tdiv (g:Int)=((b / g:Nat):Int):=rfl;have hgz:(g:Int)≠0:=by omega
 have t1:(n:Int).tdiv (g:Int)=((n / g:Nat):Int):=rfl;have hbn:(false&&decide (n≠0))=false:=rfl;rw[hbn];have h1':n≤1000000000000:=h1;obtain⟨q,hq⟩:∃ q,q=n / g:=⟨_,rfl⟩;obtain⟨d,hd⟩:∃ d,d=b / g:=⟨_,rfl⟩;rw[← hq] at t1 e1 ⊢;rw[← hd] at t2 e2 ⊢;clear hq hd hbn;have hmx:(if -(n:Int) > (n:Int) then -(n:Int) else (n:Int))=(n:Int):=if_neg (by omega);have hnl:¬ ((n:Int) < -(n:Int)):=by omega
 have hlt:decide ((q:Int) < 0)=false:=decide_eq_false (by omega);go_enter Tryz.func64,Tryz.ntmps64;go_wp2_with fail
 obtain⟨W,hW,hr,hB,hz'⟩:=aH w 53 #[.bool false,.slice none 0 0,.slice none 0 0];rw[← hW];clear hW;have hz:w.heap.size+1≤W.heap.size:=by omega
 clear hz';try rw[hmx]
 refine(HG.out _).mono ?_;rintro e wn ⟨vn,rfl,hb,rfl⟩;replace hr:=hr.below hb hr.lt;replace hz:=Nat.le_trans hz hb.size;replace hB:=hB.trans (hb.mono hB.size);clear hb;dsimp only;go_wp2_with fail
 go_quiet (fail)
 have hb:Below wn.heap.size wn (wn.drewN nq):=aG (Below.refl _ wn) nq;replace hr:=hr.below hb hr.lt;replace hz:=Nat.le_trans hz hb.size;replace hB:=hB.trans (hb.mono hB.size);clear hb;generalize wn.drewN nq=wn at *;go_wp2_with fail
 refine(uf _ q (by omega)).mono ?_;rintro e wn ⟨vn,rfl,hb,hu⟩;have HN:=Ac (hu.mono (G:=(fun b=>w.heap.size+1≤b)) (fun b hb _=>by omega)); clear hu;replace hr:=hr.below hb hr.lt;replace hz:=Nat.le_trans hz hb.size;replace hB:=hB.trans (hb.mono hB.size);clear hb;dsimp only;go_wp2_with fail
 refine(uf _ d (by omega)).mono ?_;rintro e wn ⟨vd,rfl,hb,hu⟩;have HD:=Ac (hu.mono (G:=(fun b=>w.heap.size+1≤b)) (fun b hb _=>by omega)); clear hu;replace HN:=Ac (HN.out.below hb);replace hr:=hr.below hb hr.lt;replace hz:=Nat.le_trans hz hb.size;replace hB:=hB.trans (hb.mono hB.size);clear hb;have hn:=HN.out; have hd:=HD.out;obtain⟨Am,cm,rfl,_,_⟩:=hn;obtain⟨Bm,dm,rfl,_,_⟩:=hd;dsimp only;have q0:=hr.cell (i:=0) rfl;have y0:=hr.frozen 0;have q1:=hr.cell (i:=1) rfl;have y1:=hr.frozen 1;have q2:=hr.cell (i:=2) rfl;have y2:=hr.frozen 2;go_wp2
 obtain⟨Wz,hWz,hrz,hwz,hkz⟩:=aV hr (.bool false) (.slice Am (dig q).length cm) (.slice Bm (dig d).length dm);rw[← hWz];clear hWz q0 q1 q2 y0 y1 y2;have t0:=hrz.cell (i:=0) rfl;have t1:=hrz.cell (i:=1) rfl;have t2:=hrz.cell (i:=2) rfl;refine bodyPost_ret (v:=.agg #[.bool false,.slice Am (dig q).length cm,.slice Bm (dig d).length dm]) (by simp[results,Tryz.results64,go_sem,t0,t1,t2]) rfl ?_;exact⟨_,rfl,hwz _ _ (Nat.le_refl _) hB,_,_,rfl,(HN.out.on (hkz _ (by omega))).mono (fun b hb _=>by omega),(HD.out.on (hkz _ (by omega))).mono (fun b hb _=>by omega)⟩
theorem agj (w:World) (n b:Nat) (h1:n≤1000000000000) (h2:b≤1000000000000) (hb0:b≠0) (hn0:n≠0) :
  Calls Tryz.prog 64 #[.int .i64 (-(n:Int)),.int .i64 (b:Int)] w (Ret w fun v w'=>RtV w' (fun b=>w.heap.size≤b) v (mkRat (sgI true n) b)):=by
 have HM:=Ac (lD true n b hb0);unfold RtV;rw[HM.out];clear HM;have hg0:0 < Nat.gcd n b:=Nat.gcd_pos_of_pos_right _ (by omega);have HGN:=Ac (Nat.gcd_dvd_left n b);have HG:=Ac (show ∀ w,Calls Tryz.prog 100 #[.int .i64 (n:Int),.int .i64 (b:Int)] w (Ret w fun v _=>v = .int .i64 (Nat.gcd n b:Int)) from fun w=>afG w n b h1 h2);generalize Nat.gcd n b=g at *;have e1:n / g≤n:=Nat.div_le_self _ _;have e2:b / g≤b:=Nat.div_le_self _ _;have t2:(b:Int).tdiv (g:Int)=((b / g:Nat):Int):=rfl;have hgz:(g:Int)≠0:=by omega
 have t1:(-(n:Int)).tdiv (g:Int) = -((n / g:Nat):Int):=by rw[Int.neg_tdiv]; rfl
 have hq0:0 < n / g:=Nat.div_pos (Nat.le_of_dvd (by omega) HGN.out) hg0;have hbn:(true&&decide (n≠0))=true:=by simp[hn0]
 rw[hbn];have h1':n≤1000000000000:=h1;obtain⟨q,hq⟩:∃ q,q=n / g:=⟨_,rfl⟩;obtain⟨d,hd⟩:∃ d,d=b / g:=⟨_,rfl⟩;rw[← hq] at t1 e1 ⊢;rw[← hd] at t2 e2 ⊢;rw[← hq] at hq0;clear hq hd hbn;have hmx:(if - -(n:Int) > -(n:Int) then - -(n:Int) else -(n:Int))=(n:Int):=by rw[if_pos (by omega)]; omega
 have hnl:(-(n:Int) < - -(n:Int)):=by omega
 have aa1:(-(n:Int) < (n:Int)):=by omega
 have hlt:decide (-(q:Int) < 0)=true:=decide_eq_true (by omega);have hlt2:decide (0 < q)=true:=decide_eq_true hq0;go_enter Tryz.func64,Tryz.ntmps64;go_wp2_with fail
 obtain⟨W,hW,hr,hB,hz'⟩:=aH w 53 #[.bool false,.slice none 0 0,.slice none 0 0];rw[← hW];clear hW;have hz:w.heap.size+1≤W.heap.size:=by omega
 clear hz';try rw[hmx]
 refine(HG.out _).mono ?_;rintro e wn ⟨vn,rfl,hb,rfl⟩;replace hr:=hr.below hb hr.lt;replace hz:=Nat.le_trans hz hb.size;replace hB:=hB.trans (hb.mono hB.size);clear hb;dsimp only;go_wp2_with fail
 go_quiet (fail)
 have hb:Below wn.heap.size wn (wn.drewN nq):=aG (Below.refl _ wn) nq;replace hr:=hr.below hb hr.lt;replace hz:=Nat.le_trans hz hb.size;replace hB:=hB.trans (hb.mono hB.size);clear hb;generalize wn.drewN nq=wn at *;go_wp2_with fail
 refine(uf _ q (by omega)).mono ?_;rintro e wn ⟨vn,rfl,hb,hu⟩;have HN:=Ac (hu.mono (G:=(fun b=>w.heap.size+1≤b)) (fun b hb _=>by omega)); clear hu;replace hr:=hr.below hb hr.lt;replace hz:=Nat.le_trans hz hb.size;replace hB:=hB.trans (hb.mono hB.size);clear hb;dsimp only;go_wp2_with fail
 refine(uf _ d (by omega)).mono ?_;rintro e wn ⟨vd,rfl,hb,hu⟩;have HD:=Ac (hu.mono (G:=(fun b=>w.heap.size+1≤b)) (fun b hb _=>by omega)); clear hu;replace HN:=Ac (HN.out.below hb);replace hr:=hr.below hb hr.lt;replace hz:=Nat.le_trans hz hb.size;replace hB:=hB.trans (hb.mono hB.size);clear hb;have hn:=HN.out; have hd:=HD.out;obtain⟨Am,cm,rfl,_,_⟩:=hn;obtain⟨Bm,dm,rfl,_,_⟩:=hd;dsimp only;have q0:=hr.cell (i:=0) rfl;have y0:=hr.frozen 0;have q1:=hr.cell (i:=1) rfl;have y1:=hr.frozen 1;have q2:=hr.cell (i:=2) rfl;have y2:=hr.frozen 2;go_wp2
 obtain⟨Wz,hWz,hrz,hwz,hkz⟩:=aV hr (.bool true) (.slice Am (dig q).length cm) (.slice Bm (dig d).length dm);rw[← hWz];clear hWz q0 q1 q2 y0 y1 y2;have t0:=hrz.cell (i:=0) rfl;have t1:=hrz.cell (i:=1) rfl;have t2:=hrz.cell (i:=2) rfl;refine bodyPost_ret (v:=.agg #[.bool true,.slice Am (dig q).length cm,.slice Bm (dig d).length dm]) (by simp[results,Tryz.results64,go_sem,t0,t1,t2]) rfl ?_;exact⟨_,rfl,hwz _ _ (Nat.le_refl _) hB,_,_,rfl,(HN.out.on (hkz _ (by omega))).mono (fun b hb _=>by omega),(HD.out.on (hkz _ (by omega))).mono (fun b hb _=>by omega)⟩
theorem xM (w:World) (a:Int) (b:Nat) (h1:-1000000000000≤a) (h2:a≤1000000000000) (h3:b≤1000000000000) (hb0:b≠0) :
  Calls Tryz.prog 64 #[.int .i64 a,.int .i64 (b:Int)] w (Ret w fun v w'=>RtV w' (fun b=>w.heap.size≤b) v (mkRat a b)):=by
 obtain⟨n,rfl | rfl⟩:=Int.eq_nat_or_neg a
 ·have:=abv w n b (by omega) h3 hb0;simpa [sgI] using this
 ·by_cases h0:n=0
  ·subst h0;have:=abv w 0 b (by omega) h3 hb0;simpa [sgI] using this
  ·have:=agj w n b (by omega) h3 hb0 h0;simpa [sgI] using this
theorem gX (w:World) (a:Int) (b:Nat) (h1:-1000000000000≤a) (h2:a≤1000000000000) (h3:b≤1000000000000) (hb0:b≠0) :
  Calls Tryz.prog 32 #[.int .i64 a,.int .i64 (b:Int)] w (Ret w fun v w'=>RtV w' (fun b=>w.heap.size≤b) v (mkRat a b)):=by
 have HR:=Ac (fun w=>xM w a b h1 h2 h3 hb0);generalize mkRat a b=x at *;go_enter Tryz.func32,Tryz.ntmps32;go_wp2_with fail
 obtain⟨W,hW,hr,hB,hz'⟩:=aH w 53 #[.bool false,.slice none 0 0,.slice none 0 0];rw[← hW];clear hW;have hz:w.heap.size+1≤W.heap.size:=by omega
 clear hz';refine(HR.out _).mono ?_;rintro e wn ⟨vm,rfl,hb,hu⟩;have hu2:RtV wn (fun b=>w.heap.size+1≤b) vm x:=hu.mono (fun b hb _=>by omega);have HM:=Ac hu2;obtain⟨Am,cm,Bm,dm,rfl,hn,hd⟩:=hu2.open;clear hn hd hu hu2;replace hr:=hr.below hb hr.lt;replace hz:=Nat.le_trans hz hb.size;replace hB:=hB.trans (hb.mono hB.size);clear hb;dsimp only;have q0:=hr.cell (i:=0) rfl;have y0:=hr.frozen 0;have q1:=hr.cell (i:=1) rfl;have y1:=hr.frozen 1;have q2:=hr.cell (i:=2) rfl;have y2:=hr.frozen 2;go_wp2
 obtain⟨Wz,hWz,hrz,hwz,hkz⟩:=aV hr (.bool (ay x).neg) (.slice Am (ay x).num.length cm) (.slice Bm (ay x).den.length dm);rw[← hWz];clear hWz q0 q1 q2 y0 y1 y2;have t0:=hrz.cell (i:=0) rfl;have t1:=hrz.cell (i:=1) rfl;have t2:=hrz.cell (i:=2) rfl;refine bodyPost_ret (v:=.agg #[.bool (ay x).neg,.slice Am (ay x).num.length cm,.slice Bm (ay x).den.length dm]) (by simp[results,Tryz.results32,go_sem,t0,t1,t2]) rfl ?_;exact⟨_,rfl,hwz _ _ (Nat.le_refl _) hB,(HM.out.on (hkz _ (by omega))).mono (fun b hb _=>by omega)⟩
theorem Tryz.infoRatT:(Tryz.prog.info? 53).map (fun i=>(i.zero,i.size,i.bytes))=some (some (.agg #[.bool false,.slice none 0 0,.slice none 0 0]),3,56):=by kernel_rfl
theorem fK (w:World) (F:Ag) (v:Value) (l:List Int) (b:Nat) (hv:AA w F v l) (hl:l.length≤1000) (hx:∀ x∈l,-1000000000000≤x∧x≤1000000000000) (h3:b≤1000000000000) (hb0:b≠0) :
  Calls Tryz.prog 31 #[.int .i64 (b:Int),v] w (Ret w fun v w'=>BF w' (fun b=>w.heap.size≤b) v (l.map fun x=>mkRat x b)):=by
 have HV:=Ac hv;obtain⟨A,c,rfl,hc,hr⟩:=hv;have HR:=Ac hr; have HX:=Ac hx;clear hr hx;go_enter Tryz.func31,Tryz.ntmps31;go_wp2
 go_loopw [5,6] (fun u i wr=>∃ (k:Nat) (L:List RV),k≤l.length∧i = .int .i64 (k:Int)∧L.length=k∧L.map RV.r=((l.take k).map fun x=>ay (mkRat x b))∧AY wr w.heap.size 53 (fun b=>w.heap.size≤b) u L∧Below w.heap.size w wr) (fun _ i _=>l.length - (intOf i).toNat)
 case atStart=>exact⟨0,[],by omega,rfl,rfl,rfl,AY.nil _ _ _ _,Below.refl _ _⟩
 case round =>
  obtain⟨k,L,hk,rfl,hLl,hLr,hown,hbel⟩:=hrel;have HO:=Ac hown; have HL:=Ac hLr;have HLL:=Ac hLl;clear hown hLr hLl;by_cases hlt:k < l.length
  ·obtain⟨bb,o,rfl,_,hb',hcell⟩:=HR.out (by omega);obtain⟨x,hxk⟩:=aB hlt;have e1:=hcell k x hxk;unfold lY at e1;rw[Nat.mul_one] at e1;have hxb:=HX.out x (List.mem_of_getElem? hxk);have HXK:=Ac hxk;have hold:=aO hbel;clear hcell hxk;have hz:=hbel.size;go_wp2_with fail
   refine(gX wr x b hxb.1 hxb.2 h3 hb0).mono ?_;rintro e w2 ⟨vm,rfl,hb2,hu⟩;obtain⟨q,hq,rfl,hqf⟩:=AL.rv hu;have jL:=hbel.trans (hb2.mono hbel.size);have HO2:=Ac (HO.out.below hb2);have HF:=Ac (show q.fine w2 (Apart (fun b=>w.heap.size≤b) u5) from hqf.keep (fun b hb _=>⟨by omega,fun e=>by have:=(HO.out.row.lt b e).2; omega⟩) (Same.refl _ _));have HQ:=Ac hq;clear hqf hu hq hb2 hold hbel;dsimp only[RV.cells];go_wp2_with (at_builtin; refine nC (F:=fun b=>w.heap.size≤b) rfl _ _ 30 53 Tryz.underlying30 Tryz.infoRatT rfl w.heap.size (Nat.le_refl _) u5 L rfl q (by have:=HLL.out; omega) rfl HO2.out HF.out jL ?_; intro g cap w' hown' dD hlt'; have HO':=Ac hown'; clear hown')
   go_roundw
   case rel=>exact⟨k+1,L ++ [q],by omega,by go_num,by rw[List.length_append,HLL.out]; rfl,by rw[List.map_append,HL.out,take_snoc HXK.out,List.map_append,List.map_cons,List.map_nil,HQ.out]; rfl,HO'.out,dD⟩
   case measure=>simp[intOf]; omega
  ·go_wp2
   go_ret;refine⟨_,rfl,hbel,?_⟩;have h5:=HO.out.sG (G:=fun b=>w.heap.size≤b) (fun b hb=>hb) (fun b hb=>hb);rw[HL.out,List.take_of_length_le (by omega)] at h5;unfold BF;rw[List.map_map];exact h5
def lF:List (List Rat):=[[1,1].map fun x=>mkRat x 2,[1,1].map fun x=>mkRat x 2,[1,1,1].map fun x=>mkRat x 3]
theorem Row.nM {w:World} {b:Nat} {l:List Int} (h:Row w b 3 (l.map (Value.int .i64))) {F:Ag} (hF:F b):AA w F (.slice (some ⟨b,0,none⟩) l.length l.length) l:=by
 refine⟨_,_,rfl,Nat.le_refl _,fun _=>⟨b,0,rfl,hF,h.lt,fun k x hk=>?_⟩⟩;unfold lY;rw[Nat.zero_add,Nat.mul_one];exact h.cell (by rw[List.getElem?_map,hk]; rfl)
theorem aja {w:World} {F:Ag} {b:Nat} {v1 v2 v3:Value} {l1 l2 l3:List Raw} (h:Row w b 30 [v1,v2,v3]) (hF:F b) (h1:Ah w F v1 l1) (h2:Ah w F v2 l2) (h3:Ah w F v3 l3):Az w F (.slice (some ⟨b,0,none⟩) 3 3) [l1,l2,l3]:=by
 refine⟨_,_,rfl,Nat.le_refl _,fun _=>⟨b,0,rfl,hF,h.lt,fun k x hk=>?_⟩⟩;rw[Nat.zero_add,Nat.mul_one];match k,hk with
 | 0,hk=>cases hk; exact⟨v1,h.cell rfl,h1⟩
 | 1,hk=>cases hk; exact⟨v2,h.cell rfl,h2⟩
 | 2,hk=>cases hk; exact⟨v3,h.cell rfl,h3⟩
theorem sJ (w:World):Calls Tryz.prog 30 #[] w (Ret w fun v w'=>AV w' (fun b=>w.heap.size≤b) v lF):=by
 go_enter Tryz.func30,Tryz.ntmps30;have hB:=Below.refl w.heap.size w;go_wp2_with fail
 obtain⟨wa0,hwa,hr,hb,hz'⟩:=aH w 3 #[.int .i64 1,.int .i64 1];rw[← hwa];have hi:=Row.nM (l:=[1,1]) (F:=fun _=>True) hr trivial;clear hwa hr;replace hB:=hB.trans (hb.mono hB.size);have hz0:=hB.size;clear hb;refine(fK wa0 _ _ [1,1] 2 hi (by decide) (by decide) (by decide) (by decide)).mono ?_;rintro e wb0 ⟨v0,rfl,hb,hu⟩;have H0:=Ac (hu.keep (G:=fun b=>w.heap.size≤b) (fun b hb _=>by omega) (Same.refl _ _));clear hu hi;replace hB:=hB.trans (hb.mono hB.size);clear hb;dsimp only;go_wp2_with fail
 obtain⟨wa1,hwa,hr,hb,hz'⟩:=aH wb0 3 #[.int .i64 1,.int .i64 1];rw[← hwa];have hi:=Row.nM (l:=[1,1]) (F:=fun _=>True) hr trivial;clear hwa hr;replace H0:=Ac (Ah.on H0.out (Below.same' hb _));replace hB:=hB.trans (hb.mono hB.size);have hz1:=hB.size;clear hb;refine(fK wa1 _ _ [1,1] 2 hi (by decide) (by decide) (by decide) (by decide)).mono ?_;rintro e wb1 ⟨v1,rfl,hb,hu⟩;have H1:=Ac (hu.keep (G:=fun b=>w.heap.size≤b) (fun b hb _=>by omega) (Same.refl _ _));clear hu hi;replace H0:=Ac (Ah.on H0.out (Below.same' hb _));replace hB:=hB.trans (hb.mono hB.size);clear hb;dsimp only;go_wp2_with fail
 obtain⟨wa2,hwa,hr,hb,hz'⟩:=aH wb1 3 #[.int .i64 1,.int .i64 1,.int .i64 1];rw[← hwa];have hi:=Row.nM (l:=[1,1,1]) (F:=fun _=>True) hr trivial;clear hwa hr;replace H0:=Ac (Ah.on H0.out (Below.same' hb _));replace H1:=Ac (Ah.on H1.out (Below.same' hb _));replace hB:=hB.trans (hb.mono hB.size);have hz2:=hB.size;clear hb;refine(fK wa2 _ _ [1,1,1] 3 hi (by decide) (by decide) (by decide) (by decide)).mono ?_;rintro e wb2 ⟨v2,rfl,hb,hu⟩;have H2:=Ac (hu.keep (G:=fun b=>w.heap.size≤b) (fun b hb _=>by omega) (Same.refl _ _));clear hu hi;replace H0:=Ac (Ah.on H0.out (Below.same' hb _));replace H1:=Ac (Ah.on H1.out (Below.same' hb _));replace hB:=hB.trans (hb.mono hB.size);clear hb;dsimp only;have c0:=H0.out; have c1:=H1.out; have c2:=H2.out;obtain⟨A0,d0,rfl,_,_⟩:=c0;obtain⟨A1,d1,rfl,_,_⟩:=c1;obtain⟨A2,d2,rfl,_,_⟩:=c2;have hzz:=hB.size;go_wp2
 refine bodyPost_ret (v:=.slice (some ⟨wb2.heap.size,0,none⟩) 3 3) (by simp[results,Tryz.results30,go_sem]) rfl ?_;generalize hwa:World.alloc _ _=wz;obtain⟨wz',hwz,hr,hb,hz'⟩:=aH wb2 30 #[.slice A0 2 d0,.slice A1 2 d1,.slice A2 3 d2];have hww:wz=wz':=by rw[← hwa,hwz]
 rw[hww];refine⟨_,rfl,hB.trans (hb.mono hB.size),?_⟩;exact aja hr hzz (Ah.on H0.out (Below.same' hb _)) (Ah.on H1.out (Below.same' hb _)) (Ah.on H2.out (Below.same' hb _))
structure AQ (w:World) (b:Nat) (t:TypeId) (F:Ag) (L:List RV) (S:List Value):Prop where
 row:Row w b t (L.flatMap RV.cells++S)
 fine:∀ q∈L,q.fine w (fun c=>F c∧c≠b)
theorem abw (L:List RV):(L.flatMap RV.cells).length=L.length*3:=by
 induction L with
 | nil=>rfl
 | cons q L ih=>rw[List.flatMap_cons,List.length_append,ih,List.length_cons]; show 3+_=_; omega
theorem AY.held {w:World} {base:Nat} {t:TypeId} {F:Ag} {v:Value} {L:List RV} (h:AY w base t F v L) (hne:0 < L.length) :
  ∃ g cap S,v = .slice (some ⟨g,0,none⟩) L.length cap∧L.length≤cap∧base≤g∧AQ w g t F L S:=by
 obtain⟨hr,hf⟩:=h;rcases hr.2 with⟨_,hn⟩ | ⟨g,cap,cur,rfl,hg,hc,hcap,_,hsz,htk⟩
 ·omega
 ·refine⟨g,cap,cur.toList.drop (L.length*3),rfl,hcap,hg,?_,fun q hq=>(hf q hq).keep (fun c hc _=>⟨hc.1,fun e=>hc.2 (e▸rfl)⟩) (Same.refl _ _)⟩;show w.heap[g]? = _;rw[← htk,List.take_append_drop];exact hc
theorem AQ.cell {w:World} {b:Nat} {t:TypeId} {F:Ag} {L:List RV} {S:List Value} (h:AQ w b t F L S) {k j:Nat} {q:RV} {v:Value} (hk:L[k]? = some q) (hj:j < 3) (hv:q.cells[j]? = some v):w.cell? ⟨b,k*3+j,none⟩=some v:=by
 have hl:=(List.getElem?_eq_some_iff.1 hk).1;exact h.row.cell (by rw[List.getElem?_append_left (by rw[abw]; omega),ny (f:=RV.cells) (s:=3) (fun _=>rfl) L k j q hk hj]; exact hv)
theorem AQ.below {w w':World} {b:Nat} {t:TypeId} {F:Ag} {L:List RV} {S:List Value} (h:AQ w b t F L S) (hb:Below w.heap.size w w'):AQ w' b t F L S:=⟨h.row.below hb h.row.lt,fun q hq=>(h.fine q hq).below hb⟩
theorem AQ.on {w w':World} {b:Nat} {t:TypeId} {F:Ag} {L:List RV} {S:List Value} (h:AQ w b t F L S) (hr:w'.heap[b]? = w.heap[b]?) (hs:Same F w w'):AQ w' b t F L S:=⟨h.row.of_block hr,fun q hq=>(h.fine q hq).keep (fun _ h _=>h) (hs.mono fun _ h=>h.1)⟩
theorem AQ.mono {w:World} {b:Nat} {t:TypeId} {F G:Ag} {L:List RV} {S:List Value} (h:AQ w b t F L S) (hG:∀ c,F c→c < w.heap.size→G c):AQ w b t G L S:=⟨h.row,fun q hq=>(h.fine q hq).keep (fun c hc hl=>⟨hG c hc.1 hl,hc.2⟩) (Same.refl _ _)⟩
theorem AQ.sG {w:World} {b:Nat} {t:TypeId} {F G:Ag} {L:List RV} {S:List Value} (h:AQ w b t F L S) (hF:∀ c,F c→G c) (hb:G b) {c:Nat} (hc:L.length≤c):Ah w G (.slice (some ⟨b,0,none⟩) L.length c) (L.map RV.r):=by
 have hl:=h.row.lies;refine Lies.sG ⟨hl.1,fun i v hi=>hl.2 i v ?_⟩ hb (fun q hq=>(h.fine q hq).keep (fun c hc _=>hF c hc.1) (Same.refl _ _)) hc;rw[List.getElem?_append_left (List.getElem?_eq_some_iff.1 hi).1]; exact hi
theorem AQ.set {w:World} {b:Nat} {t:TypeId} {F:Ag} {L:List RV} {S:List Value} (h:AQ w b t F L S) (k:Nat) (hk:k < L.length) (q:RV) (hq:q.fine w (fun c=>F c∧c≠b)) :
  ∃ W,W=(((w.setCell ⟨b,k*3,none⟩ (.bool q.r.neg)).setCell ⟨b,k*3+1,none⟩ q.vn).setCell ⟨b,k*3+2,none⟩ q.vd) ∧
  AQ W b t F (L.set k q) S∧(∀ B a,B≤b→Below B a w→Below B a W)∧(∀ G:Ag,¬ G b→Same G w W)∧W.heap.size=w.heap.size∧(∀ c,c≠b→W.heap[c]? = w.heap[c]?):=by
 have hs:∀ G:Ag,¬ G b→Same G w (((w.setCell ⟨b,k*3,none⟩ (.bool q.r.neg)).setCell ⟨b,k*3+1,none⟩ q.vn).setCell ⟨b,k*3+2,none⟩ q.vd):=fun G hG =>
  ((Same.setCell G w (p:=⟨b,k*3,none⟩) hG _).trans (Same.setCell G _ (p:=⟨b,k*3+1,none⟩) hG _)).trans (Same.setCell G _ (p:=⟨b,k*3+2,none⟩) hG _)
 refine⟨_,rfl,⟨?_,fun p hp=>?_⟩,fun B a hb hbel=>?_,hs,by simp,fun c hc=>?_⟩
 ·have hl:=abw L;have h3:=((h.row.set (k*3) (.bool q.r.neg)).set (k*3+1) q.vn).set (k*3+2) q.vd;rw[List.set_append_left _ _ (by omega),List.set_append_left _ _ (by rw[List.length_set]; omega),List.set_append_left _ _ (by rw[List.length_set,List.length_set]; omega),← aai] at h3;exact h3
 ·have hp':p.fine w (fun c=>F c∧c≠b):=by
   rcases List.mem_or_eq_of_mem_set hp with hp | rfl
   ·exact h.fine p hp
   ·exact hq
  exact hp'.keep (fun _ h _=>h) (hs _ fun h=>h.2 rfl)
 ·exact((hbel.setCell (p:=⟨b,k*3,none⟩) hb _).setCell (p:=⟨b,k*3+1,none⟩) hb _).setCell (p:=⟨b,k*3+2,none⟩) hb _
 ·exact((Below.heap_setCell _ _ _ _ (fun e=>hc e)).trans (Below.heap_setCell _ _ _ _ (fun e=>hc e))).trans (Below.heap_setCell _ _ _ _ (fun e=>hc e))
theorem jd (w:World) (F:Ag) (v:Value) (l:List Int) (b:Nat) (hv:AA w F v l) (hl:l.length≤1000) (h1:0 < l.length) (hx:∀ x∈l,-1000000000000≤x∧x≤1000000000000) (h3:b≤1000000000000) (hb0:b≠0) :
  Calls Tryz.prog 31 #[.int .i64 (b:Int),v] w (Ret w fun v w'=>∃ g cap L S,v = .slice (some ⟨g,0,none⟩) l.length cap∧l.length≤cap∧w.heap.size≤g∧L.length=l.length∧L.map RV.r=(l.map fun x=>ay (mkRat x b))∧AQ w' g 53 (fun b=>w.heap.size≤b) L S):=by
 have HV:=Ac hv;obtain⟨A,c,rfl,hc,hr⟩:=hv;have HR:=Ac hr; have HX:=Ac hx;clear hr hx;go_enter Tryz.func31,Tryz.ntmps31;go_wp2
 go_loopw [5,6] (fun u i wr=>∃ (k:Nat) (L:List RV),k≤l.length∧i = .int .i64 (k:Int)∧L.length=k∧L.map RV.r=((l.take k).map fun x=>ay (mkRat x b))∧AY wr w.heap.size 53 (fun b=>w.heap.size≤b) u L∧Below w.heap.size w wr) (fun _ i _=>l.length - (intOf i).toNat)
 case atStart=>exact⟨0,[],by omega,rfl,rfl,rfl,AY.nil _ _ _ _,Below.refl _ _⟩
 case round =>
  obtain⟨k,L,hk,rfl,hLl,hLr,hown,hbel⟩:=hrel;have HO:=Ac hown; have HL:=Ac hLr;have HLL:=Ac hLl;clear hown hLr hLl;by_cases hlt:k < l.length
  ·obtain⟨bb,o,rfl,_,hb',hcell⟩:=HR.out (by omega);obtain⟨x,hxk⟩:=aB hlt;have e1:=hcell k x hxk;unfold lY at e1;rw[Nat.mul_one] at e1;have hxb:=HX.out x (List.mem_of_getElem? hxk);have HXK:=Ac hxk;have hold:=aO hbel;clear hcell hxk;have hz:=hbel.size;go_wp2_with fail
   refine(gX wr x b hxb.1 hxb.2 h3 hb0).mono ?_;rintro e w2 ⟨vm,rfl,hb2,hu⟩;obtain⟨q,hq,rfl,hqf⟩:=AL.rv hu;have jL:=hbel.trans (hb2.mono hbel.size);have HO2:=Ac (HO.out.below hb2);have HF:=Ac (show q.fine w2 (Apart (fun b=>w.heap.size≤b) u5) from hqf.keep (fun b hb _=>⟨by omega,fun e=>by have:=(HO.out.row.lt b e).2; omega⟩) (Same.refl _ _));have HQ:=Ac hq;clear hqf hu hq hb2 hold hbel;dsimp only[RV.cells];go_wp2_with (at_builtin; refine nC (F:=fun b=>w.heap.size≤b) rfl _ _ 30 53 Tryz.underlying30 Tryz.infoRatT rfl w.heap.size (Nat.le_refl _) u5 L rfl q (by have:=HLL.out; omega) rfl HO2.out HF.out jL ?_; intro g cap w' hown' dD hlt'; have HO':=Ac hown'; clear hown')
   go_roundw
   case rel=>exact⟨k+1,L ++ [q],by omega,by go_num,by rw[List.length_append,HLL.out]; rfl,by rw[List.map_append,HL.out,take_snoc HXK.out,List.map_append,List.map_cons,List.map_nil,HQ.out]; rfl,HO'.out,dD⟩
   case measure=>simp[intOf]; omega
  ·go_wp2
   go_ret;obtain⟨g,cap,S,hv,hc,hg,hH⟩:=HO.out.held (by have:=HLL.out; omega);have hk2:k=l.length:=by omega
   subst hk2;rw[HLL.out] at hv hc;refine⟨_,rfl,hbel,g,cap,L,S,hv,hc,hg,HLL.out,?_,hH⟩;rw[HL.out,List.take_of_length_le (by omega)]
structure BG (B ab g:Nat) (L:List RV) (S:List Value) (q:RV) (w:World):Prop where
 ne:ab≠g
 hab:B≤ab
 hg:B≤g
 box:Row w ab 53 q.cells
 held:AQ w g 53 (fun c=>c≠ab) L S
 fine:q.fine w (fun c=>c≠ab∧c≠g)
variable {B ab g:Nat} {L:List RV} {S:List Value} {q:RV} {w:World}
theorem BG.below {w':World} (h:BG B ab g L S q w) (hb:Below w.heap.size w w'):BG B ab g L S q w':=⟨h.ne,h.hab,h.hg,h.box.below hb h.box.lt,h.held.below hb,h.fine.below hb⟩
theorem BG.put (h:BG B ab g L S q w) (q':RV) (hq:q'.fine w (fun c=>c≠ab∧c≠g)) :
  ∃ W,W=(((w.setCell ⟨ab,0,none⟩ (.bool q'.r.neg)).setCell ⟨ab,1,none⟩ q'.vn).setCell ⟨ab,2,none⟩ q'.vd)∧BG B ab g L S q' W∧(∀ a,Below B a w→Below B a W)∧(∀ G:Ag,(∀ c,G c→c < B)→Same G w W)∧W.heap.size=w.heap.size∧∀ c,c≠ab→W.heap[c]? = w.heap[c]?:=by
 obtain⟨W,hW,hr,hw,hk⟩:=aV h.box (.bool q'.r.neg) q'.vn q'.vd;have hs:∀ c,c≠ab→W.heap[c]? = w.heap[c]?:=fun c hc=>by rw[hW]; exact((Below.heap_setCell _ _ _ _ (fun e=>hc e)).trans (Below.heap_setCell _ _ _ _ (fun e=>hc e))).trans (Below.heap_setCell _ _ _ _ (fun e=>hc e))
 refine⟨W,hW,⟨h.ne,h.hab,h.hg,hr,h.held.on (hs g h.ne.symm) (hk _ (fun e=>e rfl)),hq.keep (fun _ h _=>h) (hk _ (fun e=>e.1 rfl))⟩,fun a hb=>hw B a h.hab hb,fun G hG=>hk G (fun e=>by have:=hG _ e; have:=h.hab; omega),by rw[hW]; simp,hs⟩
theorem BG.set (h:BG B ab g L S q w) (k:Nat) (hk:k < L.length) (q':RV) (hq:q'.fine w (fun c=>c≠ab∧c≠g)) :
  ∃ W,W=(((w.setCell ⟨g,k*3,none⟩ (.bool q'.r.neg)).setCell ⟨g,k*3+1,none⟩ q'.vn).setCell ⟨g,k*3+2,none⟩ q'.vd)∧BG B ab g (L.set k q') S q W∧(∀ a,Below B a w→Below B a W)∧(∀ G:Ag,(∀ c,G c→c < B)→Same G w W)∧W.heap.size=w.heap.size∧∀ c,c≠g→W.heap[c]? = w.heap[c]?:=by
 obtain⟨W,hW,hr,hw,hs,hz,hh⟩:=h.held.set k hk q' hq;exact⟨W,hW,⟨h.ne,h.hab,h.hg,h.box.of_block (hh _ h.ne),hr,h.fine.keep (fun _ h _=>h) (hs _ (fun e=>e.2 rfl))⟩,fun a hb=>hw B a h.hg hb,fun G hG=>hs G (fun e=>by have:=hG _ e; have:=h.hg; omega),hz,hh⟩
end Go.Proofs.YtkcheepafifjaaaGreatDoor
