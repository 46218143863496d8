/- The reference's long division: parlourref01.Over. -/
import Derived.Test.YthmklhapjegfdaaGreatDoorK27
import Derived.Test.YthmklhapjegfdaaGreatDoorK20
import Derived.BigQuiet
set_option linter.all false
set_option maxRecDepth 100000
set_option maxHeartbeats 12800000
namespace Go.Proofs.YthmklhapjegfdaaGreatDoor
open Lib renaming hid → Ac
open List renaming getElem_toArray → lq1, getElem_cons_zero → lq2, getElem_cons_succ → lq3, setIfInBounds_toArray → lq4, set_cons_zero → lq5, set_cons_succ → lq6
open Go.RowKit
theorem ad8 (w:World) (F:Ag) (va vb:Value) (a b:Nat) (ha:Ah w F va a) (hb:Ah w F vb b) (hb0:b≠0) (hla:(dig a).length≤50000) (hge:b≤a) :
  Calls Tryz.prog 168 #[va,vb] w (Ret w (Cb F w.heap.size a b)):=by
 have HVA:=Ac ha; have HVB:=Ac hb;have hlb:(dig b).length≤(dig a).length:=aQ hge;have hord:decide (bM a b < 0)=false:=by
  refine decide_eq_false ?_;unfold bM; split <;> (try split) <;> omega
 obtain⟨A,c,rfl,hc,_⟩:=ha;obtain⟨B,d,rfl,hd,hNb⟩:=hb;obtain⟨n,hn⟩:∃ n,n=(dig b).length:=⟨_,rfl⟩;have hn1':1≤n:=by rw[hn]; exact aX.2 hb0
 obtain⟨b1,o1,rfl,_,hb1',hx⟩:=hNb (by omega);obtain⟨t,ht'⟩:=ak (l:=dig b) (k:=n - 1) (by omega);have et:=hx (n - 1) t ht';unfold bP at et; rw[Nat.mul_one] at et;have gt:(dig b).getD (n - 1) 0=t:=aC ht';have htl:t < 1000000000:=(aK b).get ht';have ht1:1≤t:=by have:=(nM hb0).1; rw[← hn,gt] at this; exact this
 obtain⟨f1,f2,_,_,_⟩:=fV ht1 htl;have hfI:(1000000000:Int) / ((t:Int)+1)=((LB / (t+1):Nat):Int):=by
  rw[show((t:Int)+1)=((t+1:Nat):Int) by omega,show(1000000000:Int)=((LB:Nat):Int) from rfl,jY]
 obtain⟨f,hf⟩:∃ f,f=LB / (t+1):=⟨_,rfl⟩;have hbl:=ad5 hn hb0;rw[gt,← hf] at hbl;have hal:(dig (a*f)).length≤(dig a).length+1:=bg (oQ (by omega));rw[← hf] at hfI f1 f2;obtain⟨a',ha'⟩:∃ a',a'=a*f:=⟨_,rfl⟩;obtain⟨b',hb'⟩:∃ b',b'=b*f:=⟨_,rfl⟩;rw[← ha'] at hal;rw[← hb'] at hbl;have hba':b'≤a':=by rw[ha',hb']; exact Nat.mul_le_mul_right _ hge
 have ahO:b'≠0:=by rw[hb']; exact Nat.mul_ne_zero hb0 (by omega)
 obtain⟨la,vS⟩:∃ la,la=(dig a').length:=⟨_,rfl⟩;have hnla:n≤la:=by rw[vS,← hbl]; exact aQ hba'
 have HSC:=Ac (And.intro ha' hb'); have HBL:=Ac hbl; have HLA:=Ac vS;have hlal:la≤50001:=by omega
 rw[← hn] at HVB hd hlb ⊢;have hla2:(dig a).length≤50000:=hla;obtain⟨n1,hn1⟩:∃ n1,n1+1=n:=⟨n - 1,by omega⟩;have i1:(n:Int) - 1=(n1:Int):=by omega
 rw[show n - 1=n1 by omega] at et;have l1:n1 < n:=by omega
 have HN:=Ac hn; have HB0:=Ac hb0;clear hn gt hx ht' hf hge ha' hb' vS hbl hb0;go_enter Tryz.func168,Tryz.ntmps168;go_wp2_with fail
 have HVB2:=Ac (show Ah w F (.slice (some ⟨b1,o1,none⟩) n d) b from HVB.out);refine(pJ w F _ _ a b HVA.out HVB.out (by omega) (by rw[← HN.out]; omega)).mono ?_;rintro e wn ⟨_,rfl,hb,rfl⟩;have hB:=hb;replace et:=ah et hb;replace HVA:=Ac (HVA.out.below hb);replace HVB:=Ac (HVB.out.below hb);clear hb;generalize bM a b=od at *;dsimp only;go_wp2_with fail
 refine(um _ f (by omega)).mono ?_;rintro e wn ⟨vf,rfl,hb,hu⟩;have HF:=Ac (hu.mono (G:=fun b=>w.heap.size≤b) (fun b h _=>Nat.le_trans hB.size h)); clear hu;replace et:=ah et hb;replace HVA:=Ac (HVA.out.below hb);replace HVB:=Ac (HVB.out.below hb);replace hB:=hB.trans (hb.mono hB.size);clear hb;dsimp only;go_wp2_with fail
 refine(jE _ (fun b=>F b∨w.heap.size≤b) _ _ a f (HVA.out.mono (fun _ h _=>.inl h)) (HF.out.mono (fun _ h _=>.inr h)) (by omega) (by have:=bg (n:=f) (k:=1) (by unfold LB; omega); omega)).mono ?_;rintro e wn ⟨va',rfl,hb,hu⟩;rw[← HSC.out.1] at hu;have HA:=Ac (hu.mono (G:=fun b=>w.heap.size≤b) (fun b h _=>Nat.le_trans hB.size h)); clear hu;replace et:=ah et hb;replace HVA:=Ac (HVA.out.below hb);replace HVB:=Ac (HVB.out.below hb);replace HF:=Ac (HF.out.below hb);replace hB:=hB.trans (hb.mono hB.size);clear hb;dsimp only;go_wp2_with fail
 refine(jE _ (fun b=>F b∨w.heap.size≤b) _ _ b f (HVB.out.mono (fun _ h _=>.inl h)) (HF.out.mono (fun _ h _=>.inr h)) (by rw[← HN.out]; omega) (by have:=bg (n:=f) (k:=1) (by unfold LB; omega); omega)).mono ?_;rintro e wn ⟨vb',rfl,hb,hu⟩;rw[← HSC.out.2] at hu;have HB:=Ac (hu.mono (G:=fun b=>w.heap.size≤b) (fun b h _=>Nat.le_trans hB.size h)); clear hu;replace et:=ah et hb;replace HVA:=Ac (HVA.out.below hb);replace HVB:=Ac (HVB.out.below hb);replace HF:=Ac (HF.out.below hb);replace HA:=Ac (HA.out.below hb);replace hB:=hB.trans (hb.mono hB.size);clear hb;dsimp only;clear et HVA HVB HVB2 hb1' i1;obtain⟨Aa,ca,rfl,hca,hNa'⟩:=HA.out;obtain⟨Ab,cb,rfl,hcb,hNb'⟩:=HB.out;obtain⟨ba,oa,rfl,_,hba1,_⟩:=hNa' (by rw[← HLA.out]; omega);obtain⟨bb,ob,rfl,_,hbb1,hxb⟩:=hNb' (by rw[HBL.out]; omega);obtain⟨t',ht2⟩:=ak (l:=dig b') (k:=n1) (by rw[HBL.out]; omega);have et:=hxb n1 t' ht2;unfold bP at et; rw[Nat.mul_one] at et;have ht'l:t' < 1000000000:=(aK b').get ht2;have HTP:=Ac (show(dig b').getD ((dig b').length - 1) 0=t' by rw[HBL.out,show n - 1=n1 by omega]; exact aC ht2);have ht'1:1≤t':=by have:=(nM ahO).1; rw[HTP.out] at this; exact this
 rw[← HLA.out] at hca HA ⊢;rw[HBL.out] at hcb HB ⊢;clear hNa' hNb' hxb ht2;have i1:(n:Int) - 1=(n1:Int):=by omega
 obtain⟨m,hm⟩:∃ m,m+n=la+1:=⟨la+1 - n,by omega⟩;have hwm:IntKind.i64.wrap (IntKind.i64.wrap ((la:Int) - (n:Int))+1)=(m:Int):=by rw[IntWalk.i64_in ((la:Int) - (n:Int)) (by omega),IntWalk.i64_in _ (by omega)]; omega
 have HAL:=Ac (show Aj wn (fun b=>w.heap.size≤b) (.slice (some ⟨ba,oa,none⟩) (dig a').length ca) (dig a') by rw[← HLA.out]; exact HA.out);have HDR:=Ac (show Aj wn (fun b=>w.heap.size≤b) (.slice (some ⟨ba,oa+m,none⟩) ((dig a').drop m).length (ca - m)) ((dig a').drop m) from HAL.out.drop (by rw[← HLA.out]; omega) _ _ rfl);have hdl:((dig a').drop m).length=la - m:=by rw[List.length_drop,← HLA.out]
 have HDL:=Ac hdl;obtain⟨D,hD⟩:∃ D,D=(dig a').drop m:=⟨_,rfl⟩;rw[← hD] at HDR HDL hdl;have HDE:=Ac hD; clear hD HAL;have hwb:=hB.size;go_wp2_with fail
 clear hfI i1;refine wp_region_held_drew (S:=fun _=>True) (by kernel_rfl) trivial (fun hHeld=>?_);refine tk0 [0,1,2,3,4,6,7,8,9,10,11,12] ?_;iterate 12 (refine tk (v:=?_) rfl (by kernel_rfl) (by kernel_rfl) (by kernel_rfl) (fun _ _ _ h=>h) (Or.inl ⟨by rfl,?_⟩) hHeld ?_;rotate_left;(focus intro wx hSx;(try dsimp only at hSx);go_split_ands;go_simp;try with_reducible rfl);try simp only[Act.put,lq1,lq2,lq3,lq4,lq5,lq6])
 refine tk1 ?_;clear hwm;refine uX (js:=[5,13,14,15,16]) ((Hold.of (Fact.limbs (fun b=>w.heap.size≤b) D) (.slice (some ⟨ba,oa+m,none⟩) D.length (ca - m))).and (Hold.below wn.heap.size wn))
  [(5,Fact.zeros wn.heap.size m),(13,Fact.limbs (fun b=>w.heap.size≤b) D),(14,Fact.limbs (fun b=>w.heap.size≤b) D),(15,Fact.zeros wn.heap.size m),(16,Fact.limbs (fun b=>w.heap.size≤b) D)] (by kernel_rfl) ⟨Aj.on HDR.out (Same.drewN _ _ 1),Nat.le_refl _,aF (Below.refl _ wn) 1⟩ (fun _ _=>trivial) ?_
 refine Flow.cons (o:=_) rfl (fun wk hS hf K hK=>?_) (fun v5=>?_)
 ·refine aiN rfl ?_;refine ad4 _ _ _ 81 rfl 166 (.int .u32 0) 4 Tryz.underlying81 Tryz.infoU32 rfl m rfl rfl (by omega) (by omega) ?_;intro w1 hb1 hz1 hr1;exact hK.out _ _ hb1 ⟨_,rfl,hS.2.1,by rw[dZ]; exact hr1⟩
 try simp only[Act.put,lq1,lq2,lq3,lq4,lq5,lq6]
 refine Flow.cons (o:=_) rfl (fun wk hS hf K hK=>?_) (fun v13=>?_)
 ·have hSl:=hS.1;go_simp;try simp only[Int.toNat_natCast]
  have hml:m≤la:=by omega
  rw[if_pos hml];rw[show la - m=D.length from hdl.symm];by_cases hcm:ca=m
  ·have hD0:D = []:=List.eq_nil_of_length_eq_zero (by omega);rw[if_pos hcm];refine hK.out _ _ (Below.refl _ _) ?_;show Aj wk _ _ D;rw[hD0];exact fO _ _ _ _
  ·rw[if_neg hcm];exact hK.out _ _ (Below.refl _ _) hSl
 try simp only[Act.put,lq1,lq2,lq3,lq4,lq5,lq6]
 refine Flow.cons (o:=_) rfl (fun wk hS hf K hK=>?_) (fun v14=>?_)
 ·have f13:=jP (f:=Fact.limbs (fun b=>w.heap.size≤b) D) (hf (13,v13) (by simp) (by kernel_rfl)) rfl;refine aiN rfl ?_;refine zk _ _ 81 Tryz.underlying81 rfl none (fun _ h=>by cases h) v13 D rfl rfl f13 (by omega) ?_;intro u w' hb hi;exact hK.out _ _ hb (Aj.keep hi.limbs (fun b h _=>Nat.le_trans (Nat.le_trans hwb hS.2.1) h) (Same.refl _ _))
 try simp only[Act.put,lq1,lq2,lq3,lq4,lq5,lq6]
 refine Flow.cons (o:=_) rfl (fun wk hS hf K hK=>?_) (fun v15=>?_)
 ·have f5:=jP (f:=Fact.zeros wn.heap.size m) (hf (5,v5) (by simp) (by kernel_rfl)) rfl;go_simp;exact hK.out _ _ (Below.refl _ _) f5
 try simp only[Act.put,lq1,lq2,lq3,lq4,lq5,lq6]
 refine Flow.cons (o:=_) rfl (fun wk hS hf K hK=>?_) (fun v16=>?_)
 ·have f14:=jP (f:=Fact.limbs (fun b=>w.heap.size≤b) D) (hf (14,v14) (by simp) (by kernel_rfl)) rfl;go_simp;exact hK.out _ _ (Below.refl _ _) f14
 try simp only[Act.put,lq1,lq2,lq3,lq4,lq5,lq6]
 refine Flow.nil (fun wE hS hf=>?_);have f15:=jP (f:=Fact.zeros wn.heap.size m) (hf (15,v15) (by simp)) rfl;have f16:=jP (f:=Fact.limbs (fun b=>w.heap.size≤b) D) (hf (16,v16) (by simp)) rfl;obtain⟨_,hSz,hSb⟩:=hS;obtain⟨bq,hv15,hbq,hrq⟩:=f15;dsimp only at hv15;subst hv15;have HRQ:=Ac hrq;have hBE:Below wn.heap.size wn wE:=hSb;have hBQ:=hrq.lt;have hR0:au D < b':=by
  rw[HDE.out];refine Nat.lt_of_lt_of_le (ae1 a' m) ?_;have h1:=vJ ahO;rw[HBL.out] at h1;rw[← HLA.out,show la - m=n - 1 by omega];exact h1
 have HR0:=Ac hR0;have HR16:=Ac (show Ah wE (fun b=>w.heap.size≤b) v16 (au D) by unfold Ah; rw[HDE.out,ag2,← HDE.out]; exact f16);clear hf f16 hrq hHeld HDR hdl et hR0 hSz;have i4:(la:Int) - (n:Int)=(m:Int) - 1:=by omega
 go_wp2_with fail
 clear i4;try generalize IntKind.i64.wrap ((la:Int) - (n:Int))=jk
 go_loopw [5,9,10,11,12] (fun rv iv _ _ _ wr=>∃ (k R:Nat) (Q:List Nat),k≤m∧iv = .int .i64 ((k:Int) - 1)∧au ((dig a').drop k)=b'*au (Q.drop k)+R∧R < b'∧Q.length=m∧Limbs Q∧Row wr bq 166 (aP Q) ∧
  ((k=m∧Ah wr (fun b=>w.heap.size≤b) rv R)∨AZ (bq+1) (dig R) rv wr)∧Below wn.heap.size wn wr∧wE.heap.size≤wr.heap.size) (fun _ iv _ _ _ _=>(intOf iv+1).toNat)
 case atStart =>
  refine⟨m,au D,List.replicate m 0,Nat.le_refl _,rfl,?_,HR0.out,by simp,Limbs.zeros _,HRQ.out,.inl ⟨rfl,HR16.out⟩,hBE,Nat.le_refl _⟩;rw[← HDE.out,List.drop_of_length_le (by simp)];simp[au]
 case round =>
  clear HRQ HR0 HR16 hBE;obtain⟨k,R,Q,hk,rfl,hinv,hR,hQl,ail,hrq,hown,hbel,hsz⟩:=hrel;have hzw:=hbel.size;have hB2:Below w.heap.size w wr:=hB.trans (hbel.mono hwb);have HQL:=Ac hQl; have HQM:=Ac ail; have HI:=Ac hinv; have HO:=Ac hown;have hvr:Ah wr (fun b=>w.heap.size≤b) u5 R:=by
   rcases hown with h | h
   ·exact h.2
   ·exact Aj.keep h.limbs (fun b hb _=>by omega) (Same.refl _ _)
  have hRl:(dig R).length≤n:=by have:=aQ (Nat.le_of_lt hR); rw[HBL.out] at this; exact this
  clear hQl ail hinv hown;rcases Nat.eq_zero_or_pos k with h0 | h0
  ·subst h0;have ag6:AZ (bq+1) (dig R) u5 wr:=by
    rcases HO.out with h | h
    ·omega
    ·exact h
   clear hvr HO;have hsc:=wI (a:=a) (b:=b) (f:=f) (q:=au Q) (r:=R) (by omega) (by have:=HI.out; rw[List.drop_zero,List.drop_zero,aU,HSC.out.1,HSC.out.2] at this; exact this) (by rw[← HSC.out.2]; exact hR);have HQR:=Ac hsc; clear hsc;have hfd:dig f = [f]:=mO (by omega) (by unfold LB; omega);obtain⟨Af,cf,hvf,hcf,hNf⟩:=HF.out;have hfl:(dig f).length=1:=by rw[hfd]; rfl
   obtain⟨bf,of,rfl,_,hbf,hxf⟩:=hNf (by omega);have ef:wn.cell? ⟨bf,of,none⟩=some (.int .u32 (f:Int)):=by
    have:=hxf 0 f (by rw[hfd]; rfl);unfold bP at this;simpa using this
   rw[hfl] at hvf hcf;subst hvf;obtain⟨Ar,cr,rfl,hcr,hrr⟩:=ag6;obtain⟨t0,ht0⟩:∃ t0,t0=(dig R).length:=⟨_,rfl⟩;rw[← ht0] at hcr hrr hRl ⊢;have HT0:=Ac ht0;have ag7:Aj wr (fun b=>w.heap.size≤b) (.slice (some ⟨bq,0,none⟩) m m) Q:=iO hrq (by show w.heap.size≤bq; omega) HQL.out (Nat.le_refl _);clear hNf hxf hfd hfl HI;rcases Nat.eq_zero_or_pos t0 with h0 | hpos
   ·subst h0;have HR0:=Ac (show R=0 by rw[← abh]; exact HT0.out.symm);have HQW:=Ac ag7; clear ag7;clear ht0;obtain⟨wp,rfl⟩:∃ wp:World,wp=wr:=⟨_,rfl⟩;go_wp2_with fail
    go_loopw [13,14] (fun _ iv wr=>iv = .int .i64 (-1)∧wp=wr) (fun _ _ _=>0)
    case atStart=>exact⟨rfl,rfl⟩
    case round =>
     obtain⟨rfl,rfl⟩:=hrel;go_wp2_with fail
     refine(jM wp (fun b=>w.heap.size≤b) (some ⟨bq,0,none⟩) m m Q HQL.out HQW.out (by omega)).mono ?_;rintro e w' ⟨rfl,rfl⟩;have HTQ:=Ac (Aj.trim HQL.out HQW.out HQM.out);dsimp only;go_wp2_with fail
     refine(jM wp (fun b=>w.heap.size≤b) Ar 0 cr [] rfl (fO _ _ _ _) (by omega)).mono ?_;rintro e w' ⟨rfl,rfl⟩;dsimp only;go_wp2
     go_ret2;refine⟨_,rfl,hB2,_,_,rfl,?_,?_⟩
     ·rw[← HQR.out.1]; exact HTQ.out.mono fun b hb _=>.inr hb
     ·rw[← HQR.out.2,HR0.out,Nat.zero_div];exact Ah.zero _ _ _ _
   ·obtain⟨g,rest,rfl,hg,hrow⟩:=hrr hpos;have hglt:=hrow.lt;have BQ:=Ac hrow;clear hrr ag7 hrow ht0;have HRQ2:=Ac hrq; clear hrq;have hd0:au ((dig R).drop t0)=0:=by rw[List.drop_of_length_le (by rw[← HT0.out]; omega)]; rfl
    obtain⟨wp,rfl⟩:∃ wp:World,wp=wr:=⟨_,rfl⟩;go_wp2_with fail
    go_loopw [13,14] (fun sv iv wr=>∃ (kk s:Nat) (l:List Nat),kk≤t0∧iv = .int .i64 ((kk:Int) - 1)∧sv = .int .u64 (s:Int)∧s < f∧l.length=t0∧l.take kk=(dig R).take kk∧au ((dig R).drop kk)=f*au (l.drop kk)+s∧Limbs l ∧
     Row wr g 166 (aP l++rest)∧Row wr bq 166 (aP Q)∧Below wn.heap.size wn wr∧wp.heap.size≤wr.heap.size) (fun _ iv _=>(intOf iv+1).toNat)
    case atStart =>
     exact⟨t0,0,dig R,Nat.le_refl _,rfl,rfl,by omega,HT0.out.symm,rfl,by rw[hd0]; omega,aK R,BQ.out,HRQ2.out,hbel,Nat.le_refl _⟩
    case round =>
     clear BQ HRQ2 hd0;obtain⟨kk,s,l,hkk,rfl,rfl,hsf,hll,htk,hinv,hlim,hrow,hrq,dJ,hsz2⟩:=hrel;have HTK:=Ac htk; have HINV:=Ac hinv; have D8:=Ac hlim; have HLL:=Ac hll;have hef:wr.cell? ⟨bf,of,none⟩=some (.int .u32 (f:Int)):=(aA dJ bf of hbf).trans ef;have hzb:=dJ.size;have hBw:Below w.heap.size w wr:=hB.trans (dJ.mono hwb);clear htk hinv hlim;rcases Nat.eq_zero_or_pos kk with h0 | h0
     ·subst h0;have hfin:au l=R / f:=by
       have h1:=HINV.out;rw[List.drop_zero,List.drop_zero,aU] at h1;rw[h1,Nat.mul_add_div (by omega),Nat.div_eq_of_lt hsf,Nat.add_zero]
      have HFIN:=Ac hfin;have HQW:=Ac (show Aj wr (fun b=>w.heap.size≤b) (.slice (some ⟨bq,0,none⟩) m m) Q from iO hrq (by show w.heap.size≤bq; omega) HQL.out (Nat.le_refl _));have HRW:=Ac (show Aj wr (fun b=>w.heap.size≤b) (.slice (some ⟨g,0,none⟩) t0 cr) l from(AZ.limbs (B:=w.heap.size) ⟨_,cr,by rw[hll],by omega,fun _=>⟨g,rest,rfl,by omega,hrow⟩⟩));clear hfin hrow hrq hll;go_wp2_with fail
      refine(jM wr (fun b=>w.heap.size≤b) (some ⟨bq,0,none⟩) m m Q HQL.out HQW.out (by omega)).mono ?_;rintro e w' ⟨rfl,rfl⟩;have HTQ:=Ac (Aj.trim HQL.out HQW.out HQM.out);dsimp only;go_wp2_with fail
      refine(jM wr (fun b=>w.heap.size≤b) (some ⟨g,0,none⟩) t0 cr l HLL.out HRW.out (by omega)).mono ?_;rintro e w' ⟨rfl,rfl⟩;have HTR:=Ac (Aj.trim HLL.out HRW.out D8.out);dsimp only;go_wp2
      go_ret2;refine⟨_,rfl,hBw,_,_,rfl,?_,?_⟩
      ·rw[← HQR.out.1]; exact HTQ.out.mono fun b hb _=>.inr hb
      ·rw[← HQR.out.2,← HFIN.out]; exact HTR.out.mono fun b hb _=>.inr hb
     ·obtain⟨k2,rfl⟩:∃ k2,kk=k2+1:=⟨kk - 1,by omega⟩;have e3:((k2+1:Nat):Int) - 1=(k2:Int):=by omega
      rw[e3];obtain⟨y,hy⟩:=ak (l:=l) (k:=k2) (by omega);have hyl:y < 1000000000:=D8.out.get hy;have hyd:(dig R)[k2]? = some y:=by
       have h1:(l.take (k2+1))[k2]? = ((dig R).take (k2+1))[k2]?:=by rw[HTK.out]
       rw[List.getElem?_take_of_lt (by omega),List.getElem?_take_of_lt (by omega),hy] at h1;exact h1.symm
      have hyc:(aP l++rest)[k2]? = some (.int .u32 (y:Int)):=by
       rw[List.getElem?_append_left (by simp; omega)];exact aV hy
      have ey:=hrow.cell hyc;have fy:=hrow.frozen k2;obtain⟨e,he⟩:∃ e,e=(s*LB+y) / f:=⟨_,rfl⟩;obtain⟨s2,hs2⟩:∃ s2,s2=(s*LB+y) % f:=⟨_,rfl⟩;have hel:e < LB:=by rw[he]; exact qN hsf hyl
      have hs2l:s2 < f:=by rw[hs2]; exact Nat.mod_lt _ (by omega)
      have hqI:((s:Int)*1000000000+(y:Int)) / (f:Int)=(e:Int):=by
       rw[he,← jY]; congr 1
      have hrI:((s:Int)*1000000000+(y:Int)) % (f:Int)=(s2:Int):=by
       rw[hs2,← oJ]; congr 1
      have HST:=Ac (tH (A:=0) (q:=l) (a:=dig R) (i:=k2) (d:=f) (r:=s) (r':=s2) (s:=e) (by omega) HINV.out (by rw[aC hyd,he,hs2]; exact(Nat.div_add_mod _ _).symm));have Ej:=Ac hrow; have HRQ3:=Ac hrq;have hgw:g < wr.heap.size:=by omega
      have hell:e < 1000000000:=hel;clear he hs2 hyd hyc hy hrow hrq hll;go_wp2
      go_roundw
      case rel =>
       refine⟨k2,s2,l.set k2 e,by omega,by go_num,by go_num,hs2l,by rw[List.length_set]; exact HLL.out,?_,HST.out,D8.out.set hel,?_,?_,?_,?_⟩
       ·have h1:=HTK.out;have h2:=congrArg (List.take k2) h1;rw[List.take_take,List.take_take,Nat.min_eq_left (by omega)] at h2;rw[List.take_set_of_le (by omega)];exact h2
       ·have h:=Ej.out.set k2 (.int .u32 (e:Int));rw[List.set_append_left _ _ (by have:=HLL.out; simp; omega),aW] at h;exact h
       ·exact HRQ3.out.other (a:=⟨g,k2,none⟩) (by simp; omega) _
       ·exact dJ.setCell (p:=⟨g,k2,none⟩) (by show wn.heap.size≤g; omega) _
       ·simp; omega
      case measure=>simp[intOf]
  ·obtain⟨j,rfl⟩:∃ j,k=j+1:=⟨k - 1,by omega⟩;have e1:((j+1:Nat):Int) - 1=(j:Int):=by omega
   rw[e1];have hjm:j < m:=by omega
   have hjla:j < la:=by omega
   have hRA:=HA.out.below hbel;obtain⟨x,hx'⟩:=ak (l:=dig a') (k:=j) (by rw[← HLA.out]; omega);have ex:wr.cell? ⟨ba,oa+j,none⟩=some (.int .u32 (x:Int)):=by
    obtain⟨A2,c2,hE,_,hh⟩:=hRA;cases hE
    obtain⟨b2,o2,hE2,_,_,hxx⟩:=hh (by rw[← HLA.out]; omega);cases hE2
    have:=hxx j x hx';unfold bP at this; rw[Nat.mul_one] at this;exact this
   have hxl:x < 1000000000:=(aK a').get hx';have HX:=Ac (aC hx');clear hx' hRA;have HVR:=Ac hvr;obtain⟨Ar,cr,rfl,hcr,_⟩:=hvr;obtain⟨wp,rfl⟩:∃ wp:World,wp=wr:=⟨_,rfl⟩;go_wp2_with (at_builtin; refine acW (w:=wp) (F:=fun b=>w.heap.size≤b) rfl _ _ 81 Tryz.underlying81 rfl x _ (dig R) rfl rfl rfl HVR.out (by omega) ?_; intro A3 c3 w3 hb3 hi3; have HI3:=Ac hi3; clear hi3)
   have hz3:=hb3.size;refine(jM w3 (fun b=>wp.heap.size≤b) A3 ((dig R).length+1) c3 (x :: dig R) (by simp) HI3.out (by omega)).mono ?_;rintro e w' ⟨rfl,rfl⟩;have htr:=Aj.trim (by simp) HI3.out (fun y hy=>by
    rcases List.mem_cons.1 hy with h | h
    ·subst h; exact hxl
    ·exact aK R y h)
   rw[show au (x :: dig R)=x+LB*R by show x+LB*au (dig R)=_; rw[aU]] at htr;obtain⟨hRb,hRrl⟩:=acX (x:=x) hR HBL.out hxl;obtain⟨Rr,hRr⟩:∃ Rr,Rr=x+LB*R:=⟨_,rfl⟩;rw[← hRr] at htr hRb hRrl;have HRR:=Ac hRr;have hte:dD (x :: dig R) ((dig R).length+1)=(dig Rr).length:=by
    obtain⟨A5,c5,he,_⟩:=htr;injection he
   rw[hte] at htr ⊢;have HTR:=Ac htr;obtain⟨lr,hlr⟩:∃ lr,lr=(dig Rr).length:=⟨_,rfl⟩;rw[← hlr] at hRrl HTR ⊢;have HLR:=Ac hlr;have hxr:∀ k y:Nat,(dig Rr)[k]? = some y→∃ b o,A3=some ⟨b,o,none⟩∧w3.cell? ⟨b,o+k,none⟩=some (.int .u32 (y:Int)):=by
    intro k y hk;obtain⟨A5,c5,he,_,hh⟩:=htr;cases he
    obtain⟨b5,o5,e5,_,_,hx5⟩:=hh (by have:=aG hk; omega);have h9:=hx5 k y hk;unfold bP at h9; rw[Nat.mul_one] at h9;exact⟨b5,o5,e5,h9⟩
   have HXR:=Ac hxr;clear hRr hte hlr hxr htr HI3 HVR hcr;dsimp only;go_wp2_with fail
   go_loopw [10,11] (fun lv kv wr=>∃ kk L:Nat,kk≤lr∧(n1≤kk∨kk=lr)∧kv = .int .i64 ((kk:Int) - 1)∧lv = .int .u64 (L:Int)∧L=au ((dig Rr).drop kk)∧w3=wr) (fun _ kv _=>(intOf kv+1).toNat)
   case atStart=>exact⟨lr,0,Nat.le_refl _,.inr rfl,rfl,rfl,by rw[List.drop_of_length_le (by rw[← HLR.out]; omega)]; rfl,rfl⟩
   case round =>
    obtain⟨kk,L,hkk,hkn,rfl,rfl,hL,rfl⟩:=hrel;have HLL:=Ac hL;clear hL;by_cases hkc:n1+1≤kk
    ·obtain⟨k1,rfl⟩:∃ k1,kk=k1+1:=⟨kk - 1,by omega⟩;have e2:((k1+1:Nat):Int) - 1=(k1:Int):=by omega
     rw[e2];obtain⟨y,hy⟩:=ak (l:=dig Rr) (k:=k1) (by rw[← HLR.out]; omega);obtain⟨b5,o5,rfl,ey⟩:=HXR.out k1 y hy;have hyl:y < 1000000000:=(aK Rr).get hy;have hL1:L < 1000000000:=by
      rw[HLL.out];refine Nat.lt_of_lt_of_le (ae1 Rr (k1+1)) ?_;rw[← HLR.out];have:LB ^ (lr - (k1+1))≤LB ^ 1:=Nat.pow_le_pow_right (by decide) (by omega);simpa using this
     have HNX:=Ac (afE (n:=n) hy HLL.out);clear hy;have hi5:(n:Int) - 1=(n1:Int):=by omega
     have hc5:decide ((n1:Int)≤(k1:Int))=true:=decide_eq_true (by omega);go_wp2
     go_roundw
     case rel=>exact⟨k1,L*LB+y,by omega,by omega,by go_num,by go_num,HNX.out,by first | rfl | trivial⟩
     case measure=>simp[intOf]
    ·have hLv:L=Rr / LB ^ n1:=by
      rw[HLL.out];rcases hkn with h | h
      ·rw[show kk=n1 by omega,aap _ (aK Rr),aU]
      ·rw[h,List.drop_of_length_le (by rw[← HLR.out]; omega)];have h2:=jm Rr;rw[← HLR.out] at h2;have h3:LB ^ lr≤LB ^ n1:=Nat.pow_le_pow_right (by decide) (by omega);rw[Nat.div_eq_of_lt (by omega)]; rfl
     have HLV:=Ac hLv;clear hLv HLL;have hi5:(n:Int) - 1=(n1:Int):=by omega
     have hc5:decide ((n1:Int)≤(kk:Int) - 1)=false:=decide_eq_false (by omega);have hbn:au []=0:=rfl;have hge:=agp (b:=b') (r:=Rr) ahO hRb;rw[HBL.out,show n - 1=n1 by omega,show(dig b').getD n1 0=t' by have:=HTP.out; rwa [HBL.out,show n - 1=n1 by omega] at this,← HLV.out] at hge;obtain⟨q,hq⟩:∃ q,q=L / t':=⟨_,rfl⟩;rw[← hq] at hge;have hqI:(L:Int) / (t':Int)=(q:Int):=by rw[hq,jY]
     have hLlt:L < 1000000000000000000:=by
      rw[HLV.out];refine(Nat.div_lt_iff_lt_mul (Ba _)).2 ?_;refine Nat.lt_of_lt_of_le (jm Rr) ?_;rw[← HLR.out,show(1000000000000000000:Nat)=LB ^ 2 by decide,← Nat.pow_add];exact Nat.pow_le_pow_right (by decide) (by omega)
     have hql:q < 1000000000000000000:=by rw[hq]; exact Nat.lt_of_le_of_lt (Nat.div_le_self _ _) hLlt
     have HGE:=Ac hge;have HB3:=Ac ((HB.out.below hbel).below hb3);clear hq hge hkn;go_wp2_with fail
     all_goals
      go_loopw [12] (fun dv wr=>∃ d:Nat,dv = .int .u64 (d:Int)∧Rr / b'≤d∧d < 1000000000∧Below w3.heap.size w3 wr) (fun dv _=>(intOf dv).toNat)
      case atStart =>
       first
        | exact⟨q,by first | rfl | go_num,by have:=HGE.out; omega,by omega,Below.refl _ _⟩
        | exact⟨999999999,by first | rfl | go_num,by have:=HGE.out; unfold LB at this; omega,by omega,Below.refl _ _⟩
      case round =>
       obtain⟨d,rfl,hdge,hdl,hb4⟩:=hrel;have hz4:=hb4.size;have HD:=Ac hdge;clear hdge;have HBR:=Ac (HB3.out.below hb4);have HRR4:=Ac (Ah.below (n:=Rr) HTR.out hb4);go_wp2_with fail
       refine(um wr d (by omega)).mono ?_;rintro e w5 ⟨vd,rfl,hb5,hvd⟩;have HVD:=Ac hvd; clear hvd;have hz5:=hb5.size;have HBR5:=Ac (HBR.out.below hb5);have HRR5:=Ac (Ah.below (n:=Rr) HRR4.out hb5);dsimp only;go_wp2_with fail
       refine(jE w5 (fun b=>w.heap.size≤b) _ _ b' d HBR5.out (HVD.out.mono (fun b hb _=>by omega)) (by rw[HBL.out]; omega) (by have:=bg (n:=d) (k:=1) (by unfold LB; omega); omega)).mono ?_;rintro e w6 ⟨vt,rfl,hb6,hvt⟩;have HVT:=Ac hvt; clear hvt;have hz6:=hb6.size;have HRR6:=Ac (Ah.below (n:=Rr) HRR5.out hb6);have hltd:(dig (b'*d)).length≤n+1:=Nat.le_trans (dP _ _) (by rw[HBL.out]; have:=bg (n:=d) (k:=1) (by unfold LB; omega); omega);dsimp only;go_wp2_with fail
       refine(pJ w6 (fun b=>w.heap.size≤b) _ _ (b'*d) Rr (HVT.out.mono (fun b hb _=>by omega)) (HRR6.out.mono (fun b hb _=>by omega)) (by omega) (by rw[← HLR.out]; omega)).mono ?_;rintro e w7 ⟨_,rfl,hb7,rfl⟩;have hb47:Below w3.heap.size w3 w7:=hb4.trans ((hb5.trans ((hb6.trans (hb7.mono hz6)).mono hz5)).mono hz4);by_cases hgt:Rr < b'*d
       ·have hdd:decide (0 < bM (b'*d) Rr)=true:=decide_eq_true (acY.2 hgt);have aiP:Rr / b' < d:=(Nat.div_lt_iff_lt_mul (by omega)).2 (by rw[Nat.mul_comm]; exact hgt);have hd1:1≤d:=Nat.lt_of_le_of_lt (Nat.zero_le _) aiP;have HDL:=Ac aiP;clear hgt aiP;dsimp only;go_wp2
        go_roundw
        case rel=>exact⟨d - 1,by go_num,Nat.le_sub_one_of_lt HDL.out,by omega,hb47⟩
        case measure=>simp[intOf]; omega
       ·have hdd:decide (0 < bM (b'*d) Rr)=false:=decide_eq_false (fun h=>hgt (acY.1 h));have hde:d=Rr / b':=agq ahO HD.out (by omega);have D9:=Ac hde;clear hgt hde;have hz7:=hb7.size;have HBR7:=Ac (HBR5.out.below (hb6.trans (hb7.mono hz6)));have HRR7:=Ac (Ah.below (n:=Rr) HRR6.out hb7);have hz47:=hb47.size;dsimp only;go_wp2_with fail
        refine(um w7 d (by omega)).mono ?_;rintro e w8 ⟨vd,rfl,hb8,hvd⟩;have HVD8:=Ac hvd; clear hvd;have hz8:=hb8.size;dsimp only;go_wp2_with fail
        refine(jE w8 (fun b=>w.heap.size≤b) _ _ b' d (HBR7.out.below hb8) (HVD8.out.mono (fun b hb _=>by omega)) (by rw[HBL.out]; omega) (by have:=bg (n:=d) (k:=1) (by unfold LB; omega); omega)).mono ?_;rintro e w9 ⟨vt,rfl,hb9,hvt⟩;have HVT9:=Ac hvt; clear hvt;have hz9:=hb9.size;have hle9:b'*d≤Rr:=by rw[D9.out]; exact Nat.mul_div_le _ _
        dsimp only;go_wp2_with fail
        refine(tY w9 (fun b=>w.heap.size≤b) _ _ Rr (b'*d) ((Ah.below (n:=Rr) HRR7.out (hb8.trans (hb9.mono hz8))).mono (fun b hb _=>by omega)) (HVT9.out.mono (fun b hb _=>by omega)) hle9 (by rw[← HLR.out]; omega)).mono ?_;rintro e w10 ⟨_,rfl,hb10,l10,A10,c10,rfl,hn10,hl10,ag8⟩;have ag6:=mZ ag8 hl10;rw[hn10,show Rr - b'*d=Rr % b' from afb D9.out] at ag6;have ag9:Below w3.heap.size w3 w10:=hb47.trans ((hb8.trans ((hb9.trans (hb10.mono hz9)).mono hz8)).mono hz47);have aha:Below wp.heap.size wp w10:=hb3.trans (ag9.mono hz3);have hbqw:bq < wp.heap.size:=Nat.lt_of_lt_of_le hBQ hsz;have ae2:=hrq.below aha hbqw;have hz10:=hb10.size;have HCOP:=Ac ag6;have hvl:∃ v10,v10=Value.slice A10 (dD l10 l10.length) c10:=⟨_,rfl⟩;obtain⟨v10,hv10⟩:=hvl;have HV10:=Ac hv10;have hqd:Q.length=m:=HQL.out;have hjQ:(aP Q).length=m:=by simp[hqd]
        obtain⟨yq,hyq⟩:=ak (l:=aP Q) (k:=j) (by omega);have hcq:=ae2.cell hyq;have hfq:=ae2.frozen j;have ahb:Below wn.heap.size wn w10:=hbel.trans (aha.mono hzw);have Em:=Ac ahb;have En:=Ac ae2;have HNXT:=Ac (afc (a:=dig a') (q:=Q) (i:=j) (b:=b') (r:=R) (d:=d) (by omega) HI.out (by rw[HX.out,← HRR.out]; exact D9.out));have hbq2:bq+1≤w9.heap.size:=by omega
        have hwq:wE.heap.size≤w10.heap.size:=by omega
        clear ag8 hn10 hl10 ag6 hyq ae2 hb10 hb9 hb8 hb7 hb6 hb5 hb4 ag9 aha ahb hle9 hv10 hrq;dsimp only;go_wp2
        go_roundw
        case rel =>
         refine⟨j,Rr % b',Q.set j d,by omega,by go_num,?_,Nat.mod_lt _ (by omega),by rw[List.length_set]; exact hqd,HQM.out.set hdl,?_,.inr ?_,?_,?_⟩
         ·have h:=HNXT.out;rw[HX.out,← HRR.out] at h;exact h
         ·have h:=En.out.set j (.int .u32 (d:Int));rw[aW] at h;exact h
         ·refine AZ.lower (B:=w9.heap.size) (HCOP.out.other (fun g hg _=>?_)) hbq2;exact Below.heap_setCell _ _ _ _ (fun e=>by simp at e; omega)
         ·exact Em.out.setCell (p:=⟨bq,j,none⟩) hbq _
         ·simp; exact hwq
        case measure=>simp[intOf]
theorem vW (w:World) (F:Ag) (va vb:Value) (a b:Nat) (ha:Ah w F va a) (hb:Ah w F vb b) (hb0:b≠0) (hla:(dig a).length≤50000) (hlb:(dig b).length≤50000) :
  Calls Tryz.prog 168 #[va,vb] w (Ret w (Cb F w.heap.size a b)):=by
 by_cases hlt:a < b
 ·have hord:decide (bM a b < 0)=true:=by rw[fJ hlt]; rfl
  have HLT:=Ac hlt;have HVA:=Ac ha; have HVB:=Ac hb;clear ha hb hlt hb0;go_enter Tryz.func168,Tryz.ntmps168;go_wp2_with fail
  refine(pJ w F _ _ a b HVA.out HVB.out (by omega) (by omega)).mono ?_;rintro e wn ⟨_,rfl,hb1,rfl⟩;generalize bM a b=od at *;dsimp only;go_wp2
  go_ret2;refine⟨_,rfl,hb1,_,_,rfl,?_,?_⟩
  ·rw[Nat.div_eq_of_lt HLT.out]; exact Ah.zero _ _ _ _
  ·rw[Nat.mod_eq_of_lt HLT.out]; exact HVA.out.ext hb1
 ·exact ad8 w F va vb a b ha hb hb0 hla (by omega)
theorem fE (w:World) (F:Ag) (va vb:Value) (a0 b0:Nat) (ha:Ah w F va a0) (hb:Ah w F vb b0) (hla:(dig a0).length≤50000) (hlb:(dig b0).length≤50000) :
  Calls Tryz.prog 151 #[va,vb] w (Ret w fun v w'=>Ah w' (Ext F w.heap.size) v (Nat.gcd a0 b0)):=by
 have HA:=Ac ha; have HB:=Ac hb;clear ha hb;obtain⟨G,hG⟩:∃ G,G=Nat.gcd a0 b0:=⟨_,rfl⟩;rw[← hG];have HG:=Ac hG; clear hG;go_enter Tryz.func151,Tryz.ntmps151;go_wp2_with fail
 go_loopg [0,1,5,6] b0 (fun f va vb _ _ wr=>∃ a b,b=f∧Ah wr (Ext F w.heap.size) va a∧Ah wr (Ext F w.heap.size) vb b∧G=Nat.gcd a b∧(dig a).length≤50000∧(dig b).length≤50000∧Below w.heap.size w wr)
 case atStart=>exact⟨a0,b0,rfl,HA.out.mono (fun b h _=>.inl h),HB.out.mono (fun b h _=>.inl h),HG.out,hla,hlb,Below.refl _ _⟩
 case round =>
  clear HA HB hla hlb HG;obtain⟨a,b,rfl,hna,hnb,uV,hla,hlb,hbel⟩:=hrel;have HNA:=Ac hna; have HNB:=Ac hnb; have HGC:=Ac uV;obtain⟨A,c,rfl,hc,_⟩:=hna;obtain⟨B,d,rfl,hd,_⟩:=hnb;have hz:=hbel.size;clear uV;by_cases hb0:b=0
  ·have d1:decide (0 < (dig b).length)=false:=decide_eq_false (by rw[hb0,aY]; simp);have HF:=Ac (show G=a by rw[HGC.out,hb0,Nat.gcd_zero_right]);clear hb0;go_wp2
   go_ret;exact⟨_,rfl,hbel,by rw[HF.out]; exact HNA.out⟩
  ·have d1:decide (0 < (dig b).length)=true:=decide_eq_true (aX.2 hb0);have HB0:=Ac hb0;have hml:a % b < b:=Nat.mod_lt _ (by omega);clear hb0;go_wp2_with fail
   refine(vW wr (Ext F w.heap.size) _ _ a b HNA.out HNB.out HB0.out hla hlb).mono ?_;rintro e w2 ⟨_,rfl,hb2,vq,vr,rfl,hq,hr⟩;have HR:=Ac hr;clear hq hr;have hlr:(dig (a % b)).length≤50000:=by have:=aQ (Nat.le_of_lt hml); omega
   have HML:=Ac hml;go_wp2
   go_roundg (a % b)
   case measure=>exact HML.out
   case rel=>exact⟨b,a % b,rfl,HNB.out.below hb2,HR.out.mono (fun b hb _=>hb.elim id fun h=>.inr (by omega)),by rw[HGC.out,Nat.gcd_comm,Nat.gcd_rec,Nat.gcd_comm],hlb,hlr,hbel.trans (hb2.mono hz)⟩
theorem ahP {neg:Bool} {n d g:Nat} (hd:d≠0) (hn:n≠0) (hg:g=Nat.gcd n d):ay (mkRat (sgI neg n) d)=⟨neg,dig (n / g),dig (d / g)⟩:=by
 have h:=jK (sgI neg n) hd;rw[lS,← hg] at h;unfold ay;rw[h.1,h.2.1,kQ _ hd,rO hn]
theorem ad9:ay 0=⟨false,[],[1]⟩:=by
 unfold ay;rw[show(0:Rat).num=0 from rfl,show(0:Rat).den=1 from rfl,Int.natAbs_zero,aY,ig]; rfl
theorem pO (w:World) (F:Ag) (neg:Bool) (vn vd:Value) (n d:Nat) (hn:Ah w F vn n) (hd:Ah w F vd d) (hd0:d≠0) (hln:(dig n).length≤50000) (hld:(dig d).length≤50000) :
  Calls Tryz.prog 118 #[.bool neg,vn,vd] w (Ret w fun v w'=>RtV w' (Ext F w.heap.size) v (mkRat (sgI neg n) d)):=by
 have HN:=Ac hn.old; have HD:=Ac hd.old;obtain⟨A,c,rfl,hc,_⟩:=hn;obtain⟨B,e,rfl,he,_⟩:=hd;by_cases h0:n=0
 ·have HZ:=Ac (show mkRat (sgI neg n) d=0 by rw[h0,aeV]);have hl0:(((dig n).length:Int)==0)=true:=by rw[h0,aY]; rfl
  clear h0 hd0;go_enter Tryz.func118,Tryz.ntmps118;go_wp2
  obtain⟨W,hW,hr,hr2,hB,hz⟩:=alloc2 w 83 #[.bool false,.slice none 0 0,.slice (some ⟨w.heap.size+1,0,none⟩) 1 1] 166 #[.int .u32 1];rw[← hW];clear hW;have t0:=hr.cell (i:=0) rfl;have t1:=hr.cell (i:=1) rfl;have t2:=hr.cell (i:=2) rfl;refine bodyPost_ret (v:=.agg #[.bool false,.slice none 0 0,.slice (some ⟨w.heap.size+1,0,none⟩) 1 1]) (by simp[results,Tryz.results118,go_sem,t0,t1,t2]) rfl ?_;refine⟨_,rfl,hB,?_⟩;unfold RtV;rw[HZ.out,ad9];refine AB.make rfl (fO _ _ _ _) ?_;have h2:=Row.limbs (l:=[1]) (by simpa [aP] using hr2) (F:=Ext F w.heap.size) (.inr (by omega)) (n:=1) (c:=1) (by simp) (Nat.le_refl _);simpa using h2
 ·obtain⟨g,hg⟩:∃ g,g=Nat.gcd n d:=⟨_,rfl⟩;have HLR:=Ac (ahP (neg:=neg) hd0 h0 hg);have hg0:g≠0:=by rw[hg]; exact Nat.ne_of_gt (Nat.gcd_pos_of_pos_right _ (Nat.pos_of_ne_zero hd0))
  have hlg:(dig g).length≤50000:=Nat.le_trans (aQ (by rw[hg]; exact Nat.gcd_le_right _ (Nat.pos_of_ne_zero hd0))) hld;have hl0:(((dig n).length:Int)==0)=false:=by have:=aX.2 h0; exact beq_false_of_ne (by omega)
  have HG:=Ac hg;clear hg h0 hd0;go_enter Tryz.func118,Tryz.ntmps118;go_wp2_with fail
  obtain⟨W,hW,hr,hB,hz'⟩:=aN w 83 #[.bool false,.slice none 0 0,.slice none 0 0];rw[← hW];clear hW;have hz:w.heap.size+1≤W.heap.size:=by omega
  clear hz';replace HN:=Ac (Ah.below (n:=n) HN.out hB); replace HD:=Ac (Ah.below (n:=d) HD.out hB);refine(fE _ _ _ _ n d HN.out HD.out hln hld).mono ?_;rintro e wn ⟨vg,rfl,hb,hu⟩;rw[← HG.out] at hu;have HGG:=Ac (hu.mono (G:=(Ext (Old F w.heap.size) (w.heap.size+1))) (fun b hb _=>hb.elim .inl fun h=>.inr (by omega))); clear hu;replace HN:=Ac (HN.out.below hb);replace HD:=Ac (HD.out.below hb);replace hr:=hr.below hb hr.lt;replace hz:=Nat.le_trans hz hb.size;replace hB:=hB.trans (hb.mono hB.size);clear hb;dsimp only;go_wp2_with fail
  refine(vW _ (Ext (Old F w.heap.size) (w.heap.size+1)) _ _ n g (Ah.mono HN.out (fun b hb _=>.inl hb)) HGG.out hg0 hln hlg).mono ?_;rintro e wn ⟨_,rfl,hb,vq,vr,rfl,hu,hu2⟩;have HQ:=Ac (hu.mono (G:=(Ext (Old F w.heap.size) (w.heap.size+1))) (fun b hb _=>hb.elim id fun h=>.inr (by omega)));obtain⟨Aq,cq,rfl,_,_⟩:=hu;clear hu2;replace HN:=Ac (HN.out.below hb);replace HD:=Ac (HD.out.below hb);replace HGG:=Ac (HGG.out.below hb);replace hr:=hr.below hb hr.lt;replace hz:=Nat.le_trans hz hb.size;replace hB:=hB.trans (hb.mono hB.size);clear hb;dsimp only;go_wp2_with fail
  refine(vW _ (Ext (Old F w.heap.size) (w.heap.size+1)) _ _ d g (Ah.mono HD.out (fun b hb _=>.inl hb)) HGG.out hg0 hld hlg).mono ?_;rintro e wn ⟨_,rfl,hb,vq2,vr2,rfl,hu,hu2⟩;have HP:=Ac (hu.mono (G:=(Ext (Old F w.heap.size) (w.heap.size+1))) (fun b hb _=>hb.elim id fun h=>.inr (by omega)));obtain⟨Ap,cp,rfl,_,_⟩:=hu;clear hu2;replace HN:=Ac (HN.out.below hb);replace HD:=Ac (HD.out.below hb);replace HGG:=Ac (HGG.out.below hb);replace HQ:=Ac (HQ.out.below hb);replace hr:=hr.below hb hr.lt;replace hz:=Nat.le_trans hz hb.size;replace hB:=hB.trans (hb.mono hB.size);clear hb;dsimp only;have q0:=hr.cell (i:=0) rfl;have y0:=hr.frozen 0;have q1:=hr.cell (i:=1) rfl;have y1:=hr.frozen 1;have q2:=hr.cell (i:=2) rfl;have y2:=hr.frozen 2;go_wp2
  obtain⟨Wz,hWz,hrz,hwz,hkz⟩:=dK hr (.bool neg) (.slice Aq (dig (n / g)).length cq) (.slice Ap (dig (d / g)).length cp);rw[← hWz];clear hWz q0 q1 q2 y0 y1 y2;have t0:=hrz.cell (i:=0) rfl;have t1:=hrz.cell (i:=1) rfl;have t2:=hrz.cell (i:=2) rfl;refine bodyPost_ret (v:=.agg #[.bool neg,.slice Aq (dig (n / g)).length cq,.slice Ap (dig (d / g)).length cp]) (by simp[results,Tryz.results118,go_sem,t0,t1,t2]) rfl ?_;exact⟨_,rfl,hwz _ _ (Nat.le_refl _) hB,by unfold RtV; rw[HLR.out]; exact(AB.make (r:=⟨neg,dig (n / g),dig (d / g)⟩) rfl HQ.out HP.out).keep (fun b hb _=>hb.elim (fun h=>.inl h.1) fun h=>.inr (by omega)) (hkz _ (fun h=>h.elim (fun h=>by have:=h.2; omega) fun h=>by omega))⟩
theorem ahQ (x y:Rat):mkRat (sgI (dI x) (x.num.natAbs*y.den)+sgI (dI y) (y.num.natAbs*x.den)) (x.den*y.den)=x+y:=by
 rw[jJ,jJ,kZ,kZ,Rat.add_def']
theorem zo (w:World) (F:Ag) (va vb:Value) (x y:Rat) (ha:RtV w F va x) (hb:RtV w F vb y) (hlx:rl x≤20000) (hly:rl y≤20000) :
  Calls Tryz.prog 60 #[va,vb] w (Ret w fun v w'=>RtV w' (Ext F w.heap.size) v (x+y)):=by
 have lx:=jU x; have lx2:=kS x; have ly:=jU y; have ly2:=kS y;obtain⟨p,hp⟩:∃ p,p=x.num.natAbs*y.den:=⟨_,rfl⟩;obtain⟨q,hq⟩:∃ q,q=y.num.natAbs*x.den:=⟨_,rfl⟩;obtain⟨D,hD⟩:∃ D,D=x.den*y.den:=⟨_,rfl⟩;have hlp:(dig p).length≤40000:=by rw[hp]; exact Nat.le_trans (dP _ _) (by omega)
 have hlq:(dig q).length≤40000:=by rw[hq]; exact Nat.le_trans (dP _ _) (by omega)
 have hlD:(dig D).length≤40000:=by rw[hD]; exact Nat.le_trans (dP _ _) (by omega)
 have hls:=qA p q;have hlm1:=aQ (Nat.sub_le p q); have hlm2:=aQ (Nat.sub_le q p);have hal:=ahQ x y;rw[← hp,← hq,← hD] at hal;have HML:=Ac hal; have HP:=Ac hp; have HQ:=Ac hq; have HDD:=Ac hD;have hd0:D≠0:=by rw[hD]; exact Nat.mul_ne_zero x.den_nz y.den_nz
 clear hal hp hq hD;have HX:=Ac ha.old; have HY:=Ac hb.old;obtain⟨A,c,B,d,rfl,hn,hd⟩:=ha.open;obtain⟨A',c',B',d',rfl,hn',hd'⟩:=hb.open;clear hn hd hn' hd' ha hb;go_enter Tryz.func60,Tryz.ntmps60;go_wp2_with fail
 obtain⟨W,hW,rx,ry,rz,hB,hz⟩:=yN w 83 #[.bool (ay x).neg,.slice A (ay x).num.length c,.slice B (ay x).den.length d] 83 #[.bool (ay y).neg,.slice A' (ay y).num.length c',.slice B' (ay y).den.length d'] 83 #[.bool false,.slice none 0 0,.slice none 0 0];rw[← hW];clear hW;replace HX:=Ac (HX.out.on (Below.same' hB _)); replace HY:=Ac (HY.out.on (Below.same' hB _));have hz:w.heap.size+3≤W.heap.size:=hz;have x0:=rx.cell (i:=0) rfl;have x1:=rx.cell (i:=1) rfl;have x2:=rx.cell (i:=2) rfl;have y0:=ry.cell (i:=0) rfl;have y1:=ry.cell (i:=1) rfl;have y2:=ry.cell (i:=2) rfl;clear rx ry;obtain⟨_,_,hh,hn,hd⟩:=HX.out; have HNX:=Ac (Ah.mono (n:=x.num.natAbs) (G:=(Ext (Old F w.heap.size) (w.heap.size+3))) hn (fun b hb _=>.inl hb)); have HDX:=Ac (Ah.mono (n:=x.den) (G:=(Ext (Old F w.heap.size) (w.heap.size+3))) hd (fun b hb _=>.inl hb)); cases hh; clear hn hd;obtain⟨_,_,hh,hn,hd⟩:=HY.out; have HNY:=Ac (Ah.mono (n:=y.num.natAbs) (G:=(Ext (Old F w.heap.size) (w.heap.size+3))) hn (fun b hb _=>.inl hb)); have HDY:=Ac (Ah.mono (n:=y.den) (G:=(Ext (Old F w.heap.size) (w.heap.size+3))) hd (fun b hb _=>.inl hb)); cases hh; clear hn hd;refine wp_region_held_drew (S:=fun w'=>w'.cell? ⟨w.heap.size,0,none⟩=some (.bool (ay x).neg)∧w'.cell? ⟨w.heap.size,1,none⟩=some (.slice A (ay x).num.length c)∧w'.cell? ⟨w.heap.size,2,none⟩=some (.slice B (ay x).den.length d)∧w'.cell? ⟨w.heap.size+1,0,none⟩=some (.bool (ay y).neg)∧w'.cell? ⟨w.heap.size+1,1,none⟩=some (.slice A' (ay y).num.length c')∧w'.cell? ⟨w.heap.size+1,2,none⟩=some (.slice B' (ay y).den.length d')) (by kernel_rfl) ⟨x0,x1,x2,y0,y1,y2⟩ (fun hHeld=>?_);have hb:Below W.heap.size W W.drew:=aF (Below.refl _ W) 1;replace x0:=ah x0 hb;replace x1:=ah x1 hb;replace x2:=ah x2 hb;replace y0:=ah y0 hb;replace y1:=ah y1 hb;replace y2:=ah y2 hb;replace HX:=Ac (HX.out.below hb);replace HY:=Ac (HY.out.below hb);replace HNX:=Ac (HNX.out.below hb);replace HNY:=Ac (HNY.out.below hb);replace HDX:=Ac (HDX.out.below hb);replace HDY:=Ac (HDY.out.below hb);replace rz:=rz.below hb rz.lt;replace hz:=Nat.le_trans hz hb.size;replace hB:=hB.trans (hb.mono hB.size);clear hb;generalize W.drew=wn at *;refine tk0 [0,1,2,3,5,6,7,8,10,11,12,13] ?_;iterate 12 (refine tk (v:=?_) rfl (by kernel_rfl) (by kernel_rfl) (by kernel_rfl) (fun _ _ _ h=>h) (Or.inl ⟨by rfl,?_⟩) hHeld ?_;rotate_left;(focus intro wx hSx;(try dsimp only at hSx);go_split_ands;go_simp;try with_reducible rfl);try simp only[Act.put,lq1,lq2,lq3,lq4,lq5,lq6])
 refine tk1 ?_;refine tk2 4 (by kernel_rfl) rfl fun K hK=>?_
 go_simp;refine(jE _ _ _ _ x.num.natAbs y.den HNX.out HDY.out (by omega) (by omega)).mono ?_;rintro e wn ⟨vp,rfl,hb,hu⟩;rw[← HP.out] at hu;have HVP:=Ac (hu.mono (G:=(Ext (Old F w.heap.size) (w.heap.size+3))) (fun b hb _=>.inr (by omega))); clear hu;replace x0:=ah x0 hb;replace x1:=ah x1 hb;replace x2:=ah x2 hb;replace y0:=ah y0 hb;replace y1:=ah y1 hb;replace y2:=ah y2 hb;replace HX:=Ac (HX.out.below hb);replace HY:=Ac (HY.out.below hb);replace HNX:=Ac (HNX.out.below hb);replace HNY:=Ac (HNY.out.below hb);replace HDX:=Ac (HDX.out.below hb);replace HDY:=Ac (HDY.out.below hb);replace rz:=rz.below hb rz.lt;replace hz:=Nat.le_trans hz hb.size;replace hB:=hB.trans (hb.mono hB.size);clear hb;dsimp only;clear hHeld;refine hK.out _ _ ⟨x0,x1,x2,y0,y1,y2⟩ (fun hHeld=>?_);clear hK K;try simp only[Act.put,lq1,lq2,lq3,lq4,lq5,lq6]
 refine tk2 9 (by kernel_rfl) rfl fun K hK=>?_
 go_simp;refine(jE _ _ _ _ y.num.natAbs x.den HNY.out HDX.out (by omega) (by omega)).mono ?_;rintro e wn ⟨vq,rfl,hb,hu⟩;rw[← HQ.out] at hu;have HVQ:=Ac (hu.mono (G:=(Ext (Old F w.heap.size) (w.heap.size+3))) (fun b hb _=>.inr (by omega))); clear hu;replace x0:=ah x0 hb;replace x1:=ah x1 hb;replace x2:=ah x2 hb;replace y0:=ah y0 hb;replace y1:=ah y1 hb;replace y2:=ah y2 hb;replace HX:=Ac (HX.out.below hb);replace HY:=Ac (HY.out.below hb);replace HNX:=Ac (HNX.out.below hb);replace HNY:=Ac (HNY.out.below hb);replace HDX:=Ac (HDX.out.below hb);replace HDY:=Ac (HDY.out.below hb);replace HVP:=Ac (HVP.out.below hb);replace rz:=rz.below hb rz.lt;replace hz:=Nat.le_trans hz hb.size;replace hB:=hB.trans (hb.mono hB.size);clear hb;dsimp only;clear hHeld;refine hK.out _ _ ⟨x0,x1,x2,y0,y1,y2⟩ (fun hHeld=>?_);clear hK K;try simp only[Act.put,lq1,lq2,lq3,lq4,lq5,lq6]
 refine tk2 14 (by kernel_rfl) rfl fun K hK=>?_
 go_simp;refine(jE _ _ _ _ x.den y.den HDX.out HDY.out (by omega) (by omega)).mono ?_;rintro e wn ⟨vD,rfl,hb,hu⟩;rw[← HDD.out] at hu;have HVD:=Ac (hu.mono (G:=(Ext (Old F w.heap.size) (w.heap.size+3))) (fun b hb _=>.inr (by omega))); clear hu;replace x0:=ah x0 hb;replace x1:=ah x1 hb;replace x2:=ah x2 hb;replace y0:=ah y0 hb;replace y1:=ah y1 hb;replace y2:=ah y2 hb;replace HX:=Ac (HX.out.below hb);replace HY:=Ac (HY.out.below hb);replace HNX:=Ac (HNX.out.below hb);replace HNY:=Ac (HNY.out.below hb);replace HDX:=Ac (HDX.out.below hb);replace HDY:=Ac (HDY.out.below hb);replace HVP:=Ac (HVP.out.below hb);replace HVQ:=Ac (HVQ.out.below hb);replace rz:=rz.below hb rz.lt;replace hz:=Nat.le_trans hz hb.size;replace hB:=hB.trans (hb.mono hB.size);clear hb;dsimp only;clear hHeld;refine hK.out _ _ ⟨x0,x1,x2,y0,y1,y2⟩ (fun hHeld=>?_);clear hK K;try simp only[Act.put,lq1,lq2,lq3,lq4,lq5,lq6]
 refine tk0 [15,16,17] ?_;iterate 3 (refine tk (v:=?_) rfl (by kernel_rfl) (by kernel_rfl) (by kernel_rfl) (fun _ _ _ h=>h) (Or.inl ⟨by rfl,?_⟩) hHeld ?_;rotate_left;(focus intro wx hSx;(try dsimp only at hSx);go_split_ands;go_simp;try with_reducible rfl);try simp only[Act.put,lq1,lq2,lq3,lq4,lq5,lq6])
 refine tk1 ?_;refine wpAnyH_done (by kernel_rfl) ?_ _;clear hHeld;by_cases hs:(ay x).neg=(ay y).neg
 ·have hbb:((ay x).neg==(ay y).neg)=true:=by simp[hs]
  have HJ:=Ac (show mkRat (sgI (ay x).neg (p+q)) D=x+y by rw[← HML.out,← jO x,← jO y,← hs,aaW]);clear hs;go_wp2_with fail
  refine dQ (fun w'=>w'.cell? ⟨w.heap.size,0,none⟩=some (.bool (ay x).neg)∧w'.cell? ⟨w.heap.size,1,none⟩=some (.slice A (ay x).num.length c)∧w'.cell? ⟨w.heap.size,2,none⟩=some (.slice B (ay x).den.length d)∧w'.cell? ⟨w.heap.size+1,0,none⟩=some (.bool (ay y).neg)∧w'.cell? ⟨w.heap.size+1,1,none⟩=some (.slice A' (ay y).num.length c')∧w'.cell? ⟨w.heap.size+1,2,none⟩=some (.slice B' (ay y).den.length d')) 7 1 (by kernel_rfl) rfl (by kernel_rfl) ?_;have hHeld:(fun w':World=>w'.cell? ⟨w.heap.size,0,none⟩=some (.bool (ay x).neg)∧w'.cell? ⟨w.heap.size,1,none⟩=some (.slice A (ay x).num.length c)∧w'.cell? ⟨w.heap.size,2,none⟩=some (.slice B (ay x).den.length d)∧w'.cell? ⟨w.heap.size+1,0,none⟩=some (.bool (ay y).neg)∧w'.cell? ⟨w.heap.size+1,1,none⟩=some (.slice A' (ay y).num.length c')∧w'.cell? ⟨w.heap.size+1,2,none⟩=some (.slice B' (ay y).den.length d')) wn.drew:=⟨x0,x1,x2,y0,y1,y2⟩;simp only[List.take_succ_cons,List.take_zero];have hb:Below wn.heap.size wn wn.drew:=aF (Below.refl _ wn) 1;replace x0:=ah x0 hb;replace x1:=ah x1 hb;replace x2:=ah x2 hb;replace y0:=ah y0 hb;replace y1:=ah y1 hb;replace y2:=ah y2 hb;replace HX:=Ac (HX.out.below hb);replace HY:=Ac (HY.out.below hb);replace HNX:=Ac (HNX.out.below hb);replace HNY:=Ac (HNY.out.below hb);replace HDX:=Ac (HDX.out.below hb);replace HDY:=Ac (HDY.out.below hb);replace HVP:=Ac (HVP.out.below hb);replace HVQ:=Ac (HVQ.out.below hb);replace HVD:=Ac (HVD.out.below hb);replace rz:=rz.below hb rz.lt;replace hz:=Nat.le_trans hz hb.size;replace hB:=hB.trans (hb.mono hB.size);clear hb;generalize wn.drew=wn at *;refine tk0 [0,1,2,3,5] ?_;iterate 5 (refine tk (v:=?_) rfl (by kernel_rfl) (by kernel_rfl) (by kernel_rfl) (fun _ _ _ h=>h) (Or.inl ⟨by rfl,?_⟩) hHeld ?_;rotate_left;(focus intro wx hSx;(try dsimp only at hSx);go_split_ands;go_simp;try with_reducible rfl);try simp only[Act.put,lq1,lq2,lq3,lq4,lq5,lq6])
  refine tk1 ?_;refine tk2 4 (by kernel_rfl) rfl fun K hK=>?_
  go_simp;refine(afp _ _ _ _ p q HVP.out HVQ.out (by omega) (by omega)).mono ?_;rintro e wn ⟨vs,rfl,hb,hu⟩;have HVS:=Ac (hu.mono (G:=(Ext (Old F w.heap.size) (w.heap.size+3))) (fun b hb _=>.inr (by omega))); clear hu;replace x0:=ah x0 hb;replace x1:=ah x1 hb;replace x2:=ah x2 hb;replace y0:=ah y0 hb;replace y1:=ah y1 hb;replace y2:=ah y2 hb;replace HX:=Ac (HX.out.below hb);replace HY:=Ac (HY.out.below hb);replace HNX:=Ac (HNX.out.below hb);replace HNY:=Ac (HNY.out.below hb);replace HDX:=Ac (HDX.out.below hb);replace HDY:=Ac (HDY.out.below hb);replace HVP:=Ac (HVP.out.below hb);replace HVQ:=Ac (HVQ.out.below hb);replace HVD:=Ac (HVD.out.below hb);replace rz:=rz.below hb rz.lt;replace hz:=Nat.le_trans hz hb.size;replace hB:=hB.trans (hb.mono hB.size);clear hb;dsimp only;clear hHeld;refine hK.out _ _ ⟨x0,x1,x2,y0,y1,y2⟩ (fun hHeld=>?_);clear hK K;try simp only[Act.put,lq1,lq2,lq3,lq4,lq5,lq6]
  refine tk2 6 (by kernel_rfl) rfl fun K hK=>?_
  go_simp;refine(pO _ (Ext (Old F w.heap.size) (w.heap.size+3)) _ _ _ (p+q) D HVS.out HVD.out hd0 (by omega) (by omega)).mono ?_;rintro e wn ⟨vm,rfl,hb,hu⟩;have hu2:RtV wn (Ext (Old F w.heap.size) (w.heap.size+3)) vm (x+y):=by rw[HJ.out] at hu; exact hu.mono (fun b hb _=>hb.elim id fun h=>.inr (by omega))
  have HM:=Ac hu2;obtain⟨Am,cm,Bm,dm,rfl,hn,hd⟩:=hu2.open;clear hn hd hu hu2;replace x0:=ah x0 hb;replace x1:=ah x1 hb;replace x2:=ah x2 hb;replace y0:=ah y0 hb;replace y1:=ah y1 hb;replace y2:=ah y2 hb;replace HX:=Ac (HX.out.below hb);replace HY:=Ac (HY.out.below hb);replace HNX:=Ac (HNX.out.below hb);replace HNY:=Ac (HNY.out.below hb);replace HDX:=Ac (HDX.out.below hb);replace HDY:=Ac (HDY.out.below hb);replace HVP:=Ac (HVP.out.below hb);replace HVQ:=Ac (HVQ.out.below hb);replace HVD:=Ac (HVD.out.below hb);replace HVS:=Ac (HVS.out.below hb);replace rz:=rz.below hb rz.lt;replace hz:=Nat.le_trans hz hb.size;replace hB:=hB.trans (hb.mono hB.size);clear hb;dsimp only;clear hHeld;refine hK.out _ _ ⟨x0,x1,x2,y0,y1,y2⟩ (fun hHeld=>?_);clear hK K;try simp only[Act.put,lq1,lq2,lq3,lq4,lq5,lq6]
  refine wpAnyH_done (by kernel_rfl) ?_ _;clear hHeld;show wpList _ _ _ _ _ _;clear x0 x1 x2 y0 y1 y2;have q0:=rz.cell (i:=0) rfl;have y0:=rz.frozen 0;have q1:=rz.cell (i:=1) rfl;have y1:=rz.frozen 1;have q2:=rz.cell (i:=2) rfl;have y2:=rz.frozen 2;go_wp2
  show Exit.then _ _ .normal _ _;go_wp2
  obtain⟨Wz,hWz,hrz,hwz,hkz⟩:=dK rz (.bool (ay (x+y)).neg) (.slice Am (ay (x+y)).num.length cm) (.slice Bm (ay (x+y)).den.length dm);rw[← hWz];clear hWz q0 q1 q2 y0 y1 y2;have t0:=hrz.cell (i:=0) rfl;have t1:=hrz.cell (i:=1) rfl;have t2:=hrz.cell (i:=2) rfl;refine bodyPost_ret (v:=.agg #[.bool (ay (x+y)).neg,.slice Am (ay (x+y)).num.length cm,.slice Bm (ay (x+y)).den.length dm]) (by simp[results,Tryz.results60,go_sem,t0,t1,t2]) rfl ?_;exact⟨_,rfl,hwz _ _ (by omega) hB,HM.out.keep (fun b hb _=>hb.elim (fun h=>.inl h.1) fun h=>.inr (by omega)) (hkz _ (fun h=>h.elim (fun h=>by have:=h.2; omega) fun h=>by omega))⟩
 ·have hbb:((ay x).neg==(ay y).neg)=false:=by simp[hs]
  go_wp2_with fail
  refine(pJ _ _ _ _ p q HVP.out HVQ.out (by omega) (by omega)).mono ?_;rintro e wn ⟨_,rfl,hb,rfl⟩;replace x0:=ah x0 hb;replace x1:=ah x1 hb;replace x2:=ah x2 hb;replace y0:=ah y0 hb;replace y1:=ah y1 hb;replace y2:=ah y2 hb;replace HX:=Ac (HX.out.below hb);replace HY:=Ac (HY.out.below hb);replace HNX:=Ac (HNX.out.below hb);replace HNY:=Ac (HNY.out.below hb);replace HDX:=Ac (HDX.out.below hb);replace HDY:=Ac (HDY.out.below hb);replace HVP:=Ac (HVP.out.below hb);replace HVQ:=Ac (HVQ.out.below hb);replace HVD:=Ac (HVD.out.below hb);replace rz:=rz.below hb rz.lt;replace hz:=Nat.le_trans hz hb.size;replace hB:=hB.trans (hb.mono hB.size);clear hb;dsimp only;by_cases hpq:q≤p
  ·have hord:decide (0≤bM p q)=true:=decide_eq_true (by unfold bM; split <;> (try split) <;> omega);have HJ:=Ac (show mkRat (sgI (ay x).neg (p - q)) D=x+y by rw[← HML.out,← jO x,← jO y,aeW hs hpq]);have HPQ:=Ac hpq; clear hs hpq;generalize bM p q=od at *;go_wp2_with fail
   refine dQ (fun w'=>w'.cell? ⟨w.heap.size,0,none⟩=some (.bool (ay x).neg)∧w'.cell? ⟨w.heap.size,1,none⟩=some (.slice A (ay x).num.length c)∧w'.cell? ⟨w.heap.size,2,none⟩=some (.slice B (ay x).den.length d)∧w'.cell? ⟨w.heap.size+1,0,none⟩=some (.bool (ay y).neg)∧w'.cell? ⟨w.heap.size+1,1,none⟩=some (.slice A' (ay y).num.length c')∧w'.cell? ⟨w.heap.size+1,2,none⟩=some (.slice B' (ay y).den.length d')) 7 1 (by kernel_rfl) rfl (by kernel_rfl) ?_;have hHeld:(fun w':World=>w'.cell? ⟨w.heap.size,0,none⟩=some (.bool (ay x).neg)∧w'.cell? ⟨w.heap.size,1,none⟩=some (.slice A (ay x).num.length c)∧w'.cell? ⟨w.heap.size,2,none⟩=some (.slice B (ay x).den.length d)∧w'.cell? ⟨w.heap.size+1,0,none⟩=some (.bool (ay y).neg)∧w'.cell? ⟨w.heap.size+1,1,none⟩=some (.slice A' (ay y).num.length c')∧w'.cell? ⟨w.heap.size+1,2,none⟩=some (.slice B' (ay y).den.length d')) wn.drew:=⟨x0,x1,x2,y0,y1,y2⟩;simp only[List.take_succ_cons,List.take_zero];have hb:Below wn.heap.size wn wn.drew:=aF (Below.refl _ wn) 1;replace x0:=ah x0 hb;replace x1:=ah x1 hb;replace x2:=ah x2 hb;replace y0:=ah y0 hb;replace y1:=ah y1 hb;replace y2:=ah y2 hb;replace HX:=Ac (HX.out.below hb);replace HY:=Ac (HY.out.below hb);replace HNX:=Ac (HNX.out.below hb);replace HNY:=Ac (HNY.out.below hb);replace HDX:=Ac (HDX.out.below hb);replace HDY:=Ac (HDY.out.below hb);replace HVP:=Ac (HVP.out.below hb);replace HVQ:=Ac (HVQ.out.below hb);replace HVD:=Ac (HVD.out.below hb);replace rz:=rz.below hb rz.lt;replace hz:=Nat.le_trans hz hb.size;replace hB:=hB.trans (hb.mono hB.size);clear hb;generalize wn.drew=wn at *;refine tk0 [0,1,2,3,5] ?_;iterate 5 (refine tk (v:=?_) rfl (by kernel_rfl) (by kernel_rfl) (by kernel_rfl) (fun _ _ _ h=>h) (Or.inl ⟨by rfl,?_⟩) hHeld ?_;rotate_left;(focus intro wx hSx;(try dsimp only at hSx);go_split_ands;go_simp;try with_reducible rfl);try simp only[Act.put,lq1,lq2,lq3,lq4,lq5,lq6])
   refine tk1 ?_;refine tk2 4 (by kernel_rfl) rfl fun K hK=>?_
   go_simp;refine(tY _ _ _ _ p q HVP.out HVQ.out HPQ.out (by omega)).mono ?_;rintro e wn ⟨vs,rfl,hb,hu⟩;obtain⟨ls,As,cs,hvs,hns,ac1,howns⟩:=hu;subst hvs;have hcs:=mZ howns ac1;rw[hns] at hcs;have HVS:=Ac (show Ah wn (Ext (Old F w.heap.size) (w.heap.size+3)) (.slice As (dD ls ls.length) cs) (p - q) from Aj.keep (G:=(Ext (Old F w.heap.size) (w.heap.size+3))) hcs.limbs (fun b hb _=>.inr (by omega)) (Same.refl _ _)); clear howns ac1 hns hcs;replace x0:=ah x0 hb;replace x1:=ah x1 hb;replace x2:=ah x2 hb;replace y0:=ah y0 hb;replace y1:=ah y1 hb;replace y2:=ah y2 hb;replace HX:=Ac (HX.out.below hb);replace HY:=Ac (HY.out.below hb);replace HNX:=Ac (HNX.out.below hb);replace HNY:=Ac (HNY.out.below hb);replace HDX:=Ac (HDX.out.below hb);replace HDY:=Ac (HDY.out.below hb);replace HVP:=Ac (HVP.out.below hb);replace HVQ:=Ac (HVQ.out.below hb);replace HVD:=Ac (HVD.out.below hb);replace rz:=rz.below hb rz.lt;replace hz:=Nat.le_trans hz hb.size;replace hB:=hB.trans (hb.mono hB.size);clear hb;dsimp only;clear hHeld;refine hK.out _ _ ⟨x0,x1,x2,y0,y1,y2⟩ (fun hHeld=>?_);clear hK K;try simp only[Act.put,lq1,lq2,lq3,lq4,lq5,lq6]
   refine tk2 6 (by kernel_rfl) rfl fun K hK=>?_
   go_simp;refine(pO _ (Ext (Old F w.heap.size) (w.heap.size+3)) _ _ _ (p - q) D HVS.out HVD.out hd0 (by omega) (by omega)).mono ?_;rintro e wn ⟨vm,rfl,hb,hu⟩;have hu2:RtV wn (Ext (Old F w.heap.size) (w.heap.size+3)) vm (x+y):=by rw[HJ.out] at hu; exact hu.mono (fun b hb _=>hb.elim id fun h=>.inr (by omega))
   have HM:=Ac hu2;obtain⟨Am,cm,Bm,dm,rfl,hn,hd⟩:=hu2.open;clear hn hd hu hu2;replace x0:=ah x0 hb;replace x1:=ah x1 hb;replace x2:=ah x2 hb;replace y0:=ah y0 hb;replace y1:=ah y1 hb;replace y2:=ah y2 hb;replace HX:=Ac (HX.out.below hb);replace HY:=Ac (HY.out.below hb);replace HNX:=Ac (HNX.out.below hb);replace HNY:=Ac (HNY.out.below hb);replace HDX:=Ac (HDX.out.below hb);replace HDY:=Ac (HDY.out.below hb);replace HVP:=Ac (HVP.out.below hb);replace HVQ:=Ac (HVQ.out.below hb);replace HVD:=Ac (HVD.out.below hb);replace HVS:=Ac (HVS.out.below hb);replace rz:=rz.below hb rz.lt;replace hz:=Nat.le_trans hz hb.size;replace hB:=hB.trans (hb.mono hB.size);clear hb;dsimp only;clear hHeld;refine hK.out _ _ ⟨x0,x1,x2,y0,y1,y2⟩ (fun hHeld=>?_);clear hK K;try simp only[Act.put,lq1,lq2,lq3,lq4,lq5,lq6]
   refine wpAnyH_done (by kernel_rfl) ?_ _;clear hHeld;show wpList _ _ _ _ _ _;clear x0 x1 x2 y0 y1 y2;have q0:=rz.cell (i:=0) rfl;have y0:=rz.frozen 0;have q1:=rz.cell (i:=1) rfl;have y1:=rz.frozen 1;have q2:=rz.cell (i:=2) rfl;have y2:=rz.frozen 2;go_wp2
   show Exit.then _ _ .normal _ _;go_wp2
   obtain⟨Wz,hWz,hrz,hwz,hkz⟩:=dK rz (.bool (ay (x+y)).neg) (.slice Am (ay (x+y)).num.length cm) (.slice Bm (ay (x+y)).den.length dm);rw[← hWz];clear hWz q0 q1 q2 y0 y1 y2;have t0:=hrz.cell (i:=0) rfl;have t1:=hrz.cell (i:=1) rfl;have t2:=hrz.cell (i:=2) rfl;refine bodyPost_ret (v:=.agg #[.bool (ay (x+y)).neg,.slice Am (ay (x+y)).num.length cm,.slice Bm (ay (x+y)).den.length dm]) (by simp[results,Tryz.results60,go_sem,t0,t1,t2]) rfl ?_;exact⟨_,rfl,hwz _ _ (by omega) hB,HM.out.keep (fun b hb _=>hb.elim (fun h=>.inl h.1) fun h=>.inr (by omega)) (hkz _ (fun h=>h.elim (fun h=>by have:=h.2; omega) fun h=>by omega))⟩
  ·have hord:decide (0≤bM p q)=false:=decide_eq_false (by unfold bM; split <;> (try split) <;> omega);have HJ:=Ac (show mkRat (sgI (ay y).neg (q - p)) D=x+y by rw[← HML.out,← jO x,← jO y,aeX hs (by omega)]);have HPQ:=Ac (show p≤q by omega); clear hs hpq;generalize bM p q=od at *;go_wp2_with fail
   refine dQ (fun w'=>w'.cell? ⟨w.heap.size,0,none⟩=some (.bool (ay x).neg)∧w'.cell? ⟨w.heap.size,1,none⟩=some (.slice A (ay x).num.length c)∧w'.cell? ⟨w.heap.size,2,none⟩=some (.slice B (ay x).den.length d)∧w'.cell? ⟨w.heap.size+1,0,none⟩=some (.bool (ay y).neg)∧w'.cell? ⟨w.heap.size+1,1,none⟩=some (.slice A' (ay y).num.length c')∧w'.cell? ⟨w.heap.size+1,2,none⟩=some (.slice B' (ay y).den.length d')) 7 1 (by kernel_rfl) rfl (by kernel_rfl) ?_;have hHeld:(fun w':World=>w'.cell? ⟨w.heap.size,0,none⟩=some (.bool (ay x).neg)∧w'.cell? ⟨w.heap.size,1,none⟩=some (.slice A (ay x).num.length c)∧w'.cell? ⟨w.heap.size,2,none⟩=some (.slice B (ay x).den.length d)∧w'.cell? ⟨w.heap.size+1,0,none⟩=some (.bool (ay y).neg)∧w'.cell? ⟨w.heap.size+1,1,none⟩=some (.slice A' (ay y).num.length c')∧w'.cell? ⟨w.heap.size+1,2,none⟩=some (.slice B' (ay y).den.length d')) wn.drew:=⟨x0,x1,x2,y0,y1,y2⟩;simp only[List.take_succ_cons,List.take_zero];have hb:Below wn.heap.size wn wn.drew:=aF (Below.refl _ wn) 1;replace x0:=ah x0 hb;replace x1:=ah x1 hb;replace x2:=ah x2 hb;replace y0:=ah y0 hb;replace y1:=ah y1 hb;replace y2:=ah y2 hb;replace HX:=Ac (HX.out.below hb);replace HY:=Ac (HY.out.below hb);replace HNX:=Ac (HNX.out.below hb);replace HNY:=Ac (HNY.out.below hb);replace HDX:=Ac (HDX.out.below hb);replace HDY:=Ac (HDY.out.below hb);replace HVP:=Ac (HVP.out.below hb);replace HVQ:=Ac (HVQ.out.below hb);replace HVD:=Ac (HVD.out.below hb);replace rz:=rz.below hb rz.lt;replace hz:=Nat.le_trans hz hb.size;replace hB:=hB.trans (hb.mono hB.size);clear hb;generalize wn.drew=wn at *;refine tk0 [0,1,2,3,5] ?_;iterate 5 (refine tk (v:=?_) rfl (by kernel_rfl) (by kernel_rfl) (by kernel_rfl) (fun _ _ _ h=>h) (Or.inl ⟨by rfl,?_⟩) hHeld ?_;rotate_left;(focus intro wx hSx;(try dsimp only at hSx);go_split_ands;go_simp;try with_reducible rfl);try simp only[Act.put,lq1,lq2,lq3,lq4,lq5,lq6])
   refine tk1 ?_;refine tk2 4 (by kernel_rfl) rfl fun K hK=>?_
   go_simp;refine(tY _ _ _ _ q p HVQ.out HVP.out HPQ.out (by omega)).mono ?_;rintro e wn ⟨vs,rfl,hb,hu⟩;obtain⟨ls,As,cs,hvs,hns,ac1,howns⟩:=hu;subst hvs;have hcs:=mZ howns ac1;rw[hns] at hcs;have HVS:=Ac (show Ah wn (Ext (Old F w.heap.size) (w.heap.size+3)) (.slice As (dD ls ls.length) cs) (q - p) from Aj.keep (G:=(Ext (Old F w.heap.size) (w.heap.size+3))) hcs.limbs (fun b hb _=>.inr (by omega)) (Same.refl _ _)); clear howns ac1 hns hcs;replace x0:=ah x0 hb;replace x1:=ah x1 hb;replace x2:=ah x2 hb;replace y0:=ah y0 hb;replace y1:=ah y1 hb;replace y2:=ah y2 hb;replace HX:=Ac (HX.out.below hb);replace HY:=Ac (HY.out.below hb);replace HNX:=Ac (HNX.out.below hb);replace HNY:=Ac (HNY.out.below hb);replace HDX:=Ac (HDX.out.below hb);replace HDY:=Ac (HDY.out.below hb);replace HVP:=Ac (HVP.out.below hb);replace HVQ:=Ac (HVQ.out.below hb);replace HVD:=Ac (HVD.out.below hb);replace rz:=rz.below hb rz.lt;replace hz:=Nat.le_trans hz hb.size;replace hB:=hB.trans (hb.mono hB.size);clear hb;dsimp only;clear hHeld;refine hK.out _ _ ⟨x0,x1,x2,y0,y1,y2⟩ (fun hHeld=>?_);clear hK K;try simp only[Act.put,lq1,lq2,lq3,lq4,lq5,lq6]
   refine tk2 6 (by kernel_rfl) rfl fun K hK=>?_
   go_simp;refine(pO _ (Ext (Old F w.heap.size) (w.heap.size+3)) _ _ _ (q - p) D HVS.out HVD.out hd0 (by omega) (by omega)).mono ?_;rintro e wn ⟨vm,rfl,hb,hu⟩;have hu2:RtV wn (Ext (Old F w.heap.size) (w.heap.size+3)) vm (x+y):=by rw[HJ.out] at hu; exact hu.mono (fun b hb _=>hb.elim id fun h=>.inr (by omega))
   have HM:=Ac hu2;obtain⟨Am,cm,Bm,dm,rfl,hn,hd⟩:=hu2.open;clear hn hd hu hu2;replace x0:=ah x0 hb;replace x1:=ah x1 hb;replace x2:=ah x2 hb;replace y0:=ah y0 hb;replace y1:=ah y1 hb;replace y2:=ah y2 hb;replace HX:=Ac (HX.out.below hb);replace HY:=Ac (HY.out.below hb);replace HNX:=Ac (HNX.out.below hb);replace HNY:=Ac (HNY.out.below hb);replace HDX:=Ac (HDX.out.below hb);replace HDY:=Ac (HDY.out.below hb);replace HVP:=Ac (HVP.out.below hb);replace HVQ:=Ac (HVQ.out.below hb);replace HVD:=Ac (HVD.out.below hb);replace HVS:=Ac (HVS.out.below hb);replace rz:=rz.below hb rz.lt;replace hz:=Nat.le_trans hz hb.size;replace hB:=hB.trans (hb.mono hB.size);clear hb;dsimp only;clear hHeld;refine hK.out _ _ ⟨x0,x1,x2,y0,y1,y2⟩ (fun hHeld=>?_);clear hK K;try simp only[Act.put,lq1,lq2,lq3,lq4,lq5,lq6]
   refine wpAnyH_done (by kernel_rfl) ?_ _;clear hHeld;show wpList _ _ _ _ _ _;clear x0 x1 x2 y0 y1 y2;have q0:=rz.cell (i:=0) rfl;have y0:=rz.frozen 0;have q1:=rz.cell (i:=1) rfl;have y1:=rz.frozen 1;have q2:=rz.cell (i:=2) rfl;have y2:=rz.frozen 2;go_wp2
   show Exit.then _ _ .normal _ _;go_wp2
   obtain⟨Wz,hWz,hrz,hwz,hkz⟩:=dK rz (.bool (ay (x+y)).neg) (.slice Am (ay (x+y)).num.length cm) (.slice Bm (ay (x+y)).den.length dm);rw[← hWz];clear hWz q0 q1 q2 y0 y1 y2;have t0:=hrz.cell (i:=0) rfl;have t1:=hrz.cell (i:=1) rfl;have t2:=hrz.cell (i:=2) rfl;refine bodyPost_ret (v:=.agg #[.bool (ay (x+y)).neg,.slice Am (ay (x+y)).num.length cm,.slice Bm (ay (x+y)).den.length dm]) (by simp[results,Tryz.results60,go_sem,t0,t1,t2]) rfl ?_;exact⟨_,rfl,hwz _ _ (by omega) hB,HM.out.keep (fun b hb _=>hb.elim (fun h=>.inl h.1) fun h=>.inr (by omega)) (hkz _ (fun h=>h.elim (fun h=>by have:=h.2; omega) fun h=>by omega))⟩
theorem ac2 {x:Rat}:ay (-x)=⟨!dI x&&decide (0 < (dig x.num.natAbs).length),dig x.num.natAbs,dig x.den⟩:=by
 unfold ay;rw[Rat.neg_num,Rat.neg_den,Int.natAbs_neg];by_cases h:x=0
 ·subst h;rw[show(-(0:Rat))=0 from by simp];simp[aY,afe]
 ·rw[agt h];have:=aX.2 (show x.num.natAbs≠0 from fun e=>h ((lT x).1 e));simp[this]
theorem ahc (w:World) (F:Ag) (v:Value) (x:Rat) (hv:RtV w F v x) :
  Calls Tryz.prog 61 #[v] w (Ret w fun u w'=>RtV w' F u (-x)):=by
 have HX:=Ac hv.old;obtain⟨A,c,B,d,rfl,hn,hd⟩:=hv.open;clear hn hd hv;rw[jO,aaQ];have HM:=Ac (ac2 (x:=x));obtain⟨ng,hng⟩:∃ b,b=dI x:=⟨_,rfl⟩;rw[← hng];have HNG:=Ac hng;clear hng;by_cases h0:0 < (dig x.num.natAbs).length
 ·have d0:decide (0 < (dig x.num.natAbs).length)=true:=decide_eq_true h0;have HMM:=Ac (show ay (-x)=⟨!ng,dig x.num.natAbs,dig x.den⟩ by rw[HM.out,d0,HNG.out]; simp);clear HM h0;cases ng
  ·go_enter Tryz.func61,Tryz.ntmps61;go_wp2
   obtain⟨W,hW,hr,hr2,hB,hz⟩:=alloc2 w 83 #[.bool true,.slice A (dig x.num.natAbs).length c,.slice B (ay x).den.length d] 83 #[.bool true,.slice A (dig x.num.natAbs).length c,.slice B (ay x).den.length d];rw[← hW];clear hW;have t0:=hr2.cell (i:=0) rfl;have t1:=hr2.cell (i:=1) rfl;have t2:=hr2.cell (i:=2) rfl;refine bodyPost_ret (v:=.agg #[.bool true,.slice A (dig x.num.natAbs).length c,.slice B (ay x).den.length d]) (by simp[results,Tryz.results61,go_sem,t0,t1,t2]) rfl ?_;refine⟨_,rfl,hB,?_⟩;unfold RtV;rw[HMM.out];obtain⟨_,_,hh,hn,hd⟩:=HX.out;cases hh
   exact AB.make rfl (hn.keep (fun b hb _=>hb.1) (Below.same' hB _)) (hd.keep (fun b hb _=>hb.1) (Below.same' hB _))
  ·go_enter Tryz.func61,Tryz.ntmps61;go_wp2
   obtain⟨W,hW,hr,hr2,hB,hz⟩:=alloc2 w 83 #[.bool false,.slice A (dig x.num.natAbs).length c,.slice B (ay x).den.length d] 83 #[.bool false,.slice A (dig x.num.natAbs).length c,.slice B (ay x).den.length d];rw[← hW];clear hW;have t0:=hr2.cell (i:=0) rfl;have t1:=hr2.cell (i:=1) rfl;have t2:=hr2.cell (i:=2) rfl;refine bodyPost_ret (v:=.agg #[.bool false,.slice A (dig x.num.natAbs).length c,.slice B (ay x).den.length d]) (by simp[results,Tryz.results61,go_sem,t0,t1,t2]) rfl ?_;refine⟨_,rfl,hB,?_⟩;unfold RtV;rw[HMM.out];obtain⟨_,_,hh,hn,hd⟩:=HX.out;cases hh
   exact AB.make rfl (hn.keep (fun b hb _=>hb.1) (Below.same' hB _)) (hd.keep (fun b hb _=>hb.1) (Below.same' hB _))
 ·have d0:decide (0 < (dig x.num.natAbs).length)=false:=decide_eq_false h0;have HMM:=Ac (show ay (-x)=⟨false,dig x.num.natAbs,dig x.den⟩ by rw[HM.out,d0]; simp);clear HM;cases ng
  ·go_enter Tryz.func61,Tryz.ntmps61;go_wp2
   obtain⟨W,hW,hr,hr2,hB,hz⟩:=alloc2 w 83 #[.bool false,.slice A (dig x.num.natAbs).length c,.slice B (ay x).den.length d] 83 #[.bool false,.slice A (dig x.num.natAbs).length c,.slice B (ay x).den.length d];rw[← hW];clear hW;have t0:=hr2.cell (i:=0) rfl;have t1:=hr2.cell (i:=1) rfl;have t2:=hr2.cell (i:=2) rfl;refine bodyPost_ret (v:=.agg #[.bool false,.slice A (dig x.num.natAbs).length c,.slice B (ay x).den.length d]) (by simp[results,Tryz.results61,go_sem,t0,t1,t2]) rfl ?_;refine⟨_,rfl,hB,?_⟩;unfold RtV;rw[HMM.out];obtain⟨_,_,hh,hn,hd⟩:=HX.out;cases hh
   exact AB.make rfl (hn.keep (fun b hb _=>hb.1) (Below.same' hB _)) (hd.keep (fun b hb _=>hb.1) (Below.same' hB _))
  ·go_enter Tryz.func61,Tryz.ntmps61;go_wp2
   obtain⟨W,hW,hr,hr2,hB,hz⟩:=alloc2 w 83 #[.bool false,.slice A (dig x.num.natAbs).length c,.slice B (ay x).den.length d] 83 #[.bool false,.slice A (dig x.num.natAbs).length c,.slice B (ay x).den.length d];rw[← hW];clear hW;have t0:=hr2.cell (i:=0) rfl;have t1:=hr2.cell (i:=1) rfl;have t2:=hr2.cell (i:=2) rfl;refine bodyPost_ret (v:=.agg #[.bool false,.slice A (dig x.num.natAbs).length c,.slice B (ay x).den.length d]) (by simp[results,Tryz.results61,go_sem,t0,t1,t2]) rfl ?_;refine⟨_,rfl,hB,?_⟩;unfold RtV;rw[HMM.out];obtain⟨_,_,hh,hn,hd⟩:=HX.out;cases hh
   exact AB.make rfl (hn.keep (fun b hb _=>hb.1) (Below.same' hB _)) (hd.keep (fun b hb _=>hb.1) (Below.same' hB _))
theorem ahR {n:Int} (hn:n≠0):dig n.natAbs=(n.natAbs % LB) :: dig (n.natAbs / LB):=jy (by omega)
theorem afG (w:World) (n:Int) (h1:-1000000000000≤n) (h2:n≤1000000000000) :
  Calls Tryz.prog 134 #[.int .i64 n] w (Ret w fun v w'=>Ah w' (fun b=>w.heap.size≤b) v n.natAbs):=by
 go_enter Tryz.func134,Tryz.ntmps134;go_wp2
 go_loopw [0,3,4] (fun u v _ wr=>∃ (m:Int) (l:List Nat),u = .int .i64 m∧-1000000000000≤m∧m≤1000000000000∧l++dig m.natAbs=dig n.natAbs∧wr.ownsRow w.heap.size 166 1 v l.length (aP l)∧Below w.heap.size w wr) (fun u _ _ _=>(intOf u).natAbs)
 case atStart=>exact⟨n,[],rfl,h1,h2,rfl,World.ownsRow_nil _ _ _ _,Below.refl _ _⟩
 case round =>
  obtain⟨m,l,rfl,hm1,hm2,hd,hown,hbel⟩:=hrel;have HD:=Ac hd;have HO:=Ac hown;have hll:l.length≤1000000:=by
   have h1:(dig n.natAbs).length≤3:=bg (by unfold LB; omega);rw[← hd,List.length_append] at h1; omega
  clear hd hown;by_cases h0:m=0
  ·subst h0;go_wp2
   go_ret;refine⟨_,rfl,hbel,?_⟩;have h2:=HD.out;rw[Int.natAbs_zero,aY,List.append_nil] at h2;unfold Ah; rw[← h2];exact gq HO.out fun b hb=>(HO.out.lt b hb).1
  ·have hne:(m != 0)=true:=by simp[h0]
   have HD2:=Ac (show l ++ [m.natAbs % 1000000000]++dig (m.natAbs / 1000000000)=dig n.natAbs by rw[← HD.out,ahR h0]; simp[LB]);obtain⟨r,hr⟩:∃ r:Nat,r=m.natAbs % 1000000000:=⟨_,rfl⟩;obtain⟨m2,aar⟩:∃ m2:Nat,m2=m.natAbs / 1000000000:=⟨_,rfl⟩;rw[← hr,← aar] at HD2;have hr9:r < 1000000000:=by omega
   have HLT:=Ac (show m2 < m.natAbs by omega);have hm2b:m2≤1000000000000:=by omega
   have key:(m=(m.natAbs:Int)∧0 < m)∨(m = -(m.natAbs:Int)∧m < 0):=by omega
   obtain⟨k,hk⟩:∃ k,k=m.natAbs:=⟨_,rfl⟩;rw[← hk] at hr aar HLT key;rcases key with⟨hme,hp⟩ | ⟨hme,hp⟩
   ·have ht:m.tmod 1000000000=(r:Int):=by rw[hme,hr]; rfl
    have hq:m.tdiv 1000000000=(m2:Int):=by rw[hme,aar]; rfl
    have hmx:(if -(r:Int) > (r:Int) then -(r:Int) else (r:Int))=(r:Int):=if_neg (by omega);have hnl:¬ ((r:Int) < -(r:Int)):=by omega
    have HK:=Ac hk;clear hr aar h0 hme hk;go_wp2_with (at_builtin; refine bK rfl _ _ 81 Tryz.underlying81 rfl w.heap.size (Nat.le_refl _) u3 l rfl _ r (by omega) hll rfl HO.out hbel ?_; intro g cap w' hown' dB hlt' fC; have HO':=Ac hown'; clear hown' fC)
    go_roundw
    case rel=>exact⟨(m2:Int),l ++ [r],by go_num,by omega,by omega,by rw[Int.natAbs_natCast]; exact HD2.out,by simpa using HO'.out,dB⟩
    case measure=>simp only[intOf]; have:=HLT.out; have:=HK.out; omega
   ·have ht:m.tmod 1000000000 = -(r:Int):=by rw[hme,hr,Int.neg_tmod]; rfl
    have hq:m.tdiv 1000000000 = -(m2:Int):=by rw[hme,aar,Int.neg_tdiv]; rfl
    have HK:=Ac hk;clear hr aar h0 hme hk;go_wp2_with (at_builtin; refine bK rfl _ _ 81 Tryz.underlying81 rfl w.heap.size (Nat.le_refl _) u3 l rfl _ r (by omega) hll rfl HO.out hbel ?_; intro g cap w' hown' dB hlt' fC; have HO':=Ac hown'; clear hown' fC)
    go_roundw
    case rel=>exact⟨-(m2:Int),l ++ [r],by go_num,by omega,by omega,by rw[Int.natAbs_neg,Int.natAbs_natCast]; exact HD2.out,by simpa using HO'.out,dB⟩
    case measure=>simp only[intOf]; have:=HLT.out; have:=HK.out; omega
theorem afH (n:Int):mkRat (sgI (decide (n < 0)) n.natAbs) 1=(n:Rat):=by
 have h:sgI (decide (n < 0)) n.natAbs=n:=by
  unfold sgI; by_cases h:n < 0 <;> simp[h] <;> omega
 rw[h];exact(Rat.ext (by rw[Rat.num_mkRat]; simp) (by rw[Rat.den_mkRat]; simp))
theorem zq (w:World) (n:Int) (h1:-1000000000000≤n) (h2:n≤1000000000000) :
  Calls Tryz.prog 75 #[.int .i64 n] w (Ret w fun v w'=>RtV w' (fun b=>w.heap.size≤b) v (n:Rat)):=by
 have hl:(dig n.natAbs).length≤50000:=by have:(dig n.natAbs).length≤3:=bg (by unfold LB; omega); omega
 have HW:=Ac (afH n);obtain⟨ng,hng⟩:∃ b,b=decide (n < 0):=⟨_,rfl⟩;rw[← hng] at HW;go_enter Tryz.func75,Tryz.ntmps75;go_wp2_with fail
 obtain⟨W,hW,hr,hB,hz'⟩:=aN w 83 #[.bool false,.slice none 0 0,.slice none 0 0];rw[← hW];clear hW;have hz:w.heap.size+1≤W.heap.size:=by omega
 clear hz';refine(afG W n h1 h2).mono ?_;rintro e wn ⟨vn,rfl,hb,hu⟩;have HN:=Ac (hu.mono (G:=(fun b=>w.heap.size+1≤b)) (fun b hb _=>by omega)); clear hu;replace hr:=hr.below hb hr.lt;replace hz:=Nat.le_trans hz hb.size;replace hB:=hB.trans (hb.mono hB.size);clear hb;dsimp only;go_wp2_with fail
 obtain⟨W2,hW2,hr2,hb,hz2⟩:=aN wn 166 #[.int .u32 1];have hone:Ah W2 (fun b=>w.heap.size+1≤b) (.slice (some ⟨wn.heap.size,0,none⟩) 1 1) 1:=by rw[hW2]; exact(acU wn).mono (fun b hb _=>by omega)
 rw[← hW2]; clear hW2 hr2 hz2;replace HN:=Ac (HN.out.below hb);replace hr:=hr.below hb hr.lt;replace hz:=Nat.le_trans hz hb.size;replace hB:=hB.trans (hb.mono hB.size);clear hb;have BH:=Ac hone; clear hone;rw[← hng];refine(pO _ (fun b=>w.heap.size+1≤b) ng _ _ n.natAbs 1 HN.out BH.out (by decide) hl (by rw[ig]; simp)).mono ?_;rintro e wn ⟨vm,rfl,hb,hu⟩;rw[HW.out] at hu;have hu2:RtV wn (fun b=>w.heap.size+1≤b) vm (n:Rat):=hu.mono (fun b hb _=>hb.elim id fun h=>by omega);have HM:=Ac hu2;obtain⟨Am,cm,Bm,dm,rfl,hn,hd⟩:=hu2.open;clear hn hd hu hu2;replace HN:=Ac (HN.out.below hb);replace BH:=Ac (BH.out.below hb);replace hr:=hr.below hb hr.lt;replace hz:=Nat.le_trans hz hb.size;replace hB:=hB.trans (hb.mono hB.size);clear hb;dsimp only;have q0:=hr.cell (i:=0) rfl;have y0:=hr.frozen 0;have q1:=hr.cell (i:=1) rfl;have y1:=hr.frozen 1;have q2:=hr.cell (i:=2) rfl;have y2:=hr.frozen 2;go_wp2
 obtain⟨Wz,hWz,hrz,hwz,hkz⟩:=dK hr (.bool (ay (n:Rat)).neg) (.slice Am (ay (n:Rat)).num.length cm) (.slice Bm (ay (n:Rat)).den.length dm);rw[← hWz];clear hWz q0 q1 q2 y0 y1 y2;have t0:=hrz.cell (i:=0) rfl;have t1:=hrz.cell (i:=1) rfl;have t2:=hrz.cell (i:=2) rfl;refine bodyPost_ret (v:=.agg #[.bool (ay (n:Rat)).neg,.slice Am (ay (n:Rat)).num.length cm,.slice Bm (ay (n:Rat)).den.length dm]) (by simp[results,Tryz.results75,go_sem,t0,t1,t2]) rfl ?_;exact⟨_,rfl,hwz _ _ (Nat.le_refl _) hB,(HM.out.on (hkz _ (by omega))).mono (fun b hb _=>by omega)⟩
def Fact.ain (B:Nat) (t:TypeId) (l:List Value):Fact:=⟨fun v w=>∃ b,v = .pointer (some ⟨b,0,none⟩)∧B≤b∧Row w b t l,fun _ _ _ ⟨b,h1,h2,h3⟩ hb=>⟨b,h1,h2,h3.below hb h3.lt⟩⟩
theorem qP (w:World) (F:Ag) (va vb:Value) (x y:Rat) (ha:RtV w F va x) (hb:RtV w F vb y) (hlx:rl x≤20000) (hly:rl y≤20000) :
  Calls Tryz.prog 100 #[va,vb] w (Ret w fun v _=>v = .int .i64 (iH x y)):=by
 have HO:=Ac (agw x y);have hny:=aiB y;have HX:=Ac ha.old; have HY:=Ac hb.old;obtain⟨A,c,B,d,rfl,hn,hd⟩:=ha.open;obtain⟨A',c',B',d',rfl,hn',hd'⟩:=hb.open;clear hn hd hn' hd' ha hb;go_enter Tryz.func100,Tryz.ntmps100;go_wp2_with fail
 obtain⟨W,hW,rx,ry,hB,hz⟩:=alloc2 w 83 #[.bool (ay x).neg,.slice A (ay x).num.length c,.slice B (ay x).den.length d] 83 #[.bool (ay y).neg,.slice A' (ay y).num.length c',.slice B' (ay y).den.length d'];rw[← hW];clear hW;replace HX:=Ac (HX.out.on (Below.same' hB _)); replace HY:=Ac (HY.out.on (Below.same' hB _));have hz:w.heap.size+2≤W.heap.size:=hz;have x0:=rx.cell (i:=0) rfl;have x1:=rx.cell (i:=1) rfl;have x2:=rx.cell (i:=2) rfl;have y0:=ry.cell (i:=0) rfl;have y1:=ry.cell (i:=1) rfl;have y2:=ry.cell (i:=2) rfl;clear rx ry;refine dQ (fun w'=>w'.cell? ⟨w.heap.size,0,none⟩=some (.bool (ay x).neg)∧w'.cell? ⟨w.heap.size,1,none⟩=some (.slice A (ay x).num.length c)∧w'.cell? ⟨w.heap.size,2,none⟩=some (.slice B (ay x).den.length d)∧w'.cell? ⟨w.heap.size+1,0,none⟩=some (.bool (ay y).neg)∧w'.cell? ⟨w.heap.size+1,1,none⟩=some (.slice A' (ay y).num.length c')∧w'.cell? ⟨w.heap.size+1,2,none⟩=some (.slice B' (ay y).den.length d')) 5 1 (by kernel_rfl) rfl (by kernel_rfl) ?_;have hHeld:(fun w':World=>w'.cell? ⟨w.heap.size,0,none⟩=some (.bool (ay x).neg)∧w'.cell? ⟨w.heap.size,1,none⟩=some (.slice A (ay x).num.length c)∧w'.cell? ⟨w.heap.size,2,none⟩=some (.slice B (ay x).den.length d)∧w'.cell? ⟨w.heap.size+1,0,none⟩=some (.bool (ay y).neg)∧w'.cell? ⟨w.heap.size+1,1,none⟩=some (.slice A' (ay y).num.length c')∧w'.cell? ⟨w.heap.size+1,2,none⟩=some (.slice B' (ay y).den.length d')) W.drew:=⟨x0,x1,x2,y0,y1,y2⟩;simp only[List.take_succ_cons,List.take_zero];have hb:Below W.heap.size W W.drew:=aF (Below.refl _ W) 1;replace x0:=ah x0 hb;replace x1:=ah x1 hb;replace x2:=ah x2 hb;replace y0:=ah y0 hb;replace y1:=ah y1 hb;replace y2:=ah y2 hb;replace HX:=Ac (HX.out.below hb);replace HY:=Ac (HY.out.below hb);replace hz:=Nat.le_trans hz hb.size;replace hB:=hB.trans (hb.mono hB.size);clear hb;generalize W.drew=wn at *;refine tk0 [0,1] ?_;iterate 2 (refine tk (v:=?_) rfl (by kernel_rfl) (by kernel_rfl) (by kernel_rfl) (fun _ _ _ h=>h) (Or.inl ⟨by rfl,?_⟩) hHeld ?_;rotate_left;(focus intro wx hSx;(try dsimp only at hSx);go_split_ands;go_simp;try with_reducible rfl);try simp only[Act.put,lq1,lq2,lq3,lq4,lq5,lq6])
 refine tk1 ?_;refine uX (js:=[2,3,4]) ((Hold.cell (w.heap.size) 0 (.bool (ay x).neg)).and ((Hold.cell (w.heap.size) 1 (.slice A (ay x).num.length c)).and ((Hold.cell (w.heap.size) 2 (.slice B (ay x).den.length d)).and ((Hold.cell (w.heap.size+1) 0 (.bool (ay y).neg)).and ((Hold.cell (w.heap.size+1) 1 (.slice A' (ay y).num.length c')).and ((Hold.cell (w.heap.size+1) 2 (.slice B' (ay y).den.length d')).and ((Hold.of (Fact.raw (Old F w.heap.size) (ay x)) (.agg #[.bool (ay x).neg,.slice A (ay x).num.length c,.slice B (ay x).den.length d])).and ((Hold.of (Fact.raw (Old F w.heap.size) (ay y)) (.agg #[.bool (ay y).neg,.slice A' (ay y).num.length c',.slice B' (ay y).den.length d'])).and (Hold.below (w.heap.size+2) wn))))))))) [(2,Fact.raw (Ext (Old F w.heap.size) (w.heap.size+2)) (ay (-y))),(3,Fact.raw (Ext (Old F w.heap.size) (w.heap.size+2)) (ay (x + -y))),(4,Fact.ain (w.heap.size+2) 83 [.bool false,.slice none 0 0,.slice none 0 0])] (by kernel_rfl) ⟨x0,x1,x2,y0,y1,y2,HX.out,HY.out,⟨hz,(Below.refl _ _).mono (Nat.le_refl _)⟩⟩ (fun _ h=>⟨h.1,h.2.1,h.2.2.1,h.2.2.2.1,h.2.2.2.2.1,h.2.2.2.2.2.1⟩) ?_;refine Flow.cons (o:=_) rfl (fun wk hS hf K hK=>?_) (fun v2=>?_)
 ·go_simp;refine(ahc wk (Old F w.heap.size) _ y hS.2.2.2.2.2.2.2.1).mono ?_;rintro e w' ⟨u,rfl,hb,hu⟩;exact hK.out _ _ hb (AB.mono hu (fun b hb _=>.inl hb))
 try simp only[Act.put,lq1,lq2,lq3,lq4,lq5,lq6]
 refine Flow.cons (o:=_) rfl (fun wk hS hf K hK=>?_) (fun v3=>?_)
 ·have f2:=jP (f:=Fact.raw (Ext (Old F w.heap.size) (w.heap.size+2)) (ay (-y))) (hf (2,v2) (by simp) (by kernel_rfl)) rfl;go_simp;refine(zo wk (Ext (Old F w.heap.size) (w.heap.size+2)) _ _ x (-y) (AB.mono hS.2.2.2.2.2.2.1 (fun b hb _=>.inl hb)) f2 hlx (by omega)).mono ?_;rintro e w' ⟨u,rfl,hb,hu⟩;have hw2:=hS.2.2.2.2.2.2.2.2.1;exact hK.out _ _ hb (AB.mono hu (fun b hb _=>hb.elim id fun h=>.inr (by omega)))
 try simp only[Act.put,lq1,lq2,lq3,lq4,lq5,lq6]
 refine Flow.cons (o:=_) rfl (fun wk hS hf K hK=>?_) (fun v4=>?_)
 ·go_simp;exact hK.out _ _ ((Below.refl _ _).alloc (Nat.le_refl _) _) ⟨_,rfl,hS.2.2.2.2.2.2.2.2.1,Row.new wk 83 #[.bool false,.slice none 0 0,.slice none 0 0]⟩
 try simp only[Act.put,lq1,lq2,lq3,lq4,lq5,lq6]
 refine Flow.nil (fun wE hS hf=>?_);have f3:=jP (f:=Fact.raw (Ext (Old F w.heap.size) (w.heap.size+2)) (ay (x + -y))) (hf (3,v3) (by simp)) rfl;have f4:=jP (f:=Fact.ain (w.heap.size+2) 83 [.bool false,.slice none 0 0,.slice none 0 0]) (hf (4,v4) (by simp)) rfl;have hBe:=hS.2.2.2.2.2.2.2.2.2;obtain⟨A6,c6,B6,d6,hv6,_,_⟩:=AB.open f3;dsimp only at hv6; subst hv6;obtain⟨bd,hv4,hbd,hrd⟩:=f4;dsimp only at hv4; subst hv4;have hBE:Below w.heap.size w wE:=hB.trans (hBe.mono (by omega));clear hf hS f3 x0 x1 x2 y0 y1 y2;show wpList _ _ _ _ _ _;have q0:=hrd.cell (i:=0) rfl; have z0:=hrd.frozen 0;have q1:=hrd.cell (i:=1) rfl; have z1:=hrd.frozen 1;have q2:=hrd.cell (i:=2) rfl; have z2:=hrd.frozen 2;go_wp2_with fail
 show Exit.then _ _ .normal _ _;obtain⟨W2,hW2,aiQ,hw2,_⟩:=dK hrd (.bool (ay (x + -y)).neg) (.slice A6 (ay (x + -y)).num.length c6) (.slice B6 (ay (x + -y)).den.length d6);rw[← hW2];have hB2:Below w.heap.size w W2:=hw2 _ _ (by omega) hBE;clear hW2 q0 q1 q2 z0 z1 z2;have q0:=aiQ.cell (i:=0) rfl;have q1:=aiQ.cell (i:=1) rfl;have q2:=aiQ.cell (i:=2) rfl;have HSG:jV (x + -y)=if (x + -y).num.natAbs=0 then 0 else if dI (x + -y) then -1 else 1:=rfl
 have HSGN:=Ac HSG; clear HSG;rw[aaQ] at q1;rw[jO] at q0;by_cases h0:(x + -y).num.natAbs=0
 ·have HE:=Ac (show iH x y=0 by rw[HO.out,HSGN.out,if_pos h0]);have hl0:(((dig (x + -y).num.natAbs).length:Int)==0)=true:=by rw[h0,aY]; rfl
  clear h0;go_wp2
  go_ret;exact⟨_,rfl,hB2,by rw[HE.out]; rfl⟩
 ·have hl0:(((dig (x + -y).num.natAbs).length:Int)==0)=false:=by have:=aX.2 h0; exact beq_false_of_ne (by omega)
  have HE1:=Ac (show iH x y=if dI (x + -y) then -1 else 1 by rw[HO.out,HSGN.out,if_neg h0]);clear h0;generalize dI (x + -y)=ng at *;cases ng
  ·have HE:=Ac (show iH x y=1 from HE1.out);go_wp2
   go_ret;exact⟨_,rfl,hB2,by rw[HE.out]; rfl⟩
  ·have HE:=Ac (show iH x y = -1 from HE1.out);go_wp2
   go_ret;exact⟨_,rfl,hB2,by rw[HE.out]; rfl⟩
theorem rV (w:World) (n:Nat) (h2:n≤1000000000000) :
  Calls Tryz.prog 144 #[.int .i64 (n:Int)] w (Ret w fun v w'=>Ah w' (fun b=>w.heap.size≤b) v n):=by
 go_enter Tryz.func144,Tryz.ntmps144;go_wp2
 go_loopw [0,3] (fun u v wr=>∃ (m:Nat) (l:List Nat),u = .int .i64 (m:Int)∧m≤1000000000000∧l++dig m=dig n∧wr.ownsRow w.heap.size 166 1 v l.length (aP l)∧Below w.heap.size w wr) (fun u _ _=>(intOf u).natAbs)
 case atStart=>exact⟨n,[],rfl,h2,rfl,World.ownsRow_nil _ _ _ _,Below.refl _ _⟩
 case round =>
  obtain⟨m,l,rfl,hm2,hd,hown,hbel⟩:=hrel;have HD:=Ac hd;have HO:=Ac hown;have hll:l.length≤1000000:=by
   have h1:(dig n).length≤3:=bg (by unfold LB; omega);rw[← hd,List.length_append] at h1; omega
  clear hd hown;by_cases h0:m=0
  ·subst h0;go_wp2
   go_ret;refine⟨_,rfl,hbel,?_⟩;have h2:=HD.out;rw[aY,List.append_nil] at h2;unfold Ah; rw[← h2];exact gq HO.out fun b hb=>(HO.out.lt b hb).1
  ·have hne:decide (0 < m)=true:=by simp; omega
   have HD2:=Ac (show l ++ [m % 1000000000]++dig (m / 1000000000)=dig n by rw[← HD.out,jy h0]; simp[LB]);obtain⟨r,hr⟩:∃ r:Nat,r=m % 1000000000:=⟨_,rfl⟩;obtain⟨m2,aar⟩:∃ m2:Nat,m2=m / 1000000000:=⟨_,rfl⟩;rw[← hr,← aar] at HD2;have hr9:r < 1000000000:=by omega
   have HLT:=Ac (show m2 < m by omega);have hm2b:m2≤1000000000000:=by omega
   have ht:(m:Int).tmod 1000000000=(r:Int):=by rw[hr]; rfl
   have hq:(m:Int).tdiv 1000000000=(m2:Int):=by rw[aar]; rfl
   clear hr aar h0;go_wp2_with (at_builtin; refine bK rfl _ _ 81 Tryz.underlying81 rfl w.heap.size (Nat.le_refl _) u3 l rfl _ r (by omega) hll rfl HO.out hbel ?_; intro g cap w' hown' dB hlt' fC; have HO':=Ac hown'; clear hown' fC)
   go_roundw
   case rel=>exact⟨m2,l ++ [r],by go_num,hm2b,HD2.out,by simpa using HO'.out,dB⟩
   case measure=>simp only[intOf]; have:=HLT.out; omega
theorem ae3 (w:World) (a b:Nat) (h1:a≤1000000000000) (h2:b≤1000000000000) :
  Calls Tryz.prog 143 #[.int .i64 (a:Int),.int .i64 (b:Int)] w (Ret w fun v _=>v = .int .i64 (Nat.gcd a b:Int)):=by
 go_enter Tryz.func143,Tryz.ntmps143;go_wp2
 go_loopw [0,1] (fun u v wr=>∃ (x y:Nat),u = .int .i64 (x:Int)∧v = .int .i64 (y:Int)∧x≤1000000000000∧y≤1000000000000∧Nat.gcd x y=Nat.gcd a b∧Below w.heap.size w wr) (fun _ v _=>(intOf v).natAbs)
 case atStart=>exact⟨a,b,rfl,rfl,h1,h2,rfl,Below.refl _ _⟩
 case round =>
  obtain⟨x,y,rfl,rfl,hx,hy,hg,hbel⟩:=hrel;have HG:=Ac hg; clear hg;by_cases h0:y=0
  ·subst h0;have hmx:(if -(x:Int) > (x:Int) then -(x:Int) else (x:Int))=(x:Int):=if_neg (by omega);have hnl:¬ ((x:Int) < -(x:Int)):=by omega
   go_wp2
   go_ret;refine⟨_,rfl,hbel,?_⟩;have:=HG.out;rw[Nat.gcd_zero_right] at this;rw[← this]; first | rfl | (rw[hmx]) | (simp[hnl])
  ·have hne:((y:Int) != 0)=true:=by simp; omega
   obtain⟨r,hr⟩:∃ r:Nat,r=x % y:=⟨_,rfl⟩;have ht:(x:Int).tmod (y:Int)=(r:Int):=by rw[hr]; rfl
   have hlt:r < y:=by rw[hr]; exact Nat.mod_lt _ (by omega)
   have HG2:=Ac (show Nat.gcd y r=Nat.gcd a b by rw[← HG.out,hr,Nat.gcd_comm x y,Nat.gcd_rec y x,Nat.gcd_comm]);clear hr;have hy0:(y:Int)≠0:=by omega
   go_wp2
   go_quiet (fail)
   go_wp2
   go_roundw
   case rel=>exact⟨y,r,rfl,by go_num,hy,by omega,HG2.out,aF hbel _⟩
   case measure=>simp only[intOf]; omega
theorem nX (neg:Bool) (n b:Nat) (hb:b≠0):ay (mkRat (sgI neg n) b)=⟨neg&&decide (n≠0),dig (n / Nat.gcd n b),dig (b / Nat.gcd n b)⟩:=by
 have h:=jK (sgI neg n) hb;rw[lS] at h;unfold ay;rw[h.1,h.2.1,kQ _ hb];by_cases h0:n=0
 ·subst h0; rw[yE]; simp
 ·rw[rO h0]; simp[h0]
theorem aaZ (w:World) (n b:Nat) (h1:n≤1000000000000) (h2:b≤1000000000000) (hb0:b≠0) :
  Calls Tryz.prog 89 #[.int .i64 (n:Int),.int .i64 (b:Int)] w (Ret w fun v w'=>RtV w' (fun b=>w.heap.size≤b) v (mkRat (sgI false n) b)):=by
 have HM:=Ac (nX false n b hb0);unfold RtV;rw[HM.out];clear HM;have hg0:0 < Nat.gcd n b:=Nat.gcd_pos_of_pos_right _ (by omega);have HGN:=Ac (Nat.gcd_dvd_left n b);have HG:=Ac (show ∀ w,Calls Tryz.prog 143 #[.int .i64 (n:Int),.int .i64 (b:Int)] w (Ret w fun v _=>v = .int .i64 (Nat.gcd n b:Int)) from fun w=>ae3 w n b h1 h2);generalize Nat.gcd n b=g at *;have e1:n / g≤n:=Nat.div_le_self _ _;have e2:b / g≤b:=Nat.div_le_self _ _;have t2:(b:Int).tdiv (g:Int)=((b / g:Nat):Int):=rfl;have hgz:(g:Int)≠0:=by omega
 have t1:(n:Int).tdiv (g:Int)=((n / g:Nat):Int):=rfl;have hbn:(false&&decide (n≠0))=false:=rfl;rw[hbn];have h1':n≤1000000000000:=h1;obtain⟨q,hq⟩:∃ q,q=n / g:=⟨_,rfl⟩;obtain⟨d,hd⟩:∃ d,d=b / g:=⟨_,rfl⟩;rw[← hq] at t1 e1 ⊢;rw[← hd] at t2 e2 ⊢;clear hq hd hbn;have hmx:(if -(n:Int) > (n:Int) then -(n:Int) else (n:Int))=(n:Int):=if_neg (by omega);have hnl:¬ ((n:Int) < -(n:Int)):=by omega
 have hlt:decide ((q:Int) < 0)=false:=decide_eq_false (by omega);go_enter Tryz.func89,Tryz.ntmps89;go_wp2_with fail
 obtain⟨W,hW,hr,hB,hz'⟩:=aN w 83 #[.bool false,.slice none 0 0,.slice none 0 0];rw[← hW];clear hW;have hz:w.heap.size+1≤W.heap.size:=by omega
 clear hz';try rw[hmx]
 refine(HG.out _).mono ?_;rintro e wn ⟨vn,rfl,hb,rfl⟩;replace hr:=hr.below hb hr.lt;replace hz:=Nat.le_trans hz hb.size;replace hB:=hB.trans (hb.mono hB.size);clear hb;dsimp only;go_wp2_with fail
 go_quiet (fail)
 have hb:Below wn.heap.size wn (wn.drewN nq):=aF (Below.refl _ wn) nq;replace hr:=hr.below hb hr.lt;replace hz:=Nat.le_trans hz hb.size;replace hB:=hB.trans (hb.mono hB.size);clear hb;generalize wn.drewN nq=wn at *;go_wp2_with fail
 refine(rV _ q (by omega)).mono ?_;rintro e wn ⟨vn,rfl,hb,hu⟩;have HN:=Ac (hu.mono (G:=(fun b=>w.heap.size+1≤b)) (fun b hb _=>by omega)); clear hu;replace hr:=hr.below hb hr.lt;replace hz:=Nat.le_trans hz hb.size;replace hB:=hB.trans (hb.mono hB.size);clear hb;dsimp only;go_wp2_with fail
 refine(rV _ d (by omega)).mono ?_;rintro e wn ⟨vd,rfl,hb,hu⟩;have HD:=Ac (hu.mono (G:=(fun b=>w.heap.size+1≤b)) (fun b hb _=>by omega)); clear hu;replace HN:=Ac (HN.out.below hb);replace hr:=hr.below hb hr.lt;replace hz:=Nat.le_trans hz hb.size;replace hB:=hB.trans (hb.mono hB.size);clear hb;have hn:=HN.out; have hd:=HD.out;obtain⟨Am,cm,rfl,_,_⟩:=hn;obtain⟨Bm,dm,rfl,_,_⟩:=hd;dsimp only;have q0:=hr.cell (i:=0) rfl;have y0:=hr.frozen 0;have q1:=hr.cell (i:=1) rfl;have y1:=hr.frozen 1;have q2:=hr.cell (i:=2) rfl;have y2:=hr.frozen 2;go_wp2
 obtain⟨Wz,hWz,hrz,hwz,hkz⟩:=dK hr (.bool false) (.slice Am (dig q).length cm) (.slice Bm (dig d).length dm);rw[← hWz];clear hWz q0 q1 q2 y0 y1 y2;have t0:=hrz.cell (i:=0) rfl;have t1:=hrz.cell (i:=1) rfl;have t2:=hrz.cell (i:=2) rfl;refine bodyPost_ret (v:=.agg #[.bool false,.slice Am (dig q).length cm,.slice Bm (dig d).length dm]) (by simp[results,Tryz.results89,go_sem,t0,t1,t2]) rfl ?_;exact⟨_,rfl,hwz _ _ (Nat.le_refl _) hB,_,_,rfl,(HN.out.on (hkz _ (by omega))).mono (fun b hb _=>by omega),(HD.out.on (hkz _ (by omega))).mono (fun b hb _=>by omega)⟩
theorem afI (w:World) (n b:Nat) (h1:n≤1000000000000) (h2:b≤1000000000000) (hb0:b≠0) (hn0:n≠0) :
  Calls Tryz.prog 89 #[.int .i64 (-(n:Int)),.int .i64 (b:Int)] w (Ret w fun v w'=>RtV w' (fun b=>w.heap.size≤b) v (mkRat (sgI true n) b)):=by
 have HM:=Ac (nX true n b hb0);unfold RtV;rw[HM.out];clear HM;have hg0:0 < Nat.gcd n b:=Nat.gcd_pos_of_pos_right _ (by omega);have HGN:=Ac (Nat.gcd_dvd_left n b);have HG:=Ac (show ∀ w,Calls Tryz.prog 143 #[.int .i64 (n:Int),.int .i64 (b:Int)] w (Ret w fun v _=>v = .int .i64 (Nat.gcd n b:Int)) from fun w=>ae3 w n b h1 h2);generalize Nat.gcd n b=g at *;have e1:n / g≤n:=Nat.div_le_self _ _;have e2:b / g≤b:=Nat.div_le_self _ _;have t2:(b:Int).tdiv (g:Int)=((b / g:Nat):Int):=rfl;have hgz:(g:Int)≠0:=by omega
 have t1:(-(n:Int)).tdiv (g:Int) = -((n / g:Nat):Int):=by rw[Int.neg_tdiv]; rfl
 have hq0:0 < n / g:=Nat.div_pos (Nat.le_of_dvd (by omega) HGN.out) hg0;have hbn:(true&&decide (n≠0))=true:=by simp[hn0]
 rw[hbn];have h1':n≤1000000000000:=h1;obtain⟨q,hq⟩:∃ q,q=n / g:=⟨_,rfl⟩;obtain⟨d,hd⟩:∃ d,d=b / g:=⟨_,rfl⟩;rw[← hq] at t1 e1 ⊢;rw[← hd] at t2 e2 ⊢;rw[← hq] at hq0;clear hq hd hbn;have hmx:(if - -(n:Int) > -(n:Int) then - -(n:Int) else -(n:Int))=(n:Int):=by rw[if_pos (by omega)]; omega
 have hnl:(-(n:Int) < - -(n:Int)):=by omega
 have hnl2:(-(n:Int) < (n:Int)):=by omega
 have hlt:decide (-(q:Int) < 0)=true:=decide_eq_true (by omega);have hlt2:decide (0 < q)=true:=decide_eq_true hq0;go_enter Tryz.func89,Tryz.ntmps89;go_wp2_with fail
 obtain⟨W,hW,hr,hB,hz'⟩:=aN w 83 #[.bool false,.slice none 0 0,.slice none 0 0];rw[← hW];clear hW;have hz:w.heap.size+1≤W.heap.size:=by omega
 clear hz';try rw[hmx]
 refine(HG.out _).mono ?_;rintro e wn ⟨vn,rfl,hb,rfl⟩;replace hr:=hr.below hb hr.lt;replace hz:=Nat.le_trans hz hb.size;replace hB:=hB.trans (hb.mono hB.size);clear hb;dsimp only;go_wp2_with fail
 go_quiet (fail)
 have hb:Below wn.heap.size wn (wn.drewN nq):=aF (Below.refl _ wn) nq;replace hr:=hr.below hb hr.lt;replace hz:=Nat.le_trans hz hb.size;replace hB:=hB.trans (hb.mono hB.size);clear hb;generalize wn.drewN nq=wn at *;go_wp2_with fail
 refine(rV _ q (by omega)).mono ?_;rintro e wn ⟨vn,rfl,hb,hu⟩;have HN:=Ac (hu.mono (G:=(fun b=>w.heap.size+1≤b)) (fun b hb _=>by omega)); clear hu;replace hr:=hr.below hb hr.lt;replace hz:=Nat.le_trans hz hb.size;replace hB:=hB.trans (hb.mono hB.size);clear hb;dsimp only;go_wp2_with fail
 refine(rV _ d (by omega)).mono ?_;rintro e wn ⟨vd,rfl,hb,hu⟩;have HD:=Ac (hu.mono (G:=(fun b=>w.heap.size+1≤b)) (fun b hb _=>by omega)); clear hu;replace HN:=Ac (HN.out.below hb);replace hr:=hr.below hb hr.lt;replace hz:=Nat.le_trans hz hb.size;replace hB:=hB.trans (hb.mono hB.size);clear hb;have hn:=HN.out; have hd:=HD.out;obtain⟨Am,cm,rfl,_,_⟩:=hn;obtain⟨Bm,dm,rfl,_,_⟩:=hd;dsimp only;have q0:=hr.cell (i:=0) rfl;have y0:=hr.frozen 0;have q1:=hr.cell (i:=1) rfl;have y1:=hr.frozen 1;have q2:=hr.cell (i:=2) rfl;have y2:=hr.frozen 2;go_wp2
 obtain⟨Wz,hWz,hrz,hwz,hkz⟩:=dK hr (.bool true) (.slice Am (dig q).length cm) (.slice Bm (dig d).length dm);rw[← hWz];clear hWz q0 q1 q2 y0 y1 y2;have t0:=hrz.cell (i:=0) rfl;have t1:=hrz.cell (i:=1) rfl;have t2:=hrz.cell (i:=2) rfl;refine bodyPost_ret (v:=.agg #[.bool true,.slice Am (dig q).length cm,.slice Bm (dig d).length dm]) (by simp[results,Tryz.results89,go_sem,t0,t1,t2]) rfl ?_;exact⟨_,rfl,hwz _ _ (Nat.le_refl _) hB,_,_,rfl,(HN.out.on (hkz _ (by omega))).mono (fun b hb _=>by omega),(HD.out.on (hkz _ (by omega))).mono (fun b hb _=>by omega)⟩
theorem afJ (w:World) (a:Int) (b:Nat) (h1:-1000000000000≤a) (h2:a≤1000000000000) (h3:b≤1000000000000) (hb0:b≠0) :
  Calls Tryz.prog 89 #[.int .i64 a,.int .i64 (b:Int)] w (Ret w fun v w'=>RtV w' (fun b=>w.heap.size≤b) v (mkRat a b)):=by
 obtain⟨n,rfl | rfl⟩:=Int.eq_nat_or_neg a
 ·have:=aaZ w n b (by omega) h3 hb0;simpa [sgI] using this
 ·by_cases h0:n=0
  ·subst h0;have:=aaZ w 0 b (by omega) h3 hb0;simpa [sgI] using this
  ·have:=afI w n b (by omega) h3 hb0 h0;simpa [sgI] using this
theorem Row.gB {w:World} {b:Nat} {l:List Int} (h:Row w b 3 (l.map (Value.int .i64))) {F:Ag} (hF:F b):Ak w F (.slice (some ⟨b,0,none⟩) l.length l.length) l:=by
 refine⟨_,_,rfl,Nat.le_refl _,fun _=>⟨b,0,rfl,hF,h.lt,fun k x hk=>?_⟩⟩;unfold fF;rw[Nat.zero_add,Nat.mul_one];exact h.cell (by rw[List.getElem?_map,hk]; rfl)
theorem ahd {w:World} {F:Ag} {b:Nat} {v1 v2 v3:Value} {l1 l2 l3:List Raw} (h:Row w b 64 [v1,v2,v3]) (hF:F b) (h1:Aw w F v1 l1) (h2:Aw w F v2 l2) (h3:Aw w F v3 l3):Ae w F (.slice (some ⟨b,0,none⟩) 3 3) [l1,l2,l3]:=by
 refine⟨_,_,rfl,Nat.le_refl _,fun _=>⟨b,0,rfl,hF,h.lt,fun k x hk=>?_⟩⟩;rw[Nat.zero_add,Nat.mul_one];match k,hk with
 | 0,hk=>cases hk; exact⟨v1,h.cell rfl,h1⟩
 | 1,hk=>cases hk; exact⟨v2,h.cell rfl,h2⟩
 | 2,hk=>cases hk; exact⟨v3,h.cell rfl,h3⟩
theorem sS (w:World) (F:Ag) (v:Value) (l:List Nat) (hv:Aj w F v l) (hu:∀ x∈l,x < 4294967296) (hl:l.length≤1000000) :
  Calls Tryz.prog 184 #[v] w fun e w'=>e = .returned (.int .i64 (bV l))∧w=w':=by
 obtain⟨A,c,rfl,hc,hN⟩:=hv;have HN:=Ac hN; clear hN;have HU:=Ac hu; clear hu;by_cases h1:1024 < l.length
 ·have HE:=Ac (show bV l=4 by unfold bV; rw[if_pos h1]);have d1:decide ((1024:Int) < (l.length:Int))=true:=decide_eq_true (by omega);clear h1;go_enter Tryz.func184,Tryz.ntmps184;go_wp2
  go_ret;exact⟨by rw[HE.out]; rfl,rfl⟩
 have d1:decide ((1024:Int) < (l.length:Int))=false:=decide_eq_false (by omega);have H1:=Ac h1;go_enter Tryz.func184,Tryz.ntmps184;go_wp2
 go_loopw [3] (fun i wr=>∃ k:Nat,k≤l.length∧i = .int .i64 (k:Int)∧(l.take k).any (fun x=>decide (LB≤x))=false∧w=wr) (fun i _=>l.length - (intOf i).toNat)
 case atStart=>exact⟨0,by omega,rfl,rfl,rfl⟩
 case round =>
  obtain⟨k,hk,rfl,hpre,rfl⟩:=hrel;have HP:=Ac hpre; clear hpre;by_cases hlt:k < l.length
  ·obtain⟨b,o,rfl,_,hb,hx⟩:=HN.out (by omega);obtain⟨x,hx'⟩:=ak hlt;have ex:=hx k x hx';unfold bP at ex; rw[Nat.mul_one] at ex;have hxu:=HU.out x (List.mem_of_getElem? hx');have HX:=Ac hx';clear hx hx';by_cases hbad:1000000000≤x
   ·have HE:=Ac (show bV l=3 by
     unfold bV;rw[if_neg H1.out,if_pos (List.any_eq_true.2 ⟨x,List.mem_of_getElem? HX.out,decide_eq_true hbad⟩)])
    have d2:decide ((1000000000:Int)≤(x:Int))=true:=decide_eq_true (by omega);clear hbad;go_wp2
    go_ret;exact⟨by rw[HE.out]; rfl,rfl⟩
   ·have d2:decide ((1000000000:Int)≤(x:Int))=false:=decide_eq_false (by omega);have HB:=Ac (show(decide (LB≤x))=false from decide_eq_false hbad);go_wp2
    go_roundw
    case rel=>exact⟨k+1,by omega,by go_num,sO HX.out HP.out HB.out,by first | rfl | trivial⟩
    case measure=>simp[intOf]; omega
  ·have HA:=Ac (show l.any (fun x=>decide (LB≤x))=false by have:=HP.out; rwa [List.take_of_length_le (by omega)] at this);by_cases h0:0 < l.length
   ·obtain⟨b,o,rfl,_,hb,hx⟩:=HN.out h0;obtain⟨n1,hn1⟩:∃ n1,n1+1=l.length:=⟨l.length - 1,by omega⟩;obtain⟨x,hx'⟩:=ak (l:=l) (k:=n1) (by omega);have ex:=hx n1 x hx';unfold bP at ex; rw[Nat.mul_one] at ex;have HX:=Ac (show bV l=if x=0 then 3 else 0 by
     unfold bV;rw[if_neg H1.out,HA.out,if_neg (by decide),List.getLast?_eq_getElem?,show l.length - 1=n1 by omega,hx'];simp)
    have i1:(l.length:Int) - 1=(n1:Int):=by omega
    clear hx hx' hn1;by_cases hz:x=0
    ·have d3:((x:Int)==0)=true:=by rw[hz]; rfl
     have HE:=Ac (show bV l=3 by rw[HX.out,if_pos hz]);clear hz;go_wp2
     go_ret;exact⟨by rw[HE.out]; rfl,rfl⟩
    ·have d3:((x:Int)==0)=false:=beq_false_of_ne (by omega);have HE:=Ac (show bV l=0 by rw[HX.out,if_neg hz]);clear hz;go_wp2
     go_ret;exact⟨by rw[HE.out]; rfl,rfl⟩
   ·have HE:=Ac (show bV l=0 by
     have:l = []:=List.eq_nil_of_length_eq_zero (by omega);rw[this]; rfl)
    have d3:decide ((0:Int) < (l.length:Int))=false:=decide_eq_false (by omega);go_wp2
    go_ret;exact⟨by rw[HE.out]; rfl,rfl⟩
theorem aea (w:World) (F:Ag) (vn vd:Value) (num den:List Nat) (hn:Aj w F vn num) (hd:Aj w F vd den) (hnu:∀ x∈num,x < 4294967296) (hdu:∀ x∈den,x < 4294967296) (hln:num.length≤1000000) (hld:den.length≤1000000) :
  Calls Tryz.prog 150 #[vn,vd] w fun e w'=>e = .returned (.int .i64 (dh num den))∧w=w':=by
 have HN:=Ac hn; have HD:=Ac hd;obtain⟨A,c,rfl,hc,hN⟩:=hn;obtain⟨B,d,rfl,hd,hM⟩:=hd;clear hN hM;have HNU:=Ac hnu; have HDU:=Ac hdu; clear hnu hdu;have HP:=Ac (show dh num den=if bV num≠0 then bV num else if bV den≠0 then bV den else if den.length=0 then 6 else 0 from rfl);go_enter Tryz.func150,Tryz.ntmps150;go_wp2_with fail
 refine(sS w F _ num HN.out HNU.out hln).mono ?_;rintro e w' ⟨rfl,rfl⟩;generalize bV num=e1 at *;by_cases h1:e1=0
 ·have t1:(e1 != 0)=false:=by rw[h1]; rfl
  go_wp2_with fail
  refine(sS w F _ den HD.out HDU.out hld).mono ?_;rintro e w' ⟨rfl,rfl⟩;generalize bV den=e2 at *;by_cases h2:e2=0
  ·have t2:(e2 != 0)=false:=by rw[h2]; rfl
   by_cases h3:den.length=0
   ·have t3:((den.length:Int)==0)=true:=by rw[h3]; rfl
    have HE:=Ac (show dh num den=6 by rw[HP.out,if_neg (by simpa using h1),if_neg (by simpa using h2),if_pos h3]);clear h1 h2 h3;go_wp2
    go_ret;exact⟨by rw[HE.out]; rfl,rfl⟩
   ·have t3:((den.length:Int)==0)=false:=beq_false_of_ne (by omega);have HE:=Ac (show dh num den=0 by rw[HP.out,if_neg (by simpa using h1),if_neg (by simpa using h2),if_neg h3]);clear h1 h2 h3;go_wp2
    go_ret;exact⟨by rw[HE.out]; rfl,rfl⟩
  ·have t2:(e2 != 0)=true:=by simp[h2]
   have HE:=Ac (show dh num den=e2 by rw[HP.out,if_neg (by simpa using h1),if_pos h2]);clear h1 h2;go_wp2
   go_ret;exact⟨by rw[HE.out]; rfl,rfl⟩
 ·have t1:(e1 != 0)=true:=by simp[h1]
  have HE:=Ac (show dh num den=e1 by rw[HP.out,if_pos h1]);clear h1;go_wp2
  go_ret;exact⟨by rw[HE.out]; rfl,rfl⟩
end Go.Proofs.YthmklhapjegfdaaGreatDoor
