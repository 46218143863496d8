/- Sums of natural numbers: wide.plus, parlourref01.Plus. -/
import Derived.Test.YtnmeejofpkhlkaaGreatDoorR06
import Derived.Deep.CutRange
set_option linter.all false
set_option maxRecDepth 100000
set_option maxHeartbeats 12800000
namespace Go.Proofs.YtnmeejofpkhlkaaGreatDoor
open Lib renaming hid → Ag
open Go.RowKit
theorem aib {o:List Nat} {a b c:Nat} (ho:Limbs o) (hl:o.length=(dig a).length) (hc:c≤1) (h:aH o+LB ^ (dig a).length*c=a+b):dig (a+b)=if c=0 then o else o ++ [c]:=by
 split
 ·rename_i h0; subst h0
  rw[← h,Nat.mul_zero,Nat.add_zero];refine agI ho fun hne=>?_
  rw[Nat.mul_zero,Nat.add_zero] at h;have h1:a≠0:=fun e=>hne (List.eq_nil_of_length_eq_zero (by rw[hl,e,bD]; rfl))
  have:=acf h1;rw[hl];omega
 ·rename_i h0
  have hc1:c=1:=byOmega;subst hc1;rw[← h,← hl,← rJ];exact qy (ho.concat ay) (by rw[List.getLast?_concat]; intro e; cases e)
theorem agU (w:World) (F:Foot) (va vb:Value) (a0 b0:Nat) (ha:Ah w F va a0) (hb:Ah w F vb b0) (hla:(dig a0).length≤100000) (hlb:(dig b0).length≤100000) :
  Calls Tryz.prog 168 #[va,vb] w (Ret w fun v w'=>Ah w' (fun b=>w.heap.size≤b) v (a0+b0)):=by
 have HA:=Ag ha;have HB:=Ag hb;obtain⟨A,c,rfl,hc,hNa⟩:=ha;obtain⟨B,d,rfl,hd,hNb⟩:=hb;clear hNa hNb;go_in
 go_upto_if 14 with fail
 go_cut [0,1] from 15 to 16 (fun va vb wx=>∃ a b,w=wx∧Ah w F va a∧Ah w F vb b∧a+b=a0+b0∧(dig b).length≤(dig a).length∧(dig a).length≤100000)
 case first =>
  by_cases h:(dig a0).length < (dig b0).length
  ·go_wp2_with fail
   go_meet
   exact⟨b0,a0,rfl,HB.out,HA.out,byOmega,byOmega,hlb⟩
  ·have hdd:decide ((dig a0).length < (dig b0).length)=false:=decide_eq_false h;go_wp2_with fail
   go_meet
   exact⟨a0,b0,rfl,HA.out,HB.out,rfl,byOmega,hla⟩
 case rest =>
 clear hc hd hla hlb HA HB;obtain⟨a,b,rfl,ha,hb,hsum,hle,hla⟩:=hcut;have HE:=Ag hsum;clear hsum;obtain⟨A,c,rfl,hc,hNa⟩:=ha;obtain⟨B,d,rfl,hd,hNb⟩:=hb;have HA:=Ag hNa;have HB:=Ag hNb;clear hNa hNb;go_wp2_with (at_make; refine aa9 rfl _ _ 39 rfl Tryz.underlying39 ((dig a).length+1) _ byOmega rfl rfl byOmega ?_; intro w1 hb1 hown1)
 have HO1:=Ag hown1; clear hown1;go_loopw [5,6,23] (fun v cy i wr=>∃ (k:Nat) (l:List Nat) (cr:Nat),k≤(dig a).length∧i = .int .i64 k∧cy = .int .u32 (cr:Int)∧cr≤1∧l.length=k∧Limbs l∧aH l+LB ^ k*cr=aH ((dig a).take k)+aH ((dig b).take k) ∧
  wr.ownsRow w.heap.size 103 1 v l.length (aT l)∧Below w.heap.size w wr) (fun _ _ i _=>(dig a).length - (intOf i).toNat)
 case atStart=>exact⟨0,[],0,byOmega,rfl,rfl,byOmega,rfl,(fun x hx=>by cases hx),by simp[aH],HO1.out,hb1⟩
 case round =>
  obtain⟨k,l,cr,hk,rfl,rfl,hcr,hlen,hlim,hinv,hown,hbel⟩:=hrel;have HL:=Ag hlen;have HI:=Ag hinv;have HO:=Ag hown;have HM:=Ag hlim;have hll:l.length≤1000000:=byOmega;clear hlen hinv hown hlim;have hold:=aQ hbel;by_cases hlt:k < (dig a).length
  ·obtain⟨b1,o1,rfl,_,hb1',hx⟩:=HA.out byOmega;refine zbj ?_;intro x hx' ex;unfold dB at ex;refine Yi ?_;clear ex;intro ex hxl HX;clear hx hx';by_cases hlt2:k < (dig b).length
   ·obtain⟨b2,o2,rfl,_,hb2',hy⟩:=HB.out byOmega;obtain⟨y,hy'⟩:=getSome hlt2;have ey:=hy k y hy';unfold dB at ey;refine zae ?_;clear ey;intro ey hyl HY;clear hy hy';have hs:(∃ s,x+cr+y=s+1000000000)∨x+cr+y < 1000000000:=by
     by_cases h:1000000000≤x+cr+y
     ·exact .inl ⟨x+cr+y - 1000000000,byOmega⟩
     ·exact .inr byOmega
    rcases hs with⟨s,hs⟩ | hs
    ·have hdd:decide ((1000000000:Int)≤(x:Int)+(cr:Int)+(y:Int))=true:=decide_eq_true byOmega;have hsI:(1000000000:Int)≤(x:Int)+(cr:Int)+(y:Int):=byOmega;have HS:=Ag hs;clear hs;go_wp2_with (at_builtin; refine dW rfl _ _ 39 Tryz.underlying39 rfl w.heap.size (Nat.le_refl _) u5 l rfl _ (s) (by have:=HS.out; omega) hll rfl HO.out hbel ?_; intro g cap w' hown' fQ hlt' lg; have HO':=Ag hown'; clear hown' lg)
     go_roundw
     case rel=>exact⟨k+1,l ++ [s],1,byOmega,by go_num,rfl,byOmega,by rw[List.length_append,HL.out]; rfl,HM.out.concat (by have:=HS.out; show _ < 1000000000; omega),vU HL.out HI.out (by have:=HS.out; rw[HX.out,HY.out]; show _+1000000000*_=_; omega),by simpa using HO'.out,fQ⟩
     case measure=>simp[intOf]; omega
    ·have hdd:decide ((1000000000:Int)≤(x:Int)+(cr:Int)+(y:Int))=false:=decide_eq_false byOmega;go_wp2_with (at_builtin; refine dW rfl _ _ 39 Tryz.underlying39 rfl w.heap.size (Nat.le_refl _) u5 l rfl _ (x+cr+y) byOmega hll rfl HO.out hbel ?_; intro g cap w' hown' fQ hlt' lg; have HO':=Ag hown'; clear hown' lg)
     go_roundw
     case rel=>exact⟨k+1,l ++ [x+cr+y],0,byOmega,by go_num,rfl,byOmega,by rw[List.length_append,HL.out]; rfl,HM.out.concat (by show _ < 1000000000; omega),vU HL.out HI.out (by rw[HX.out,HY.out]; show _+1000000000*_=_; omega),by simpa using HO'.out,fQ⟩
     case measure=>simp[intOf]; omega
   ·refine YH ?_;intro hdd HY;have hs:(∃ s,x+cr=s+1000000000)∨x+cr < 1000000000:=by
     by_cases h:1000000000≤x+cr
     ·exact .inl ⟨x+cr - 1000000000,byOmega⟩
     ·exact .inr byOmega
    rcases hs with⟨s,hs⟩ | hs
    ·have hdd:decide ((1000000000:Int)≤(x:Int)+(cr:Int))=true:=decide_eq_true byOmega;have hsI:(1000000000:Int)≤(x:Int)+(cr:Int):=byOmega;have HS:=Ag hs;clear hs;go_wp2_with (at_builtin; refine dW rfl _ _ 39 Tryz.underlying39 rfl w.heap.size (Nat.le_refl _) u5 l rfl _ (s) (by have:=HS.out; omega) hll rfl HO.out hbel ?_; intro g cap w' hown' fQ hlt' lg; have HO':=Ag hown'; clear hown' lg)
     go_roundw
     case rel=>exact⟨k+1,l ++ [s],1,byOmega,by go_num,rfl,byOmega,by rw[List.length_append,HL.out]; rfl,HM.out.concat (by have:=HS.out; show _ < 1000000000; omega),vU HL.out HI.out (by have:=HS.out; rw[HX.out,HY.out]; show _+1000000000*_=_; omega),by simpa using HO'.out,fQ⟩
     case measure=>simp[intOf]; omega
    ·have hdd:decide ((1000000000:Int)≤(x:Int)+(cr:Int))=false:=decide_eq_false byOmega;go_wp2_with (at_builtin; refine dW rfl _ _ 39 Tryz.underlying39 rfl w.heap.size (Nat.le_refl _) u5 l rfl _ (x+cr) byOmega hll rfl HO.out hbel ?_; intro g cap w' hown' fQ hlt' lg; have HO':=Ag hown'; clear hown' lg)
     go_roundw
     case rel=>exact⟨k+1,l ++ [x+cr],0,byOmega,by go_num,rfl,byOmega,by rw[List.length_append,HL.out]; rfl,HM.out.concat (by show _ < 1000000000; omega),vU HL.out HI.out (by rw[HX.out,HY.out]; show _+1000000000*_=_; omega),by simpa using HO'.out,fQ⟩
     case measure=>simp[intOf]; omega
  ·have hke:k=(dig a).length:=byOmega;have hF:dig (a0+b0)=if cr=0 then l else l ++ [cr]:=by
    rw[← HE.out];refine aib HM.out (HL.out.trans hke) hcr ?_;have:=HI.out;rw[hke,List.take_length,List.take_of_length_le hle,aW,aW] at this;exact this
   clear hke;by_cases h0:cr=0
   ·rw[if_pos h0] at hF;have HF:=Ag hF;clear hF;subst h0;go_wp2
    go_ret;refine zcv ?_;unfold Ah;rw[HF.out];exact jG HO.out fun b hb=>(HO.out.lt b hb).1
   ·rw[if_neg h0] at hF;have HF:=Ag hF;clear hF;have h0':0 < cr:=byOmega;clear h0;obtain rfl:cr=1:=byOmega;go_wp2_with (at_builtin; refine dW rfl _ _ 39 Tryz.underlying39 rfl w.heap.size (Nat.le_refl _) u5 l rfl _ 1 rfl hll rfl HO.out hbel ?_; intro g cap w' hown' fQ hlt' lg; have HO':=Ag hown'; clear hown' lg)
    go_ret;refine⟨_,rfl,fQ,?_⟩;unfold Ah;rw[HF.out];exact jG (by simpa using HO'.out) fun b hb=>(HO'.out.lt b hb).1
theorem eX {w:World} {b:Nat} {t:TypeId} {l:List Nat} (h:Row w b t (aT l)) (hl:Limbs l) {F:Foot} (hF:F b) {n c:Nat} (hn:l.length=n) (hc:n≤c):Ah w F (.slice (some ⟨b,0,none⟩) (dP l n) c) (aH l):=by
 subst hn;have:=h.limbs hF (Nat.le_refl _) hc;rw[List.take_length] at this;exact Aj.trim rfl this hl
theorem aan (w:World) (F:Foot) (va vb:Value) (a b:Nat) (ha:Ah w F va a) (hb:Ah w F vb b) (hle:b≤a) (hla:(dig a).length≤100000) :
  Calls Tryz.prog 169 #[va,vb] w (Ret w fun v w'=>Ah w' (fun b=>w.heap.size≤b) v (a - b)):=by
 obtain⟨A,c,rfl,hc,hNa⟩:=ha;obtain⟨B,d,rfl,hd,hNb⟩:=hb;have HA:=Ag hNa;have HB:=Ag hNb;clear hNa hNb;have hlb:(dig b).length≤(dig a).length:=aU hle;have HLE:=Ag hle;clear hle;go_in;go_wp2_with (at_make; refine dQ _ rfl _ _ 39 rfl 103 (.int .u32 0) 4 Tryz.underlying39 Tryz.infoU32 rfl (dig a).length rfl rfl byOmega byOmega ?_; intro w1 hb1 hz1 hrow1)
 have HR1:=Ag hrow1; clear hrow1;go_loopw [6,7,8,9,15] (fun br _ _ _ i wr=>∃ (k:Nat) (l:List Nat) (cr:Nat),k≤(dig a).length∧i = .int .i64 k∧br = .int .u32 (cr:Int)∧cr≤1∧l.length=(dig a).length∧Limbs l∧aH (l.take k)+aH ((dig b).take k)=aH ((dig a).take k)+LB ^ k*cr ∧
  Row wr w.heap.size 103 (aT l)∧Below w.heap.size w wr) (fun _ _ _ _ i _=>(dig a).length - (intOf i).toNat)
 case atStart=>exact⟨0,List.replicate (dig a).length 0,0,byOmega,rfl,rfl,byOmega,aB,Limbs.zeros _,by simp[aH],by rw[fD]; exact HR1.out,hb1⟩
 case round =>
  obtain⟨k,l,cr,hk,rfl,rfl,hcr,hlen,hlim,hinv,hrow,hbel⟩:=hrel;refine Y0 ?_;intro HL HI HO HM hold;by_cases hlt:k < (dig a).length
  ·obtain⟨b1,o1,rfl,_,hb1',hx⟩:=HA.out byOmega;refine zbj ?_;intro x hx' ex;unfold dB at ex;refine Yi ?_;clear ex;intro ex hxl HX;refine zab ?_;intro z hz rc fc;clear hx hx' hz hlen hinv hrow hlim;by_cases hlt2:k < (dig b).length
   ·obtain⟨b2,o2,rfl,_,hb2',hy⟩:=HB.out byOmega;obtain⟨y,hy'⟩:=getSome hlt2;have ey:=hy k y hy';unfold dB at ey;refine zae ?_;clear ey;intro ey hyl HY;clear hy hy';by_cases hs:x < cr+y
    ·skip
     obtain⟨s,hs'⟩:∃ s,s+(cr+y)=x+1000000000:=⟨_,show x+1000000000 - (cr+y)+(cr+y)=x+1000000000 by omega⟩;have HS:=Ag hs';clear hs';go_wp2
     go_roundw
     case rel =>
      refine YE ?_;intro hr;have hss:=HS.out;rw[show(s:Int)=(x:Int)+1000000000 - ((cr:Int)+(y:Int)) by omega] at hr;exact hr
     case measure=>simp[intOf]; omega
    ·have hdd:decide (x < cr+y)=false:=decide_eq_false hs;have hdd2:decide ((x:Int) < (cr:Int)+(y:Int))=false:=decide_eq_false byOmega;obtain⟨s,hs'⟩:∃ s,s+(cr+y)=x:=⟨_,show x - (cr+y)+(cr+y)=x by omega⟩;have HS:=Ag hs';clear hs';go_wp2
     go_roundw
     case rel =>
      refine YF ?_;intro hr;have hss:=HS.out;rw[show(s:Int)=(x:Int) - ((cr:Int)+(y:Int)) by omega] at hr;exact hr
     case measure=>simp[intOf]; omega
   ·refine YH ?_;intro hdd HY;by_cases hs:x < cr
    ·skip
     obtain⟨s,hs'⟩:∃ s,s+cr=x+1000000000:=⟨_,show x+1000000000 - cr+cr=x+1000000000 by omega⟩;have HS:=Ag hs';clear hs';go_wp2
     go_roundw
     case rel =>
      refine YE ?_;intro hr;have hss:=HS.out;rw[show(s:Int)=(x:Int)+1000000000 - (cr:Int) by omega] at hr;exact hr
     case measure=>simp[intOf]; omega
    ·have hdd:decide (x < cr)=false:=decide_eq_false hs;have hdd2:decide ((x:Int) < (cr:Int))=false:=decide_eq_false byOmega;obtain⟨s,hs'⟩:∃ s,s+cr=x:=⟨_,show x - cr+cr=x by omega⟩;have HS:=Ag hs';clear hs';go_wp2
     go_roundw
     case rel =>
      refine YF ?_;intro hr;have hss:=HS.out;rw[show(s:Int)=(x:Int) - (cr:Int) by omega] at hr;exact hr
     case measure=>simp[intOf]; omega
  ·have hke:k=(dig a).length:=byOmega;have hF:aH l=a - b:=by
    have h1:=hinv;rw[hke,List.take_length,List.take_of_length_le byOmega,List.take_of_length_le hlb,aW,aW] at h1;have h2:=fH hlim;rw[hlen] at h2;exact agi HLE.out h2 h1
   have HF:=Ag hF;clear hF hke hinv hlim hlen;go_wp2_with fail
   refine(oh wr (fun b=>w.heap.size≤b) (some ⟨w.heap.size,0,none⟩) (dig a).length (dig a).length l HL.out ?_ byOmega).mono ?_
   ·exact Yk
   rintro e w' ⟨rfl,rfl⟩;go_wp2
   go_ret;refine zcv ?_;have:=eX HO.out HM.out (F:=fun b=>w.heap.size≤b) (Nat.le_refl _) (c:=(dig a).length) HL.out (Nat.le_refl _);rw[HF.out] at this;exact this
theorem afb (w:World) (F:Foot) (va vb:Value) (a b:Nat) (ha:Ah w F va a) (hb:Ah w F vb b) (hle:b≤a) (hla:(dig a).length≤100000) :
  Calls Tryz.prog 56 #[va,vb] w (Ret w fun v w'=>∃ (l:List Nat) (A:Option Addr) (c:Nat),v = .slice A (dP l l.length) c∧aH l=a - b∧Limbs l∧w'.ownsRow w.heap.size 103 1 (.slice A l.length c) l.length (aT l)):=by
 obtain⟨A,c,rfl,hc,hNa⟩:=ha;obtain⟨B,d,rfl,hd,hNb⟩:=hb;have HA:=Ag hNa;have HB:=Ag hNb;clear hNa hNb;have hlb:(dig b).length≤(dig a).length:=aU hle;have HLE:=Ag hle;clear hle;go_in;go_wp2
 go_loopw [5,6,7,8] (fun v br i _ wr=>∃ (k:Nat) (l:List Nat) (cr:Nat),k≤(dig a).length∧i = .int .i64 k∧br = .int .i64 (cr:Int)∧cr≤1∧l.length=k∧Limbs l∧aH l+aH ((dig b).take k)=aH ((dig a).take k)+LB ^ k*cr ∧
  wr.ownsRow w.heap.size 103 1 v l.length (aT l)∧Below w.heap.size w wr) (fun _ _ i _ _=>(dig a).length - (intOf i).toNat)
 case atStart=>exact⟨0,[],0,byOmega,rfl,rfl,byOmega,rfl,(fun x hx=>by cases hx),by simp[aH],World.ownsRow_nil _ _ _ _,Below.refl _ _⟩
 case round =>
  obtain⟨k,l,cr,hk,rfl,rfl,hcr,hlen,hlim,hinv,hown,hbel⟩:=hrel;have HL:=Ag hlen;have HI:=Ag hinv;have HO:=Ag hown;have HM:=Ag hlim;have hll:l.length≤1000000:=byOmega;have hold:=aQ hbel;by_cases hlt:k < (dig a).length
  ·clear hlen hinv hown hlim;obtain⟨b1,o1,rfl,_,hb1',hx⟩:=HA.out byOmega;refine zbj ?_;intro x hx' ex;unfold dB at ex;refine Yi ?_;clear ex;intro ex hxl HX;clear hx hx';by_cases hlt2:k < (dig b).length
   ·obtain⟨b2,o2,rfl,_,hb2',hy⟩:=HB.out byOmega;obtain⟨y,hy'⟩:=getSome hlt2;have ey:=hy k y hy';unfold dB at ey;refine zae ?_;clear ey;intro ey hyl HY;clear hy hy';by_cases hs:(x:Int) - (cr:Int) - (y:Int) < 0
    ·skip
     obtain⟨s,hs'⟩:∃ s,s+(cr+y)=x+1000000000:=⟨_,show x+1000000000 - (cr+y)+(cr+y)=x+1000000000 by omega⟩;have HS:=Ag hs';clear hs';go_wp2_with (at_builtin; refine dW rfl _ _ 40 Tryz.underlying40 rfl w.heap.size (Nat.le_refl _) u5 l rfl _ s (by have:=HS.out; omega) hll rfl HO.out hbel ?_; intro g cap w' hown' fQ hlt' lg; have HO':=Ag hown'; clear hown' lg)
     go_roundw
     case rel=>exact⟨k+1,l ++ [s],1,byOmega,by go_num,rfl,byOmega,by rw[List.length_append,HL.out]; rfl,HM.out.concat (by have:=HS.out; show _ < 1000000000; omega),nJ HL.out HI.out (by have:=HS.out; rw[HX.out,HY.out]; show _=_+1000000000*_; omega),by simpa using HO'.out,fQ⟩
     case measure=>simp[intOf]; omega
    ·have hdd:decide ((x:Int) - (cr:Int) - (y:Int) < 0)=false:=decide_eq_false hs;obtain⟨s,hs'⟩:∃ s,s+(cr+y)=x:=⟨_,show x - (cr+y)+(cr+y)=x by omega⟩;have HS:=Ag hs';clear hs';go_wp2_with (at_builtin; refine dW rfl _ _ 40 Tryz.underlying40 rfl w.heap.size (Nat.le_refl _) u5 l rfl _ s (by have:=HS.out; omega) hll rfl HO.out hbel ?_; intro g cap w' hown' fQ hlt' lg; have HO':=Ag hown'; clear hown' lg)
     go_roundw
     case rel=>exact⟨k+1,l ++ [s],0,byOmega,by go_num,rfl,byOmega,by rw[List.length_append,HL.out]; rfl,HM.out.concat (by have:=HS.out; show _ < 1000000000; omega),nJ HL.out HI.out (by have:=HS.out; rw[HX.out,HY.out]; show _=_+1000000000*_; omega),by simpa using HO'.out,fQ⟩
     case measure=>simp[intOf]; omega
   ·refine YH ?_;intro hdd HY;by_cases hs:(x:Int) - (cr:Int) < 0
    ·skip
     obtain⟨s,hs'⟩:∃ s,s+cr=x+1000000000:=⟨_,show x+1000000000 - cr+cr=x+1000000000 by omega⟩;have HS:=Ag hs';clear hs';go_wp2_with (at_builtin; refine dW rfl _ _ 40 Tryz.underlying40 rfl w.heap.size (Nat.le_refl _) u5 l rfl _ s (by have:=HS.out; omega) hll rfl HO.out hbel ?_; intro g cap w' hown' fQ hlt' lg; have HO':=Ag hown'; clear hown' lg)
     go_roundw
     case rel=>exact⟨k+1,l ++ [s],1,byOmega,by go_num,rfl,byOmega,by rw[List.length_append,HL.out]; rfl,HM.out.concat (by have:=HS.out; show _ < 1000000000; omega),nJ HL.out HI.out (by have:=HS.out; rw[HX.out,HY.out]; show _=_+1000000000*_; omega),by simpa using HO'.out,fQ⟩
     case measure=>simp[intOf]; omega
    ·have hdd:decide ((x:Int) - (cr:Int) < 0)=false:=decide_eq_false hs;obtain⟨s,hs'⟩:∃ s,s+cr=x:=⟨_,show x - cr+cr=x by omega⟩;have HS:=Ag hs';clear hs';go_wp2_with (at_builtin; refine dW rfl _ _ 40 Tryz.underlying40 rfl w.heap.size (Nat.le_refl _) u5 l rfl _ s (by have:=HS.out; omega) hll rfl HO.out hbel ?_; intro g cap w' hown' fQ hlt' lg; have HO':=Ag hown'; clear hown' lg)
     go_roundw
     case rel=>exact⟨k+1,l ++ [s],0,byOmega,by go_num,rfl,byOmega,by rw[List.length_append,HL.out]; rfl,HM.out.concat (by have:=HS.out; show _ < 1000000000; omega),nJ HL.out HI.out (by have:=HS.out; rw[HX.out,HY.out]; show _=_+1000000000*_; omega),by simpa using HO'.out,fQ⟩
     case measure=>simp[intOf]; omega
  ·have hke:k=(dig a).length:=byOmega;have hF:aH l=a - b:=by
    have h1:=hinv;rw[hke,List.take_length,List.take_of_length_le hlb,aW,aW] at h1;have h2:=fH hlim;rw[hlen,hke] at h2;exact agi HLE.out h2 h1
   have HF:=Ag hF;have hsl:=jG hown (F:=fun b=>w.heap.size≤b) fun b hb=>(hown.lt b hb).1
   obtain⟨A',c',rfl,hc',_⟩:=hsl;have hown2:=hown;clear hF hke hinv hlim hlen hown;go_wp2_with fail
   refine(kH wr (fun b=>w.heap.size≤b) A' l.length c' l rfl (jG hown2 fun b hb=>(hown2.lt b hb).1) hll).mono ?_;rintro e w' ⟨rfl,rfl⟩;go_wp2
   go_ret;exact⟨_,rfl,hbel,l,A',c',rfl,HF.out,HM.out,HO.out⟩
theorem getD_set_ne {l:List Nat} {k j v:Nat} (h:k≠j):(l.set k v).getD j 0=l.getD j 0:=by
 simp only[List.getD_eq_getElem?_getD,List.getElem?_set_ne h]
structure Cc (la lb A B k x m:Nat) (bl l:List Nat) (c:Nat):Prop where
 len:l.length=la+lb
 limbs:Limbs l
 eq:aH l+LB ^ (k+m)*c=A*B+LB ^ k*(x*aH (bl.take m))
 zero:∀ j,k+lb≤j→l.getD j 0=0
theorem Cc.step {la lb A B k x m c s c' y:Nat} {bl l:List Nat} (h:Cc la lb A B k x m bl l c) (hk:k < la) (hm:m < lb) (hy:bl.getD m 0=y) (hs:s+LB*c'=l.getD (k+m) 0+x*y+c) (hsl:s < LB):Cc la lb A B k x (m+1) bl (l.set (k+m) s) c':=by
 refine⟨by rw[List.length_set]; exact h.len,h.limbs.set hsl,?_,fun j hj=>by rw[getD_set_ne byOmega]; exact h.zero j hj⟩;have:=ah0 (o:=l) (k:=k+m) (by rw[h.len]; omega) h.eq hs;rw[← Nat.add_assoc,this,bF,hy,Nat.pow_add];grind
theorem Cc.next {la lb A B k x c:Nat} {bl l:List Nat} (h:Cc la lb A B k x lb bl l c) (hk:k < la) (hbl:bl.length=lb) (hB:aH bl=B) (hc:c < LB):Cc la lb (A+LB ^ k*x) B (k+1) 0 0 bl (l.set (k+lb) c) 0:=by
 have hz:=h.zero (k+lb) (Nat.le_refl _);have hset:=ads (l:=l) (k:=k+lb) (by rw[h.len]; omega) c;rw[hz,Nat.mul_zero,Nat.add_zero,h.eq,List.take_of_length_le byOmega,hB] at hset;refine⟨by rw[List.length_set]; exact h.len,h.limbs.set hc,?_,fun j hj=>by rw[getD_set_ne byOmega]; exact h.zero j byOmega⟩;rw[hset];grind
theorem adG (w:World) (F:Foot) (va vb:Value) (a b:Nat) (ha:Ah w F va a) (hb:Ah w F vb b) (hla:(dig a).length≤100000) (hlb:(dig b).length≤100000) (ha0:a≠0) (hb0:b≠0) (ha1:a≠1) (hb1:b≠1) :
  Calls Tryz.prog 121 #[va,vb] w (Ret w fun v w'=>Ah w' (fun b=>w.heap.size≤b) v (a*b)):=by
 have HVA:=Ag ha;have HVB:=Ag hb;obtain⟨A,c,rfl,hc,hNa⟩:=ha;obtain⟨B,d,rfl,hd,hNb⟩:=hb;have HA:=Ag hNa;have HB:=Ag hNb;clear hNa hNb;have hda:(((dig a).length:Int)==0)=false:=by have:=bG.2 ha0;exact beq_false_of_ne byOmega
 have hdb:(((dig b).length:Int)==0)=false:=by have:=bG.2 hb0;exact beq_false_of_ne byOmega
 have e1:decide (a=1)=false:=decide_eq_false ha1;have e2:decide (b=1)=false:=decide_eq_false hb1;clear ha0 hb0 ha1 hb1;go_in;go_wp2_with fail
 refine(jZ w F _ a HVA.out byOmega).mono ?_;rintro e w' ⟨rfl,rfl⟩;go_wp2_with fail
 refine(jZ _ F _ b HVB.out byOmega).mono ?_;rintro e w' ⟨rfl,rfl⟩;clear HVA HVB;go_wp2_with (at_make; refine dQ _ rfl _ _ 39 rfl 103 (.int .u32 0) 4 Tryz.underlying39 Tryz.infoU32 rfl ((dig a).length+(dig b).length) (by simp[go_sem]) (by simp[go_sem]) byOmega byOmega ?_; intro w1 hb1 hz1 hrow1)
 have HR1:=Ag hrow1; clear hrow1;go_loopw [37] (fun i wr=>∃ (k:Nat) (l:List Nat),k≤(dig a).length∧i = .int .i64 k∧Cc (dig a).length (dig b).length (aH ((dig a).take k)) b k 0 0 (dig b) l 0 ∧
  Row wr w.heap.size 103 (aT l)∧Below w.heap.size w wr) (fun i _=>(dig a).length - (intOf i).toNat)
 case atStart=>exact⟨0,List.replicate ((dig a).length+(dig b).length) 0,byOmega,rfl,⟨aB,Limbs.zeros _,by rw[zS]; simp[aH],fun j _=>by simp[List.getD_eq_getElem?_getD,List.getElem?_replicate]; split <;> rfl⟩,by rw[fD]; exact HR1.out,hb1⟩
 case round =>
  obtain⟨k,l,hk,rfl,hmul,hrow,hbel⟩:=hrel;have HI:=Ag hmul;have HO:=Ag hrow;have hold:=aQ hbel;by_cases hlt:k < (dig a).length
  ·clear hmul hrow;obtain⟨b1,o1,rfl,_,hb1',hx⟩:=HA.out byOmega;refine zbj ?_;intro x hx' ex;unfold dB at ex;refine Yi ?_;clear ex;intro ex hxl HX;clear hx hx';obtain⟨wp,rfl⟩:∃ wp:World,wp=wr:=⟨_,rfl⟩;go_wp2
   go_loopw [8,44] (fun cy j wi=>∃ (m:Nat) (l':List Nat) (cr:Nat),m≤(dig b).length∧j = .int .i64 m∧cy = .int .u64 (cr:Int)∧cr < 1000000000∧Cc (dig a).length (dig b).length (aH ((dig a).take k)) b k x m (dig b) l' cr ∧
    Row wi w.heap.size 103 (aT l')∧Below w.heap.size w wi) (fun _ j _=>(dig b).length - (intOf j).toNat)
   case atStart =>
    exact za6
   case round =>
    clear hold HO HI hbel;obtain⟨m,l',cr,hm,rfl,rfl,hcr,hmul,hrow,hbel⟩:=hrel;have HI:=Ag hmul;have HO:=Ag hrow;have hold:=aQ hbel;by_cases hmt:m < (dig b).length
    ·obtain⟨b2,o2,rfl,_,hb2',hy⟩:=HB.out byOmega;obtain⟨y,hy'⟩:=getSome hmt;have ey:=hy m y hy';unfold dB at ey;refine zae ?_;clear ey;intro ey hyl HY;obtain⟨z,hz⟩:=getSome (l:=l') (k:=k+m) (by rw[hmul.len]; omega);have rc:=hrow.cell (aY hz);have fc:=hrow.frozen (k+m);have hzl:z < 1000000000:=hmul.limbs.get hz;have HZ:=Ag (aN hz);have hpb:=tK hxl hyl;obtain⟨p,hp⟩:=named (x*y);have hpI:(x:Int)*(y:Int)=(p:Int):=by rw[hp];simp
     rw[← hp] at hpb;have HP:=Ag hp;have hLl:k+m < (dig a).length+(dig b).length:=byOmega;clear hy hy' hz hmul hrow hp;go_wp2
     go_roundw
     case rel =>
      refine⟨m+1,l'.set (k+m) ((z+p+cr) % 1000000000),(z+p+cr) / 1000000000,byOmega,by go_num,by go_num,byOmega,HI.out.step hlt hmt HY.out (by rw[HZ.out,← HP.out]; show _+1000000000*_=_; omega) (by show _ < 1000000000; omega),?_,hbel.setCell (Nat.le_refl _) _⟩;have hr:=HO.out.set (k+m) (.int .u32 (((z+p+cr) % 1000000000:Nat):Int));rw[aZ] at hr;exact hr
     case measure=>simp[intOf]; omega
    ·obtain rfl:m=(dig b).length:=byOmega;obtain⟨z,hz⟩:=getSome (l:=l') (k:=k+(dig b).length) (by rw[hmul.len]; omega);have rc:=hrow.cell (aY hz);have fc:=hrow.frozen (k+(dig b).length);clear hz hmul hrow;go_wp2
     go_roundw
     case rel =>
      refine⟨k+1,l'.set (k+(dig b).length) cr,byOmega,by go_num,?_,?_,hbel.setCell (Nat.le_refl _) _⟩
      ·rw[bF,HX.out];exact HI.out.next hlt rfl (aW b) hcr
      ·have hr:=HO.out.set (k+(dig b).length) (.int .u32 (cr:Int));rw[aZ] at hr;exact hr
     case measure=>simp[intOf]; omega
  ·have hke:k=(dig a).length:=byOmega;have hF:aH l=a*b:=by
    have h1:=hmul.eq;rw[hke,List.take_length,aW] at h1;simpa using h1
   have HF:=Ag hF;have HL:=Ag hmul.len;have HM:=Ag hmul.limbs;clear hF hke hmul;go_wp2_with fail
   refine(oh wr (fun b=>w.heap.size≤b) (some ⟨w.heap.size,0,none⟩) ((dig a).length+(dig b).length) ((dig a).length+(dig b).length) l HL.out ?_ byOmega).mono ?_
   ·exact zac
   exact Y5
theorem lY (w:World) (F:Foot) (va vb:Value) (a b:Nat) (ha:Ah w F va a) (hb:Ah w F vb b) (hla:(dig a).length≤100000) (hlb:(dig b).length≤100000) :
  Calls Tryz.prog 52 #[va,vb] w (Ret w fun v w'=>Ah w' (fun b=>w.heap.size≤b) v (a*b)):=by
 obtain⟨A,c,rfl,hc,hNa⟩:=ha;obtain⟨B,d,rfl,hd,hNb⟩:=hb;have HA:=Ag hNa;have HB:=Ag hNb;clear hNa hNb;go_in;go_wp2_with (at_make; refine dQ _ rfl _ _ 40 rfl 103 (.int .u32 0) 4 Tryz.underlying40 Tryz.infoU32 rfl ((dig a).length+(dig b).length) (by simp[go_sem]) (by simp[go_sem]) byOmega byOmega ?_; intro w1 hb1 hz1 hrow1)
 have HR1:=Ag hrow1; clear hrow1;go_loopw [6] (fun i wr=>∃ (k:Nat) (l:List Nat),k≤(dig a).length∧i = .int .i64 k∧Cc (dig a).length (dig b).length (aH ((dig a).take k)) b k 0 0 (dig b) l 0 ∧
  Row wr w.heap.size 103 (aT l)∧Below w.heap.size w wr) (fun i _=>(dig a).length - (intOf i).toNat)
 case atStart=>exact⟨0,List.replicate ((dig a).length+(dig b).length) 0,byOmega,rfl,⟨aB,Limbs.zeros _,by rw[zS]; simp[aH],fun j _=>by simp[List.getD_eq_getElem?_getD,List.getElem?_replicate]; split <;> rfl⟩,by rw[fD]; exact HR1.out,hb1⟩
 case round =>
  obtain⟨k,l,hk,rfl,hmul,hrow,hbel⟩:=hrel;have HI:=Ag hmul;have HO:=Ag hrow;have hold:=aQ hbel;by_cases hlt:k < (dig a).length
  ·clear hmul hrow;obtain⟨b1,o1,rfl,_,hb1',hx⟩:=HA.out byOmega;refine zbj ?_;intro x hx' ex;unfold dB at ex;refine Yi ?_;clear ex;intro ex hxl HX;clear hx hx';obtain⟨wp,rfl⟩:∃ wp:World,wp=wr:=⟨_,rfl⟩;go_wp2
   go_loopw [7,8] (fun cy j wi=>∃ (m:Nat) (l':List Nat) (cr:Nat),m≤(dig b).length∧j = .int .i64 m∧cy = .int .u64 (cr:Int)∧cr < 1000000000∧Cc (dig a).length (dig b).length (aH ((dig a).take k)) b k x m (dig b) l' cr ∧
    Row wi w.heap.size 103 (aT l')∧Below w.heap.size w wi) (fun _ j _=>(dig b).length - (intOf j).toNat)
   case atStart =>
    exact za6
   case round =>
    clear hold HO HI hbel;obtain⟨m,l',cr,hm,rfl,rfl,hcr,hmul,hrow,hbel⟩:=hrel;have HI:=Ag hmul;have HO:=Ag hrow;have hold:=aQ hbel;by_cases hmt:m < (dig b).length
    ·obtain⟨b2,o2,rfl,_,hb2',hy⟩:=HB.out byOmega;obtain⟨y,hy'⟩:=getSome hmt;have ey:=hy m y hy';unfold dB at ey;refine zae ?_;clear ey;intro ey hyl HY;obtain⟨z,hz⟩:=getSome (l:=l') (k:=k+m) (by rw[hmul.len]; omega);have rc:=hrow.cell (aY hz);have fc:=hrow.frozen (k+m);have hzl:z < 1000000000:=hmul.limbs.get hz;have HZ:=Ag (aN hz);have hpb:=tK hxl hyl;obtain⟨p,hp⟩:=named (x*y);have hpI:(x:Int)*(y:Int)=(p:Int):=by rw[hp];simp
     rw[← hp] at hpb;have HP:=Ag hp;have hLl:k+m < (dig a).length+(dig b).length:=byOmega;clear hy hy' hz hmul hrow hp;go_wp2
     go_quiet (fail)
     go_wp2
     go_roundw
     case rel =>
      refine⟨m+1,l'.set (k+m) ((cr+z+p) % 1000000000),(cr+z+p) / 1000000000,byOmega,by go_num,by go_num,byOmega,HI.out.step hlt hmt HY.out (by rw[HZ.out,← HP.out]; show _+1000000000*_=_; omega) (by show _ < 1000000000; omega),?_,(aI hbel nq).setCell (Nat.le_refl _) _⟩;have hr:=(HO.out.dN nq).set (k+m) (.int .u32 (((cr+z+p) % 1000000000:Nat):Int));rw[aZ] at hr;exact hr
     case measure=>simp[intOf]; omega
    ·obtain rfl:m=(dig b).length:=byOmega;obtain⟨z,hz⟩:=getSome (l:=l') (k:=k+(dig b).length) (by rw[hmul.len]; omega);have rc:=hrow.cell (aY hz);have fc:=hrow.frozen (k+(dig b).length);clear hz hmul hrow;go_wp2
     go_roundw
     case rel =>
      refine⟨k+1,l'.set (k+(dig b).length) cr,byOmega,by go_num,?_,?_,hbel.setCell (Nat.le_refl _) _⟩
      ·rw[bF,HX.out];exact HI.out.next hlt rfl (aW b) hcr
      ·have hr:=HO.out.set (k+(dig b).length) (.int .u32 (cr:Int));rw[aZ] at hr;exact hr
     case measure=>simp[intOf]; omega
  ·have hke:k=(dig a).length:=byOmega;have hF:aH l=a*b:=by
    have h1:=hmul.eq;rw[hke,List.take_length,aW] at h1;simpa using h1
   have HF:=Ag hF;have HL:=Ag hmul.len;have HM:=Ag hmul.limbs;clear hF hke hmul;go_wp2_with fail
   refine(kH wr (fun b=>w.heap.size≤b) (some ⟨w.heap.size,0,none⟩) ((dig a).length+(dig b).length) ((dig a).length+(dig b).length) l HL.out ?_ byOmega).mono ?_
   ·exact zac
   exact Y5
theorem ku (w:World) (F:Foot) (va vb:Value) (a b:Nat) (ha:Ah w F va a) (hb:Ah w F vb b) (hla:(dig a).length≤100000) (hlb:(dig b).length≤100000) :
  Calls Tryz.prog 121 #[va,vb] w (Ret w fun v w'=>Ah w' (Ext F w.heap.size) v (a*b)):=by
 by_cases ha0:a=0
 ·subst ha0;obtain⟨A,c,rfl,hc,_⟩:=ha;have e:(dig 0).length=0:=by rw[bD];rfl
  rw[e] at *;clear e;obtain⟨B,d,rfl,hd,_⟩:=hb;go_in;go_wp2
  go_ret;exact⟨_,rfl,Below.refl _ _,by rw[Nat.zero_mul]; exact Ah.zero _ _ _ _⟩
 by_cases hb0:b=0
 ·subst hb0;obtain⟨A,c,rfl,hc,_⟩:=ha;have hda:(((dig a).length:Int)==0)=false:=by have:=bG.2 ha0;exact beq_false_of_ne byOmega
  obtain⟨B,d,rfl,hd,_⟩:=hb;have e:(dig 0).length=0:=by rw[bD];rfl
  rw[e] at *;clear e ha0;go_in;go_wp2
  go_ret;exact⟨_,rfl,Below.refl _ _,by rw[Nat.mul_zero]; exact Ah.zero _ _ _ _⟩
 have hda:(((dig a).length:Int)==0)=false:=by have:=bG.2 ha0;exact beq_false_of_ne byOmega
 have hdb:(((dig b).length:Int)==0)=false:=by have:=bG.2 hb0;exact beq_false_of_ne byOmega
 by_cases ha1:a=1
 ·have e1:decide (a=1)=true:=decide_eq_true ha1;have HVA:=Ag ha;have HVB:=Ag hb;obtain⟨A,c,rfl,hc,_⟩:=ha;obtain⟨B,d,rfl,hd,_⟩:=hb;have H1:=Ag ha1;clear hb0 ha0 ha1;go_in;go_wp2_with fail
  refine(jZ w F _ a HVA.out byOmega).mono ?_;rintro e w' ⟨rfl,rfl⟩;go_wp2
  go_ret;refine⟨_,rfl,Below.refl _ _,?_⟩;rw[H1.out,Nat.one_mul];exact HVB.out.ext (Below.refl _ _)
 by_cases hb1:b=1
 ·have e1:decide (a=1)=false:=decide_eq_false ha1;have e2:decide (b=1)=true:=decide_eq_true hb1;have HVA:=Ag ha;have HVB:=Ag hb;obtain⟨A,c,rfl,hc,_⟩:=ha;obtain⟨B,d,rfl,hd,_⟩:=hb;have H1:=Ag hb1;clear hb0 ha0 ha1 hb1;go_in;go_wp2_with fail
  refine(jZ w F _ a HVA.out byOmega).mono ?_;rintro e w' ⟨rfl,rfl⟩;go_wp2_with fail
  refine(jZ _ F _ b HVB.out byOmega).mono ?_;rintro e w' ⟨rfl,rfl⟩;go_wp2
  go_ret;refine⟨_,rfl,Below.refl _ _,?_⟩;rw[H1.out,Nat.mul_one];exact HVA.out.ext (Below.refl _ _)
 clear hda hdb;refine(adG w F va vb a b ha hb hla hlb ha0 hb0 ha1 hb1).mono fun e w' ⟨v,he,hbel,hn⟩=>⟨v,he,hbel,hn.mono fun _ h _=>.inr h⟩
theorem lF (a b:Nat):(a:Int) / (b:Int)=((a / b:Nat):Int):=(Int.natCast_ediv a b).symm
theorem qE (a b:Nat):(a:Int) % (b:Int)=((a % b:Nat):Int):=(Int.natCast_emod a b).symm
theorem rZ {r d x:Nat} (hr:r < d) (hx:x < LB):(r*LB+x) / d < LB:=by
 rw[Nat.div_lt_iff_lt_mul byOmega];have:=Nat.mul_le_mul_right LB (show r+1≤d by omega);rw[Nat.add_mul,Nat.one_mul] at this;rw[Nat.mul_comm LB d];omega
theorem aao (w:World) (F:Foot) (va:Value) (a d:Nat) (ha:Ah w F va a) (hla:(dig a).length≤200000) (hd0:1≤d) (hd1:d≤1000000000) :
  Calls Tryz.prog 197 #[va,.int .u64 (d:Int)] w (Ret w fun v w'=>∃ vq,v = .tuple #[vq,.int .u64 ((a % d:Nat):Int)]∧Ah w' (fun b=>w.heap.size≤b) vq (a / d)):=by
 obtain⟨A,c,rfl,hc,hNa⟩:=ha;have HA:=Ag hNa;clear hNa;go_in;go_wp2_with (at_make; refine dQ _ rfl _ _ 39 rfl 103 (.int .u32 0) 4 Tryz.underlying39 Tryz.infoU32 rfl (dig a).length rfl rfl byOmega byOmega ?_; intro w1 hb1 hz1 hrow1)
 have HR1:=Ag hrow1; clear hrow1;go_loopw [5,6] (fun rv i wr=>∃ (k:Nat) (l:List Nat) (r:Nat),k≤(dig a).length∧i = .int .i64 ((k:Int) - 1)∧rv = .int .u64 (r:Int)∧r < d∧l.length=(dig a).length∧Limbs l∧aH ((dig a).drop k)=d*aH (l.drop k)+r ∧
  Row wr w.heap.size 103 (aT l)∧Below w.heap.size w wr) (fun _ i _=>(intOf i+1).toNat)
 case atStart=>exact⟨(dig a).length,List.replicate (dig a).length 0,0,Nat.le_refl _,rfl,rfl,byOmega,aB,Limbs.zeros _,by rw[List.drop_length,List.drop_eq_nil_of_le aB]; simp[aH],by rw[fD]; exact HR1.out,hb1⟩
 case round =>
  obtain⟨k,l,r,hk,rfl,rfl,hr,hlen,hlim,hinv,hrow,hbel⟩:=hrel;refine Y0 ?_;intro HL HI HO HM hold;rcases Nat.eq_zero_or_pos k with h0 | h0
  ·subst h0;have hF:aH l=a / d∧r=a % d:=by
    exact YQ
   have HF:=Ag hF;clear hF hinv hlim hlen;go_wp2_with fail
   refine(oh wr (fun b=>w.heap.size≤b) (some ⟨w.heap.size,0,none⟩) (dig a).length (dig a).length l HL.out ?_ byOmega).mono ?_
   ·exact Yk
   rintro e w' ⟨rfl,rfl⟩;go_wp2
   go_ret2;exact zal
  ·obtain⟨j,rfl⟩:∃ j,k=j+1:=⟨k - 1,byOmega⟩;obtain⟨b1,o1,rfl,_,hb1',hx⟩:=HA.out byOmega;obtain⟨x,hx'⟩:=getSome (l:=dig a) (k:=j) byOmega;have ex:=hx j x hx';unfold dB at ex;refine Yi ?_;clear ex;intro ex hxl HX;obtain⟨z,hz⟩:=getSome (l:=l) (k:=j) byOmega;have rc:=hrow.cell (aY hz);have fc:=hrow.frozen j;clear hx hx' hz hlen hinv hrow hlim;have hql:(r*1000000000+x) / d < 1000000000:=rZ hr hxl;have hrl:(r*1000000000+x) % d < d:=Nat.mod_lt _ byOmega;have HQ:=Ag (Nat.div_add_mod (r*1000000000+x) d).symm;have hqI:((r:Int)*1000000000+(x:Int)) / (d:Int)=(((r*1000000000+x) / d:Nat):Int):=by rw[← lF];rfl
   have hrI:((r:Int)*1000000000+(x:Int)) % (d:Int)=(((r*1000000000+x) % d:Nat):Int):=by rw[← qE];rfl
   generalize (r*1000000000+x) / d=q at *;generalize (r*1000000000+x) % d=r' at *;refine Z9 ?_;go_wp2
   go_roundw
   case rel =>
    refine⟨j,l.set j q,r',byOmega,by go_num,by rw[hrI],hrl,by rw[List.length_set,HL.out],HM.out.set hql,uP (A:=0) (by rw[HL.out]; omega) HI.out (by rw[HX.out]; exact HQ.out),?_,hbel.setCell (Nat.le_refl _) _⟩;have hr:=HO.out.set j (.int .u32 (q:Int));rw[aZ] at hr;exact hr
   case measure=>simp[intOf]
theorem aap (w:World) (F:Foot) (va:Value) (a d:Nat) (ha:Ah w F va a) (hla:(dig a).length≤200000) (hd0:1≤d) (hd1:d≤1000000000) :
  Calls Tryz.prog 207 #[va,.int .u32 (d:Int)] w (Ret w fun v w'=>∃ vq,v = .tuple #[vq,.int .u32 ((a % d:Nat):Int)]∧Ah w' (fun b=>w.heap.size≤b) vq (a / d)):=by
 obtain⟨A,c,rfl,hc,hNa⟩:=ha;have HA:=Ag hNa;clear hNa;go_in;go_wp2_with (at_make; refine dQ _ rfl _ _ 40 rfl 103 (.int .u32 0) 4 Tryz.underlying40 Tryz.infoU32 rfl (dig a).length rfl rfl byOmega byOmega ?_; intro w1 hb1 hz1 hrow1)
 have HR1:=Ag hrow1; clear hrow1;go_loopw [7,8] (fun rv i wr=>∃ (k:Nat) (l:List Nat) (r:Nat),k≤(dig a).length∧i = .int .i64 ((k:Int) - 1)∧rv = .int .u64 (r:Int)∧r < d∧l.length=(dig a).length∧Limbs l∧aH ((dig a).drop k)=d*aH (l.drop k)+r ∧
  Row wr w.heap.size 103 (aT l)∧Below w.heap.size w wr) (fun _ i _=>(intOf i+1).toNat)
 case atStart=>exact⟨(dig a).length,List.replicate (dig a).length 0,0,Nat.le_refl _,rfl,rfl,byOmega,aB,Limbs.zeros _,by rw[List.drop_length,List.drop_eq_nil_of_le aB]; simp[aH],by rw[fD]; exact HR1.out,hb1⟩
 case round =>
  obtain⟨k,l,r,hk,rfl,rfl,hr,hlen,hlim,hinv,hrow,hbel⟩:=hrel;refine Y0 ?_;intro HL HI HO HM hold;rcases Nat.eq_zero_or_pos k with h0 | h0
  ·subst h0;have hF:aH l=a / d∧r=a % d:=by
    exact YQ
   have HF:=Ag hF;clear hF hinv hlim hlen;go_wp2_with fail
   refine(uf wr (fun b=>w.heap.size≤b) (some ⟨w.heap.size,0,none⟩) (dig a).length (dig a).length l HL.out ?_ byOmega).mono ?_
   ·exact Yk
   rintro e w' ⟨rfl,rfl⟩;go_wp2
   go_ret2;exact zal
  ·obtain⟨j,rfl⟩:∃ j,k=j+1:=⟨k - 1,byOmega⟩;obtain⟨b1,o1,rfl,_,hb1',hx⟩:=HA.out byOmega;obtain⟨x,hx'⟩:=getSome (l:=dig a) (k:=j) byOmega;have ex:=hx j x hx';unfold dB at ex;refine Yi ?_;clear ex;intro ex hxl HX;obtain⟨z,hz⟩:=getSome (l:=l) (k:=j) byOmega;have rc:=hrow.cell (aY hz);have fc:=hrow.frozen j;clear hx hx' hz hlen hinv hrow hlim;have hql:(r*1000000000+x) / d < 1000000000:=rZ hr hxl;have hrl:(r*1000000000+x) % d < d:=Nat.mod_lt _ byOmega;have HQ:=Ag (Nat.div_add_mod (r*1000000000+x) d).symm;have hqI:((r:Int)*1000000000+(x:Int)) / (d:Int)=(((r*1000000000+x) / d:Nat):Int):=by rw[← lF];rfl
   have hrI:((r:Int)*1000000000+(x:Int)) % (d:Int)=(((r*1000000000+x) % d:Nat):Int):=by rw[← qE];rfl
   generalize (r*1000000000+x) / d=q at *;generalize (r*1000000000+x) % d=r' at *;refine Z9 ?_;go_wp2
   go_roundw
   case rel =>
    refine⟨j,l.set j q,r',byOmega,by go_num,by rw[hrI],hrl,by rw[List.length_set,HL.out],HM.out.set hql,uP (A:=0) (by rw[HL.out]; omega) HI.out (by rw[HX.out]; exact HQ.out),?_,hbel.setCell (Nat.le_refl _) _⟩;have hr:=HO.out.set j (.int .u32 (q:Int));rw[aZ] at hr;exact hr
   case measure=>simp[intOf]
theorem pI {o a:List Nat} {k d c s c':Nat} (hk:k < o.length) (h:aH (o.take k)+LB ^ k*c=aH (a.take k)*d) (hs:s+LB*c'=c+a.getD k 0*d) :
  aH ((o.set k s).take (k+1))+LB ^ (k+1)*c'=aH (a.take (k+1))*d:=by
 rw[jT hk,bF,Nat.pow_succ];have e:LB ^ k*(s+LB*c')=LB ^ k*(c+a.getD k 0*d):=by rw[hs]
 grind
theorem aaq {o:List Nat} {n c T:Nat} (ho:Limbs o) (hl:o.length=n) (h:aH (o.take n)+LB ^ n*c=T) (hT:T < LB ^ n):aH o=T:=by
 rw[List.take_of_length_le byOmega] at h;rcases Nat.eq_zero_or_pos c with h0 | h0
 ·subst h0;omega
 ·have:LB ^ n*1≤LB ^ n*c:=Nat.mul_le_mul_left _ h0;omega
theorem yO (w:World) (F:Foot) (va:Value) (a d n:Nat) (ha:Ah w F va a) (hla:(dig a).length≤n) (hn:n≤200000) (hd0:1≤d) (hd1:d≤1000000000) (hT:a*d < LB ^ n) :
  Calls Tryz.prog 198 #[va,.int .u64 (d:Int),.int .i64 (n:Int)] w (Ret w fun v w'=>v = .slice (some ⟨w.heap.size,0,none⟩) n n∧∃ l,l.length=n∧Limbs l∧aH l=a*d∧Row w' w.heap.size 103 (aT l)):=by
 obtain⟨A,c,rfl,hc,hNa⟩:=ha;have HA:=Ag hNa;clear hNa;have HT:=Ag hT;clear hT;go_in;go_wp2_with (at_make; refine dQ _ rfl _ _ 39 rfl 103 (.int .u32 0) 4 Tryz.underlying39 Tryz.infoU32 rfl n rfl rfl byOmega byOmega ?_; intro w1 hb1 hz1 hrow1)
 have HR1:=Ag hrow1; clear hrow1;go_loopw [8,15] (fun cv i wr=>∃ (k:Nat) (l:List Nat) (cr:Nat),k≤n∧i = .int .i64 (k:Int)∧cv = .int .u64 (cr:Int)∧cr < 1000000000∧l.length=n∧Limbs l∧aH (l.take k)+LB ^ k*cr=aH ((dig a).take k)*d ∧
  Row wr w.heap.size 103 (aT l)∧Below w.heap.size w wr) (fun _ i _=>n - (intOf i).toNat)
 case atStart=>exact⟨0,List.replicate n 0,0,byOmega,rfl,rfl,byOmega,aB,Limbs.zeros _,by simp[aH],by rw[fD]; exact HR1.out,hb1⟩
 case round =>
  obtain⟨k,l,cr,hk,rfl,rfl,hcr,hlen,hlim,hinv,hrow,hbel⟩:=hrel;refine Y0 ?_;intro HL HI HO HM hold;by_cases hlt:k < n
  ·refine zab ?_;intro z hz rc fc;clear hz hlen hinv hrow hlim;by_cases hlt2:k < (dig a).length
   ·obtain⟨b1,o1,rfl,_,hb1',hx⟩:=HA.out byOmega;obtain⟨x,hx'⟩:=getSome hlt2;have ex:=hx k x hx';unfold dB at ex;refine Yi ?_;clear ex;intro ex hxl HX;have hpb:x*d≤999999999000000000:=Nat.le_trans (Nat.mul_le_mul (show x≤999999999 by omega) hd1) ay;obtain⟨p,hp⟩:=named (x*d);have hpI:(x:Int)*(d:Int)=(p:Int):=by rw[hp];simp
    rw[← hp] at hpb;have HP:=Ag hp;clear hx hx' hp;go_wp2
    go_roundw
    case rel =>
     exact Yh
    case measure=>simp[intOf]; omega
   ·have hdd:decide (k < (dig a).length)=false:=decide_eq_false hlt2;have HX:=Ag (eF (l:=dig a) (k:=k) byOmega);go_wp2
    go_roundw
    case rel =>
     exact Yj
    case measure=>simp[intOf]; omega
  ·obtain rfl:k=n:=byOmega;have hF:aH l=a*d:=by
    exact zcf
   exact zbG
theorem aar (w:World) (F:Foot) (va:Value) (a d n:Nat) (ha:Ah w F va a) (hla:(dig a).length≤n) (hn:n≤200000) (hd0:1≤d) (hd1:d≤1000000000) (hT:a*d < LB ^ n) :
  Calls Tryz.prog 208 #[va,.int .u64 (d:Int),.int .i64 (n:Int)] w (Ret w fun v w'=>v = .slice (some ⟨w.heap.size,0,none⟩) n n∧∃ l,l.length=n∧Limbs l∧aH l=a*d∧Row w' w.heap.size 103 (aT l)):=by
 obtain⟨A,c,rfl,hc,hNa⟩:=ha;have HA:=Ag hNa;clear hNa;have HT:=Ag hT;clear hT;go_in;go_wp2_with (at_make; refine dQ _ rfl _ _ 40 rfl 103 (.int .u32 0) 4 Tryz.underlying40 Tryz.infoU32 rfl n rfl rfl byOmega byOmega ?_; intro w1 hb1 hz1 hrow1)
 have HR1:=Ag hrow1; clear hrow1;go_loopw [8,14] (fun cv i wr=>∃ (k:Nat) (l:List Nat) (cr:Nat),k≤n∧i = .int .i64 (k:Int)∧cv = .int .u64 (cr:Int)∧cr < 1000000000∧l.length=n∧Limbs l∧aH (l.take k)+LB ^ k*cr=aH ((dig a).take k)*d ∧
  Row wr w.heap.size 103 (aT l)∧Below w.heap.size w wr) (fun _ i _=>n - (intOf i).toNat)
 case atStart=>exact⟨0,List.replicate n 0,0,byOmega,rfl,rfl,byOmega,aB,Limbs.zeros _,by simp[aH],by rw[fD]; exact HR1.out,hb1⟩
 case round =>
  obtain⟨k,l,cr,hk,rfl,rfl,hcr,hlen,hlim,hinv,hrow,hbel⟩:=hrel;refine Y0 ?_;intro HL HI HO HM hold;by_cases hlt:k < n
  ·refine zab ?_;intro z hz rc fc;clear hz hlen hinv hrow hlim;by_cases hlt2:k < (dig a).length
   ·obtain⟨b1,o1,rfl,_,hb1',hx⟩:=HA.out byOmega;obtain⟨x,hx'⟩:=getSome hlt2;have ex:=hx k x hx';unfold dB at ex;refine Yi ?_;clear ex;intro ex hxl HX;have hpb:x*d≤999999999000000000:=Nat.le_trans (Nat.mul_le_mul (show x≤999999999 by omega) hd1) ay;obtain⟨p,hp⟩:=named (x*d);have hpI:(x:Int)*(d:Int)=(p:Int):=by rw[hp];simp
    rw[← hp] at hpb;have HP:=Ag hp;clear hx hx' hp;go_wp2
    go_roundw
    case rel =>
     exact Yh
    case measure=>simp[intOf]; omega
   ·have hdd:decide (k < (dig a).length)=false:=decide_eq_false hlt2;have HX:=Ag (eF (l:=dig a) (k:=k) byOmega);go_wp2
    go_roundw
    case rel =>
     exact Yj
    case measure=>simp[intOf]; omega
  ·obtain rfl:k=n:=byOmega;have hF:aH l=a*d:=by
    exact zcf
   exact zbG
def Dn (w:World) (bu:Nat) (P u S v:List Nat) (n:Nat) (e:Ending) (w':World):Prop :=
 e = .returned (.int .u32 ((aH u / aH v:Nat):Int))∧(∃ u',u'.length=n+1∧Limbs u'∧aH u'=aH u % aH v∧Row w' bu 103 (aT (P++u'++S)))∧w.grownBy w' (some bu)
theorem jq {a w:World} {g:Nat} (h:a.grownBy w (some g)) (o:Nat) (u:Value):a.grownBy (w.setCell ⟨g,o,none⟩ u) (some g):=by
 have hb:=Below.heap_setCell w ⟨g,o,none⟩ u;refine⟨?_,?_,?_,by simpa using h.size,fun k hk hne=>(hb k (by simpa using hne)).trans (h.block k hk hne)⟩
 all_goals (unfold World.setCell; first | exact h.os | exact h.tape | exact h.output)
theorem wG {a w:World} {r:Option Nat} (h:a.grownBy w r) (n:Nat):a.grownBy (w.drewN n) r:=⟨h.os,h.tape,h.output,h.size,h.block⟩
theorem aas (w:World) (row:Option Nat):w.grownBy w row:=⟨rfl,rfl,rfl,Nat.le_refl _,fun _ _ _=>rfl⟩
theorem Row.grown {w w':World} {b g:Nat} {t:TypeId} {vs:List Value} (h:Row w b t vs) (k:w.grownBy w' (some g)) (hne:b≠g):Row w' b t vs:=h.of_block (k.block b h.lt (by simpa using hne))
def rH (q r v2 u2:Nat):Bool:=decide (r < LB∧(LB≤q∨r*LB+u2 < q*v2))
theorem wH (q r v2 u2:Nat):rH q r v2 u2=true↔(r < LB∧(LB≤q∨r*LB+u2 < q*v2)):=by unfold rH; simp
theorem agV (w:World) (bu bv:Nat) (P u S v:List Nat) (j n cu cv:Nat) (hP:P.length=j) (hu:Row w bu 103 (aT (P++u++S))) (hv:Row w bv 103 (aT v)) (hne:bv≠bu) (he:Est u v n) (hn:n≤200000) (hj:j≤200000) (hcu:n+1≤cu) (hcv:n≤cv) :
  Calls Tryz.prog 199 #[.slice (some ⟨bu,j,none⟩) (n+1) cu,.slice (some ⟨bv,0,none⟩) n cv] w (Dn w bu P u S v n):=by
 have hn2:=he.n2;refine zbo ?_;intro n1 hn1;refine Yo ?_;intro n2 akC i1 i2 l1 l2 ul vl top htop v2 hv2 un hun u1 hu1 u2 hu2 ct cv2 cun cu1 cu2 topl v2l unl u1l u2l;have gt:v.getD (n - 1) 0=top:=by rw[show n - 1=n1 by omega];exact aN htop
 have gv2:v.getD (n - 2) 0=v2:=by rw[show n - 2=n2 by omega];exact aN hv2
 have gun:u.getD n 0=un:=aN hun;have gu1:u.getD (n - 1) 0=u1:=by rw[show n - 1=n1 by omega];exact aN hu1
 have gu2:u.getD (n - 2) 0=u2:=by rw[show n - 2=n2 by omega];exact aN hu2
 have ajH:500000000≤top:=by have:=he.half;rw[gt] at this;unfold LB at this;omega
 have hq0:=Nat.div_add_mod (un*1000000000+u1) top;have hr0:=Nat.mod_lt (un*1000000000+u1) (show 0 < top by omega);have hqI:((un:Int)*1000000000+(u1:Int)) / (top:Int)=(((un*1000000000+u1) / top:Nat):Int):=by rw[← lF];rfl
 have hrI:((un:Int)*1000000000+(u1:Int)) % (top:Int)=(((un*1000000000+u1) % top:Nat):Int):=by rw[← qE];rfl
 generalize (un*1000000000+u1) / top=q0 at *;generalize (un*1000000000+u1) % top=r0 at *;have afc:u.getD n 0*LB+u.getD (n - 1) 0=q0*v.getD (n - 1) 0+r0:=by rw[gun,gu1,gt,show LB=1000000000 from rfl,← hq0,Nat.mul_comm]
 obtain⟨aic,hle0⟩:=he.first afc (by rw[gt]; exact hr0);have HE:=Ag he;have HQ0:=Ag afc;have DZ:=Ag aic;have HG:=Ag (And.intro gt (And.intro gv2 (And.intro gun (And.intro gu1 gu2))));have HU:=Ag hu;have HV:=Ag hv;have HPP:=Ag hP;have hblt:=hu.lt;have akD:=hv.lt;have HUL:=Ag ul;have HVL:=Ag vl;have HNE:=Ag hne;clear he afc aic gt gv2 gun gu1 gu2 hu hv hP ul vl hq0 htop hv2 hun hu1 hu2 hn1 akC hne;go_in;go_wp2
 go_quiet (fail)
 go_wp2
 go_quiet (fail)
 go_wp2
 go_loopw [7,8] (fun qv rv wr=>∃ (q r z:Nat),qv = .int .u64 (q:Int)∧rv = .int .u64 (r:Int)∧u.getD n 0*LB+u.getD (n - 1) 0=q*v.getD (n - 1) 0+r∧aH u / aH v≤q∧q≤1000000002∧r < 2000000000∧wr=w.drewN z) (fun qv _ _=>(intOf qv).toNat)
 case atStart=>exact⟨q0,r0,_,by rw[hqI],by rw[hrI],HQ0.out,DZ.out,hle0,byOmega,by simp only[World.drewN_drewN]; rfl⟩
 case round =>
  clear HQ0 DZ hle0 hr0 hqI hrI;obtain⟨q,r,z,rfl,rfl,hq,hge,aie,hrl,rfl⟩:=hrel;have HQ:=Ag hq;have HGE:=Ag hge;clear hq hge;have hpb:q*v2≤1000000001000000000:=by
   have:=Nat.mul_le_mul aie (show v2≤999999999 by omega);omega
  obtain⟨p,hp⟩:=named (q*v2);have hpI:(q:Int)*(v2:Int)=(p:Int):=by rw[hp];simp
  rw[← hp] at hpb;have HP:=Ag hp;clear hp;have hbad:rH q r v2 u2=decide (r < 1000000000∧(1000000000≤q∨r*1000000000+u2 < p)):=by unfold rH;rw[HP.out]
  have HBAD:=Ag hbad;clear hbad;go_upto_region 5 with fail
  go_cut [80] from 55 to 85 (fun b wx=>b = .bool (rH q r v2 u2)∧∃ z,wx=w.drewN z)
  case first =>
   by_cases c1:r < 1000000000
   ·by_cases c2:1000000000≤q
    ·refine zaS ?_;intro HB d1 d2;go_quiet (fail)
     go_wp2_with fail
     go_meet
     exact ZX
    ·have d1:decide ((r:Int) < 1000000000)=true:=decide_eq_true byOmega;have d2:decide ((1000000000:Int)≤(q:Int))=false:=decide_eq_false byOmega;by_cases c3:r*1000000000+u2 < p
     ·refine zbA ?_;intro HB d3;go_quiet (fail)
      go_wp2_with fail
      go_meet
      exact ZX
     ·refine zaF ?_;intro HB;have d3:decide ((r:Int)*1000000000+(u2:Int) < (p:Int))=false:=decide_eq_false byOmega;go_quiet (fail)
      go_wp2_with fail
      go_meet
      exact ZX
   ·refine zaF ?_;intro HB;have d1:decide ((r:Int) < 1000000000)=false:=decide_eq_false byOmega;go_quiet (fail)
    go_wp2_with fail
    go_meet
    exact ZX
  case rest =>
   obtain⟨rfl,z',rfl⟩:=hcut;cases hb:rH q r v2 u2
   ·have hbf:¬ (r < LB∧(LB≤q∨r*LB+u.getD (n - 2) 0 < q*v.getD (n - 2) 0)):=by
     intro h;rw[HG.out.2.2.2.2,HG.out.2.1] at h;have:=(wH q r v2 u2).2 h;rw[hb] at this;cases this
    obtain⟨a1,a2,a3⟩:=HE.out.almost HQ.out HGE.out hbf;have hqB:q < 1000000000:=a1;have HAL:=Ag (And.intro a2 a3);clear hb hbf a1 a2 a3 HQ HGE aie hrl hpb hpI HP HBAD;have afd:w.grownBy (w.drewN z') (some bu):=wG (aas _ _) _;have afe:Row (w.drewN z') bu 103 (aT (P++u++S)):=HU.out.dN _;clear ct cv2 cun cu1 cu2;obtain⟨W0,hW0⟩:=named (w.drewN z');rw[← hW0] at afd afe;go_wp2
    rw[← hW0];clear hW0;go_loopw [9,10,87] (fun cv bv' i wr=>∃ (k cr br:Nat) (u':List Nat),k≤n∧i = .int .i64 (k:Int)∧cv = .int .u64 (cr:Int)∧bv' = .int .i64 (br:Int)∧cr < 1000000000∧br≤1∧CS u v q k (cr+br) u' ∧
     Row wr bu 103 (aT (P++u'++S))∧w.grownBy wr (some bu)) (fun _ _ i _=>n - (intOf i).toNat)
    case atStart=>exact⟨0,0,0,u,byOmega,rfl,rfl,rfl,byOmega,byOmega,CS.start HE.out.lu,afe,afd⟩
    case round =>
     clear afe afd;obtain⟨k,cr,br,u',hk,rfl,rfl,rfl,hcr,hbr,hms,hrow,hgr⟩:=hrel;have xQ:u'.length=n+1:=by rw[hms.len,HUL.out]
     have HMS:=Ag hms;have HRW:=Ag hrow;have HGR:=Ag hgr;have hrv:=HV.out.grown hgr HNE.out;by_cases hlt:k < n
     ·obtain⟨y,hy⟩:=getSome (l:=v) (k:=k) (by rw[HVL.out]; exact hlt);obtain⟨x,hx⟩:=getSome (l:=u') (k:=k) byOmega;have cy:=hrv.cell (aY hy);have cx:=hrow.cell (aY ((jA HPP.out byOmega).trans hx));have fx:=hrow.frozen (j+k);have hyl:y < 1000000000:=HE.out.lv.get hy;have hxl:x < 1000000000:=hms.limbs.get hx;have HY:=Ag (aN hy);have HX:=Ag (show u.getD k 0=x by
       have:=kG hms.rest;rw[hx] at this;exact aN this.symm)
      have hpb:=tK (x:=q) (y:=y) hqB hyl;obtain⟨p,hp⟩:=named (q*y);have hpI:(q:Int)*(y:Int)=(p:Int):=by rw[hp];simp
      rw[← hp] at hpb;have HP:=Ag hp;have aat:k < u'.length:=byOmega;clear hy hx hms hrow hgr hrv hp xQ;by_cases hs:(x:Int) - (br:Int) - ((p:Int)+(cr:Int)) % 1000000000 < 0
      ·obtain⟨s,hs'⟩:∃ s,s+br+(p+cr) % 1000000000=x+1000000000:=⟨x+1000000000 - (br+(p+cr) % 1000000000),byOmega⟩;have HS:=Ag hs';clear hs';go_wp2
       go_roundw
       case rel =>
        refine⟨k+1,(p+cr) / 1000000000,1,u'.set k s,byOmega,by go_num,by go_num,rfl,byOmega,byOmega,HMS.out.step (by rw[HUL.out]; omega) ?_ (by have:=HS.out; show _ < 1000000000; omega),?_,jq HGR.out _ _⟩
        ·exact zaq
        ·refine zaw ?_;intro hr hss;rw[show(s:Int)=(x:Int) - (br:Int) - ((p:Int)+(cr:Int)) % 1000000000+1000000000 by omega] at hr;exact hr
       case measure=>simp[intOf]; omega
      ·have hdd:decide ((x:Int) - (br:Int) - ((p:Int)+(cr:Int)) % 1000000000 < 0)=false:=decide_eq_false hs;obtain⟨s,hs'⟩:∃ s,s+br+(p+cr) % 1000000000=x:=⟨x - (br+(p+cr) % 1000000000),byOmega⟩;have HS:=Ag hs';clear hs';go_wp2
       go_roundw
       case rel =>
        refine⟨k+1,(p+cr) / 1000000000,0,u'.set k s,byOmega,by go_num,by go_num,rfl,byOmega,byOmega,HMS.out.step (by rw[HUL.out]; omega) ?_ (by have:=HS.out; show _ < 1000000000; omega),?_,jq HGR.out _ _⟩
        ·exact zaq
        ·refine zaw ?_;intro hr hss;rw[show(s:Int)=(x:Int) - (br:Int) - ((p:Int)+(cr:Int)) % 1000000000 by omega] at hr;exact hr
       case measure=>simp[intOf]; omega
     ·obtain rfl:k=n:=byOmega;have hxn:u'[k]? = u[k]?:=kG hms.rest;have hun':u[k]? = some un:=by
       have h1:=HG.out.2.2.1;obtain⟨y,hy⟩:=getSome (l:=u) (k:=k) (by rw[HUL.out]; omega);rw[aN hy] at h1;rw[hy,h1]
      have cx:=hrow.cell (aY ((jA HPP.out byOmega).trans (hxn.trans hun')));have HUN:=Ag (show u.getD k 0=un from HG.out.2.2.1);have Cm:=Ag xQ;clear hms hrow hgr hxn hun' xQ hlt;go_upto_if 132 with fail
      go_cut [7,14,15,16] from 122 to 158 (fun q7 _ _ _ wx=>∃ u3:List Nat,q7 = .int .u64 ((aH u / aH v:Nat):Int)∧u3.length=k+1∧Limbs u3∧aH (u3.take k)=aH u % aH v∧Row wx bu 103 (aT (P++u3++S))∧w.grownBy wx (some bu))
      case first =>
       by_cases hs:(un:Int) - (br:Int) - (cr:Int) < 0
       ·have hneg:u.getD k 0 < cr+br:=by rw[HUN.out];omega
        have HNG:=Ag hneg;have hq1:1≤q:=by
         rcases Nat.eq_zero_or_pos q with h0 | h0
         ·exfalso
          have he:=vX HE.out HMS.out;have hl:=pz HMS.out.limbs (n:=k) (by rw[Cm.out]; omega);have h1:LB ^ k*(u.getD k 0+1)≤LB ^ k*(cr+br):=Nat.mul_le_mul_left _ hneg;rw[Nat.mul_add,Nat.mul_one] at h1;rw[h0,Nat.zero_mul] at he;omega
         ·exact h0
        clear hneg;go_wp2
        go_loopw [14,136] (fun ov i wi=>∃ (m o:Nat) (u2':List Nat),m≤k∧i = .int .i64 (m:Int)∧ov = .int .u32 (o:Int)∧o≤1∧CZ u' v m o u2' ∧
         Row wi bu 103 (aT (P++u2'++S))∧w.grownBy wi (some bu)) (fun _ i _=>k - (intOf i).toNat)
        case atStart=>exact⟨0,0,u',byOmega,rfl,rfl,byOmega,CZ.start HMS.out.limbs,HRW.out,HGR.out⟩
        case round =>
         clear cx;obtain⟨m,o,u2',hm,rfl,rfl,ho,hma,hrow,hgr⟩:=hrel;have HMA:=Ag hma;have Dx:=Ag hrow;have Dy:=Ag hgr;have hrv:=HV.out.grown hgr HNE.out;have aat:u2'.length=k+1:=by rw[hma.len,Cm.out]
         by_cases hmt:m < k
         ·obtain⟨y,hy⟩:=getSome (l:=v) (k:=m) (by rw[HVL.out]; exact hmt);obtain⟨x,hx⟩:=getSome (l:=u2') (k:=m) byOmega;have cy:=hrv.cell (aY hy);have cx:=hrow.cell (aY ((jA HPP.out byOmega).trans hx));have fx:=hrow.frozen (j+m);have hyl:y < 1000000000:=HE.out.lv.get hy;have hxl:x < 1000000000:=hma.limbs.get hx;have HY:=Ag (aN hy);have HX:=Ag (show u'.getD m 0=x by
           have:=kG hma.rest;rw[hx] at this;exact aN this.symm)
          have hm2:m < u2'.length:=byOmega;clear hy hx hma hrow hgr hrv aat;have hs2:(∃ s,x+y+o=s+1000000000)∨x+y+o < 1000000000:=by
           by_cases h:1000000000≤x+y+o
           ·exact .inl ⟨x+y+o - 1000000000,byOmega⟩
           ·exact .inr byOmega
          rcases hs2 with⟨s,hs2⟩ | hs2
          ·have hdd:decide ((1000000000:Int)≤(x:Int)+(y:Int)+(o:Int))=true:=decide_eq_true byOmega;have hsI:(1000000000:Int)≤(x:Int)+(y:Int)+(o:Int):=byOmega;have HS:=Ag hs2;clear hs2;go_wp2
           go_quiet (fail)
           go_wp2
           go_roundw
           case rel =>
            refine⟨m+1,1,u2'.set m s,byOmega,by go_num,rfl,byOmega,HMA.out.step (by rw[Cm.out]; omega) (by have:=HS.out; rw[HX.out,HY.out]; show _+1000000000*_=_; omega) (by have:=HS.out; show _ < 1000000000; omega),?_,jq (wG Dy.out _) _ _⟩;have hr:=(Dx.out.dN nq).set (j+m) (.int .u32 (s:Int));exact zbm
           case measure=>simp[intOf]; omega
          ·have hdd:decide ((1000000000:Int)≤(x:Int)+(y:Int)+(o:Int))=false:=decide_eq_false byOmega;go_wp2
           go_quiet (fail)
           go_wp2
           go_roundw
           case rel =>
            refine⟨m+1,0,u2'.set m (x+y+o),byOmega,by go_num,rfl,byOmega,HMA.out.step (by rw[Cm.out]; omega) (by rw[HX.out,HY.out]; show _+1000000000*_=_; omega) (by show _ < 1000000000; omega),?_,jq (wG Dy.out _) _ _⟩;have hr:=(Dx.out.dN nq).set (j+m) (.int .u32 ((x+y+o:Nat):Int));rw[aZ,set_mid HPP.out hm2] at hr;exact hr
           case measure=>simp[intOf]; omega
         ·obtain rfl:m=k:=byOmega;have HB:=Ag (abw HE.out HMS.out HAL.out.1 HAL.out.2 HNG.out hma);clear hma hrow hgr hrv;go_wp2_with fail
          go_meet
          exact⟨u2',by have:=HB.out.1; go_num,aat,HMA.out.limbs,HB.out.2,Dx.out,Dy.out⟩
       ·have hdd:decide ((un:Int) - (br:Int) - (cr:Int) < 0)=false:=decide_eq_false hs;have HB:=Ag (zV HE.out HMS.out HAL.out.1 HAL.out.2 (by rw[HUN.out]; omega));go_wp2_with fail
        go_meet
        exact⟨u',by rw[← HB.out.1],Cm.out,HMS.out.limbs,HB.out.2,HRW.out,HGR.out⟩
      case rest =>
       exact ZJ
   ·have hbt:=(wH q r v2 u2).1 hb;have HT:=Ag hbt;have hrLB:r < 1000000000:=hbt.1;clear hb hbt;have hq1:1≤q:=by
     have h:=HT.out.2;rcases Nat.eq_zero_or_pos q with h0 | h0
     ·subst h0;rcases h with h | h
      ·exact absurd h ay
      ·simp at h
     ·exact h0
    go_wp2
    go_roundw
    case rel =>
     refine⟨q - 1,r+top,z',?_,?_,?_,?_,byOmega,byOmega,rfl⟩
     ·go_num
     ·go_num
     ·exact zbn
     ·exact zca
    case measure=>simp[intOf]; omega
theorem afg (w:World) (bu bv:Nat) (P u S v:List Nat) (j n cu cv:Nat) (hP:P.length=j) (hu:Row w bu 103 (aT (P++u++S))) (hv:Row w bv 103 (aT v)) (hne:bv≠bu) (he:Est u v n) (hn:n≤200000) (hj:j≤200000) (hcu:n+1≤cu) (hcv:n≤cv) :
  Calls Tryz.prog 209 #[.slice (some ⟨bu,j,none⟩) (n+1) cu,.slice (some ⟨bv,0,none⟩) n cv] w (Dn w bu P u S v n):=by
 have hn2:=he.n2;refine zbo ?_;intro n1 hn1;refine Yo ?_;intro n2 akC i1 i2 l1 l2 ul vl top htop v2 hv2 un hun u1 hu1 u2 hu2 ct cv2 cun cu1 cu2 topl v2l unl u1l u2l;have gt:v.getD (n - 1) 0=top:=by rw[show n - 1=n1 by omega];exact aN htop
 have gv2:v.getD (n - 2) 0=v2:=by rw[show n - 2=n2 by omega];exact aN hv2
 have gun:u.getD n 0=un:=aN hun;have gu1:u.getD (n - 1) 0=u1:=by rw[show n - 1=n1 by omega];exact aN hu1
 have gu2:u.getD (n - 2) 0=u2:=by rw[show n - 2=n2 by omega];exact aN hu2
 have ajH:500000000≤top:=by have:=he.half;rw[gt] at this;unfold LB at this;omega
 have hq0:=Nat.div_add_mod (un*1000000000+u1) top;have hr0:=Nat.mod_lt (un*1000000000+u1) (show 0 < top by omega);have hqI:((un:Int)*1000000000+(u1:Int)) / (top:Int)=(((un*1000000000+u1) / top:Nat):Int):=by rw[← lF];rfl
 have hrI:((un:Int)*1000000000+(u1:Int)) % (top:Int)=(((un*1000000000+u1) % top:Nat):Int):=by rw[← qE];rfl
 generalize (un*1000000000+u1) / top=q0 at *;generalize (un*1000000000+u1) % top=r0 at *;have afc:u.getD n 0*LB+u.getD (n - 1) 0=q0*v.getD (n - 1) 0+r0:=by rw[gun,gu1,gt,show LB=1000000000 from rfl,← hq0,Nat.mul_comm]
 obtain⟨aic,hle0⟩:=he.first afc (by rw[gt]; exact hr0);have HE:=Ag he;have HQ0:=Ag afc;have DZ:=Ag aic;have HG:=Ag (And.intro gt (And.intro gv2 (And.intro gun (And.intro gu1 gu2))));have HU:=Ag hu;have HV:=Ag hv;have HPP:=Ag hP;have hblt:=hu.lt;have akD:=hv.lt;have HUL:=Ag ul;have HVL:=Ag vl;have HNE:=Ag hne;clear he afc aic gt gv2 gun gu1 gu2 hu hv hP ul vl hq0 htop hv2 hun hu1 hu2 hn1 akC hne;go_in;go_wp2
 go_quiet (fail)
 go_wp2
 go_quiet (fail)
 go_wp2
 go_loopw [7,8] (fun qv rv wr=>∃ (q r z:Nat),qv = .int .u64 (q:Int)∧rv = .int .u64 (r:Int)∧u.getD n 0*LB+u.getD (n - 1) 0=q*v.getD (n - 1) 0+r∧aH u / aH v≤q∧q≤1000000002∧r < 2000000000∧wr=w.drewN z) (fun qv _ _=>(intOf qv).toNat)
 case atStart=>exact⟨q0,r0,_,by rw[hqI],by rw[hrI],HQ0.out,DZ.out,hle0,byOmega,by simp only[World.drewN_drewN]; rfl⟩
 case round =>
  clear HQ0 DZ hle0 hr0 hqI hrI;obtain⟨q,r,z,rfl,rfl,hq,hge,aie,hrl,rfl⟩:=hrel;have HQ:=Ag hq;have HGE:=Ag hge;clear hq hge;have hpb:q*v2≤1000000001000000000:=by
   have:=Nat.mul_le_mul aie (show v2≤999999999 by omega);omega
  obtain⟨p,hp⟩:=named (q*v2);have hpI:(q:Int)*(v2:Int)=(p:Int):=by rw[hp];simp
  rw[← hp] at hpb;have HP:=Ag hp;clear hp;have hbad:rH q r v2 u2=decide (r < 1000000000∧(1000000000≤q∨r*1000000000+u2 < p)):=by unfold rH;rw[HP.out]
  have HBAD:=Ag hbad;clear hbad;go_upto_region 4 with fail
  go_cut [74] from 49 to 84 (fun b wx=>b = .bool (rH q r v2 u2)∧∃ z,wx=w.drewN z)
  case first =>
   by_cases c1:r < 1000000000
   ·by_cases c2:1000000000≤q
    ·refine zaS ?_;intro HB d1 d2;go_quiet (fail)
     go_wp2_with fail
     go_meet
     exact ZX
    ·have d1:decide ((r:Int) < 1000000000)=true:=decide_eq_true byOmega;have d2:decide ((1000000000:Int)≤(q:Int))=false:=decide_eq_false byOmega;by_cases c3:r*1000000000+u2 < p
     ·refine zbA ?_;intro HB d3;go_quiet (fail)
      go_wp2_with fail
      go_meet
      exact ZX
     ·refine zaF ?_;intro HB;have d3:decide ((r:Int)*1000000000+(u2:Int) < (p:Int))=false:=decide_eq_false byOmega;go_quiet (fail)
      go_wp2_with fail
      go_meet
      exact ZX
   ·refine zaF ?_;intro HB;have d1:decide ((r:Int) < 1000000000)=false:=decide_eq_false byOmega;go_quiet (fail)
    go_wp2_with fail
    go_meet
    exact ZX
  case rest =>
   obtain⟨rfl,z',rfl⟩:=hcut;cases hb:rH q r v2 u2
   ·have hbf:¬ (r < LB∧(LB≤q∨r*LB+u.getD (n - 2) 0 < q*v.getD (n - 2) 0)):=by
     intro h;rw[HG.out.2.2.2.2,HG.out.2.1] at h;have:=(wH q r v2 u2).2 h;rw[hb] at this;cases this
    obtain⟨a1,a2,a3⟩:=HE.out.almost HQ.out HGE.out hbf;have hqB:q < 1000000000:=a1;have HAL:=Ag (And.intro a2 a3);clear hb hbf a1 a2 a3 HQ HGE aie hrl hpb hpI HP HBAD;have afd:w.grownBy (w.drewN z') (some bu):=wG (aas _ _) _;have afe:Row (w.drewN z') bu 103 (aT (P++u++S)):=HU.out.dN _;clear ct cv2 cun cu1 cu2;obtain⟨W0,hW0⟩:=named (w.drewN z');rw[← hW0] at afd afe;go_wp2
    rw[← hW0];clear hW0;go_loopw [9,87] (fun cv i wr=>∃ (k cr:Nat) (u':List Nat),k≤n∧i = .int .i64 (k:Int)∧cv = .int .u64 (cr:Int)∧cr≤1000000000∧CS u v q k cr u' ∧
     Row wr bu 103 (aT (P++u'++S))∧w.grownBy wr (some bu)) (fun _ i _=>n - (intOf i).toNat)
    case atStart=>exact⟨0,0,u,byOmega,rfl,rfl,byOmega,CS.start HE.out.lu,afe,afd⟩
    case round =>
     clear afe afd;obtain⟨k,cr,u',hk,rfl,rfl,hcr,hms,hrow,hgr⟩:=hrel;have xQ:u'.length=n+1:=by rw[hms.len,HUL.out]
     have HMS:=Ag hms;have HRW:=Ag hrow;have HGR:=Ag hgr;have hrv:=HV.out.grown hgr HNE.out;by_cases hlt:k < n
     ·obtain⟨y,hy⟩:=getSome (l:=v) (k:=k) (by rw[HVL.out]; exact hlt);obtain⟨x,hx⟩:=getSome (l:=u') (k:=k) byOmega;have cy:=hrv.cell (aY hy);have cx:=hrow.cell (aY ((jA HPP.out byOmega).trans hx));have fx:=hrow.frozen (j+k);have hyl:y < 1000000000:=HE.out.lv.get hy;have hxl:x < 1000000000:=hms.limbs.get hx;have HY:=Ag (aN hy);have HX:=Ag (show u.getD k 0=x by
       have:=kG hms.rest;rw[hx] at this;exact aN this.symm)
      have hpb:=tK (x:=q) (y:=y) hqB hyl;obtain⟨p,hp⟩:=named (q*y);have hpI:(q:Int)*(y:Int)=(p:Int):=by rw[hp];simp
      rw[← hp] at hpb;have HP:=Ag hp;have aat:k < u'.length:=byOmega;clear hy hx hms hrow hgr hrv hp xQ;by_cases hs:(x:Int) - ((p:Int)+(cr:Int)) % 1000000000 < 0
      ·obtain⟨s,hs'⟩:∃ s,s+(p+cr) % 1000000000=x+1000000000:=⟨x+1000000000 - ((p+cr) % 1000000000),byOmega⟩;have HS:=Ag hs';clear hs';go_wp2
       go_roundw
       case rel =>
        refine⟨k+1,(p+cr) / 1000000000+1,u'.set k s,byOmega,by go_num,by go_num,byOmega,HMS.out.step (by rw[HUL.out]; omega) ?_ (by have:=HS.out; show _ < 1000000000; omega),?_,jq HGR.out _ _⟩
        ·exact zaq
        ·refine zaw ?_;intro hr hss;rw[show(s:Int)=(x:Int) - ((p:Int)+(cr:Int)) % 1000000000+1000000000 by omega] at hr;exact hr
       case measure=>simp[intOf]; omega
      ·have hdd:decide ((x:Int) - ((p:Int)+(cr:Int)) % 1000000000 < 0)=false:=decide_eq_false hs;obtain⟨s,hs'⟩:∃ s,s+(p+cr) % 1000000000=x:=⟨x - ((p+cr) % 1000000000),byOmega⟩;have HS:=Ag hs';clear hs';go_wp2
       go_roundw
       case rel =>
        refine⟨k+1,(p+cr) / 1000000000,u'.set k s,byOmega,by go_num,by go_num,byOmega,HMS.out.step (by rw[HUL.out]; omega) ?_ (by have:=HS.out; show _ < 1000000000; omega),?_,jq HGR.out _ _⟩
        ·exact zaq
        ·refine zaw ?_;intro hr hss;rw[show(s:Int)=(x:Int) - ((p:Int)+(cr:Int)) % 1000000000 by omega] at hr;exact hr
       case measure=>simp[intOf]; omega
     ·obtain rfl:k=n:=byOmega;have hxn:u'[k]? = u[k]?:=kG hms.rest;have hun':u[k]? = some un:=by
       have h1:=HG.out.2.2.1;obtain⟨y,hy⟩:=getSome (l:=u) (k:=k) (by rw[HUL.out]; omega);rw[aN hy] at h1;rw[hy,h1]
      have cx:=hrow.cell (aY ((jA HPP.out byOmega).trans (hxn.trans hun')));have HUN:=Ag (show u.getD k 0=un from HG.out.2.2.1);have Cm:=Ag xQ;clear hms hrow hgr hxn hun' xQ hlt;go_upto_if 127 with fail
      go_cut [7,14,15,16,17] from 121 to 153 (fun q7 _ _ _ _ wx=>∃ u3:List Nat,q7 = .int .u64 ((aH u / aH v:Nat):Int)∧u3.length=k+1∧Limbs u3∧aH (u3.take k)=aH u % aH v∧Row wx bu 103 (aT (P++u3++S))∧w.grownBy wx (some bu))
      case first =>
       by_cases hs:un < cr
       ·have hneg:u.getD k 0 < cr:=by rw[HUN.out];omega
        have HNG:=Ag hneg;have hq1:1≤q:=by
         rcases Nat.eq_zero_or_pos q with h0 | h0
         ·exfalso
          have he:=vX HE.out HMS.out;have hl:=pz HMS.out.limbs (n:=k) (by rw[Cm.out]; omega);have h1:LB ^ k*(u.getD k 0+1)≤LB ^ k*cr:=Nat.mul_le_mul_left _ hneg;rw[Nat.mul_add,Nat.mul_one] at h1;rw[h0,Nat.zero_mul] at he;omega
         ·exact h0
        clear hneg;go_wp2
        go_loopw [14,132] (fun ov i wi=>∃ (m o:Nat) (u2':List Nat),m≤k∧i = .int .i64 (m:Int)∧ov = .int .u32 (o:Int)∧o≤1∧CZ u' v m o u2' ∧
         Row wi bu 103 (aT (P++u2'++S))∧w.grownBy wi (some bu)) (fun _ i _=>k - (intOf i).toNat)
        case atStart=>exact⟨0,0,u',byOmega,rfl,rfl,byOmega,CZ.start HMS.out.limbs,HRW.out,HGR.out⟩
        case round =>
         clear cx;obtain⟨m,o,u2',hm,rfl,rfl,ho,hma,hrow,hgr⟩:=hrel;have HMA:=Ag hma;have Dx:=Ag hrow;have Dy:=Ag hgr;have hrv:=HV.out.grown hgr HNE.out;have aat:u2'.length=k+1:=by rw[hma.len,Cm.out]
         by_cases hmt:m < k
         ·obtain⟨y,hy⟩:=getSome (l:=v) (k:=m) (by rw[HVL.out]; exact hmt);obtain⟨x,hx⟩:=getSome (l:=u2') (k:=m) byOmega;have cy:=hrv.cell (aY hy);have cx:=hrow.cell (aY ((jA HPP.out byOmega).trans hx));have fx:=hrow.frozen (j+m);have hyl:y < 1000000000:=HE.out.lv.get hy;have hxl:x < 1000000000:=hma.limbs.get hx;have HY:=Ag (aN hy);have HX:=Ag (show u'.getD m 0=x by
           have:=kG hma.rest;rw[hx] at this;exact aN this.symm)
          have hm2:m < u2'.length:=byOmega;clear hy hx hma hrow hgr hrv aat;have hs2:(∃ s,x+y+o=s+1000000000)∨x+y+o < 1000000000:=by
           by_cases h:1000000000≤x+y+o
           ·exact .inl ⟨x+y+o - 1000000000,byOmega⟩
           ·exact .inr byOmega
          rcases hs2 with⟨s,hs2⟩ | hs2
          ·have hdd:decide ((1000000000:Int)≤(x:Int)+(y:Int)+(o:Int))=true:=decide_eq_true byOmega;have hsI:(1000000000:Int)≤(x:Int)+(y:Int)+(o:Int):=byOmega;have HS:=Ag hs2;clear hs2;go_wp2
           go_roundw
           case rel =>
            refine⟨m+1,1,u2'.set m s,byOmega,by go_num,rfl,byOmega,HMA.out.step (by rw[Cm.out]; omega) (by have:=HS.out; rw[HX.out,HY.out]; show _+1000000000*_=_; omega) (by have:=HS.out; show _ < 1000000000; omega),?_,jq Dy.out _ _⟩;have hr:=Dx.out.set (j+m) (.int .u32 (s:Int));exact zbm
           case measure=>simp[intOf]; omega
          ·have hdd:decide ((1000000000:Int)≤(x:Int)+(y:Int)+(o:Int))=false:=decide_eq_false byOmega;go_wp2
           go_roundw
           case rel =>
            refine⟨m+1,0,u2'.set m (x+y+o),byOmega,by go_num,rfl,byOmega,HMA.out.step (by rw[Cm.out]; omega) (by rw[HX.out,HY.out]; show _+1000000000*_=_; omega) (by show _ < 1000000000; omega),?_,jq Dy.out _ _⟩;have hr:=Dx.out.set (j+m) (.int .u32 ((x+y+o:Nat):Int));rw[aZ,set_mid HPP.out hm2] at hr;exact hr
           case measure=>simp[intOf]; omega
         ·obtain rfl:m=k:=byOmega;have HB:=Ag (abw HE.out HMS.out HAL.out.1 HAL.out.2 HNG.out hma);clear hma hrow hgr hrv;go_wp2_with fail
          go_meet
          exact⟨u2',by have:=HB.out.1; go_num,aat,HMA.out.limbs,HB.out.2,Dx.out,Dy.out⟩
       ·have hdd:decide (un < cr)=false:=decide_eq_false hs;have HB:=Ag (zV HE.out HMS.out HAL.out.1 HAL.out.2 (by rw[HUN.out]; omega));go_wp2_with fail
        go_meet
        exact⟨u',by rw[← HB.out.1],Cm.out,HMS.out.limbs,HB.out.2,HRW.out,HGR.out⟩
      case rest =>
       exact ZJ
   ·have hbt:=(wH q r v2 u2).1 hb;have HT:=Ag hbt;have hrLB:r < 1000000000:=hbt.1;clear hb hbt;have hq1:1≤q:=by
     have h:=HT.out.2;rcases Nat.eq_zero_or_pos q with h0 | h0
     ·subst h0;rcases h with h | h
      ·exact absurd h ay
      ·simp at h
     ·exact h0
    go_wp2
    go_roundw
    case rel =>
     refine⟨q - 1,r+top,z',?_,?_,?_,?_,byOmega,byOmega,rfl⟩
     ·go_num
     ·go_num
     ·exact zbn
     ·exact zca
    case measure=>simp[intOf]; omega
end Go.Proofs.YtnmeejofpkhlkaaGreatDoor
