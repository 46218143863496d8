/- Part of a claim. -/
import Derived.Test.YtnmeejofpkhlkaaGreatDoorE06
import Derived.Deep.CutRange
set_option linter.all false
set_option maxRecDepth 100000
set_option maxHeartbeats 12800000
namespace Go.Proofs.YtnmeejofpkhlkaaGreatDoor
open And renaming intro->Ij
open Go.RowKit.Below renaming refl->F9
open Go.IntKind renaming i64->F5
open Go renaming Value->F7,World->FW
open Go.Value renaming int->F6,slice->FQ
open List renaming drop_eq_nil_of_le->GU,drop_length->IL,getD_eq_getElem?_getD->FU,getElem?_replicate->JI,length_append->Gn,length_set->He,replicate->F8,take_length->Jw,take_of_length_le->Gl
open Nat renaming add_zero->J7,div_add_mod->I5,eq_zero_or_pos->Gt,le_refl->FV,le_trans->Gf,mod_lt->IK,mul_add->GV,mul_comm->Gy,mul_le_mul->IX,mul_le_mul_left->Gq,mul_one->Gp,mul_zero->JV,zero_mul->KF
open Tryz renaming infoU32->IU
open Go.Proofs.Tryz renaming prog->FY,underlying39->Ie,underlying40->G8
open Go.World renaming ownsRow_nil->Ko
open Lib renaming hid → Ac
open Go.RowKit
variable {bl l o:List Nat} {A B b c c' d g k la lb n s x:Nat} {t:TypeId}
theorem alp {a:Nat} (ho:Limbs o) (hl:o.length=(dig a).length) (hc:c<=1) (h:aH o+LB ^ (dig a).length*c=a+b):dig (a+b)=if c=0 then o else o ++ [c]:=by
 split
 ·rename_i h0; subst h0
  rw[<-h,JV,J7];refine adK ho λhne=>?_
  rw[JV,J7] at h;have h1:a≠0:=λe=>hne (List.eq_nil_of_length_eq_zero (by rw[hl,e,bD]; rfl))
  have:=aau h1;rw[hl];omega
 ·rename_i h0
  have hc1:c=1:=EN;subst hc1;rw[<-h,<-hl,<-kP];exact tC (ho.concat aA) (by rw[List.getLast?_concat]; intro e; cases e)
theorem ajP (w:FW) (F:FI) (va vb:F7) (a0 b0:Nat) (ha:Ae w F va a0) (hb:Ae w F vb b0) (hla:(dig a0).length<=100000) (hlb:(dig b0).length<=100000) :
  Calls FY 168 #[va,vb] w (Ret w λv w'=>Ae w' (λb=>w.heap.size<=b) v (a0+b0)):=by
 have HA:=Ac ha;have HB:=Ac hb;obtain⟨A,c,rfl,hc,hNa⟩:=ha;obtain⟨B,d,rfl,hd,hNb⟩:=hb;clear hNa hNb;go_in
 go_upto_if 14 with fail
 go_cut [0,1] from 15 to 16 (λva vb wx=>∃ a b,w=wx/\Ae w F va a/\Ae w F vb b/\a+b=a0+b0/\(dig b).length<=(dig a).length/\(dig a).length<=100000)
 case first =>
  by_cases h:(dig a0).length < (dig b0).length
  ·go_wp2_with fail
   go_meet
   exact⟨b0,a0,rfl,HB.out,HA.out,EN,EN,hlb⟩
  ·have hdd:decide ((dig a0).length < (dig b0).length)=false:=L9 h;go_wp2_with fail
   go_meet
   exact⟨a0,b0,rfl,HA.out,HB.out,rfl,EN,hla⟩
 case rest =>
 clear hc hd hla hlb HA HB;obtain⟨a,b,rfl,ha,hb,hsum,hle,hla⟩:=hcut;have HE:=Ac hsum;clear hsum;obtain⟨A,c,rfl,hc,hNa⟩:=ha;obtain⟨B,d,rfl,hd,hNb⟩:=hb;have HA:=Ac hNa;have HB:=Ac hNb;clear hNa hNb;go_wp2_with (at_make; refine adt rfl _ _ 39 rfl Ie ((dig a).length+1) _ EN rfl rfl EN ?_; intro w1 hb1 hown1)
 have HO1:=Ac hown1; clear hown1;go_loopw [5,6,23] (λv cy i wr=>∃ (k:Nat) (l:List Nat) (cr:Nat),k<=(dig a).length/\i = F6 F5 k/\cy = .int .u32 (cr:Int)/\cr<=1/\l.length=k/\Limbs l/\aH l+LB ^ k*cr=aH ((dig a).take k)+aH ((dig b).take k) /\
  wr.ownsRow w.heap.size 103 1 v l.length (aU l)/\Below w.heap.size w wr) (λ_ _ i _=>(dig a).length - (intOf i).toNat)
 case atStart=>exact⟨0,[],0,EN,rfl,rfl,EN,rfl,(λx hx=>by cases hx),by simp[aH],HO1.out,hb1⟩
 case round =>
  obtain⟨k,l,cr,hk,rfl,rfl,hcr,hlen,hlim,hinv,hown,hbel⟩:=hrel;have HL:=Ac hlen;have HI:=Ac hinv;have HO:=Ac hown;have HM:=Ac hlim;have hll:l.length<=1000000:=EN;clear hlen hinv hown hlim;have hold:=aS hbel;by_cases hlt:k < (dig a).length
  ·obtain⟨b1,o1,rfl,_,hb1',hx⟩:=HA.out EN;refine zaQ ?_;intro x hx' ex;unfold dF at ex;refine Yu ?_;clear ex;intro ex hxl HX;clear hx hx';by_cases hlt2:k < (dig b).length
   ·obtain⟨b2,o2,rfl,_,hb2',hy⟩:=HB.out EN;refine zdH ?_;intro y hy' ey;unfold dF at ey;refine Y8 ?_;clear ey;intro ey hyl HY;clear hy hy';have hs:(∃ s,x+cr+y=s+1000000000)\/x+cr+y < 1000000000:=by
     by_cases h:1000000000<=x+cr+y
     ·exact .inl ⟨x+cr+y - 1000000000,EN⟩
     ·exact .inr EN
    rcases hs with⟨s,hs⟩ | hs
    ·have hdd:decide ((1000000000:Int)<=(x:Int)+(cr:Int)+(y:Int))=true:=Mc EN;have hsI:(1000000000:Int)<=(x:Int)+(cr:Int)+(y:Int):=EN;have HS:=Ac hs;clear hs;go_wp2_with (at_builtin; refine dh rfl _ _ 39 Ie rfl w.heap.size (FV _) u5 l rfl _ (s) (by have:=HS.out; omega) hll rfl HO.out hbel ?_; intro g cap w' hown' aZ hlt' iM; have HO':=Ac hown'; clear hown' iM)
     go_roundw
     case rel=>exact⟨k+1,l ++ [s],1,EN,by go_num,rfl,EN,by rw[Gn,HL.out]; rfl,HM.out.concat (by have:=HS.out; show _ < 1000000000; omega),pF HL.out HI.out (by have:=HS.out; rw[HX.out,HY.out]; show _+1000000000*_=_; omega),by simpa using HO'.out,aZ⟩
     case measure=>simp[intOf]; omega
    ·have hdd:decide ((1000000000:Int)<=(x:Int)+(cr:Int)+(y:Int))=false:=L9 EN;go_wp2_with (at_builtin; refine dh rfl _ _ 39 Ie rfl w.heap.size (FV _) u5 l rfl _ (x+cr+y) EN hll rfl HO.out hbel ?_; intro g cap w' hown' aZ hlt' iM; have HO':=Ac hown'; clear hown' iM)
     go_roundw
     case rel=>exact⟨k+1,l ++ [x+cr+y],0,EN,by go_num,rfl,EN,by rw[Gn,HL.out]; rfl,HM.out.concat (by show _ < 1000000000; omega),pF HL.out HI.out (by rw[HX.out,HY.out]; show _+1000000000*_=_; omega),by simpa using HO'.out,aZ⟩
     case measure=>simp[intOf]; omega
   ·refine Yl ?_;intro hdd HY;have hs:(∃ s,x+cr=s+1000000000)\/x+cr < 1000000000:=by
     by_cases h:1000000000<=x+cr
     ·exact .inl ⟨x+cr - 1000000000,EN⟩
     ·exact .inr EN
    rcases hs with⟨s,hs⟩ | hs
    ·have hdd:decide ((1000000000:Int)<=(x:Int)+(cr:Int))=true:=Mc EN;have hsI:(1000000000:Int)<=(x:Int)+(cr:Int):=EN;have HS:=Ac hs;clear hs;go_wp2_with (at_builtin; refine dh rfl _ _ 39 Ie rfl w.heap.size (FV _) u5 l rfl _ (s) (by have:=HS.out; omega) hll rfl HO.out hbel ?_; intro g cap w' hown' aZ hlt' iM; have HO':=Ac hown'; clear hown' iM)
     go_roundw
     case rel=>exact⟨k+1,l ++ [s],1,EN,by go_num,rfl,EN,by rw[Gn,HL.out]; rfl,HM.out.concat (by have:=HS.out; show _ < 1000000000; omega),pF HL.out HI.out (by have:=HS.out; rw[HX.out,HY.out]; show _+1000000000*_=_; omega),by simpa using HO'.out,aZ⟩
     case measure=>simp[intOf]; omega
    ·have hdd:decide ((1000000000:Int)<=(x:Int)+(cr:Int))=false:=L9 EN;go_wp2_with (at_builtin; refine dh rfl _ _ 39 Ie rfl w.heap.size (FV _) u5 l rfl _ (x+cr) EN hll rfl HO.out hbel ?_; intro g cap w' hown' aZ hlt' iM; have HO':=Ac hown'; clear hown' iM)
     go_roundw
     case rel=>exact⟨k+1,l ++ [x+cr],0,EN,by go_num,rfl,EN,by rw[Gn,HL.out]; rfl,HM.out.concat (by show _ < 1000000000; omega),pF HL.out HI.out (by rw[HX.out,HY.out]; show _+1000000000*_=_; omega),by simpa using HO'.out,aZ⟩
     case measure=>simp[intOf]; omega
  ·have hke:k=(dig a).length:=EN;have hF:dig (a0+b0)=if cr=0 then l else l ++ [cr]:=by
    rw[<-HE.out];refine alp HM.out (HL.out.trans hke) hcr ?_;have:=HI.out;rw[hke,Jw,Gl hle,aX,aX] at this;exact this
   clear hke;by_cases h0:cr=0
   ·rw[L8 h0] at hF;have HF:=Ac hF;clear hF;subst h0;exact zdA
   ·rw[L6 h0] at hF;have HF:=Ac hF;clear hF;have h0':0 < cr:=EN;clear h0;obtain rfl:cr=1:=EN;go_wp2_with (at_builtin; refine dh rfl _ _ 39 Ie rfl w.heap.size (FV _) u5 l rfl _ 1 rfl hll rfl HO.out hbel ?_; intro g cap w' hown' aZ hlt' iM; have HO':=Ac hown'; clear hown' iM)
    go_ret;refine⟨_,rfl,aZ,?_⟩;unfold Ae;rw[HF.out];exact jE (by simpa using HO'.out) λb hb=>(HO'.out.lt b hb).1
theorem ajQ (w:FW) (F:FI) (va vb:F7) (a b:Nat) (ha:Ae w F va a) (hb:Ae w F vb b) (hla:(dig a).length<=100000) (hlb:(dig b).length<=100000) :
  Calls FY 54 #[va,vb] w (Ret w λv w'=>Ae w' (λb=>w.heap.size<=b) v (a+b)):=by
 obtain⟨A,c,rfl,hc,hNa⟩:=ha;obtain⟨B,d,rfl,hd,hNb⟩:=hb;have HA:=Ac hNa;have HB:=Ac hNb;clear hNa hNb;obtain⟨M,hM,hMa,hMb⟩:∃ M,(M=(dig a).length\/M=(dig b).length)/\(dig a).length<=M/\(dig b).length<=M:=by
  rcases Nat.le_total (dig a).length (dig b).length with h | h
  ·exact⟨_,.inr rfl,h,FV _⟩
  ·exact⟨_,.inl rfl,FV _,h⟩
 have hM1:M<=100000:=EN;have HMM:=Ac hM;clear hM;go_in;go_wp2
 go_loopw [5,6,7] (λv cy i wr=>∃ (k:Nat) (l:List Nat) (cr:Nat),k<=M+1/\i = F6 F5 k/\cy = .int .u32 (cr:Int)/\cr<=1/\(k=M+1->cr=0/\LB ^ M<=aH l)/\l.length=k/\Limbs l/\aH l+LB ^ k*cr=aH ((dig a).take k)+aH ((dig b).take k) /\
  wr.ownsRow w.heap.size 103 1 v l.length (aU l)/\Below w.heap.size w wr) (λ_ _ i _=>M+1 - (intOf i).toNat)
 case atStart=>exact⟨0,[],0,EN,rfl,rfl,EN,EN,rfl,(λx hx=>by cases hx),by simp[aH],Ko _ _ _ _,F9 _ _⟩
 case round =>
  obtain⟨k,l,cr,hk,rfl,rfl,hcr,hend,hlen,hlim,hinv,hown,hbel⟩:=hrel;have HL:=Ac hlen;have HI:=Ac hinv;have HO:=Ac hown;have HM:=Ac hlim;have hll:l.length<=1000000:=EN;have HEN:=Ac hend;clear hlen hinv hown hlim;have hold:=aS hbel;by_cases hgo:k < (dig a).length\/k < (dig b).length\/0 < cr
  ·have hkM:k<=M:=by
    rcases Nat.lt_or_ge M k with h | h
    ·have:=(hend EN).1;omega
    ·exact h
   clear hend;by_cases hlt:k < (dig a).length
   ·clear hgo;obtain⟨b1,o1,rfl,_,hb1',hx⟩:=HA.out EN;refine zaQ ?_;intro x hx' ex;unfold dF at ex;refine Yu ?_;clear ex;intro ex hxl HX;clear hx hx';by_cases hlt2:k < (dig b).length
    ·obtain⟨b2,o2,rfl,_,hb2',hy⟩:=HB.out EN;refine zdH ?_;intro y hy' ey;unfold dF at ey;refine Y8 ?_;clear ey;intro ey hyl HY;clear hy hy';go_wp2_with (at_builtin; refine dh rfl _ _ 40 G8 rfl w.heap.size (FV _) u5 l rfl _ ((cr+x+y) % 1000000000) EN hll rfl HO.out hbel ?_; intro g cap w' hown' aZ hlt' iM; have HO':=Ac hown'; clear hown' iM)
     go_roundw
     case rel=>exact⟨k+1,l ++ [(cr+x+y) % 1000000000],(cr+x+y) / 1000000000,EN,by go_num,by go_num,EN,(λhh=>⟨EN,by have hkk:k=M:=EN; rw[kP,HL.out]; first | omega | (rw[show cr=1 by omega,show 1 % 1000000000=1 from rfl,hkk]; omega)⟩),by rw[Gn,HL.out]; rfl,HM.out.concat (by show _ < 1000000000; omega),pF HL.out HI.out (by rw[HX.out,HY.out]; show _+1000000000*_=_; omega),by simpa using HO'.out,aZ⟩
     case measure=>simp[intOf]; omega
    ·refine Yl ?_;intro hdd HY;go_wp2_with (at_builtin; refine dh rfl _ _ 40 G8 rfl w.heap.size (FV _) u5 l rfl _ ((cr+x) % 1000000000) EN hll rfl HO.out hbel ?_; intro g cap w' hown' aZ hlt' iM; have HO':=Ac hown'; clear hown' iM)
     go_roundw
     case rel=>exact⟨k+1,l ++ [(cr+x) % 1000000000],(cr+x) / 1000000000,EN,by go_num,by go_num,EN,(λhh=>⟨EN,by have hkk:k=M:=EN; rw[kP,HL.out]; first | omega | (rw[show cr=1 by omega,show 1 % 1000000000=1 from rfl,hkk]; omega)⟩),by rw[Gn,HL.out]; rfl,HM.out.concat (by show _ < 1000000000; omega),pF HL.out HI.out (by rw[HX.out,HY.out]; show _+1000000000*_=_; omega),by simpa using HO'.out,aZ⟩
     case measure=>simp[intOf]; omega
   ·have hda:decide (k < (dig a).length)=false:=L9 hlt;have HX:=Ac (eU (l:=dig a) (k:=k) EN);by_cases hlt2:k < (dig b).length
    ·clear hgo;obtain⟨b2,o2,rfl,_,hb2',hy⟩:=HB.out EN;refine zdH ?_;intro y hy' ey;unfold dF at ey;refine Y8 ?_;clear ey;intro ey hyl HY;clear hy hy';go_wp2_with (at_builtin; refine dh rfl _ _ 40 G8 rfl w.heap.size (FV _) u5 l rfl _ ((cr+y) % 1000000000) EN hll rfl HO.out hbel ?_; intro g cap w' hown' aZ hlt' iM; have HO':=Ac hown'; clear hown' iM)
     go_roundw
     case rel=>exact⟨k+1,l ++ [(cr+y) % 1000000000],(cr+y) / 1000000000,EN,by go_num,by go_num,EN,(λhh=>⟨EN,by have hkk:k=M:=EN; rw[kP,HL.out]; first | omega | (rw[show cr=1 by omega,show 1 % 1000000000=1 from rfl,hkk]; omega)⟩),by rw[Gn,HL.out]; rfl,HM.out.concat (by show _ < 1000000000; omega),pF HL.out HI.out (by rw[HX.out,HY.out]; show _+1000000000*_=_; omega),by simpa using HO'.out,aZ⟩
     case measure=>simp[intOf]; omega
    ·refine Yl ?_;intro hdd HY;have hc0:0 < cr:=EN;clear hgo;go_wp2_with (at_builtin; refine dh rfl _ _ 40 G8 rfl w.heap.size (FV _) u5 l rfl _ ((cr) % 1000000000) EN hll rfl HO.out hbel ?_; intro g cap w' hown' aZ hlt' iM; have HO':=Ac hown'; clear hown' iM)
     go_roundw
     case rel=>exact⟨k+1,l ++ [(cr) % 1000000000],(cr) / 1000000000,EN,by go_num,by go_num,EN,(λhh=>⟨EN,by have hkk:k=M:=EN; rw[kP,HL.out]; first | omega | (rw[show cr=1 by omega,show 1 % 1000000000=1 from rfl,hkk]; omega)⟩),by rw[Gn,HL.out]; rfl,HM.out.concat (by show _ < 1000000000; omega),pF HL.out HI.out (by rw[HX.out,HY.out]; show _+1000000000*_=_; omega),by simpa using HO'.out,aZ⟩
     case measure=>simp[intOf]; omega
  ·have hda:decide (k < (dig a).length)=false:=L9 EN;have hdb:decide (k < (dig b).length)=false:=L9 EN;obtain rfl:cr=0:=EN;have hF:dig (a+b)=l:=by
    have h1:=HI.out;rw[JV,J7,Gl EN,Gl EN,aX,aX] at h1;rw[<-h1];refine adK HM.out λhne=>?_
    have hkl:=HL.out;rw[hkl];by_cases hk1:k=M+1
    ·rw[hk1];exact(hend hk1).2
    ·have hkM:k=M:=by have:=HMM.out;omega
     have hk0:0 < k:=by rw[<-hkl];exact List.length_pos_iff.2 hne
     rw[hkM];rcases HMM.out with h | h
     ·rw[h];have:=aau (n:=a) (bg.1 EN);omega
     ·rw[h];have:=aau (n:=b) (bg.1 EN);omega
   have HF:=Ac hF;clear hF hend hgo;exact zdA
theorem gJ {w:FW} (h:Row w b t (aU l)) (hl:Limbs l) {F:FI} (hF:F b) (hn:l.length=n) (hc:n<=c):Ae w F (FQ (some ⟨b,0,none⟩) (fF l n) c) (aH l):=by
 subst hn;have:=h.limbs hF (FV _) hc;rw[Jw] at this;exact Ag.trim rfl this hl
theorem acn (w:FW) (F:FI) (va vb:F7) (a b:Nat) (ha:Ae w F va a) (hb:Ae w F vb b) (hle:b<=a) (hla:(dig a).length<=100000) :
  Calls FY 169 #[va,vb] w (Ret w λv w'=>Ae w' (λb=>w.heap.size<=b) v (a - b)):=by
 obtain⟨A,c,rfl,hc,hNa⟩:=ha;obtain⟨B,d,rfl,hd,hNb⟩:=hb;have HA:=Ac hNa;have HB:=Ac hNb;clear hNa hNb;have hlb:(dig b).length<=(dig a).length:=aT hle;have HLE:=Ac hle;clear hle;go_in;go_wp2_with (at_make; refine gX _ rfl _ _ 39 rfl 103 (.int .u32 0) 4 Ie IU rfl (dig a).length rfl rfl EN EN ?_; intro w1 hb1 hz1 hrow1)
 have HR1:=Ac hrow1; clear hrow1;go_loopw [6,7,8,9,15] (λbr _ _ _ i wr=>∃ (k:Nat) (l:List Nat) (cr:Nat),k<=(dig a).length/\i = F6 F5 k/\br = .int .u32 (cr:Int)/\cr<=1/\l.length=(dig a).length/\Limbs l/\aH (l.take k)+aH ((dig b).take k)=aH ((dig a).take k)+LB ^ k*cr /\
  Row wr w.heap.size 103 (aU l)/\Below w.heap.size w wr) (λ_ _ _ _ i _=>(dig a).length - (intOf i).toNat)
 case atStart=>exact⟨0,F8 (dig a).length 0,0,EN,rfl,rfl,EN,aF,Limbs.zeros _,by simp[aH],by rw[gQ]; exact HR1.out,hb1⟩
 case round =>
  obtain⟨k,l,cr,hk,rfl,rfl,hcr,hlen,hlim,hinv,hrow,hbel⟩:=hrel;refine zaJ ?_;intro HL HI HO HM hold;by_cases hlt:k < (dig a).length
  ·obtain⟨b1,o1,rfl,_,hb1',hx⟩:=HA.out EN;refine zaQ ?_;intro x hx' ex;unfold dF at ex;refine Yu ?_;clear ex;intro ex hxl HX;refine zaU ?_;intro z hz rc fc;clear hx hx' hz hlen hinv hrow hlim;by_cases hlt2:k < (dig b).length
   ·obtain⟨b2,o2,rfl,_,hb2',hy⟩:=HB.out EN;refine zdH ?_;intro y hy' ey;unfold dF at ey;refine Y8 ?_;clear ey;intro ey hyl HY;clear hy hy';by_cases hs:x < cr+y
    ·skip
     obtain⟨s,hs'⟩:∃ s,s+(cr+y)=x+1000000000:=⟨_,show x+1000000000 - (cr+y)+(cr+y)=x+1000000000 by omega⟩;have HS:=Ac hs';clear hs';go_wp2
     go_roundw
     case rel =>
      refine Y9 ?_;intro hr;have hss:=HS.out;rw[show(s:Int)=(x:Int)+1000000000 - ((cr:Int)+(y:Int)) by omega] at hr;exact hr
     case measure=>simp[intOf]; omega
    ·have hdd:decide (x < cr+y)=false:=L9 hs;have hdd2:decide ((x:Int) < (cr:Int)+(y:Int))=false:=L9 EN;obtain⟨s,hs'⟩:∃ s,s+(cr+y)=x:=⟨_,show x - (cr+y)+(cr+y)=x by omega⟩;have HS:=Ac hs';clear hs';go_wp2
     go_roundw
     case rel =>
      refine zaa ?_;intro hr;have hss:=HS.out;rw[show(s:Int)=(x:Int) - ((cr:Int)+(y:Int)) by omega] at hr;exact hr
     case measure=>simp[intOf]; omega
   ·refine Yl ?_;intro hdd HY;by_cases hs:x < cr
    ·skip
     obtain⟨s,hs'⟩:∃ s,s+cr=x+1000000000:=⟨_,show x+1000000000 - cr+cr=x+1000000000 by omega⟩;have HS:=Ac hs';clear hs';go_wp2
     go_roundw
     case rel =>
      refine Y9 ?_;intro hr;have hss:=HS.out;rw[show(s:Int)=(x:Int)+1000000000 - (cr:Int) by omega] at hr;exact hr
     case measure=>simp[intOf]; omega
    ·have hdd:decide (x < cr)=false:=L9 hs;have hdd2:decide ((x:Int) < (cr:Int))=false:=L9 EN;obtain⟨s,hs'⟩:∃ s,s+cr=x:=⟨_,show x - cr+cr=x by omega⟩;have HS:=Ac hs';clear hs';go_wp2
     go_roundw
     case rel =>
      refine zaa ?_;intro hr;have hss:=HS.out;rw[show(s:Int)=(x:Int) - (cr:Int) by omega] at hr;exact hr
     case measure=>simp[intOf]; omega
  ·have hke:k=(dig a).length:=EN;have hF:aH l=a - b:=by
    have h1:=hinv;rw[hke,Jw,Gl EN,Gl hlb,aX,aX] at h1;have h2:=gV hlim;rw[hlen] at h2;exact ai4 HLE.out h2 h1
   have HF:=Ac hF;clear hF hke hinv hlim hlen;go_wp2_with fail
   refine(qO wr (λb=>w.heap.size<=b) (some ⟨w.heap.size,0,none⟩) (dig a).length (dig a).length l HL.out ?_ EN).mono ?_
   ·exact YK
   rintro e w' ⟨rfl,rfl⟩;go_wp2
   go_ret;refine zc2 ?_;have:=gJ HO.out HM.out (F:=λb=>w.heap.size<=b) (FV _) (c:=(dig a).length) HL.out (FV _);rw[HF.out] at this;exact this
theorem yN (w:FW) (F:FI) (va vb:F7) (a b:Nat) (ha:Ae w F va a) (hb:Ae w F vb b) (hle:b<=a) (hla:(dig a).length<=100000) :
  Calls FY 56 #[va,vb] w (Ret w λv w'=>∃ (l:List Nat) (A:Option Addr) (c:Nat),v = FQ A (fF l l.length) c/\aH l=a - b/\Limbs l/\w'.ownsRow w.heap.size 103 1 (FQ A l.length c) l.length (aU l)):=by
 obtain⟨A,c,rfl,hc,hNa⟩:=ha;obtain⟨B,d,rfl,hd,hNb⟩:=hb;have HA:=Ac hNa;have HB:=Ac hNb;clear hNa hNb;have hlb:(dig b).length<=(dig a).length:=aT hle;have HLE:=Ac hle;clear hle;go_in;go_wp2
 go_loopw [5,6,7,8] (λv br i _ wr=>∃ (k:Nat) (l:List Nat) (cr:Nat),k<=(dig a).length/\i = F6 F5 k/\br = F6 F5 (cr:Int)/\cr<=1/\l.length=k/\Limbs l/\aH l+aH ((dig b).take k)=aH ((dig a).take k)+LB ^ k*cr /\
  wr.ownsRow w.heap.size 103 1 v l.length (aU l)/\Below w.heap.size w wr) (λ_ _ i _ _=>(dig a).length - (intOf i).toNat)
 case atStart=>exact⟨0,[],0,EN,rfl,rfl,EN,rfl,(λx hx=>by cases hx),by simp[aH],Ko _ _ _ _,F9 _ _⟩
 case round =>
  obtain⟨k,l,cr,hk,rfl,rfl,hcr,hlen,hlim,hinv,hown,hbel⟩:=hrel;have HL:=Ac hlen;have HI:=Ac hinv;have HO:=Ac hown;have HM:=Ac hlim;have hll:l.length<=1000000:=EN;have hold:=aS hbel;by_cases hlt:k < (dig a).length
  ·clear hlen hinv hown hlim;obtain⟨b1,o1,rfl,_,hb1',hx⟩:=HA.out EN;refine zaQ ?_;intro x hx' ex;unfold dF at ex;refine Yu ?_;clear ex;intro ex hxl HX;clear hx hx';by_cases hlt2:k < (dig b).length
   ·obtain⟨b2,o2,rfl,_,hb2',hy⟩:=HB.out EN;refine zdH ?_;intro y hy' ey;unfold dF at ey;refine Y8 ?_;clear ey;intro ey hyl HY;clear hy hy';by_cases hs:(x:Int) - (cr:Int) - (y:Int) < 0
    ·skip
     obtain⟨s,hs'⟩:∃ s,s+(cr+y)=x+1000000000:=⟨_,show x+1000000000 - (cr+y)+(cr+y)=x+1000000000 by omega⟩;have HS:=Ac hs';clear hs';go_wp2_with (at_builtin; refine dh rfl _ _ 40 G8 rfl w.heap.size (FV _) u5 l rfl _ s (by have:=HS.out; omega) hll rfl HO.out hbel ?_; intro g cap w' hown' aZ hlt' iM; have HO':=Ac hown'; clear hown' iM)
     go_roundw
     case rel=>exact⟨k+1,l ++ [s],1,EN,by go_num,rfl,EN,by rw[Gn,HL.out]; rfl,HM.out.concat (by have:=HS.out; show _ < 1000000000; omega),qF HL.out HI.out (by have:=HS.out; rw[HX.out,HY.out]; show _=_+1000000000*_; omega),by simpa using HO'.out,aZ⟩
     case measure=>simp[intOf]; omega
    ·have hdd:decide ((x:Int) - (cr:Int) - (y:Int) < 0)=false:=L9 hs;obtain⟨s,hs'⟩:∃ s,s+(cr+y)=x:=⟨_,show x - (cr+y)+(cr+y)=x by omega⟩;have HS:=Ac hs';clear hs';go_wp2_with (at_builtin; refine dh rfl _ _ 40 G8 rfl w.heap.size (FV _) u5 l rfl _ s (by have:=HS.out; omega) hll rfl HO.out hbel ?_; intro g cap w' hown' aZ hlt' iM; have HO':=Ac hown'; clear hown' iM)
     go_roundw
     case rel=>exact⟨k+1,l ++ [s],0,EN,by go_num,rfl,EN,by rw[Gn,HL.out]; rfl,HM.out.concat (by have:=HS.out; show _ < 1000000000; omega),qF HL.out HI.out (by have:=HS.out; rw[HX.out,HY.out]; show _=_+1000000000*_; omega),by simpa using HO'.out,aZ⟩
     case measure=>simp[intOf]; omega
   ·refine Yl ?_;intro hdd HY;by_cases hs:(x:Int) - (cr:Int) < 0
    ·skip
     obtain⟨s,hs'⟩:∃ s,s+cr=x+1000000000:=⟨_,show x+1000000000 - cr+cr=x+1000000000 by omega⟩;have HS:=Ac hs';clear hs';go_wp2_with (at_builtin; refine dh rfl _ _ 40 G8 rfl w.heap.size (FV _) u5 l rfl _ s (by have:=HS.out; omega) hll rfl HO.out hbel ?_; intro g cap w' hown' aZ hlt' iM; have HO':=Ac hown'; clear hown' iM)
     go_roundw
     case rel=>exact⟨k+1,l ++ [s],1,EN,by go_num,rfl,EN,by rw[Gn,HL.out]; rfl,HM.out.concat (by have:=HS.out; show _ < 1000000000; omega),qF HL.out HI.out (by have:=HS.out; rw[HX.out,HY.out]; show _=_+1000000000*_; omega),by simpa using HO'.out,aZ⟩
     case measure=>simp[intOf]; omega
    ·have hdd:decide ((x:Int) - (cr:Int) < 0)=false:=L9 hs;obtain⟨s,hs'⟩:∃ s,s+cr=x:=⟨_,show x - cr+cr=x by omega⟩;have HS:=Ac hs';clear hs';go_wp2_with (at_builtin; refine dh rfl _ _ 40 G8 rfl w.heap.size (FV _) u5 l rfl _ s (by have:=HS.out; omega) hll rfl HO.out hbel ?_; intro g cap w' hown' aZ hlt' iM; have HO':=Ac hown'; clear hown' iM)
     go_roundw
     case rel=>exact⟨k+1,l ++ [s],0,EN,by go_num,rfl,EN,by rw[Gn,HL.out]; rfl,HM.out.concat (by have:=HS.out; show _ < 1000000000; omega),qF HL.out HI.out (by have:=HS.out; rw[HX.out,HY.out]; show _=_+1000000000*_; omega),by simpa using HO'.out,aZ⟩
     case measure=>simp[intOf]; omega
  ·have hke:k=(dig a).length:=EN;have hF:aH l=a - b:=by
    have h1:=hinv;rw[hke,Jw,Gl hlb,aX,aX] at h1;have h2:=gV hlim;rw[hlen,hke] at h2;exact ai4 HLE.out h2 h1
   have HF:=Ac hF;have hsl:=jE hown (F:=λb=>w.heap.size<=b) λb hb=>(hown.lt b hb).1
   obtain⟨A',c',rfl,hc',_⟩:=hsl;have hown2:=hown;clear hF hke hinv hlim hlen hown;go_wp2_with fail
   refine(nC wr (λb=>w.heap.size<=b) A' l.length c' l rfl (jE hown2 λb hb=>(hown2.lt b hb).1) hll).mono ?_;rintro e w' ⟨rfl,rfl⟩;go_wp2
   go_ret;exact⟨_,rfl,hbel,l,A',c',rfl,HF.out,HM.out,HO.out⟩
theorem getD_set_ne {j v:Nat} (h:k≠j):(l.set k v).getD j 0=l.getD j 0:=by
 simp only[FU,List.getElem?_set_ne h]
structure Ci (la lb A B k x m:Nat) (bl l:List Nat) (c:Nat):Prop where
 len:l.length=la+lb
 limbs:Limbs l
 eq:aH l+LB ^ (k+m)*c=A*B+LB ^ k*(x*aH (bl.take m))
 zero:∀ j,k+lb<=j->l.getD j 0=0
theorem Ci.step {m y:Nat} (h:Ci la lb A B k x m bl l c) (hk:k < la) (hm:m < lb) (hy:bl.getD m 0=y) (hs:s+LB*c'=l.getD (k+m) 0+x*y+c) (hsl:s < LB):Ci la lb A B k x (m+1) bl (l.set (k+m) s) c':=by
 refine⟨by rw[He]; exact h.len,h.limbs.set hsl,?_,λj hj=>by rw[getD_set_ne EN]; exact h.zero j hj⟩;have:=ak7 (o:=l) (k:=k+m) (by rw[h.len]; omega) h.eq hs;rw[<-Nat.add_assoc,this,bQ,hy,Nat.pow_add];grind
theorem Ci.next (h:Ci la lb A B k x lb bl l c) (hk:k < la) (hbl:bl.length=lb) (hB:aH bl=B) (hc:c < LB):Ci la lb (A+LB ^ k*x) B (k+1) 0 0 bl (l.set (k+lb) c) 0:=by
 have hz:=h.zero (k+lb) (FV _);have hset:=afK (l:=l) (k:=k+lb) (by rw[h.len]; omega) c;rw[hz,JV,J7,h.eq,Gl EN,hB] at hset;refine⟨by rw[He]; exact h.len,h.limbs.set hc,?_,λj hj=>by rw[getD_set_ne EN]; exact h.zero j EN⟩;rw[hset];grind
theorem afY (w:FW) (F:FI) (va vb:F7) (a b:Nat) (ha:Ae w F va a) (hb:Ae w F vb b) (hla:(dig a).length<=100000) (hlb:(dig b).length<=100000) (ha0:a≠0) (hb0:b≠0) (ha1:a≠1) (hb1:b≠1) :
  Calls FY 121 #[va,vb] w (Ret w λv w'=>Ae w' (λb=>w.heap.size<=b) v (a*b)):=by
 have HVA:=Ac ha;have HVB:=Ac hb;obtain⟨A,c,rfl,hc,hNa⟩:=ha;obtain⟨B,d,rfl,hd,hNb⟩:=hb;have HA:=Ac hNa;have HB:=Ac hNb;clear hNa hNb;have hda:(((dig a).length:Int)==0)=false:=by have:=bg.2 ha0;exact beq_false_of_ne EN
 have hdb:(((dig b).length:Int)==0)=false:=by have:=bg.2 hb0;exact beq_false_of_ne EN
 have e1:decide (a=1)=false:=L9 ha1;have e2:decide (b=1)=false:=L9 hb1;clear ha0 hb0 ha1 hb1;go_in;go_wp2_with fail
 refine(mF w F _ a HVA.out EN).mono ?_;rintro e w' ⟨rfl,rfl⟩;go_wp2_with fail
 refine(mF _ F _ b HVB.out EN).mono ?_;rintro e w' ⟨rfl,rfl⟩;clear HVA HVB;go_wp2_with (at_make; refine gX _ rfl _ _ 39 rfl 103 (.int .u32 0) 4 Ie IU rfl ((dig a).length+(dig b).length) (by simp[go_sem]) (by simp[go_sem]) EN EN ?_; intro w1 hb1 hz1 hrow1)
 have HR1:=Ac hrow1; clear hrow1;go_loopw [37] (λi wr=>∃ (k:Nat) (l:List Nat),k<=(dig a).length/\i = F6 F5 k/\Ci (dig a).length (dig b).length (aH ((dig a).take k)) b k 0 0 (dig b) l 0 /\
  Row wr w.heap.size 103 (aU l)/\Below w.heap.size w wr) (λi _=>(dig a).length - (intOf i).toNat)
 case atStart=>exact⟨0,F8 ((dig a).length+(dig b).length) 0,EN,rfl,⟨aF,Limbs.zeros _,by rw[abY]; simp[aH],λj _=>by simp[FU,JI]; split <;> rfl⟩,by rw[gQ]; exact HR1.out,hb1⟩
 case round =>
  obtain⟨k,l,hk,rfl,hmul,hrow,hbel⟩:=hrel;have HI:=Ac hmul;have HO:=Ac hrow;have hold:=aS hbel;by_cases hlt:k < (dig a).length
  ·clear hmul hrow;obtain⟨b1,o1,rfl,_,hb1',hx⟩:=HA.out EN;refine zaQ ?_;intro x hx' ex;unfold dF at ex;refine Yu ?_;clear ex;intro ex hxl HX;clear hx hx';obtain⟨wp,rfl⟩:∃ wp:FW,wp=wr:=⟨_,rfl⟩;go_wp2
   go_loopw [8,44] (λcy j wi=>∃ (m:Nat) (l':List Nat) (cr:Nat),m<=(dig b).length/\j = F6 F5 m/\cy = .int .u64 (cr:Int)/\cr < 1000000000/\Ci (dig a).length (dig b).length (aH ((dig a).take k)) b k x m (dig b) l' cr /\
    Row wi w.heap.size 103 (aU l')/\Below w.heap.size w wi) (λ_ j _=>(dig b).length - (intOf j).toNat)
   case atStart =>
    exact zb2
   case round =>
    clear hold HO HI hbel;obtain⟨m,l',cr,hm,rfl,rfl,hcr,hmul,hrow,hbel⟩:=hrel;have HI:=Ac hmul;have HO:=Ac hrow;have hold:=aS hbel;by_cases hmt:m < (dig b).length
    ·obtain⟨b2,o2,rfl,_,hb2',hy⟩:=HB.out EN;obtain⟨y,hy'⟩:=FC hmt;have ey:=hy m y hy';unfold dF at ey;refine Y8 ?_;clear ey;intro ey hyl HY;obtain⟨z,hz⟩:=FC (l:=l') (k:=k+m) (by rw[hmul.len]; omega);have rc:=hrow.cell (bn hz);have fc:=hrow.frozen (k+m);have hzl:z < 1000000000:=hmul.limbs.get hz;have HZ:=Ac (aN hz);have hpb:=wY hxl hyl;obtain⟨p,hp⟩:=FH (x*y);have hpI:(x:Int)*(y:Int)=(p:Int):=by rw[hp];simp
     rw[<-hp] at hpb;have HP:=Ac hp;have hLl:k+m < (dig a).length+(dig b).length:=EN;clear hy hy' hz hmul hrow hp;go_wp2
     go_roundw
     case rel =>
      refine⟨m+1,l'.set (k+m) ((z+p+cr) % 1000000000),(z+p+cr) / 1000000000,EN,by go_num,by go_num,EN,HI.out.step hlt hmt HY.out (by rw[HZ.out,<-HP.out]; show _+1000000000*_=_; omega) (by show _ < 1000000000; omega),?_,hbel.setCell (FV _) _⟩;have hr:=HO.out.set (k+m) (.int .u32 (((z+p+cr) % 1000000000:Nat):Int));rw[bC] at hr;exact hr
     case measure=>simp[intOf]; omega
    ·obtain rfl:m=(dig b).length:=EN;obtain⟨z,hz⟩:=FC (l:=l') (k:=k+(dig b).length) (by rw[hmul.len]; omega);have rc:=hrow.cell (bn hz);have fc:=hrow.frozen (k+(dig b).length);clear hz hmul hrow;go_wp2
     go_roundw
     case rel =>
      refine⟨k+1,l'.set (k+(dig b).length) cr,EN,by go_num,?_,?_,hbel.setCell (FV _) _⟩
      ·rw[bQ,HX.out];exact HI.out.next hlt rfl (aX b) hcr
      ·have hr:=HO.out.set (k+(dig b).length) (.int .u32 (cr:Int));rw[bC] at hr;exact hr
     case measure=>simp[intOf]; omega
  ·have hke:k=(dig a).length:=EN;have hF:aH l=a*b:=by
    have h1:=hmul.eq;rw[hke,Jw,aX] at h1;simpa using h1
   have HF:=Ac hF;have HL:=Ac hmul.len;have HM:=Ac hmul.limbs;clear hF hke hmul;go_wp2_with fail
   refine(qO wr (λb=>w.heap.size<=b) (some ⟨w.heap.size,0,none⟩) ((dig a).length+(dig b).length) ((dig a).length+(dig b).length) l HL.out ?_ EN).mono ?_
   ·exact zaV
   exact zaO
theorem iY (w:FW) (F:FI) (va vb:F7) (a b:Nat) (ha:Ae w F va a) (hb:Ae w F vb b) (hla:(dig a).length<=100000) (hlb:(dig b).length<=100000) :
  Calls FY 52 #[va,vb] w (Ret w λv w'=>Ae w' (λb=>w.heap.size<=b) v (a*b)):=by
 obtain⟨A,c,rfl,hc,hNa⟩:=ha;obtain⟨B,d,rfl,hd,hNb⟩:=hb;have HA:=Ac hNa;have HB:=Ac hNb;clear hNa hNb;go_in;go_wp2_with (at_make; refine gX _ rfl _ _ 40 rfl 103 (.int .u32 0) 4 G8 IU rfl ((dig a).length+(dig b).length) (by simp[go_sem]) (by simp[go_sem]) EN EN ?_; intro w1 hb1 hz1 hrow1)
 have HR1:=Ac hrow1; clear hrow1;go_loopw [6] (λi wr=>∃ (k:Nat) (l:List Nat),k<=(dig a).length/\i = F6 F5 k/\Ci (dig a).length (dig b).length (aH ((dig a).take k)) b k 0 0 (dig b) l 0 /\
  Row wr w.heap.size 103 (aU l)/\Below w.heap.size w wr) (λi _=>(dig a).length - (intOf i).toNat)
 case atStart=>exact⟨0,F8 ((dig a).length+(dig b).length) 0,EN,rfl,⟨aF,Limbs.zeros _,by rw[abY]; simp[aH],λj _=>by simp[FU,JI]; split <;> rfl⟩,by rw[gQ]; exact HR1.out,hb1⟩
 case round =>
  obtain⟨k,l,hk,rfl,hmul,hrow,hbel⟩:=hrel;have HI:=Ac hmul;have HO:=Ac hrow;have hold:=aS hbel;by_cases hlt:k < (dig a).length
  ·clear hmul hrow;obtain⟨b1,o1,rfl,_,hb1',hx⟩:=HA.out EN;refine zaQ ?_;intro x hx' ex;unfold dF at ex;refine Yu ?_;clear ex;intro ex hxl HX;clear hx hx';obtain⟨wp,rfl⟩:∃ wp:FW,wp=wr:=⟨_,rfl⟩;go_wp2
   go_loopw [7,8] (λcy j wi=>∃ (m:Nat) (l':List Nat) (cr:Nat),m<=(dig b).length/\j = F6 F5 m/\cy = .int .u64 (cr:Int)/\cr < 1000000000/\Ci (dig a).length (dig b).length (aH ((dig a).take k)) b k x m (dig b) l' cr /\
    Row wi w.heap.size 103 (aU l')/\Below w.heap.size w wi) (λ_ j _=>(dig b).length - (intOf j).toNat)
   case atStart =>
    exact zb2
   case round =>
    clear hold HO HI hbel;obtain⟨m,l',cr,hm,rfl,rfl,hcr,hmul,hrow,hbel⟩:=hrel;have HI:=Ac hmul;have HO:=Ac hrow;have hold:=aS hbel;by_cases hmt:m < (dig b).length
    ·obtain⟨b2,o2,rfl,_,hb2',hy⟩:=HB.out EN;obtain⟨y,hy'⟩:=FC hmt;have ey:=hy m y hy';unfold dF at ey;refine Y8 ?_;clear ey;intro ey hyl HY;obtain⟨z,hz⟩:=FC (l:=l') (k:=k+m) (by rw[hmul.len]; omega);have rc:=hrow.cell (bn hz);have fc:=hrow.frozen (k+m);have hzl:z < 1000000000:=hmul.limbs.get hz;have HZ:=Ac (aN hz);have hpb:=wY hxl hyl;obtain⟨p,hp⟩:=FH (x*y);have hpI:(x:Int)*(y:Int)=(p:Int):=by rw[hp];simp
     rw[<-hp] at hpb;have HP:=Ac hp;have hLl:k+m < (dig a).length+(dig b).length:=EN;clear hy hy' hz hmul hrow hp;go_wp2
     go_quiet (fail)
     go_wp2
     go_roundw
     case rel =>
      refine⟨m+1,l'.set (k+m) ((cr+z+p) % 1000000000),(cr+z+p) / 1000000000,EN,by go_num,by go_num,EN,HI.out.step hlt hmt HY.out (by rw[HZ.out,<-HP.out]; show _+1000000000*_=_; omega) (by show _ < 1000000000; omega),?_,(aI hbel nq).setCell (FV _) _⟩;have hr:=(HO.out.dN nq).set (k+m) (.int .u32 (((cr+z+p) % 1000000000:Nat):Int));rw[bC] at hr;exact hr
     case measure=>simp[intOf]; omega
    ·obtain rfl:m=(dig b).length:=EN;obtain⟨z,hz⟩:=FC (l:=l') (k:=k+(dig b).length) (by rw[hmul.len]; omega);have rc:=hrow.cell (bn hz);have fc:=hrow.frozen (k+(dig b).length);clear hz hmul hrow;go_wp2
     go_roundw
     case rel =>
      refine⟨k+1,l'.set (k+(dig b).length) cr,EN,by go_num,?_,?_,hbel.setCell (FV _) _⟩
      ·rw[bQ,HX.out];exact HI.out.next hlt rfl (aX b) hcr
      ·have hr:=HO.out.set (k+(dig b).length) (.int .u32 (cr:Int));rw[bC] at hr;exact hr
     case measure=>simp[intOf]; omega
  ·have hke:k=(dig a).length:=EN;have hF:aH l=a*b:=by
    have h1:=hmul.eq;rw[hke,Jw,aX] at h1;simpa using h1
   have HF:=Ac hF;have HL:=Ac hmul.len;have HM:=Ac hmul.limbs;clear hF hke hmul;go_wp2_with fail
   refine(nC wr (λb=>w.heap.size<=b) (some ⟨w.heap.size,0,none⟩) ((dig a).length+(dig b).length) ((dig a).length+(dig b).length) l HL.out ?_ EN).mono ?_
   ·exact zaV
   exact zaO
theorem mG (w:FW) (F:FI) (va vb:F7) (a b:Nat) (ha:Ae w F va a) (hb:Ae w F vb b) (hla:(dig a).length<=100000) (hlb:(dig b).length<=100000) :
  Calls FY 121 #[va,vb] w (Ret w λv w'=>Ae w' (Ext F w.heap.size) v (a*b)):=by
 by_cases ha0:a=0
 ·subst ha0;obtain⟨A,c,rfl,hc,_⟩:=ha;have e:(dig 0).length=0:=by rw[bD];rfl
  rw[e] at *;clear e;obtain⟨B,d,rfl,hd,_⟩:=hb;go_in;go_wp2
  go_ret;exact⟨_,rfl,F9 _ _,by rw[KF]; exact Ae.zero _ _ _ _⟩
 by_cases hb0:b=0
 ·subst hb0;obtain⟨A,c,rfl,hc,_⟩:=ha;have hda:(((dig a).length:Int)==0)=false:=by have:=bg.2 ha0;exact beq_false_of_ne EN
  obtain⟨B,d,rfl,hd,_⟩:=hb;have e:(dig 0).length=0:=by rw[bD];rfl
  rw[e] at *;clear e ha0;go_in;go_wp2
  go_ret;exact⟨_,rfl,F9 _ _,by rw[JV]; exact Ae.zero _ _ _ _⟩
 have hda:(((dig a).length:Int)==0)=false:=by have:=bg.2 ha0;exact beq_false_of_ne EN
 have hdb:(((dig b).length:Int)==0)=false:=by have:=bg.2 hb0;exact beq_false_of_ne EN
 by_cases ha1:a=1
 ·have e1:decide (a=1)=true:=Mc ha1;have HVA:=Ac ha;have HVB:=Ac hb;obtain⟨A,c,rfl,hc,_⟩:=ha;obtain⟨B,d,rfl,hd,_⟩:=hb;have H1:=Ac ha1;clear hb0 ha0 ha1;go_in;go_wp2_with fail
  refine(mF w F _ a HVA.out EN).mono ?_;rintro e w' ⟨rfl,rfl⟩;go_wp2
  go_ret;refine⟨_,rfl,F9 _ _,?_⟩;rw[H1.out,Nat.one_mul];exact HVB.out.ext (F9 _ _)
 by_cases hb1:b=1
 ·have e1:decide (a=1)=false:=L9 ha1;have e2:decide (b=1)=true:=Mc hb1;have HVA:=Ac ha;have HVB:=Ac hb;obtain⟨A,c,rfl,hc,_⟩:=ha;obtain⟨B,d,rfl,hd,_⟩:=hb;have H1:=Ac hb1;clear hb0 ha0 ha1 hb1;go_in;go_wp2_with fail
  refine(mF w F _ a HVA.out EN).mono ?_;rintro e w' ⟨rfl,rfl⟩;go_wp2_with fail
  refine(mF _ F _ b HVB.out EN).mono ?_;rintro e w' ⟨rfl,rfl⟩;go_wp2
  go_ret;refine⟨_,rfl,F9 _ _,?_⟩;rw[H1.out,Gp];exact HVA.out.ext (F9 _ _)
 clear hda hdb;refine(afY w F va vb a b ha hb hla hlb ha0 hb0 ha1 hb1).mono λe w' ⟨v,he,hbel,hn⟩=>⟨v,he,hbel,hn.mono λ_ h _=>.inr h⟩
theorem nZ (a b:Nat):(a:Int) / (b:Int)=((a / b:Nat):Int):=(Int.natCast_ediv a b).symm
theorem tV (a b:Nat):(a:Int) % (b:Int)=((a % b:Nat):Int):=(Int.natCast_emod a b).symm
theorem wB {r:Nat} (hr:r < d) (hx:x < LB):(r*LB+x) / d < LB:=by
 rw[Nat.div_lt_iff_lt_mul EN];have:=Nat.mul_le_mul_right LB (show r+1<=d by omega);rw[Nat.add_mul,Nat.one_mul] at this;rw[Gy LB d];omega
theorem aco (w:FW) (F:FI) (va:F7) (a d:Nat) (ha:Ae w F va a) (hla:(dig a).length<=200000) (hd0:1<=d) (hd1:d<=1000000000) :
  Calls FY 197 #[va,.int .u64 (d:Int)] w (Ret w λv w'=>∃ vq,v = .tuple #[vq,.int .u64 ((a % d:Nat):Int)]/\Ae w' (λb=>w.heap.size<=b) vq (a / d)):=by
 obtain⟨A,c,rfl,hc,hNa⟩:=ha;have HA:=Ac hNa;clear hNa;go_in;go_wp2_with (at_make; refine gX _ rfl _ _ 39 rfl 103 (.int .u32 0) 4 Ie IU rfl (dig a).length rfl rfl EN EN ?_; intro w1 hb1 hz1 hrow1)
 have HR1:=Ac hrow1; clear hrow1;go_loopw [5,6] (λrv i wr=>∃ (k:Nat) (l:List Nat) (r:Nat),k<=(dig a).length/\i = F6 F5 ((k:Int) - 1)/\rv = .int .u64 (r:Int)/\r < d/\l.length=(dig a).length/\Limbs l/\aH ((dig a).drop k)=d*aH (l.drop k)+r /\
  Row wr w.heap.size 103 (aU l)/\Below w.heap.size w wr) (λ_ i _=>(intOf i+1).toNat)
 case atStart=>exact⟨(dig a).length,F8 (dig a).length 0,0,FV _,rfl,rfl,EN,aF,Limbs.zeros _,by rw[IL,GU aF]; simp[aH],by rw[gQ]; exact HR1.out,hb1⟩
 case round =>
  obtain⟨k,l,r,hk,rfl,rfl,hr,hlen,hlim,hinv,hrow,hbel⟩:=hrel;refine zaJ ?_;intro HL HI HO HM hold;rcases Gt k with h0 | h0
  ·subst h0;have hF:aH l=a / d/\r=a % d:=by
    exact zaz
   have HF:=Ac hF;clear hF hinv hlim hlen;go_wp2_with fail
   refine(qO wr (λb=>w.heap.size<=b) (some ⟨w.heap.size,0,none⟩) (dig a).length (dig a).length l HL.out ?_ EN).mono ?_
   ·exact YK
   rintro e w' ⟨rfl,rfl⟩;go_wp2
   go_ret2;exact za4
  ·obtain⟨j,rfl⟩:∃ j,k=j+1:=⟨k - 1,EN⟩;obtain⟨b1,o1,rfl,_,hb1',hx⟩:=HA.out EN;obtain⟨x,hx'⟩:=FC (l:=dig a) (k:=j) EN;have ex:=hx j x hx';unfold dF at ex;refine Yu ?_;clear ex;intro ex hxl HX;obtain⟨z,hz⟩:=FC (l:=l) (k:=j) EN;have rc:=hrow.cell (bn hz);have fc:=hrow.frozen j;clear hx hx' hz hlen hinv hrow hlim;have hql:(r*1000000000+x) / d < 1000000000:=wB hr hxl;have hrl:(r*1000000000+x) % d < d:=IK _ EN;have HQ:=Ac (I5 (r*1000000000+x) d).symm;have hqI:((r:Int)*1000000000+(x:Int)) / (d:Int)=(((r*1000000000+x) / d:Nat):Int):=by rw[<-nZ];rfl
   have hrI:((r:Int)*1000000000+(x:Int)) % (d:Int)=(((r*1000000000+x) % d:Nat):Int):=by rw[<-tV];rfl
   generalize (r*1000000000+x) / d=q at *;generalize (r*1000000000+x) % d=r' at *;refine Yx ?_;go_wp2
   go_roundw
   case rel =>
    refine⟨j,l.set j q,r',EN,by go_num,by rw[hrI],hrl,by rw[He,HL.out],HM.out.set hql,yE (A:=0) (by rw[HL.out]; omega) HI.out (by rw[HX.out]; exact HQ.out),?_,hbel.setCell (FV _) _⟩;have hr:=HO.out.set j (.int .u32 (q:Int));rw[bC] at hr;exact hr
   case measure=>simp[intOf]
theorem acp (w:FW) (F:FI) (va:F7) (a d:Nat) (ha:Ae w F va a) (hla:(dig a).length<=200000) (hd0:1<=d) (hd1:d<=1000000000) :
  Calls FY 207 #[va,.int .u32 (d:Int)] w (Ret w λv w'=>∃ vq,v = .tuple #[vq,.int .u32 ((a % d:Nat):Int)]/\Ae w' (λb=>w.heap.size<=b) vq (a / d)):=by
 obtain⟨A,c,rfl,hc,hNa⟩:=ha;have HA:=Ac hNa;clear hNa;go_in;go_wp2_with (at_make; refine gX _ rfl _ _ 40 rfl 103 (.int .u32 0) 4 G8 IU rfl (dig a).length rfl rfl EN EN ?_; intro w1 hb1 hz1 hrow1)
 have HR1:=Ac hrow1; clear hrow1;go_loopw [7,8] (λrv i wr=>∃ (k:Nat) (l:List Nat) (r:Nat),k<=(dig a).length/\i = F6 F5 ((k:Int) - 1)/\rv = .int .u64 (r:Int)/\r < d/\l.length=(dig a).length/\Limbs l/\aH ((dig a).drop k)=d*aH (l.drop k)+r /\
  Row wr w.heap.size 103 (aU l)/\Below w.heap.size w wr) (λ_ i _=>(intOf i+1).toNat)
 case atStart=>exact⟨(dig a).length,F8 (dig a).length 0,0,FV _,rfl,rfl,EN,aF,Limbs.zeros _,by rw[IL,GU aF]; simp[aH],by rw[gQ]; exact HR1.out,hb1⟩
 case round =>
  obtain⟨k,l,r,hk,rfl,rfl,hr,hlen,hlim,hinv,hrow,hbel⟩:=hrel;refine zaJ ?_;intro HL HI HO HM hold;rcases Gt k with h0 | h0
  ·subst h0;have hF:aH l=a / d/\r=a % d:=by
    exact zaz
   have HF:=Ac hF;clear hF hinv hlim hlen;go_wp2_with fail
   refine(xq wr (λb=>w.heap.size<=b) (some ⟨w.heap.size,0,none⟩) (dig a).length (dig a).length l HL.out ?_ EN).mono ?_
   ·exact YK
   rintro e w' ⟨rfl,rfl⟩;go_wp2
   go_ret2;exact za4
  ·obtain⟨j,rfl⟩:∃ j,k=j+1:=⟨k - 1,EN⟩;obtain⟨b1,o1,rfl,_,hb1',hx⟩:=HA.out EN;obtain⟨x,hx'⟩:=FC (l:=dig a) (k:=j) EN;have ex:=hx j x hx';unfold dF at ex;refine Yu ?_;clear ex;intro ex hxl HX;obtain⟨z,hz⟩:=FC (l:=l) (k:=j) EN;have rc:=hrow.cell (bn hz);have fc:=hrow.frozen j;clear hx hx' hz hlen hinv hrow hlim;have hql:(r*1000000000+x) / d < 1000000000:=wB hr hxl;have hrl:(r*1000000000+x) % d < d:=IK _ EN;have HQ:=Ac (I5 (r*1000000000+x) d).symm;have hqI:((r:Int)*1000000000+(x:Int)) / (d:Int)=(((r*1000000000+x) / d:Nat):Int):=by rw[<-nZ];rfl
   have hrI:((r:Int)*1000000000+(x:Int)) % (d:Int)=(((r*1000000000+x) % d:Nat):Int):=by rw[<-tV];rfl
   generalize (r*1000000000+x) / d=q at *;generalize (r*1000000000+x) % d=r' at *;refine Yx ?_;go_wp2
   go_roundw
   case rel =>
    refine⟨j,l.set j q,r',EN,by go_num,by rw[hrI],hrl,by rw[He,HL.out],HM.out.set hql,yE (A:=0) (by rw[HL.out]; omega) HI.out (by rw[HX.out]; exact HQ.out),?_,hbel.setCell (FV _) _⟩;have hr:=HO.out.set j (.int .u32 (q:Int));rw[bC] at hr;exact hr
   case measure=>simp[intOf]
theorem rX {a:List Nat} (hk:k < o.length) (h:aH (o.take k)+LB ^ k*c=aH (a.take k)*d) (hs:s+LB*c'=c+a.getD k 0*d) :
  aH ((o.set k s).take (k+1))+LB ^ (k+1)*c'=aH (a.take (k+1))*d:=by
 rw[lU hk,bQ,Nat.pow_succ];have e:LB ^ k*(s+LB*c')=LB ^ k*(c+a.getD k 0*d):=by rw[hs]
 grind
theorem acr {T:Nat} (ho:Limbs o) (hl:o.length=n) (h:aH (o.take n)+LB ^ n*c=T) (hT:T < LB ^ n):aH o=T:=by
 rw[Gl EN] at h;rcases Gt c with h0 | h0
 ·subst h0;omega
 ·have:LB ^ n*1<=LB ^ n*c:=Gq _ h0;omega
theorem abe (w:FW) (F:FI) (va:F7) (a d n:Nat) (ha:Ae w F va a) (hla:(dig a).length<=n) (hn:n<=200000) (hd0:1<=d) (hd1:d<=1000000000) (hT:a*d < LB ^ n) :
  Calls FY 198 #[va,.int .u64 (d:Int),F6 F5 (n:Int)] w (Ret w λv w'=>v = FQ (some ⟨w.heap.size,0,none⟩) n n/\∃ l,l.length=n/\Limbs l/\aH l=a*d/\Row w' w.heap.size 103 (aU l)):=by
 obtain⟨A,c,rfl,hc,hNa⟩:=ha;have HA:=Ac hNa;clear hNa;have HT:=Ac hT;clear hT;go_in;go_wp2_with (at_make; refine gX _ rfl _ _ 39 rfl 103 (.int .u32 0) 4 Ie IU rfl n rfl rfl EN EN ?_; intro w1 hb1 hz1 hrow1)
 have HR1:=Ac hrow1; clear hrow1;go_loopw [8,15] (λcv i wr=>∃ (k:Nat) (l:List Nat) (cr:Nat),k<=n/\i = F6 F5 (k:Int)/\cv = .int .u64 (cr:Int)/\cr < 1000000000/\l.length=n/\Limbs l/\aH (l.take k)+LB ^ k*cr=aH ((dig a).take k)*d /\
  Row wr w.heap.size 103 (aU l)/\Below w.heap.size w wr) (λ_ i _=>n - (intOf i).toNat)
 case atStart=>exact⟨0,F8 n 0,0,EN,rfl,rfl,EN,aF,Limbs.zeros _,by simp[aH],by rw[gQ]; exact HR1.out,hb1⟩
 case round =>
  obtain⟨k,l,cr,hk,rfl,rfl,hcr,hlen,hlim,hinv,hrow,hbel⟩:=hrel;refine zaJ ?_;intro HL HI HO HM hold;by_cases hlt:k < n
  ·refine zaU ?_;intro z hz rc fc;clear hz hlen hinv hrow hlim;by_cases hlt2:k < (dig a).length
   ·obtain⟨b1,o1,rfl,_,hb1',hx⟩:=HA.out EN;obtain⟨x,hx'⟩:=FC hlt2;have ex:=hx k x hx';unfold dF at ex;refine Yu ?_;clear ex;intro ex hxl HX;have hpb:x*d<=999999999000000000:=Gf (IX (show x<=999999999 by omega) hd1) aA;obtain⟨p,hp⟩:=FH (x*d);have hpI:(x:Int)*(d:Int)=(p:Int):=by rw[hp];simp
    rw[<-hp] at hpb;have HP:=Ac hp;clear hx hx' hp;go_wp2
    go_roundw
    case rel =>
     exact YH
    case measure=>simp[intOf]; omega
   ·have hdd:decide (k < (dig a).length)=false:=L9 hlt2;have HX:=Ac (eU (l:=dig a) (k:=k) EN);go_wp2
    go_roundw
    case rel =>
     exact YJ
    case measure=>simp[intOf]; omega
  ·obtain rfl:k=n:=EN;have hF:aH l=a*d:=by
    exact zds
   exact zcN
theorem acs (w:FW) (F:FI) (va:F7) (a d n:Nat) (ha:Ae w F va a) (hla:(dig a).length<=n) (hn:n<=200000) (hd0:1<=d) (hd1:d<=1000000000) (hT:a*d < LB ^ n) :
  Calls FY 208 #[va,.int .u64 (d:Int),F6 F5 (n:Int)] w (Ret w λv w'=>v = FQ (some ⟨w.heap.size,0,none⟩) n n/\∃ l,l.length=n/\Limbs l/\aH l=a*d/\Row w' w.heap.size 103 (aU l)):=by
 obtain⟨A,c,rfl,hc,hNa⟩:=ha;have HA:=Ac hNa;clear hNa;have HT:=Ac hT;clear hT;go_in;go_wp2_with (at_make; refine gX _ rfl _ _ 40 rfl 103 (.int .u32 0) 4 G8 IU rfl n rfl rfl EN EN ?_; intro w1 hb1 hz1 hrow1)
 have HR1:=Ac hrow1; clear hrow1;go_loopw [8,14] (λcv i wr=>∃ (k:Nat) (l:List Nat) (cr:Nat),k<=n/\i = F6 F5 (k:Int)/\cv = .int .u64 (cr:Int)/\cr < 1000000000/\l.length=n/\Limbs l/\aH (l.take k)+LB ^ k*cr=aH ((dig a).take k)*d /\
  Row wr w.heap.size 103 (aU l)/\Below w.heap.size w wr) (λ_ i _=>n - (intOf i).toNat)
 case atStart=>exact⟨0,F8 n 0,0,EN,rfl,rfl,EN,aF,Limbs.zeros _,by simp[aH],by rw[gQ]; exact HR1.out,hb1⟩
 case round =>
  obtain⟨k,l,cr,hk,rfl,rfl,hcr,hlen,hlim,hinv,hrow,hbel⟩:=hrel;refine zaJ ?_;intro HL HI HO HM hold;by_cases hlt:k < n
  ·refine zaU ?_;intro z hz rc fc;clear hz hlen hinv hrow hlim;by_cases hlt2:k < (dig a).length
   ·obtain⟨b1,o1,rfl,_,hb1',hx⟩:=HA.out EN;obtain⟨x,hx'⟩:=FC hlt2;have ex:=hx k x hx';unfold dF at ex;refine Yu ?_;clear ex;intro ex hxl HX;have hpb:x*d<=999999999000000000:=Gf (IX (show x<=999999999 by omega) hd1) aA;obtain⟨p,hp⟩:=FH (x*d);have hpI:(x:Int)*(d:Int)=(p:Int):=by rw[hp];simp
    rw[<-hp] at hpb;have HP:=Ac hp;clear hx hx' hp;go_wp2
    go_roundw
    case rel =>
     exact YH
    case measure=>simp[intOf]; omega
   ·have hdd:decide (k < (dig a).length)=false:=L9 hlt2;have HX:=Ac (eU (l:=dig a) (k:=k) EN);go_wp2
    go_roundw
    case rel =>
     exact YJ
    case measure=>simp[intOf]; omega
  ·obtain rfl:k=n:=EN;have hF:aH l=a*d:=by
    exact zds
   exact zcN
def Dt (w:FW) (bu:Nat) (P u S v:List Nat) (n:Nat) (e:Ending) (w':FW):Prop :=
 e = .returned (.int .u32 ((aH u / aH v:Nat):Int))/\(∃ u',u'.length=n+1/\Limbs u'/\aH u'=aH u % aH v/\Row w' bu 103 (aU (P++u'++S)))/\w.grownBy w' (some bu)
theorem kG {a w:FW} (h:a.grownBy w (some g)) (o:Nat) (u:F7):a.grownBy (w.setCell ⟨g,o,none⟩ u) (some g):=by
 have hb:=Below.heap_setCell w ⟨g,o,none⟩ u;refine⟨?_,?_,?_,by simpa using h.size,λk hk hne=>(hb k (by simpa using hne)).trans (h.block k hk hne)⟩
 all_goals (unfold World.setCell; first | exact h.os | exact h.tape | exact h.output)
theorem zK {a w:FW} {r:Option Nat} (h:a.grownBy w r) (n:Nat):a.grownBy (w.drewN n) r:=⟨h.os,h.tape,h.output,h.size,h.block⟩
theorem acu (w:FW) (row:Option Nat):w.grownBy w row:=⟨rfl,rfl,rfl,FV _,λ_ _ _=>rfl⟩
theorem Row.grown {w w':FW} {vs:List F7} (h:Row w b t vs) (k:w.grownBy w' (some g)) (hne:b≠g):Row w' b t vs:=h.of_block (k.block b h.lt (by simpa using hne))
def vK (q r v2 u2:Nat):Bool:=decide (r < LB/\(LB<=q\/r*LB+u2 < q*v2))
theorem zL (q r v2 u2:Nat):vK q r v2 u2=true↔(r < LB/\(LB<=q\/r*LB+u2 < q*v2)):=by unfold vK; simp
theorem ajR (w:FW) (bu bv:Nat) (P u S v:List Nat) (j n cu cv:Nat) (hP:P.length=j) (hu:Row w bu 103 (aU (P++u++S))) (hv:Row w bv 103 (aU v)) (hne:bv≠bu) (he:Est u v n) (hn:n<=200000) (hj:j<=200000) (hcu:n+1<=cu) (hcv:n<=cv) :
  Calls FY 199 #[FQ (some ⟨bu,j,none⟩) (n+1) cu,FQ (some ⟨bv,0,none⟩) n cv] w (Dt w bu P u S v n):=by
 have hn2:=he.n2;refine zcr ?_;intro n1 hn1;refine YR ?_;intro n2 anX i1 i2 l1 l2 ul vl top htop v2 hv2 un hun u1 hu1 u2 hu2 ct cv2 cun cu1 cu2 topl v2l unl u1l u2l;have gt:v.getD (n - 1) 0=top:=by rw[show n - 1=n1 by omega];exact aN htop
 have gv2:v.getD (n - 2) 0=v2:=by rw[show n - 2=n2 by omega];exact aN hv2
 have gun:u.getD n 0=un:=aN hun;have gu1:u.getD (n - 1) 0=u1:=by rw[show n - 1=n1 by omega];exact aN hu1
 have gu2:u.getD (n - 2) 0=u2:=by rw[show n - 2=n2 by omega];exact aN hu2
 have amW:500000000<=top:=by have:=he.half;rw[gt] at this;unfold LB at this;omega
 have hq0:=I5 (un*1000000000+u1) top;have hr0:=IK (un*1000000000+u1) (show 0 < top by omega);have hqI:((un:Int)*1000000000+(u1:Int)) / (top:Int)=(((un*1000000000+u1) / top:Nat):Int):=by rw[<-nZ];rfl
 have hrI:((un:Int)*1000000000+(u1:Int)) % (top:Int)=(((un*1000000000+u1) % top:Nat):Int):=by rw[<-tV];rfl
 generalize (un*1000000000+u1) / top=q0 at *;generalize (un*1000000000+u1) % top=r0 at *;have ahu:u.getD n 0*LB+u.getD (n - 1) 0=q0*v.getD (n - 1) 0+r0:=by rw[gun,gu1,gt,show LB=1000000000 from rfl,<-hq0,Gy]
 obtain⟨alq,hle0⟩:=he.first ahu (by rw[gt]; exact hr0);have HE:=Ac he;have HQ0:=Ac ahu;have D8:=Ac alq;have HG:=Ac (Ij gt (Ij gv2 (Ij gun (Ij gu1 gu2))));have HU:=Ac hu;have HV:=Ac hv;have HPP:=Ac hP;have hblt:=hu.lt;have anY:=hv.lt;have HUL:=Ac ul;have HVL:=Ac vl;have HNE:=Ac hne;clear he ahu alq gt gv2 gun gu1 gu2 hu hv hP ul vl hq0 htop hv2 hun hu1 hu2 hn1 anX hne;go_in;go_wp2
 go_quiet (fail)
 go_wp2
 go_quiet (fail)
 go_wp2
 go_loopw [7,8] (λqv rv wr=>∃ (q r z:Nat),qv = .int .u64 (q:Int)/\rv = .int .u64 (r:Int)/\u.getD n 0*LB+u.getD (n - 1) 0=q*v.getD (n - 1) 0+r/\aH u / aH v<=q/\q<=1000000002/\r < 2000000000/\wr=w.drewN z) (λqv _ _=>(intOf qv).toNat)
 case atStart=>exact⟨q0,r0,_,by rw[hqI],by rw[hrI],HQ0.out,D8.out,hle0,EN,by simp only[World.drewN_drewN]; rfl⟩
 case round =>
  clear HQ0 D8 hle0 hr0 hqI hrI;obtain⟨q,r,z,rfl,rfl,hq,hge,alr,hrl,rfl⟩:=hrel;have HQ:=Ac hq;have HGE:=Ac hge;clear hq hge;have hpb:q*v2<=1000000001000000000:=by
   have:=IX alr (show v2<=999999999 by omega);omega
  obtain⟨p,hp⟩:=FH (q*v2);have hpI:(q:Int)*(v2:Int)=(p:Int):=by rw[hp];simp
  rw[<-hp] at hpb;have HP:=Ac hp;clear hp;have hbad:vK q r v2 u2=decide (r < 1000000000/\(1000000000<=q\/r*1000000000+u2 < p)):=by unfold vK;rw[HP.out]
  have HBAD:=Ac hbad;clear hbad;go_upto_region 5 with fail
  go_cut [80] from 55 to 85 (λb wx=>b = .bool (vK q r v2 u2)/\∃ z,wx=w.drewN z)
  case first =>
   by_cases c1:r < 1000000000
   ·by_cases c2:1000000000<=q
    ·refine zbI ?_;intro HB d1 d2;go_quiet (fail)
     go_wp2_with fail
     go_meet
     exact Yk
    ·have d1:decide ((r:Int) < 1000000000)=true:=Mc EN;have d2:decide ((1000000000:Int)<=(q:Int))=false:=L9 EN;by_cases c3:r*1000000000+u2 < p
     ·refine zcJ ?_;intro HB d3;go_quiet (fail)
      go_wp2_with fail
      go_meet
      exact Yk
     ·refine zbu ?_;intro HB;have d3:decide ((r:Int)*1000000000+(u2:Int) < (p:Int))=false:=L9 EN;go_quiet (fail)
      go_wp2_with fail
      go_meet
      exact Yk
   ·refine zbu ?_;intro HB;have d1:decide ((r:Int) < 1000000000)=false:=L9 EN;go_quiet (fail)
    go_wp2_with fail
    go_meet
    exact Yk
  case rest =>
   obtain⟨rfl,z',rfl⟩:=hcut;cases hb:vK q r v2 u2
   ·have hbf:¬ (r < LB/\(LB<=q\/r*LB+u.getD (n - 2) 0 < q*v.getD (n - 2) 0)):=by
     intro h;rw[HG.out.2.2.2.2,HG.out.2.1] at h;have:=(zL q r v2 u2).2 h;rw[hb] at this;cases this
    obtain⟨a1,a2,a3⟩:=HE.out.almost HQ.out HGE.out hbf;have hqB:q < 1000000000:=a1;have HAL:=Ac (Ij a2 a3);clear hb hbf a1 a2 a3 HQ HGE alr hrl hpb hpI HP HBAD;have ahv:w.grownBy (w.drewN z') (some bu):=zK (acu _ _) _;have ahw:Row (w.drewN z') bu 103 (aU (P++u++S)):=HU.out.dN _;clear ct cv2 cun cu1 cu2;obtain⟨W0,hW0⟩:=FH (w.drewN z');rw[<-hW0] at ahv ahw;go_wp2
    rw[<-hW0];clear hW0;go_loopw [9,10,87] (λcv bv' i wr=>∃ (k cr br:Nat) (u':List Nat),k<=n/\i = F6 F5 (k:Int)/\cv = .int .u64 (cr:Int)/\bv' = F6 F5 (br:Int)/\cr < 1000000000/\br<=1/\CW u v q k (cr+br) u' /\
     Row wr bu 103 (aU (P++u'++S))/\w.grownBy wr (some bu)) (λ_ _ i _=>n - (intOf i).toNat)
    case atStart=>exact⟨0,0,0,u,EN,rfl,rfl,rfl,EN,EN,CW.start HE.out.lu,ahw,ahv⟩
    case round =>
     clear ahw ahv;obtain⟨k,cr,br,u',hk,rfl,rfl,rfl,hcr,hbr,hms,hrow,hgr⟩:=hrel;have aaA:u'.length=n+1:=by rw[hms.len,HUL.out]
     have HMS:=Ac hms;have HRW:=Ac hrow;have HGR:=Ac hgr;have hrv:=HV.out.grown hgr HNE.out;by_cases hlt:k < n
     ·obtain⟨y,hy⟩:=FC (l:=v) (k:=k) (by rw[HVL.out]; exact hlt);obtain⟨x,hx⟩:=FC (l:=u') (k:=k) EN;have cy:=hrv.cell (bn hy);have cx:=hrow.cell (bn ((kK HPP.out EN).trans hx));have fx:=hrow.frozen (j+k);have hyl:y < 1000000000:=HE.out.lv.get hy;have hxl:x < 1000000000:=hms.limbs.get hx;have HY:=Ac (aN hy);have HX:=Ac (show u.getD k 0=x by
       have:=mX hms.rest;rw[hx] at this;exact aN this.symm)
      have hpb:=wY (x:=q) (y:=y) hqB hyl;obtain⟨p,hp⟩:=FH (q*y);have hpI:(q:Int)*(y:Int)=(p:Int):=by rw[hp];simp
      rw[<-hp] at hpb;have HP:=Ac hp;have abD:k < u'.length:=EN;clear hy hx hms hrow hgr hrv hp aaA;by_cases hs:(x:Int) - (br:Int) - ((p:Int)+(cr:Int)) % 1000000000 < 0
      ·obtain⟨s,hs'⟩:∃ s,s+br+(p+cr) % 1000000000=x+1000000000:=⟨x+1000000000 - (br+(p+cr) % 1000000000),EN⟩;have HS:=Ac hs';clear hs';go_wp2
       go_roundw
       case rel =>
        refine⟨k+1,(p+cr) / 1000000000,1,u'.set k s,EN,by go_num,by go_num,rfl,EN,EN,HMS.out.step (by rw[HUL.out]; omega) ?_ (by have:=HS.out; show _ < 1000000000; omega),?_,kG HGR.out _ _⟩
        ·exact zbb
        ·refine zbl ?_;intro hr hss;rw[show(s:Int)=(x:Int) - (br:Int) - ((p:Int)+(cr:Int)) % 1000000000+1000000000 by omega] at hr;exact hr
       case measure=>simp[intOf]; omega
      ·have hdd:decide ((x:Int) - (br:Int) - ((p:Int)+(cr:Int)) % 1000000000 < 0)=false:=L9 hs;obtain⟨s,hs'⟩:∃ s,s+br+(p+cr) % 1000000000=x:=⟨x - (br+(p+cr) % 1000000000),EN⟩;have HS:=Ac hs';clear hs';go_wp2
       go_roundw
       case rel =>
        refine⟨k+1,(p+cr) / 1000000000,0,u'.set k s,EN,by go_num,by go_num,rfl,EN,EN,HMS.out.step (by rw[HUL.out]; omega) ?_ (by have:=HS.out; show _ < 1000000000; omega),?_,kG HGR.out _ _⟩
        ·exact zbb
        ·refine zbl ?_;intro hr hss;rw[show(s:Int)=(x:Int) - (br:Int) - ((p:Int)+(cr:Int)) % 1000000000 by omega] at hr;exact hr
       case measure=>simp[intOf]; omega
     ·obtain rfl:k=n:=EN;have hxn:u'[k]? = u[k]?:=mX hms.rest;have hun':u[k]? = some un:=by
       have h1:=HG.out.2.2.1;obtain⟨y,hy⟩:=FC (l:=u) (k:=k) (by rw[HUL.out]; omega);rw[aN hy] at h1;rw[hy,h1]
      have cx:=hrow.cell (bn ((kK HPP.out EN).trans (hxn.trans hun')));have HUN:=Ac (show u.getD k 0=un from HG.out.2.2.1);have CP:=Ac aaA;clear hms hrow hgr hxn hun' aaA hlt;go_upto_if 132 with fail
      go_cut [7,14,15,16] from 122 to 158 (λq7 _ _ _ wx=>∃ u3:List Nat,q7 = .int .u64 ((aH u / aH v:Nat):Int)/\u3.length=k+1/\Limbs u3/\aH (u3.take k)=aH u % aH v/\Row wx bu 103 (aU (P++u3++S))/\w.grownBy wx (some bu))
      case first =>
       by_cases hs:(un:Int) - (br:Int) - (cr:Int) < 0
       ·have hneg:u.getD k 0 < cr+br:=by rw[HUN.out];omega
        have HNG:=Ac hneg;have hq1:1<=q:=by
         rcases Gt q with h0 | h0
         ·exfalso
          have he:=zD HE.out HMS.out;have hl:=rP HMS.out.limbs (n:=k) (by rw[CP.out]; omega);have h1:LB ^ k*(u.getD k 0+1)<=LB ^ k*(cr+br):=Gq _ hneg;rw[GV,Gp] at h1;rw[h0,KF] at he;omega
         ·exact h0
        clear hneg;go_wp2
        go_loopw [14,136] (λov i wi=>∃ (m o:Nat) (u2':List Nat),m<=k/\i = F6 F5 (m:Int)/\ov = .int .u32 (o:Int)/\o<=1/\Dh u' v m o u2' /\
         Row wi bu 103 (aU (P++u2'++S))/\w.grownBy wi (some bu)) (λ_ i _=>k - (intOf i).toNat)
        case atStart=>exact⟨0,0,u',EN,rfl,rfl,EN,Dh.start HMS.out.limbs,HRW.out,HGR.out⟩
        case round =>
         clear cx;obtain⟨m,o,u2',hm,rfl,rfl,ho,hma,hrow,hgr⟩:=hrel;have HMA:=Ac hma;have DF:=Ac hrow;have DI:=Ac hgr;have hrv:=HV.out.grown hgr HNE.out;have abD:u2'.length=k+1:=by rw[hma.len,CP.out]
         by_cases hmt:m < k
         ·obtain⟨y,hy⟩:=FC (l:=v) (k:=m) (by rw[HVL.out]; exact hmt);obtain⟨x,hx⟩:=FC (l:=u2') (k:=m) EN;have cy:=hrv.cell (bn hy);have cx:=hrow.cell (bn ((kK HPP.out EN).trans hx));have fx:=hrow.frozen (j+m);have hyl:y < 1000000000:=HE.out.lv.get hy;have hxl:x < 1000000000:=hma.limbs.get hx;have HY:=Ac (aN hy);have HX:=Ac (show u'.getD m 0=x by
           have:=mX hma.rest;rw[hx] at this;exact aN this.symm)
          have hm2:m < u2'.length:=EN;clear hy hx hma hrow hgr hrv abD;have hs2:(∃ s,x+y+o=s+1000000000)\/x+y+o < 1000000000:=by
           by_cases h:1000000000<=x+y+o
           ·exact .inl ⟨x+y+o - 1000000000,EN⟩
           ·exact .inr EN
          rcases hs2 with⟨s,hs2⟩ | hs2
          ·have hdd:decide ((1000000000:Int)<=(x:Int)+(y:Int)+(o:Int))=true:=Mc EN;have hsI:(1000000000:Int)<=(x:Int)+(y:Int)+(o:Int):=EN;have HS:=Ac hs2;clear hs2;go_wp2
           go_quiet (fail)
           go_wp2
           go_roundw
           case rel =>
            refine⟨m+1,1,u2'.set m s,EN,by go_num,rfl,EN,HMA.out.step (by rw[CP.out]; omega) (by have:=HS.out; rw[HX.out,HY.out]; show _+1000000000*_=_; omega) (by have:=HS.out; show _ < 1000000000; omega),?_,kG (zK DI.out _) _ _⟩;have hr:=(DF.out.dN nq).set (j+m) (.int .u32 (s:Int));exact zcp
           case measure=>simp[intOf]; omega
          ·have hdd:decide ((1000000000:Int)<=(x:Int)+(y:Int)+(o:Int))=false:=L9 EN;go_wp2
           go_quiet (fail)
           go_wp2
           go_roundw
           case rel =>
            refine⟨m+1,0,u2'.set m (x+y+o),EN,by go_num,rfl,EN,HMA.out.step (by rw[CP.out]; omega) (by rw[HX.out,HY.out]; show _+1000000000*_=_; omega) (by show _ < 1000000000; omega),?_,kG (zK DI.out _) _ _⟩;have hr:=(DF.out.dN nq).set (j+m) (.int .u32 ((x+y+o:Nat):Int));rw[bC,set_mid HPP.out hm2] at hr;exact hr
           case measure=>simp[intOf]; omega
         ·obtain rfl:m=k:=EN;have HB:=Ac (adO HE.out HMS.out HAL.out.1 HAL.out.2 HNG.out hma);clear hma hrow hgr hrv;go_wp2_with fail
          go_meet
          exact⟨u2',by have:=HB.out.1; go_num,abD,HMA.out.limbs,HB.out.2,DF.out,DI.out⟩
       ·have hdd:decide ((un:Int) - (br:Int) - (cr:Int) < 0)=false:=L9 hs;have HB:=Ac (ab2 HE.out HMS.out HAL.out.1 HAL.out.2 (by rw[HUN.out]; omega));go_wp2_with fail
        go_meet
        exact⟨u',by rw[<-HB.out.1],CP.out,HMS.out.limbs,HB.out.2,HRW.out,HGR.out⟩
      case rest =>
       exact ZT
   ·have hbt:=(zL q r v2 u2).1 hb;have HT:=Ac hbt;have hrLB:r < 1000000000:=hbt.1;clear hb hbt;have hq1:1<=q:=by
     have h:=HT.out.2;rcases Gt q with h0 | h0
     ·subst h0;rcases h with h | h
      ·exact absurd h aA
      ·simp at h
     ·exact h0
    go_wp2
    go_roundw
    case rel =>
     refine⟨q - 1,r+top,z',?_,?_,?_,?_,EN,EN,rfl⟩
     ·go_num
     ·go_num
     ·exact zcq
     ·exact zdn
    case measure=>simp[intOf]; omega
theorem ahy (w:FW) (bu bv:Nat) (P u S v:List Nat) (j n cu cv:Nat) (hP:P.length=j) (hu:Row w bu 103 (aU (P++u++S))) (hv:Row w bv 103 (aU v)) (hne:bv≠bu) (he:Est u v n) (hn:n<=200000) (hj:j<=200000) (hcu:n+1<=cu) (hcv:n<=cv) :
  Calls FY 209 #[FQ (some ⟨bu,j,none⟩) (n+1) cu,FQ (some ⟨bv,0,none⟩) n cv] w (Dt w bu P u S v n):=by
 have hn2:=he.n2;refine zcr ?_;intro n1 hn1;refine YR ?_;intro n2 anX i1 i2 l1 l2 ul vl top htop v2 hv2 un hun u1 hu1 u2 hu2 ct cv2 cun cu1 cu2 topl v2l unl u1l u2l;have gt:v.getD (n - 1) 0=top:=by rw[show n - 1=n1 by omega];exact aN htop
 have gv2:v.getD (n - 2) 0=v2:=by rw[show n - 2=n2 by omega];exact aN hv2
 have gun:u.getD n 0=un:=aN hun;have gu1:u.getD (n - 1) 0=u1:=by rw[show n - 1=n1 by omega];exact aN hu1
 have gu2:u.getD (n - 2) 0=u2:=by rw[show n - 2=n2 by omega];exact aN hu2
 have amW:500000000<=top:=by have:=he.half;rw[gt] at this;unfold LB at this;omega
 have hq0:=I5 (un*1000000000+u1) top;have hr0:=IK (un*1000000000+u1) (show 0 < top by omega);have hqI:((un:Int)*1000000000+(u1:Int)) / (top:Int)=(((un*1000000000+u1) / top:Nat):Int):=by rw[<-nZ];rfl
 have hrI:((un:Int)*1000000000+(u1:Int)) % (top:Int)=(((un*1000000000+u1) % top:Nat):Int):=by rw[<-tV];rfl
 generalize (un*1000000000+u1) / top=q0 at *;generalize (un*1000000000+u1) % top=r0 at *;have ahu:u.getD n 0*LB+u.getD (n - 1) 0=q0*v.getD (n - 1) 0+r0:=by rw[gun,gu1,gt,show LB=1000000000 from rfl,<-hq0,Gy]
 obtain⟨alq,hle0⟩:=he.first ahu (by rw[gt]; exact hr0);have HE:=Ac he;have HQ0:=Ac ahu;have D8:=Ac alq;have HG:=Ac (Ij gt (Ij gv2 (Ij gun (Ij gu1 gu2))));have HU:=Ac hu;have HV:=Ac hv;have HPP:=Ac hP;have hblt:=hu.lt;have anY:=hv.lt;have HUL:=Ac ul;have HVL:=Ac vl;have HNE:=Ac hne;clear he ahu alq gt gv2 gun gu1 gu2 hu hv hP ul vl hq0 htop hv2 hun hu1 hu2 hn1 anX hne;go_in;go_wp2
 go_quiet (fail)
 go_wp2
 go_quiet (fail)
 go_wp2
 go_loopw [7,8] (λqv rv wr=>∃ (q r z:Nat),qv = .int .u64 (q:Int)/\rv = .int .u64 (r:Int)/\u.getD n 0*LB+u.getD (n - 1) 0=q*v.getD (n - 1) 0+r/\aH u / aH v<=q/\q<=1000000002/\r < 2000000000/\wr=w.drewN z) (λqv _ _=>(intOf qv).toNat)
 case atStart=>exact⟨q0,r0,_,by rw[hqI],by rw[hrI],HQ0.out,D8.out,hle0,EN,by simp only[World.drewN_drewN]; rfl⟩
 case round =>
  clear HQ0 D8 hle0 hr0 hqI hrI;obtain⟨q,r,z,rfl,rfl,hq,hge,alr,hrl,rfl⟩:=hrel;have HQ:=Ac hq;have HGE:=Ac hge;clear hq hge;have hpb:q*v2<=1000000001000000000:=by
   have:=IX alr (show v2<=999999999 by omega);omega
  obtain⟨p,hp⟩:=FH (q*v2);have hpI:(q:Int)*(v2:Int)=(p:Int):=by rw[hp];simp
  rw[<-hp] at hpb;have HP:=Ac hp;clear hp;have hbad:vK q r v2 u2=decide (r < 1000000000/\(1000000000<=q\/r*1000000000+u2 < p)):=by unfold vK;rw[HP.out]
  have HBAD:=Ac hbad;clear hbad;go_upto_region 4 with fail
  go_cut [74] from 49 to 84 (λb wx=>b = .bool (vK q r v2 u2)/\∃ z,wx=w.drewN z)
  case first =>
   by_cases c1:r < 1000000000
   ·by_cases c2:1000000000<=q
    ·refine zbI ?_;intro HB d1 d2;go_quiet (fail)
     go_wp2_with fail
     go_meet
     exact Yk
    ·have d1:decide ((r:Int) < 1000000000)=true:=Mc EN;have d2:decide ((1000000000:Int)<=(q:Int))=false:=L9 EN;by_cases c3:r*1000000000+u2 < p
     ·refine zcJ ?_;intro HB d3;go_quiet (fail)
      go_wp2_with fail
      go_meet
      exact Yk
     ·refine zbu ?_;intro HB;have d3:decide ((r:Int)*1000000000+(u2:Int) < (p:Int))=false:=L9 EN;go_quiet (fail)
      go_wp2_with fail
      go_meet
      exact Yk
   ·refine zbu ?_;intro HB;have d1:decide ((r:Int) < 1000000000)=false:=L9 EN;go_quiet (fail)
    go_wp2_with fail
    go_meet
    exact Yk
  case rest =>
   obtain⟨rfl,z',rfl⟩:=hcut;cases hb:vK q r v2 u2
   ·have hbf:¬ (r < LB/\(LB<=q\/r*LB+u.getD (n - 2) 0 < q*v.getD (n - 2) 0)):=by
     intro h;rw[HG.out.2.2.2.2,HG.out.2.1] at h;have:=(zL q r v2 u2).2 h;rw[hb] at this;cases this
    obtain⟨a1,a2,a3⟩:=HE.out.almost HQ.out HGE.out hbf;have hqB:q < 1000000000:=a1;have HAL:=Ac (Ij a2 a3);clear hb hbf a1 a2 a3 HQ HGE alr hrl hpb hpI HP HBAD;have ahv:w.grownBy (w.drewN z') (some bu):=zK (acu _ _) _;have ahw:Row (w.drewN z') bu 103 (aU (P++u++S)):=HU.out.dN _;clear ct cv2 cun cu1 cu2;obtain⟨W0,hW0⟩:=FH (w.drewN z');rw[<-hW0] at ahv ahw;go_wp2
    rw[<-hW0];clear hW0;go_loopw [9,87] (λcv i wr=>∃ (k cr:Nat) (u':List Nat),k<=n/\i = F6 F5 (k:Int)/\cv = .int .u64 (cr:Int)/\cr<=1000000000/\CW u v q k cr u' /\
     Row wr bu 103 (aU (P++u'++S))/\w.grownBy wr (some bu)) (λ_ i _=>n - (intOf i).toNat)
    case atStart=>exact⟨0,0,u,EN,rfl,rfl,EN,CW.start HE.out.lu,ahw,ahv⟩
    case round =>
     clear ahw ahv;obtain⟨k,cr,u',hk,rfl,rfl,hcr,hms,hrow,hgr⟩:=hrel;have aaA:u'.length=n+1:=by rw[hms.len,HUL.out]
     have HMS:=Ac hms;have HRW:=Ac hrow;have HGR:=Ac hgr;have hrv:=HV.out.grown hgr HNE.out;by_cases hlt:k < n
     ·obtain⟨y,hy⟩:=FC (l:=v) (k:=k) (by rw[HVL.out]; exact hlt);obtain⟨x,hx⟩:=FC (l:=u') (k:=k) EN;have cy:=hrv.cell (bn hy);have cx:=hrow.cell (bn ((kK HPP.out EN).trans hx));have fx:=hrow.frozen (j+k);have hyl:y < 1000000000:=HE.out.lv.get hy;have hxl:x < 1000000000:=hms.limbs.get hx;have HY:=Ac (aN hy);have HX:=Ac (show u.getD k 0=x by
       have:=mX hms.rest;rw[hx] at this;exact aN this.symm)
      have hpb:=wY (x:=q) (y:=y) hqB hyl;obtain⟨p,hp⟩:=FH (q*y);have hpI:(q:Int)*(y:Int)=(p:Int):=by rw[hp];simp
      rw[<-hp] at hpb;have HP:=Ac hp;have abD:k < u'.length:=EN;clear hy hx hms hrow hgr hrv hp aaA;by_cases hs:(x:Int) - ((p:Int)+(cr:Int)) % 1000000000 < 0
      ·obtain⟨s,hs'⟩:∃ s,s+(p+cr) % 1000000000=x+1000000000:=⟨x+1000000000 - ((p+cr) % 1000000000),EN⟩;have HS:=Ac hs';clear hs';go_wp2
       go_roundw
       case rel =>
        refine⟨k+1,(p+cr) / 1000000000+1,u'.set k s,EN,by go_num,by go_num,EN,HMS.out.step (by rw[HUL.out]; omega) ?_ (by have:=HS.out; show _ < 1000000000; omega),?_,kG HGR.out _ _⟩
        ·exact zbb
        ·refine zbl ?_;intro hr hss;rw[show(s:Int)=(x:Int) - ((p:Int)+(cr:Int)) % 1000000000+1000000000 by omega] at hr;exact hr
       case measure=>simp[intOf]; omega
      ·have hdd:decide ((x:Int) - ((p:Int)+(cr:Int)) % 1000000000 < 0)=false:=L9 hs;obtain⟨s,hs'⟩:∃ s,s+(p+cr) % 1000000000=x:=⟨x - ((p+cr) % 1000000000),EN⟩;have HS:=Ac hs';clear hs';go_wp2
       go_roundw
       case rel =>
        refine⟨k+1,(p+cr) / 1000000000,u'.set k s,EN,by go_num,by go_num,EN,HMS.out.step (by rw[HUL.out]; omega) ?_ (by have:=HS.out; show _ < 1000000000; omega),?_,kG HGR.out _ _⟩
        ·exact zbb
        ·refine zbl ?_;intro hr hss;rw[show(s:Int)=(x:Int) - ((p:Int)+(cr:Int)) % 1000000000 by omega] at hr;exact hr
       case measure=>simp[intOf]; omega
     ·obtain rfl:k=n:=EN;have hxn:u'[k]? = u[k]?:=mX hms.rest;have hun':u[k]? = some un:=by
       have h1:=HG.out.2.2.1;obtain⟨y,hy⟩:=FC (l:=u) (k:=k) (by rw[HUL.out]; omega);rw[aN hy] at h1;rw[hy,h1]
      have cx:=hrow.cell (bn ((kK HPP.out EN).trans (hxn.trans hun')));have HUN:=Ac (show u.getD k 0=un from HG.out.2.2.1);have CP:=Ac aaA;clear hms hrow hgr hxn hun' aaA hlt;go_upto_if 127 with fail
      go_cut [7,14,15,16,17] from 121 to 153 (λq7 _ _ _ _ wx=>∃ u3:List Nat,q7 = .int .u64 ((aH u / aH v:Nat):Int)/\u3.length=k+1/\Limbs u3/\aH (u3.take k)=aH u % aH v/\Row wx bu 103 (aU (P++u3++S))/\w.grownBy wx (some bu))
      case first =>
       by_cases hs:un < cr
       ·have hneg:u.getD k 0 < cr:=by rw[HUN.out];omega
        have HNG:=Ac hneg;have hq1:1<=q:=by
         rcases Gt q with h0 | h0
         ·exfalso
          have he:=zD HE.out HMS.out;have hl:=rP HMS.out.limbs (n:=k) (by rw[CP.out]; omega);have h1:LB ^ k*(u.getD k 0+1)<=LB ^ k*cr:=Gq _ hneg;rw[GV,Gp] at h1;rw[h0,KF] at he;omega
         ·exact h0
        clear hneg;go_wp2
        go_loopw [14,132] (λov i wi=>∃ (m o:Nat) (u2':List Nat),m<=k/\i = F6 F5 (m:Int)/\ov = .int .u32 (o:Int)/\o<=1/\Dh u' v m o u2' /\
         Row wi bu 103 (aU (P++u2'++S))/\w.grownBy wi (some bu)) (λ_ i _=>k - (intOf i).toNat)
        case atStart=>exact⟨0,0,u',EN,rfl,rfl,EN,Dh.start HMS.out.limbs,HRW.out,HGR.out⟩
        case round =>
         clear cx;obtain⟨m,o,u2',hm,rfl,rfl,ho,hma,hrow,hgr⟩:=hrel;have HMA:=Ac hma;have DF:=Ac hrow;have DI:=Ac hgr;have hrv:=HV.out.grown hgr HNE.out;have abD:u2'.length=k+1:=by rw[hma.len,CP.out]
         by_cases hmt:m < k
         ·obtain⟨y,hy⟩:=FC (l:=v) (k:=m) (by rw[HVL.out]; exact hmt);obtain⟨x,hx⟩:=FC (l:=u2') (k:=m) EN;have cy:=hrv.cell (bn hy);have cx:=hrow.cell (bn ((kK HPP.out EN).trans hx));have fx:=hrow.frozen (j+m);have hyl:y < 1000000000:=HE.out.lv.get hy;have hxl:x < 1000000000:=hma.limbs.get hx;have HY:=Ac (aN hy);have HX:=Ac (show u'.getD m 0=x by
           have:=mX hma.rest;rw[hx] at this;exact aN this.symm)
          have hm2:m < u2'.length:=EN;clear hy hx hma hrow hgr hrv abD;have hs2:(∃ s,x+y+o=s+1000000000)\/x+y+o < 1000000000:=by
           by_cases h:1000000000<=x+y+o
           ·exact .inl ⟨x+y+o - 1000000000,EN⟩
           ·exact .inr EN
          rcases hs2 with⟨s,hs2⟩ | hs2
          ·have hdd:decide ((1000000000:Int)<=(x:Int)+(y:Int)+(o:Int))=true:=Mc EN;have hsI:(1000000000:Int)<=(x:Int)+(y:Int)+(o:Int):=EN;have HS:=Ac hs2;clear hs2;go_wp2
           go_roundw
           case rel =>
            refine⟨m+1,1,u2'.set m s,EN,by go_num,rfl,EN,HMA.out.step (by rw[CP.out]; omega) (by have:=HS.out; rw[HX.out,HY.out]; show _+1000000000*_=_; omega) (by have:=HS.out; show _ < 1000000000; omega),?_,kG DI.out _ _⟩;have hr:=DF.out.set (j+m) (.int .u32 (s:Int));exact zcp
           case measure=>simp[intOf]; omega
          ·have hdd:decide ((1000000000:Int)<=(x:Int)+(y:Int)+(o:Int))=false:=L9 EN;go_wp2
           go_roundw
           case rel =>
            refine⟨m+1,0,u2'.set m (x+y+o),EN,by go_num,rfl,EN,HMA.out.step (by rw[CP.out]; omega) (by rw[HX.out,HY.out]; show _+1000000000*_=_; omega) (by show _ < 1000000000; omega),?_,kG DI.out _ _⟩;have hr:=DF.out.set (j+m) (.int .u32 ((x+y+o:Nat):Int));rw[bC,set_mid HPP.out hm2] at hr;exact hr
           case measure=>simp[intOf]; omega
         ·obtain rfl:m=k:=EN;have HB:=Ac (adO HE.out HMS.out HAL.out.1 HAL.out.2 HNG.out hma);clear hma hrow hgr hrv;go_wp2_with fail
          go_meet
          exact⟨u2',by have:=HB.out.1; go_num,abD,HMA.out.limbs,HB.out.2,DF.out,DI.out⟩
       ·have hdd:decide (un < cr)=false:=L9 hs;have HB:=Ac (ab2 HE.out HMS.out HAL.out.1 HAL.out.2 (by rw[HUN.out]; omega));go_wp2_with fail
        go_meet
        exact⟨u',by rw[<-HB.out.1],CP.out,HMS.out.limbs,HB.out.2,HRW.out,HGR.out⟩
      case rest =>
       exact ZT
   ·have hbt:=(zL q r v2 u2).1 hb;have HT:=Ac hbt;have hrLB:r < 1000000000:=hbt.1;clear hb hbt;have hq1:1<=q:=by
     have h:=HT.out.2;rcases Gt q with h0 | h0
     ·subst h0;rcases h with h | h
      ·exact absurd h aA
      ·simp at h
     ·exact h0
    go_wp2
    go_roundw
    case rel =>
     refine⟨q - 1,r+top,z',?_,?_,?_,?_,EN,EN,rfl⟩
     ·go_num
     ·go_num
     ·exact zcq
     ·exact zdn
    case measure=>simp[intOf]; omega
end Go.Proofs.YtnmeejofpkhlkaaGreatDoor
