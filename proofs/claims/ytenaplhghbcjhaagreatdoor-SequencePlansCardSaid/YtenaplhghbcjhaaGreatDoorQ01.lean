set_option linter.all false
namespace Go.Proofs.YtenaplhghbcjhaaGreatDoor
open Int renaming mul_le_mul_of_nonneg_left->JV,mul_le_mul_of_nonneg_right->J6,mul_nonneg->Ih,mul_nonpos_of_nonneg_of_nonpos->Lp
open List renaming drop_eq_getElem_cons->Jo,drop_eq_nil_of_le->Ip,drop_set_of_lt->KW,getD_eq_getElem?_getD->GH,getElem?_append_right->JI,getElem?_eq_getElem->Jr,length_set->Hy,length_take->Ik,replicate->GX,take_of_length_le->G8,take_set_of_le->KY
open Nat renaming Coprime->KO,add_mul_div_left->KP,div_add_mod->Jh,div_eq_of_lt->JH,div_lt_iff_lt_mul->Jm,div_mul_cancel->LC,div_mul_le_self->Lh,eq_zero_or_pos->H6,gcd->Hr,gcd_comm->IK,gcd_dvd_left->JE,gcd_dvd_right->Jk,gcd_mul_left->JQ,gcd_pos_of_pos_left->Ky,gcd_pos_of_pos_right->Jw,le_div_iff_mul_le->Jy,le_refl->Gy,lt_of_lt_of_le->Hz,lt_of_mul_lt_mul_left->Kt,lt_or_ge->Ku,min_eq_left->Ji,mod_lt->Ja,mul_add->IJ,mul_assoc->KJ,mul_comm->Il,mul_le_mul->JW,mul_le_mul_left->Hw,mul_le_mul_right->II,mul_ne_zero->JC,mul_one->Ho,pos_of_ne_zero->JL,pow_add->KQ,pow_le_pow_right->Jd,pow_succ->Ll,zero_add->I5
open Nat.Coprime renaming coprime_dvd_left->Le,coprime_dvd_right->KZ
open Rat renaming den_intCast->KG,num_intCast->KH
variable {neg:Bool} {P S a l u u' v w:List Nat} {M N T b c c' d f g i j k lq m n q r s t x:Nat} {p:Prop} {y:Rat}
def Hid (p:Prop):Prop:=p
theorem Hid.o (h:Hid p):p:=h
theorem Ag (h:p):Hid p:=h
structure Gu (p:Prop):Prop where
 o:p
theorem zc8 {q:Prop} (k:q) (h:Gu q->p:=by
 intro A
 refine⟨by rw[List.length_set]; exact h.len,h.limbs.set hsl,?_,abz h.rest⟩
 rw[lD (by rw[h.len]; exact hk),dB,dB,Nat.pow_succ]
 exact A.o):p:=h ⟨k⟩
theorem zdo {q:Prop} (k:q) (h:Gu q->p:=by
 intro A
 have kC:k*C<=0:=Int.mul_nonpos_of_nonneg_of_nonpos k0 sC
 have kD:0<=k*D:=Int.mul_nonneg k0 sD
 revert kD
 revert kC
 exact A.o):p:=h ⟨k⟩
theorem zdp {q:Prop} (k:q) (h:Gu q->p:=by
 intro A
 have kD:k*D<=0:=Int.mul_nonpos_of_nonneg_of_nonpos k0 sD
 have kC:0<=k*C:=Int.mul_nonneg k0 sC
 revert kC
 revert kD
 exact A.o):p:=h ⟨k⟩
theorem LG {c:Prop} {h:Decidable c} (H:¬c) {α:Sort _} {t e:α}:ite c t e=e:=if_neg H
theorem LH {c:Prop} {h:Decidable c} (H:c) {α:Sort _} {t e:α}:ite c t e=t:=if_pos H
theorem LJ [Decidable p] (h:¬p):decide p=false:=decide_eq_false h
theorem LK [Decidable p] (h:p):decide p=true:=decide_eq_true h
theorem FI (h:p:=by omega):p:=h
theorem au (h:p:=by decide):p:=h
theorem aA (h:p:=by simp):p:=h
theorem aB (h:p:=by (simp; omega)):p:=h
theorem Gp {α:Sort _} (a:α):∃ x,x=a:=⟨_,rfl⟩
abbrev LB:Nat:=1000000000
def aF:List Nat->Nat
 | []=>0
 | x :: r=>x+LB*aF r
def dig (n:Nat):List Nat:=if h:n=0 then [] else (n % LB) :: dig (n / LB)
termination_by n
decreasing_by exact Nat.div_lt_self FI au
def Limbs (l:List Nat):Prop:=∀ x∈l,x < LB
theorem bK:dig 0 = []:=by unfold dig; rfl
theorem qx (h:n≠0):dig n=(n % LB) :: dig (n / LB):=by rw[dig]; simp[h]
theorem qV:dig n = []↔n=0:=by grind [qx,bK]
theorem aZ (n:Nat):aF (dig n)=n:=by
 induction n using Nat.strongRecOn with
 | _ n ih=>grind [aF,dig]
theorem aO (n:Nat):Limbs (dig n):=by
 induction n using Nat.strongRecOn with
 | _ n ih =>
   by_cases h:n=0
   ·subst h;rw[bK];intro x hx;cases hx
   ·rw[qx h];intro x hx;rcases List.mem_cons.1 hx with rfl | hx
    ·grind
    ·exact ih _ (Nat.div_lt_self FI au) x hx
theorem ala (hx:x < LB) (h:x+LB*n≠0):dig (x+LB*n)=x :: dig n:=by grind [qx]
theorem Limbs.tail (h:Limbs (x :: l)):Limbs l:=λy hy=>h y (List.mem_cons_of_mem _ hy)
theorem Limbs.head (h:Limbs (x :: l)):x < LB:=h x (List.mem_cons_self)
theorem wI:∀ {l:List Nat},Limbs l->l.getLast?≠some 0->dig (aF l)=l
 | [],_,_=>bK
 | x :: r,h,hz=>by
  have hr:r.getLast?≠some 0:=by
   cases r with
   | nil=>simp
   | cons y r=>rwa [List.getLast?_cons_cons] at hz
  have ih:=wI h.tail hr;have h0:x+LB*aF r≠0:=by
   intro h0;have hx:x=0:=FI;have hn:aF r=0:=by
    rcases Nat.mul_eq_zero.1 (show LB*aF r=0 by omega) with h | h
    ·exact absurd h au
    ·exact h
   rw[hn,bK] at ih;subst hx;rw[<-ih] at hz;exact hz rfl
  show dig (x+LB*aF r)=x :: r;rw[ala h.head h0,ih]
theorem iC (l m:List Nat):aF (l++m)=aF l+LB ^ l.length*aF m:=by induction l <;> grind [aF]
theorem gq (h:Limbs l):aF l < LB ^ l.length:=by
 induction l with
 | nil=>simp[aF]
 | cons x l ih =>
   have h1:=ih h.tail;have h2:=h.head;grind [aF]
theorem ai7 (h0:l≠[]) (hz:l.getLast?≠some 0):LB ^ (l.length - 1)<=aF l:=by
 rw[<-List.dropLast_concat_getLast h0,iC];have hl:l.getLast h0≠0:=by grind
 have h1:1<=aF [l.getLast h0]:=by show 1<=l.getLast h0+LB*0;omega
 have h2:=Hw (LB ^ l.dropLast.length) h1;grind
theorem uG (n:Nat):(dig n).getLast?≠some 0:=by
 induction n using Nat.strongRecOn with
 | _ n ih=>grind [bK,qx]
theorem bC (h:n < LB ^ k):(dig n).length<=k:=by
 by_cases h0:n=0
 ·grind [bK]
 ·have h1:=ai7 (l:=dig n) (λh=>h0 (qV.1 h)) (uG n);rw[aZ] at h1;have h2:LB ^ ((dig n).length - 1) < LB ^ k:=Nat.lt_of_le_of_lt h1 h;grind [Nat.pow_lt_pow_iff_right]
theorem nI (n:Nat):n < LB ^ (dig n).length:=by grind [gq,aO,aZ]
theorem aaZ (h:n≠0):LB ^ ((dig n).length - 1)<=n:=by grind [ai7,uG,aZ]
theorem aV (h:m<=n):(dig m).length<=(dig n).length:=bC (Nat.lt_of_le_of_lt h (nI n))
theorem ad8 (h:Limbs l) (hge:l≠[]->LB ^ (l.length - 1)<=aF l):dig (aF l)=l:=by
 refine wI h (λhz=>?_);have h0:l≠[]:=by intro h;subst h;cases hz
 have h1:=hge h0;rw[List.getLast?_eq_some_getLast h0] at hz;injection hz with hz
 rw[<-List.dropLast_concat_getLast h0,iC,hz] at h1;have h2:=gq (l:=l.dropLast) (λx hx=>h x (List.dropLast_subset l hx));grind [aF]
def eF (l:List Nat):Nat->Nat
 | 0=>0
 | n+1=>if l[n]? = some 0 then eF l n else n+1
theorem ad9 (l:List Nat) (n:Nat):eF l n<=n:=by
 induction n with
 | zero=>exact Gy _
 | succ n ih=>grind [eF]
theorem aco (l:List Nat):aF (l ++ [0])=aF l:=by rw[iC]; simp[aF]
theorem aea {l:List Nat} (h:Limbs l):∀ {n:Nat},n<=l.length->l.take (eF l n)=dig (aF (l.take n))
 | 0,_=>by simp[eF,aF,bK]
 | n+1,hn=>by
  have hx:l[n]? = some l[n]:=Jr FI;have ht:l.take (n+1)=l.take n ++ [l[n]]:=by rw[List.take_add_one,hx]; rfl
  unfold eF;split
  ·rename_i hz
   rw[hx] at hz; injection hz with hz
   rw[ht,hz,aco];exact aea h FI
  ·rename_i hz
   rw[hx] at hz;have hz':l[n]≠0:=λe=>hz (by rw[e])
   rw[wI (l:=l.take (n+1)) (λx hx=>h x (List.mem_of_mem_take hx))];rw[ht,List.getLast?_concat];intro e; injection e with e; exact hz' e
theorem afW (h:Limbs l):l.take (eF l l.length)=dig (aF l):=by grind [aea]
theorem FB:0 < LB:=au
theorem BK (k:Nat):0 < LB ^ k:=Nat.pow_pos au
theorem dB (l:List Nat) (i:Nat):aF (l.take (i+1))=aF (l.take i)+LB ^ i*l.getD i 0:=by grind [List.take_add_one,iC,Option.toList,Ji,Nat.le_of_lt,Option.getD,aF]
theorem cZ (l:List Nat) (i:Nat):aF (l.drop i)=l.getD i 0+LB*aF (l.drop (i+1)):=by grind [Jo,aF,Ip]
theorem fF (l:List Nat) (h:i<=l.length):aF l=aF (l.take i)+LB ^ i*aF (l.drop i):=by grind [List.take_append_drop,iC]
theorem afX (h:k < l.length) (v:Nat):aF (l.set k v)+LB ^ k*l.getD k 0=aF l+LB ^ k*v:=by
 have h1:=fF (l.set k v) (i:=k) aB;grind [fF,KY,cZ,KW]
theorem lD (h:k < l.length) (v:Nat):aF ((l.set k v).take (k+1))=aF (l.take k)+LB ^ k*v:=by grind [dB,KY]
theorem ug (h:k < l.length) (v:Nat):aF ((l.set k v).drop k)=v+LB*aF (l.drop (k+1)):=by grind [cZ,KW]
theorem jY (l:List Nat) (x:Nat):aF (l ++ [x])=aF l+LB ^ l.length*x:=by
 rw[iC];simp[aF]
theorem acp (n:Nat):aF (GX n 0)=0:=by induction n <;> grind [aF]
theorem Limbs.set (h:Limbs l) {v:Nat} (hv:v < LB):Limbs (l.set k v):=by
 intro x hx;rcases List.mem_or_eq_of_mem_set hx with h1 | h1
 ·exact h x h1
 grind
theorem Limbs.concat (h:Limbs l) (hx:x < LB):Limbs (l ++ [x]):=by
 intro y hy;rcases List.mem_append.1 hy with h1 | h1
 ·exact h y h1
 grind
theorem Limbs.zeros (n:Nat):Limbs (GX n 0):=by intro x hx; rw[List.mem_replicate] at hx; obtain⟨_,rfl⟩:=hx; decide
theorem Limbs.getD (h:Limbs l) (k:Nat):l.getD k 0 < LB:=by
 by_cases hk:k < l.length
 ·rw[GH,Jr hk];exact h _ (List.getElem_mem hk)
 grind
theorem Limbs.take (h:Limbs l) (k:Nat):Limbs (l.take k):=λx hx=>h x (List.mem_of_mem_take hx)
theorem Limbs.drop (h:Limbs l) (k:Nat):Limbs (l.drop k):=λx hx=>h x (List.mem_of_mem_drop hx)
theorem Limbs.get (h:Limbs l) (hk:l[k]? = some x):x < LB:=h x (List.mem_of_getElem? hk)
theorem aJ (h:l[k]? = some x):l.getD k 0=x:=by grind
theorem gI (h:l.length<=k):l.getD k 0=0:=by grind
theorem o8 {o b:List Nat} (hl:o.length=i) (h:aF o+LB ^ i*c=aF (a.take i)+aF (b.take i)) (hs:s+LB*c'=a.getD i 0+b.getD i 0+c) :
  aF (o ++ [s])+LB ^ (i+1)*c'=aF (a.take (i+1))+aF (b.take (i+1)):=by grind [jY,dB]
theorem aac {o b:List Nat} (hl:i < o.length) (h:aF (o.take i)+aF (b.take i)=aF (a.take i)+LB ^ i*c) (hs:s+b.getD i 0+c=a.getD i 0+LB*c') :
  aF ((o.set i s).take (i+1))+aF (b.take (i+1))=aF (a.take (i+1))+LB ^ (i+1)*c':=by grind [lD,dB]
theorem qy {o b:List Nat} (hl:o.length=i) (h:aF o+aF (b.take i)=aF (a.take i)+LB ^ i*c) (hs:s+b.getD i 0+c=a.getD i 0+LB*c') :
  aF (o ++ [s])+aF (b.take (i+1))=aF (a.take (i+1))+LB ^ (i+1)*c':=by grind [jY,dB]
theorem ai8 {A B:Nat} (hle:B<=A) (hN:N < M) (h:N+B=A+M*c):N=A - B:=by
 rcases H6 c with h0 | h0
 ·grind
 ·have:M*1<=M*c:=Hw _ h0;omega
theorem alb {o:List Nat} {p:Nat} (hk:k < o.length) (h:aF o+LB ^ k*c=T) (hs:s+LB*c'=o.getD k 0+p+c):aF (o.set k s)+LB ^ (k+1)*c'=T+LB ^ k*p:=by grind [afX]
theorem yh {y:Nat} (hx:x < LB) (hy:y < LB):x*y<=999999998000000001:=by
 have:=JW (show x<=999999999 by unfold LB at hx; omega) (show y<=999999999 by unfold LB at hy; omega);omega
theorem zx {q:List Nat} {r' A:Nat} (hi:i < q.length) (h:aF (a.drop (i+1))=d*aF (q.drop (i+1))+r) (hs:r*LB+a.getD i 0=d*s+r') :
  aF (a.drop i)=d*aF ((q.set i s).drop i)+r':=by grind [cZ,ug]
def bZ (a b:Nat):Int:=if a < b then -1 else if a=b then 0 else 1
theorem afY {b:List Nat} {y:Nat} (ha:Limbs a) (hlen:a.length=b.length) (hd:a.drop (i+1)=b.drop (i+1)) (hx:a[i]? = some x) (hy:b[i]? = some y) (hlt:x < y):aF a < aF b:=by
 have hi:i < a.length:=by grind
 rw[fF a (i:=i) FI,fF b (i:=i) FI,cZ a i,cZ b i,aJ hx,aJ hy,hd,IJ,IJ];have h1:aF (a.take i) < LB ^ i:=by grind [gq,Limbs.take,Ik]
 have h2:LB ^ i*(x+1)<=LB ^ i*y:=Hw _ hlt;grind
theorem oq {a:Nat} (h:(dig a).length < (dig b).length):a < b:=by
 have hb0:b≠0:=by intro h0;subst h0;rw[bK] at h;simp at h
 have h1:=nI a;have h2:=aaZ hb0;have h3:LB ^ (dig a).length<=LB ^ ((dig b).length - 1):=Jd au FI;omega
theorem aad {a:Nat} (h:dig a=dig b):a=b:=by grind [aZ]
theorem jM {a y:Nat} (hlen:(dig a).length=(dig b).length) (hd:(dig a).drop (i+1)=(dig b).drop (i+1)) (hx:(dig a)[i]? = some x) (hy:(dig b)[i]? = some y) (hlt:x < y):a < b:=by
 have:=afY (aO a) hlen hd hx hy hlt;grind [aZ]
theorem uZ {b:List Nat} (hd:a.drop (i+1)=b.drop (i+1)) (hx:a[i]? = some x) (hy:b[i]? = some x):a.drop i=b.drop i:=by grind [Jo]
theorem iF (h0:n≠0) (h:n < LB):dig n = [n]:=by grind [qx,bK]
theorem ji:dig 1 = [1]:=iF au au
theorem acr:dig n = [1]↔n=1:=by grind [aad,ji]
theorem bD:0 < (dig n).length↔n≠0:=by grind [qV]
theorem aae:(dig n).length=0↔n=0:=by rw[List.length_eq_zero_iff,qV]
theorem yj:(dig n).length<=2->n < 1000000000000000000:=by grind [dig]
structure Est (u v:List Nat) (n:Nat):Prop where
 n2:2<=n
 ul:u.length=n+1
 vl:v.length=n
 lu:Limbs u
 lv:Limbs v
 half:LB<=2*v.getD (n - 1) 0
 less:aF u < LB*aF v
section
variable {u v:List Nat} {n:Nat}
theorem Est.alc (h:Est u v n):aF v=aF (v.take (n - 2))+LB ^ (n - 2)*(v.getD (n - 2) 0+LB*v.getD (n - 1) 0):=by
 have h2:=h.n2;rw[fF v (i:=n - 2) (by rw[h.vl]; omega),cZ,show n - 2+1=n - 1 by omega,cZ,show n - 1+1=n by omega,Ip (by rw[h.vl]; omega)];simp[aF]
theorem Est.aoc (h:Est u v n):aF u=aF (u.take (n - 2))+LB ^ (n - 2)*(u.getD (n - 2) 0+LB*(u.getD (n - 1) 0+LB*u.getD n 0)):=by
 have h2:=h.n2;rw[fF u (i:=n - 2) (by rw[h.ul]; omega),cZ,show n - 2+1=n - 1 by omega,cZ,show n - 1+1=n by omega,cZ,Ip (by rw[h.ul]; omega)];simp[aF]
theorem Est.anZ (h:Est u v n):aF (v.take (n - 2)) < LB ^ (n - 2):=by
 have:=gq (h.lv.take (n - 2));have h2:=h.n2;rwa [Ik,h.vl,Ji FI] at this
theorem Est.aoZ (h:Est u v n):aF (u.take (n - 2)) < LB ^ (n - 2):=by
 have:=gq (h.lu.take (n - 2));have h2:=h.n2;rwa [Ik,h.ul,Ji FI] at this
theorem Est.acs (h:Est u v n):0 < aF v:=by
 have:=h.alc;have h1:=h.half;have h3:1<=v.getD (n - 2) 0+LB*v.getD (n - 1) 0:=by unfold LB at *;omega
 have h4:=Hw (LB ^ (n - 2)) h3;grind
theorem Est.q_lt (h:Est u v n):aF u / aF v < LB:=(Jm h.acs).2 h.less
theorem Est.top_le (h:Est u v n):u.getD n 0<=v.getD (n - 1) 0:=by
 have hu:=h.aoc;have hv:=h.alc;have hl:=h.anZ;have hless:=h.less;rcases Ku (v.getD (n - 1) 0) (u.getD n 0) with hh | hh
 ·exfalso
  have h2:=h.lv.getD (n - 2);have a1:aF v < LB ^ (n - 2)*(LB*(v.getD (n - 1) 0+1)):=by
    rw[hv];have:v.getD (n - 2) 0+LB*v.getD (n - 1) 0+1<=LB*(v.getD (n - 1) 0+1):=by rw[IJ];omega
    have:=Hw (LB ^ (n - 2)) this;grind
  have a2:LB*aF v < LB*(LB ^ (n - 2)*(LB*(v.getD (n - 1) 0+1))):=Nat.mul_lt_mul_of_pos_left a1 FB;have a3:LB*(LB ^ (n - 2)*(LB*(v.getD (n - 1) 0+1)))=LB ^ (n - 2)*(LB*(LB*(v.getD (n - 1) 0+1))):=by grind
  have a4:LB ^ (n - 2)*(LB*(LB*(v.getD (n - 1) 0+1)))<=LB ^ (n - 2)*(u.getD (n - 2) 0+LB*(u.getD (n - 1) 0+LB*u.getD n 0)):=by
    apply Hw
    grind
  omega
 ·exact hh
theorem Est.aeb (h:Est u v n) (hq:u.getD n 0*LB+u.getD (n - 1) 0=q*v.getD (n - 1) 0+r) (ht:LB<=q\/r*LB+u.getD (n - 2) 0 < q*v.getD (n - 2) 0):aF u / aF v < q:=by
 rcases ht with ht | ht
 ·exact Hz h.q_lt ht
 ·rw[Jm h.acs,h.aoc];have hu:=h.aoZ;have e1:u.getD (n - 2) 0+LB*(u.getD (n - 1) 0+LB*u.getD n 0)+1<=q*(v.getD (n - 2) 0+LB*v.getD (n - 1) 0):=by grind
  have e2:LB ^ (n - 2)*(u.getD (n - 2) 0+LB*(u.getD (n - 1) 0+LB*u.getD n 0)+1)<=LB ^ (n - 2)*(q*(v.getD (n - 2) 0+LB*v.getD (n - 1) 0)):=Hw _ e1;have e3:LB ^ (n - 2)*(q*(v.getD (n - 2) 0+LB*v.getD (n - 1) 0))<=q*aF v:=by
    rw[h.alc,Nat.mul_left_comm,IJ q];omega
  grind
theorem Est.r_lt (h:Est u v n) (hq:u.getD n 0*LB+u.getD (n - 1) 0=q*v.getD (n - 1) 0+r) (ht:LB<=q):r < LB:=by
 have h1:=h.top_le;have h2:=h.lu.getD (n - 1);have h3:u.getD n 0*LB<=v.getD (n - 1) 0*LB:=II _ h1;have h4:LB*v.getD (n - 1) 0<=q*v.getD (n - 1) 0:=II _ ht;grind
theorem Est.almost (h:Est u v n) (hq:u.getD n 0*LB+u.getD (n - 1) 0=q*v.getD (n - 1) 0+r) (hge:aF u / aF v<=q) (ht:¬ (r < LB/\(LB<=q\/r*LB+u.getD (n - 2) 0 < q*v.getD (n - 2) 0))) :
  q < LB/\aF u / aF v<=q/\q<=aF u / aF v+1:=by
 have hqB:q < LB:=by grind [Ku,Est.r_lt]
 refine⟨hqB,hge,?_⟩;have ht2:q*v.getD (n - 2) 0<=r*LB+u.getD (n - 2) 0:=by
   rcases Ku r LB with h1 | h1
   ·grind
   ·have h2:=h.lv.getD (n - 2);have h3:q*v.getD (n - 2) 0<=LB*LB:=JW FI FI;grind
 have e1:q*(v.getD (n - 2) 0+LB*v.getD (n - 1) 0)<=u.getD (n - 2) 0+LB*(u.getD (n - 1) 0+LB*u.getD n 0):=by grind
 have e2:=Hw (LB ^ (n - 2)) e1;have e3:q*aF v=q*aF (v.take (n - 2))+LB ^ (n - 2)*(q*(v.getD (n - 2) 0+LB*v.getD (n - 1) 0)):=by rw[h.alc,IJ,Nat.mul_left_comm q]
 have hlow:=h.anZ;have hu:=h.aoc;have hv:=h.alc;have e4:q*aF (v.take (n - 2))<=LB*LB ^ (n - 2):=JW FI FI;have htop:=h.half;have e5:LB ^ (n - 2)*(LB*1)<=LB ^ (n - 2)*(v.getD (n - 2) 0+LB*v.getD (n - 1) 0):=by
   apply Hw
   grind
 have e6:LB ^ (n - 2)*(LB*1)=LB*LB ^ (n - 2):=by rw[Ho,Il]
 have key:q*aF v<=aF u+aF v:=FI;rcases H6 q with h0 | h0
 ·grind
 ·have:(q - 1)*aF v<=aF u:=by rw[Nat.sub_mul,Nat.one_mul];omega
  exact Nat.le_add_of_sub_le ((Jy h.acs).2 this)
end
theorem sK (hb:b≠0):1<=(dig b).getD ((dig b).length - 1) 0/\(dig b).getD ((dig b).length - 1) 0 < LB/\(dig b).getD ((dig b).length - 1) 0*LB ^ ((dig b).length - 1)<=b:=by
 have hp:=bD.2 hb;have hl:=uG b;have e:(dig b).getLast? = some ((dig b).getD ((dig b).length - 1) 0):=by grind
 refine⟨?_,(aO b).getD _,?_⟩
 ·grind
 ·have h1:=fF (dig b) (i:=(dig b).length - 1) FI;rw[aZ,cZ,show(dig b).length - 1+1=(dig b).length by omega,Ip (Gy _)] at h1;grind
theorem ald (hb:b≠0) (hr:r < LB*b):r / b<=min (r / LB ^ ((dig b).length - 1) / (dig b).getD ((dig b).length - 1) 0) (LB - 1):=by
 obtain⟨h1,_,h3⟩:=sK hb;rw[Nat.le_min];constructor
 ·rw[Nat.div_div_eq_div_mul];refine(Jy (Nat.mul_pos (BK _) h1)).2 ?_;rw[Il (LB ^ _)];exact Nat.le_trans (Hw _ h3) (Lh r b)
 ·have:r / b < LB:=(Jm FI).2 hr;omega
theorem ale (hb:b≠0) (hge:r / b<=d) (hle:b*d<=r):d=r / b:=by
 have:d<=r / b:=(Jy FI).2 (by rw[Il]; exact hle);omega
theorem ajB (h:d=r / b):r - b*d=r % b:=by grind [Jh]
theorem ajC {q:List Nat} (hi:i < q.length) (h:aF (a.drop (i+1))=b*aF (q.drop (i+1))+r) (hd:d=(a.getD i 0+LB*r) / b) :
  aF (a.drop i)=b*aF ((q.set i d).drop i)+(a.getD i 0+LB*r) % b:=by grind [cZ,ug,Jh]
theorem aby {a:Nat} (hf:0 < f) (h:a*f=b*f*q+r) (hr:r < b*f):q=a / b/\r / f=a % b:=by grind [Il,Nat.add_mul_div_right,JH,Nat.add_mul_mod_self_right,Nat.mod_eq_of_lt,Nat.mul_div_mul_right,Nat.mul_mod_mul_right,Nat.mul_div_cancel]
theorem iZ (h1:1<=t) (h2:t < LB):1<=LB / (t+1)/\LB / (t+1)<=500000000/\LB / (t+1)*(t+1)<=LB/\LB<=2*(t*(LB / (t+1)))+2*(LB / (t+1))+2*t/\LB < (LB / (t+1)+1)*(t+1):=by
 have a1:1<=LB / (t+1):=(Jy FI).2 FI;have a2:LB / (t+1)<=LB / 2:=Nat.div_le_div_left FI FI;have a3:=Lh LB (t+1);have a4:LB < (LB / (t+1)+1)*(t+1):=Nat.lt_mul_of_div_lt FI FI;grind
theorem afZ (h1:1<=t) (h2:t < LB):LB<=2*(t*(LB / (t+1))):=by
 obtain⟨a1,a2,a3,_,a4⟩:=iZ h1 h2;generalize hf:LB / (t+1)=f at *;rw[Nat.add_mul,IJ,Il f t] at a4;rw[IJ,Il f t] at a3;have a6:LB < t*f+f+t+1:=FI;have a7:LB=1000000000:=rfl;by_cases hft:f=1
 ·grind
 ·by_cases ht:t=1
  ·grind
  ·-- f,t >= 2:f+t <= f*t ; LB < t f+f+t+1
   have h3:2*t<=t*f:=by rw[Il];exact Hw t FI
   have h4:2*f<=t*f:=II f FI;omega
theorem set_mid (hP:P.length=j) (hk:k < u.length):(P++u++S).set (j+k) x=P++u.set k x++S:=by grind
theorem jR (hP:P.length=j) (hk:k < u.length):(P++u++S)[j+k]? = u[k]?:=by grind
theorem abz (h:u.drop k=w.drop k):(u.set k x).drop (k+1)=w.drop (k+1):=by rw[KW FI,<-List.drop_drop,<-List.drop_drop,h]
theorem mO (h:u.drop k=w.drop k):u[k]? = w[k]?:=by
 have h1:(u.drop k)[0]? = (w.drop k)[0]?:=by rw[h]
 grind
structure Du (u v:List Nat) (q k c:Nat) (u':List Nat):Prop where
 len:u'.length=u.length
 limbs:Limbs u'
 eq:aF (u'.take k)+q*aF (v.take k)=aF (u.take k)+LB ^ k*c
 rest:u'.drop k=u.drop k
theorem Du.start (h:Limbs u):Du u v q 0 0 u:=⟨rfl,h,by simp[aF],rfl⟩
theorem Du.step (h:Du u v q k c u') (hk:k < u.length) (hs:s+q*v.getD k 0+c=u.getD k 0+LB*c') (hsl:s < LB):Du u v q (k+1) c' (u'.set k s):=by
 refine zc8 ?_;have e:LB ^ k*(s+q*v.getD k 0+c)=LB ^ k*(u.getD k 0+LB*c'):=by rw[hs]
 have:=h.eq;grind
structure DV (u v:List Nat) (k c:Nat) (u':List Nat):Prop where
 len:u'.length=u.length
 limbs:Limbs u'
 eq:aF (u'.take k)+LB ^ k*c=aF (u.take k)+aF (v.take k)
 rest:u'.drop k=u.drop k
theorem DV.start (h:Limbs u):DV u v 0 0 u:=⟨rfl,h,by simp[aF],rfl⟩
theorem DV.step (h:DV u v k c u') (hk:k < u.length) (hs:s+LB*c'=u.getD k 0+v.getD k 0+c) (hsl:s < LB):DV u v (k+1) c' (u'.set k s):=by
 refine zc8 ?_;have e:LB ^ k*(s+LB*c')=LB ^ k*(u.getD k 0+v.getD k 0+c):=by rw[hs]
 have:=h.eq;grind
theorem qM (h:u.length=n+1):aF u=aF (u.take n)+LB ^ n*u.getD n 0:=by grind [fF,cZ,aF]
section
variable {u v u':List Nat} {n q c:Nat}
theorem Est.aod (h:Est u v n):aF v < LB ^ n:=by have:=gq h.lv; rwa [h.vl] at this
theorem aaf (h:Est u v n) (hm:Du u v q n c u'):aF (u'.take n)+q*aF v+LB ^ n*u.getD n 0=aF u+LB ^ n*c:=by
 have h1:=hm.eq;rw[G8 (l:=v) (by rw[h.vl]; omega)] at h1;have h2:=qM h.ul;omega
theorem sN (hl:Limbs u') (hn:n<=u'.length):aF (u'.take n) < LB ^ n:=by grind [gq,Limbs.take,Ik]
theorem acu (h:Est u v n) (hm:Du u v q n c u') (hq1:aF u / aF v<=q) (hq2:q<=aF u / aF v+1) (hc:c<=u.getD n 0):q=aF u / aF v/\aF (u'.take n)=aF u % aF v:=by
 have he:=aaf h hm;have hv:=h.acs;have h1:LB ^ n*c<=LB ^ n*u.getD n 0:=Hw _ hc;have h2:q*aF v<=aF u:=FI;have h3:q<=aF u / aF v:=(Jy hv).2 h2;have hq:q=aF u / aF v:=FI;refine⟨hq,?_⟩;have h4:=Jh (aF u) (aF v);have h5:=Ja (aF u) hv;rw[<-hq,Il (aF v) q] at h4;have hvl:=h.aod;have hcu:c=u.getD n 0:=by
   rcases Ku c (u.getD n 0) with hlt | hge
   ·have:LB ^ n*(c+1)<=LB ^ n*u.getD n 0:=Hw _ hlt;grind
   ·omega
 grind
theorem aec (h:Est u v n) (hm:Du u v q n c u') (hq1:aF u / aF v<=q) (hq2:q<=aF u / aF v+1) (hc:u.getD n 0 < c) {u2:List Nat} {o:Nat} (ha:DV u' v n o u2):q=aF u / aF v+1/\aF (u2.take n)=aF u % aF v:=by
 have he:=aaf h hm;have hv:=h.acs;have h1:LB ^ n*(u.getD n 0+1)<=LB ^ n*c:=Hw _ hc;rw[IJ,Ho] at h1;have hlt:=sN hm.limbs (n:=n) (by rw[hm.len,h.ul]; omega);have h2:aF u < q*aF v:=FI;have h3:aF u / aF v < q:=(Jm hv).2 h2;have hq:q=aF u / aF v+1:=FI;refine⟨hq,?_⟩;have h4:=Jh (aF u) (aF v);have h5:=Ja (aF u) hv;have hvl:=h.aod;have hqv:q*aF v=aF v*(aF u / aF v)+aF v:=by rw[hq,Nat.add_mul,Nat.one_mul,Il]
 have ha1:=ha.eq;rw[G8 (l:=v) (by rw[h.vl]; omega)] at ha1;have hlt2:=sN ha.limbs (n:=n) (by rw[ha.len,hm.len,h.ul]; omega);obtain⟨D,hD⟩:∃ D,c=u.getD n 0+D:=⟨c - u.getD n 0,FI⟩;have e1:LB ^ n*c=LB ^ n*u.getD n 0+LB ^ n*D:=by rw[hD,IJ]
 have e2:aF (u2.take n)+LB ^ n*o=aF u % aF v+LB ^ n*D:=FI;rcases Nat.lt_trichotomy o D with ho | ho | ho
 ·have:LB ^ n*(o+1)<=LB ^ n*D:=Hw _ ho;rw[IJ,Ho] at this;omega
 ·subst ho;omega
 ·have:LB ^ n*(D+1)<=LB ^ n*o:=Hw _ ho;rw[IJ,Ho] at this;omega
end
theorem aed {R:Nat} (hl:u'.length=n+1) (h:aF (u'.take n)=R):aF (u'.set n 0)=R:=by
 rw[qM (u:=u'.set n 0) (n:=n) (by rw[Hy]; exact hl),KY (Gy _),h];grind
theorem Est.first (he:Est u v n) (hq:u.getD n 0*LB+u.getD (n - 1) 0=q*v.getD (n - 1) 0+r) (hr:r < v.getD (n - 1) 0):aF u / aF v<=q/\q<=1000000002:=by
 have h2:=he.n2;have hv:aF v=aF (v.take (n - 1))+LB ^ (n - 1)*v.getD (n - 1) 0:=qM (u:=v) (n:=n - 1) (by rw[he.vl]; omega);have hu:aF u=aF (u.take (n - 1))+LB ^ (n - 1)*(u.getD (n - 1) 0+LB*u.getD n 0):=by
  rw[fF u (i:=n - 1) (by rw[he.ul]; omega),cZ,show n - 1+1=n by omega,cZ,Ip (by rw[he.ul]; omega)];simp[aF]
 have hul:=sN he.lu (n:=n - 1) (by rw[he.ul]; omega);have hvp:=he.acs;constructor
 ·have h1:=Lh (aF u) (aF v);generalize aF u / aF v=Q at *;have h3:Q*(LB ^ (n - 1)*v.getD (n - 1) 0)<=Q*aF v:=Hw _ FI;have h4:LB ^ (n - 1)*(Q*v.getD (n - 1) 0) < LB ^ (n - 1)*(u.getD (n - 1) 0+LB*u.getD n 0+1):=by
   rw[Nat.mul_left_comm,IJ (LB ^ (n - 1)) _ 1,Ho];omega
  have h5:=Kt h4;have h6:LB*u.getD n 0=u.getD n 0*LB:=Il _ _;have h7:Q*v.getD (n - 1) 0 < (q+1)*v.getD (n - 1) 0:=by rw[Nat.add_mul,Nat.one_mul];omega
  have:=Nat.lt_of_mul_lt_mul_right h7;omega
 ·have ht:=he.top_le;have hh:=he.half;have h1:=he.lu.getD (n - 1);generalize v.getD (n - 1) 0=t at *;generalize u.getD n 0=x at *;generalize u.getD (n - 1) 0=y at *;have h3:x*LB<=t*LB:=II _ ht;have h4:q*t<=(LB+2)*t:=by rw[Nat.add_mul,Il LB t];omega
  have hLB:LB=1000000000:=rfl;have h5:=Nat.le_of_mul_le_mul_right h4 FI;omega
structure BP (a f:Nat) (v:List Nat) (n la k:Nat) (U q:List Nat):Prop where
 ul:U.length=la+1
 af0:Limbs U
 ql:q.length=la - n+1
 aoe:Limbs q
 eq:a*f=aF v*LB ^ k*aF (q.drop k)+aF U
 lt:aF U < aF v*LB ^ k
 zero:∀ i,k+n<=i->U.getD i 0=0
structure DC (v:List Nat) (n b f:Nat):Prop where
 n2:2<=n
 vl:v.length=n
 lv:Limbs v
 half:LB<=2*v.getD (n - 1) 0
 eq:aF v=b*f
 f0:1<=f
theorem vk (h:∀ i,l.getD i 0=0):aF l=0:=by
 induction l with
 | nil=>rfl
 | cons x l ih =>
  have h0:=h 0;simp at h0;show x+LB*aF l=0;rw[ih (λi=>by have:=h (i+1); simpa using this),h0];simp
theorem getD_drop (l:List Nat) (j i:Nat):(l.drop j).getD i 0=l.getD (j+i) 0:=by grind
theorem ahD (U:List Nat) (j n:Nat):U=U.take j++(U.drop j).take (n+1)++U.drop (j+(n+1)):=by grind [List.drop_drop,List.take_append_drop]
section
variable {a b f:Nat} {v U q:List Nat} {n la j:Nat}
theorem BP.parts (h:BP a f v n la (j+1) U q) (hj:j+n<=la):aF U=aF (U.take j)+LB ^ j*aF ((U.drop j).take (n+1)):=by
 have e:=congrArg aF (ahD U j n);rw[iC,iC,Ik,h.ul,Ji FI] at e;have hz:aF (U.drop (j+(n+1)))=0:=vk λi=>by rw[getD_drop];exact h.zero _ FI
 grind
theorem BP.est (h:BP a f v n la (j+1) U q) (hv:DC v n b f) (hj:j+n<=la):Est ((U.drop j).take (n+1)) v n:=by
 have hp:=h.parts hj;refine⟨hv.n2,by rw[Ik,List.length_drop,h.ul]; omega,hv.vl,(h.af0.drop j).take _,hv.lv,hv.half,?_⟩;have hlt:=h.lt;rw[hp,Ll] at hlt;have h2:LB ^ j*aF ((U.drop j).take (n+1)) < LB ^ j*(LB*aF v):=by grind
 exact Kt h2
theorem BP.step (h:BP a f v n la (j+1) U q) (hv:DC v n b f) (hj:j+n<=la) (hul:u'.length=n+1) (hlim:Limbs u') (hu:aF u'=aF ((U.drop j).take (n+1)) % aF v) (hd:d=aF ((U.drop j).take (n+1)) / aF v) :
  BP a f v n la j (U.take j++u'++U.drop (j+(n+1))) (q.set j d):=by
 have hp:=h.parts hj;have aeY:=h.est hv hj;have hvp:=aeY.acs;have hmod:=Ja (aF ((U.drop j).take (n+1))) hvp;have hz:aF (U.drop (j+(n+1)))=0:=vk λi=>by rw[getD_drop];exact h.zero _ FI
 have hPl:(U.take j).length=j:=by rw[Ik,h.ul];omega
 have hPlt:=sN h.af0 (n:=j) (by rw[h.ul]; omega);have hU':aF (U.take j++u'++U.drop (j+(n+1)))=aF (U.take j)+LB ^ j*aF u':=by
  rw[iC,iC,hPl,hz,Nat.mul_zero,Nat.add_zero]
 have hdm:=Jh (aF ((U.drop j).take (n+1))) (aF v);rw[<-hd,<-hu] at hdm;rw[<-hu] at hmod;have hdl:d < LB:=by rw[hd];exact aeY.q_lt
 refine⟨?_,?_,by rw[Hy]; exact h.ql,h.aoe.set hdl,?_,?_,?_⟩
 ·simp only[List.length_append,List.length_drop,h.ul,hPl,hul];omega
 ·intro x hx;rw[List.mem_append,List.mem_append] at hx;rcases hx with(hx | hx) | hx
  ·exact h.af0.take j x hx
  ·exact hlim x hx
  ·exact h.af0.drop _ x hx
 ·rw[h.eq,hU',ug (by rw[h.ql]; omega),hp,<-hdm,Ll];grind
 ·rw[hU'];have:LB ^ j*(aF u'+1)<=LB ^ j*aF v:=Hw _ hmod;rw[IJ,Ho] at this;rw[Il (aF v)];omega
 ·intro i hi;have htop:u'.getD n 0=0:=by
   have h1:=qM hul;have h2:=aeY.aod;rcases H6 (u'.getD n 0) with h0 | h0
   ·exact h0
   ·have:LB ^ n*1<=LB ^ n*u'.getD n 0:=Hw _ h0;omega
  rw[GH,List.append_assoc,JI FI,hPl];by_cases hin:i=j+n
  ·rw[List.getElem?_append_left FI,show i - j=n by omega];rw[GH] at htop;exact htop
  ·rw[JI FI,hul,List.getElem?_drop,show j+(n+1)+(i - j - (n+1))=i by omega];have:=h.zero i FI;rwa [GH] at this
theorem BP.start (hv:DC v n b f) (hb:n=(dig b).length) (hla:la=(dig a).length) (hle:n<=la) (hul:U.length=la+1) (hlim:Limbs U) (hU:aF U=a*f):BP a f v n la (la - n+1) U (GX (la - n+1) 0):=by
 refine⟨hul,hlim,aA,Limbs.zeros _,?_,?_,λi hi=>gI (by rw[hul]; omega)⟩
 ·rw[Ip aA,hU];simp[aF]
 ·rw[hU,hv.eq];have hb0:b≠0:=by
   intro h0;rw[h0,bK] at hb;have:=hv.n2;simp at hb;omega
  have h1:=aaZ hb0;have h2:=nI a;rw[<-hb] at h1;rw[<-hla] at h2;have h3:LB ^ la<=b*LB ^ (la - n+1):=by
   have:LB ^ la=LB ^ (n - 1)*LB ^ (la - n+1):=by rw[<-KQ];congr 1;have:=hv.n2;omega
   rw[this];exact II _ h1
  have h4:a*f < b*LB ^ (la - n+1)*f:=Nat.mul_lt_mul_of_pos_right FI hv.f0;calc a*f < b*LB ^ (la - n+1)*f:=h4
   _=b*f*LB ^ (la - n+1):=by grind
theorem BP.last (h:BP a f v n la 0 U q) (hv:DC v n b f):aF q=a / b/\aF (U.take n) / f=a % b/\aF (U.take n)=aF U:=by
 have h1:=h.eq;have h2:=h.lt;rw[Nat.pow_zero,Ho,List.drop_zero,hv.eq] at h1;rw[Nat.pow_zero,Ho,hv.eq] at h2;have h3:=aby hv.f0 h1 h2;have h4:aF (U.take n)=aF U:=by
   by_cases hn:n<=U.length
   ·rw[fF U hn,vk (l:=U.drop n) λi=>by rw[getD_drop]; exact h.zero _ FI];simp
   ·rw[G8 FI]
 grind
end
theorem af2 (hn:n=(dig b).length) (h2:2<=n) (hvl:v.length=n) (hv:Limbs v) (he:aF v=b*(LB / ((dig b).getD (n - 1) 0+1))):DC v n b (LB / ((dig b).getD (n - 1) 0+1)):=by
 have hb0:b≠0:=by intro h0;rw[h0,bK] at hn;simp at hn;omega
 obtain⟨t1,t2,t3⟩:=sK hb0;rw[<-hn] at t1 t2 t3;obtain⟨f1,_,_,_,_⟩:=iZ t1 t2;have hh:=afZ t1 t2;refine⟨h2,hvl,hv,?_,he,f1⟩;generalize LB / ((dig b).getD (n - 1) 0+1)=f at *;generalize (dig b).getD (n - 1) 0=t at *;have hs:=qM (u:=v) (n:=n - 1) FI;have hlt:=sN hv (n:=n - 1) FI;have h3:LB ^ (n - 1)*(t*f)<=aF v:=by
  rw[he];have:=II f t3;calc LB ^ (n - 1)*(t*f)=t*LB ^ (n - 1)*f:=by grind
   _<=b*f:=this
 have h4:LB ^ (n - 1)*(t*f) < LB ^ (n - 1)*(v.getD (n - 1) 0+1):=by rw[IJ,Ho];omega
 have:=Kt h4;omega
theorem wJ (hn:n=(dig b).length) (hb0:b≠0):b*(LB / ((dig b).getD (n - 1) 0+1)) < LB ^ n:=by
 obtain⟨t1,t2,_⟩:=sK hb0;have hp:=bD.2 hb0;rw[<-hn] at t1 t2 hp;obtain⟨f1,_,f3,_,_⟩:=iZ t1 t2;have hs:=qM (u:=dig b) (n:=n - 1) FI;have hlt:=sN (aO b) (n:=n - 1) FI;rw[aZ] at hs;generalize LB / ((dig b).getD (n - 1) 0+1)=f at *;generalize (dig b).getD (n - 1) 0=t at *;have h1:b < LB ^ (n - 1)*(t+1):=by rw[IJ,Ho];omega
 have h2:b*f < LB ^ (n - 1)*(t+1)*f:=Nat.mul_lt_mul_of_pos_right h1 f1;have h3:LB ^ (n - 1)*(t+1)*f<=LB ^ (n - 1)*LB:=by rw[KJ,Il (t+1) f];exact Hw _ f3
 have h4:LB ^ (n - 1)*LB=LB ^ n:=by rw[<-Ll];congr 1;omega
 omega
theorem vC {a:Nat} (hf:f<=500000000):a*f < LB ^ ((dig a).length+1):=by
 have h1:=nI a;have h2:a*f<=a*LB:=Hw _ (by unfold LB; omega);grind
theorem o9 {o b:List Nat} {s t c c':Int} (hi:i < o.length) (h:(aF (o.take i):Int)+(LB ^ i:Nat)*c=s*aF (a.take i)+t*aF (b.take i))
  (hv:(x:Int)+(LB:Nat)*c'=s*(a.getD i 0:Nat)+t*(b.getD i 0:Nat)+c) :
  (aF ((o.set i x).take (i+1)):Int)+(LB ^ (i+1):Nat)*c'=s*aF (a.take (i+1))+t*aF (b.take (i+1)):=by
 rw[lD hi,dB,dB,Ll];grind
theorem ai9 {R c:Int} (hN:N < M) (h0:0<=R) (hR:R < M) (h:(N:Int)+(M:Int)*c=R):(N:Int)=R:=by
 rcases Int.lt_trichotomy c 0 with hc | hc | hc
 ·have:(M:Int)*c<=(M:Int)*(-1):=JV FI FI;omega
 ·grind
 ·have:(M:Int)*1<=(M:Int)*c:=JV FI FI;omega
structure Leh (a b M p0 q0 al be p q A B C D:Int):Prop where
 ha:a=p0*M+al
 hb:b=q0*M+be
 al0:0<=al
 al1:al < M
 be0:0<=be
 be1:be < M
 hp:p=A*p0+B*q0
 hq:q=C*p0+D*q0
 pA:0<=p+A
 pB:0<=p+B
 qC:0<=q+C
 qD:0<=q+D
 pA1:p+A<=p0+1
 pB1:p+B<=p0+1
 qC1:q+C<=p0+1
 qD1:q+D<=p0+1
 sign:(0<=A/\B<=0/\C<=0/\0<=D)\/(A<=0/\0<=B/\0<=C/\D<=0)
 y0:0<=C*a+D*b
 yx:C*a+D*b<=A*a+B*b
 xa:A*a+B*b<=a
 yb:C*a+D*b<=b
 prog:B=0\/C*a+D*b < b
 gcd:Int.gcd (A*a+B*b) (C*a+D*b)=Int.gcd a b
theorem Leh.start {a b M p0 q0 al be:Int} (ha:a=p0*M+al) (hb:b=q0*M+be) (al0:0<=al) (al1:al < M) (be0:0<=be) (be1:be < M) (hq0:0<=q0) (hqp:q0<=p0) (h0:0<=b) (hba:b<=a) :
  Leh a b M p0 q0 al be p0 q0 1 0 0 1 :=
 ⟨ha,hb,al0,al1,be0,be1,FI,FI,FI,FI,FI,FI,FI,FI,FI,FI,.inl ⟨FI,FI,FI,FI⟩,FI,FI,FI,FI,.inl rfl,aA⟩
section
variable {a b M p0 q0 al be p q A B C D:Int}
theorem Leh.x_eq (h:Leh a b M p0 q0 al be p q A B C D):A*a+B*b=p*M+(A*al+B*be):=by
 rw[h.ha,h.hb,h.hp];grind
theorem Leh.y_eq (h:Leh a b M p0 q0 al be p q A B C D):C*a+D*b=q*M+(C*al+D*be):=by
 rw[h.ha,h.hb,h.hq];grind
theorem Leh.af4 (h:Leh a b M p0 q0 al be p q A B C D):0<=p:=by
 have:=h.pA;have:=h.pB;rcases h.sign with⟨_,_,_,_⟩ | ⟨_,_,_,_⟩ <;> omega
theorem Leh.acv (h:Leh a b M p0 q0 al be p q A B C D):0<=q:=by
 have:=h.qC;have:=h.qD;rcases h.sign with⟨_,_,_,_⟩ | ⟨_,_,_,_⟩ <;> omega
theorem Leh.quot {p q A C k:Int} (hp:0<=p+A) (hq:0<=q+C) (h0:q+C≠0) (hk:k=(p+A) / (q+C)):0<=k/\k*(q+C)<=p+A/\p+A < (k+1)*(q+C):=by
 have hpos:0 < q+C:=FI;subst hk;exact⟨Int.ediv_nonneg hp hq,Int.ediv_mul_le _ h0,Int.lt_ediv_add_one_mul_self _ hpos⟩
theorem alf (x y k:Int):Int.gcd y (x - k*y)=Int.gcd x y:=by
 rw[Int.gcd_comm x y,Int.sub_eq_add_neg,<-Int.neg_mul];grind [Int.gcd_add_mul_right_right]
theorem Leh.step (h:Leh a b M p0 q0 al be p q A B C D) {k:Int} (hC:q+C≠0) (hD:q+D≠0) (hk:k=(p+A) / (q+C)) (hk':k=(p+B) / (q+D)) :
  Leh a b M p0 q0 al be q (p - k*q) C D (A - k*C) (B - k*D)/\(A - k*C)*a+(B - k*D)*b < C*a+D*b:=by
 obtain⟨k0,k1,k2⟩:=Leh.quot h.pA h.qC hC hk;obtain⟨_,k3,k4⟩:=Leh.quot h.pB h.qD hD hk';clear hk hk';have ex:=h.x_eq;have ey:=h.y_eq;have hM:0 < M:=by have:=h.al0;have:=h.al1;omega
 have hal:=h.al0;have hal1:=h.al1;have hbe:=h.be0;have hbe1:=h.be1;have exy:(A - k*C)*a+(B - k*D)*b=(A*a+B*b) - k*(C*a+D*b):=by grind
 have main:0<=(A*a+B*b) - k*(C*a+D*b)/\(A*a+B*b) - k*(C*a+D*b) < C*a+D*b:=by
   rw[ex,ey];rcases h.sign with⟨sA,sB,sC,sD⟩ | ⟨sA,sB,sC,sD⟩
   ·have f1:0<=((p+B) - k*(q+D))*M:=Ih FI FI;refine zdo ?_;intro kC kD;have f2:0<=(A - k*C)*al:=Ih FI hal;have f3:0<=(k*D - B)*(M - be):=Ih FI FI;have f4:1*M<=((k+1)*(q+C) - (p+A))*M:=J6 FI FI;have kC1:(k+1)*C<=0:=Lp FI sC;have kD1:0<=(k+1)*D:=Ih FI sD;have f5:0<=(A - (k+1)*C)*(M - al):=Ih FI FI;have f6:0<=((k+1)*D - B)*be:=Ih FI hbe;grind
   ·have f1:0<=((p+A) - k*(q+C))*M:=Ih FI FI;refine zdp ?_;intro kD kC;have f2:0<=(B - k*D)*be:=Ih FI hbe;have f3:0<=(k*C - A)*(M - al):=Ih FI FI;have f4:1*M<=((k+1)*(q+D) - (p+B))*M:=J6 FI FI;have kD1:(k+1)*D<=0:=Lp FI sD;have kC1:0<=(k+1)*C:=Ih FI sC;have f5:0<=(B - (k+1)*D)*(M - be):=Ih FI FI;have f6:0<=((k+1)*C - A)*al:=Ih FI hal;grind
 have hkq:0<=k*(q+C):=Ih k0 h.qC;have hkq':0<=k*(q+D):=Ih k0 h.qD;have pA1:=h.pA1;have pB1:=h.pB1;have g1:p - k*q+(A - k*C)=p+A - k*(q+C):=by grind
 have g2:p - k*q+(B - k*D)=p+B - k*(q+D):=by grind
 have hyb:=h.yb;refine⟨⟨h.ha,h.hb,hal,hal1,hbe,hbe1,h.hq,?_,h.qC,h.qD,by rw[g1]; omega,by rw[g2]; omega,h.qC1,h.qD1,by rw[g1]; omega,by rw[g2]; omega,?_,by rw[exy]; exact main.1,by rw[exy]; omega,?_,by rw[exy]; omega,.inr (by rw[exy]; omega),?_⟩,by rw[exy]; exact main.2⟩
 ·rw[h.hp,h.hq];grind
 ·rcases h.sign with⟨sA,sB,sC,sD⟩ | ⟨sA,sB,sC,sD⟩
  ·right
   refine zdo ?_;intro kC kD;grind
  ·left
   refine zdp ?_;intro kD kC;grind
 ·have:=h.yx;have:=h.xa;omega
 ·rw[exy,alf,h.gcd]
theorem Leh.bounds (h:Leh a b M p0 q0 al be p q A B C D) {k:Int} (hC:q+C≠0) (hD:q+D≠0) (hk:k=(p+A) / (q+C)) (hk':k=(p+B) / (q+D)) :
  0<=k/\k<=p0+1/\0<=k*q/\k*q<=p0+1∧-(p0+1)<=k*C/\k*C<=p0+1∧-(p0+1)<=k*D/\k*D<=p0+1:=by
 obtain⟨k0,k1,k2⟩:=Leh.quot h.pA h.qC hC hk;obtain⟨_,k3,k4⟩:=Leh.quot h.pB h.qD hD hk';have pA1:=h.pA1;have pB1:=h.pB1;have hqC:=h.qC;have hqD:=h.qD;have hq:=h.acv;have r1:k*(q+C)=k*q+k*C:=Int.mul_add _ _ _;have r2:k*(q+D)=k*q+k*D:=Int.mul_add _ _ _;have r3:0<=k*q:=Ih k0 hq;have r4:0<=k*(q+C):=Ih k0 hqC;have r5:0<=k*(q+D):=Ih k0 hqD;have r6:k*1<=k*(q+C):=JV FI k0;rcases h.sign with⟨sA,sB,sC,sD⟩ | ⟨sA,sB,sC,sD⟩
 ·refine zdo ?_;intro kC kD;omega
 ·refine zdp ?_;intro kD kC;omega
end
theorem aeZ (k m:Nat):(∀ i,i < k->(2 ^ k*(2*m+1)).testBit i=false)/\(2 ^ k*(2*m+1)).testBit k=true:=by grind
theorem ao0 (h:(2 ^ i*(2*m+1)) ||| (2 ^ j*(2*n+1))=2 ^ s*(2*r+1)):s=min i j:=by
 have hi:=aeZ i m;have hj:=aeZ j n;have hs:=aeZ s r;rw[<-h] at hs;have hs1:=hs.2;rw[Nat.testBit_or,Bool.or_eq_true] at hs1;have a1:min i j<=s:=by grind
 have a2:s<=min i j:=by grind
 omega
theorem am6 (k m:Nat):KO (2*m+1) (2 ^ k):=by
 apply Nat.Coprime.pow_right
 show Hr (2*m+1) 2=1;rw[IK,Nat.gcd_rec,show(2*m+1) % 2=1 by omega];rfl
theorem acf (k m b:Nat):Hr (2*m+1) (2 ^ k*b)=Hr (2*m+1) b:=Nat.Coprime.gcd_mul_left_cancel_right _ (am6 k m).symm
theorem am7 {a:Nat} (ha:a=2 ^ i*(2*m+1)) (hb:b=2 ^ j*(2*n+1)) (hs:(a ||| b)=2 ^ s*(2*r+1)):Hr (2*m+1) b*2 ^ s=Hr a b:=by
 have he:s=min i j:=ao0 (by rw[<-ha,<-hb]; exact hs);rw[hb,acf,ha,he];rcases Nat.le_total i j with h | h
 ·rw[Ji h];obtain⟨d,rfl⟩:∃ d,j=i+d:=⟨j - i,FI⟩;rw[KQ,KJ,JQ,acf,Il]
 ·rw[Nat.min_eq_right h];obtain⟨d,rfl⟩:∃ d,i=j+d:=⟨i - j,FI⟩;rw[KQ,KJ,JQ,IK (2 ^ d*_),acf,Il,IK]
theorem am8 (hl:l.length<=n) (hn:3<=n) (hT:lq*T=LB) (hL:Limbs l) :
  (l.getD (n - 1) 0*LB+l.getD (n - 2) 0)*lq+l.getD (n - 3) 0*lq / LB=aF l / (LB ^ (n - 3)*T):=by
 have hTp:0 < T:=by grind
 have htp:0 < lq:=by grind
 have e0:aF l=aF (l.take (n - 3))+LB ^ (n - 3)*(l.getD (n - 3) 0+LB*(l.getD (n - 2) 0+LB*l.getD (n - 1) 0)):=by grind [fF,cZ,aF,G8]
 have e1:aF (l.take (n - 3)) < LB ^ (n - 3):=by
   have:=gq (hL.take (n - 3));have h2:LB ^ (l.take (n - 3)).length<=LB ^ (n - 3):=Jd au (by rw[Ik]; omega);omega
 rw[e0,<-Nat.div_div_eq_div_mul,KP _ _ (BK _),JH e1,I5];generalize l.getD (n - 3) 0=z;generalize l.getD (n - 2) 0=y;generalize l.getD (n - 1) 0=x;have e2:z+LB*(y+LB*x)=z+T*(lq*(y+LB*x)):=by rw[<-hT];grind
 rw[e2,KP _ _ hTp];have e3:z*lq / LB=z / T:=by rw[<-hT,Il z,Nat.mul_div_mul_left _ _ htp]
 grind
theorem am9 (hl:l.length=n) (hn:3<=n) (hT:lq*T=LB) (hL:Limbs l) (ht:l.getD (n - 1) 0*lq < LB):aF l / (LB ^ (n - 3)*T) < 1000000000000000000:=by
 have hTp:0 < T:=by grind
 rw[Jm (Nat.mul_pos (BK _) hTp)];have h1:(l.getD (n - 1) 0+1)*lq<=LB:=by
   have:l.getD (n - 1) 0 < T:=by
     rcases Ku (l.getD (n - 1) 0) T with h | h
     ·exact h
     ·have:=Hw lq h;grind
   have h9:(l.getD (n - 1) 0+1)*lq<=T*lq:=II lq this;grind
 have h2:aF l < LB ^ (n - 1)*(l.getD (n - 1) 0+1):=by
   rw[fF l (i:=n - 1) FI,cZ,show n - 1+1=n by omega,Ip FI];have:=gq (hL.take (n - 1));grind [aF]
 have h3:LB ^ (n - 1)*(l.getD (n - 1) 0+1)*lq<=LB ^ (n - 1)*LB:=by rw[KJ];exact Hw _ h1
 have htp:0 < lq:=by grind
 have h4:LB ^ (n - 1)*LB=1000000000000000000*(LB ^ (n - 3)*T)*lq:=by
   have:LB ^ (n - 1)=LB ^ (n - 3)*LB ^ 2:=by rw[<-KQ];congr 1;omega
   grind
 rw[h4] at h3;have h5:=Nat.le_of_mul_le_mul_right h3 htp;omega
theorem front_eq (hl:l.length<=n) (hn:2<=n) (hL:Limbs l):l.getD (n - 1) 0*LB+l.getD (n - 2) 0=aF l / LB ^ (n - 2):=by
 have e0:aF l=aF (l.take (n - 2))+LB ^ (n - 2)*(l.getD (n - 2) 0+LB*l.getD (n - 1) 0):=by grind [fF,cZ,aF,G8]
 have e1:aF (l.take (n - 2)) < LB ^ (n - 2):=by
   have:=gq (hL.take (n - 2));have h2:LB ^ (l.take (n - 2)).length<=LB ^ (n - 2):=Jd au (by rw[Ik]; omega);omega
 rw[e0,KP _ _ (BK _),JH e1,I5,Il LB,Nat.add_comm]
def sgI (neg:Bool) (n:Nat):Int:=if neg then -(n:Int) else (n:Int)
def dh (x:Rat):Bool:=decide (x.num < 0)
theorem vF (neg:Bool) (n:Nat):(sgI neg n).natAbs=n:=by unfold sgI; split <;> simp
theorem aag (h:n≠0):decide (sgI neg n < 0)=neg:=by grind [sgI]
theorem qA (x:Rat):sgI (dh x) x.num.natAbs=x.num:=by grind [sgI,dh]
theorem af5 (neg:Bool):sgI neg 0=0:=by unfold sgI; cases neg <;> rfl
theorem ana (a b:Bool) (m n:Nat):sgI (a != b) (m*n)=sgI a m*sgI b n:=by grind [sgI]
theorem sO (a:Bool) (m n:Nat):sgI a (m*n)=sgI a m*(n:Int):=by grind [sgI]
theorem jZ (n:Int) (hd:d≠0):(mkRat n d).num.natAbs=n.natAbs / Hr n.natAbs d/\(mkRat n d).den=d / Hr n.natAbs d/\((mkRat n d).num < 0↔n < 0):=by
 have hg:0 < d.gcd n.natAbs:=Ky _ (JL hd);rw[Rat.num_mkRat,Rat.den_mkRat,LG hd,LG hd,IK n.natAbs d];have hdv:((d.gcd n.natAbs:Nat):Int) ∣ n:=Int.ofNat_dvd_left.2 (Jk _ _);refine⟨?_,rfl,?_⟩
 ·grind [Int.natAbs_ediv_of_dvd]
 ·obtain⟨c,hc⟩:=hdv;generalize d.gcd n.natAbs=G at *;rw[hc,Int.mul_ediv_cancel_left _ FI];constructor
  ·intro h;exact Int.mul_neg_of_pos_of_neg FI h
  ·intro h;rcases Int.lt_or_le c 0 with h1 | h1
   ·exact h1
   ·have:=Ih (show(0:Int)<=(G:Nat) by omega) h1;omega
theorem lT (n:Int) (hd:d≠0):dh (mkRat n d)=decide (n < 0):=by grind [dh,jZ]
theorem ou (hd:d≠0) (h:Hr n d=1):(mkRat (sgI neg n) d).num.natAbs=n/\(mkRat (sgI neg n) d).den=d:=by grind [jZ,sgI]
theorem aa0 (x:Rat):mkRat (sgI (dh x) x.num.natAbs) x.den=x:=by rw[qA,Rat.mkRat_self]
theorem jC (x:Rat):Hr x.num.natAbs x.den=1:=x.reduced
theorem kP (x:Rat):x.num.natAbs=0↔x=0:=by simp_all
theorem aof (x y:Rat) {l:Nat} (hg:g=Hr x.den y.den) (hl:l=x.den / g) (hr:r=y.den / g):x+y=mkRat (x.num*r+y.num*l) (l*y.den):=by
 have hgp:0 < g:=by rw[hg];exact Ky _ x.den_pos
 have e1:l*g=x.den:=by rw[hl,hg];exact LC (JE _ _)
 have e2:r*g=y.den:=by rw[hr,hg];exact LC (Jk _ _)
 rw[Rat.add_def'];have e3:x.num*(y.den:Int)+y.num*(x.den:Int)=(x.num*r+y.num*l)*(g:Nat):=by rw[<-e1,<-e2];simp only[Int.natCast_mul];grind
 have e4:x.den*y.den=(l*y.den)*g:=by rw[<-e1];grind
 rw[e3,e4,Rat.mkRat_mul_right FI]
theorem ajD (x y:Rat) {l:Nat} {t:Int} (hg:g=Hr x.den y.den) (hl:l=x.den / g) (hr:r=y.den / g) (ht:t=x.num*r+y.num*l) (hf:f=Hr t.natAbs g) :
  (x+y).num.natAbs=t.natAbs / f/\(x+y).den=l*(y.den / f)/\dh (x+y)=decide (t < 0):=by
 have hgp:0 < g:=by rw[hg];exact Ky _ x.den_pos
 have hlp:l≠0:=by
   intro h0;have e1:l*g=x.den:=by rw[hl,hg];exact LC (JE _ _)
   rw[h0] at e1;have:=x.den_pos;omega
 have hd:l*y.den≠0:=JC hlp y.den_nz;have e:=aof x y hg hl hr;rw[<-ht] at e;have hp:=jZ t hd;have ha:=Rat.add.aux x y hg hl hr;grind [Nat.dvd_trans,Jk,Nat.mul_div_assoc,lT]
theorem ajE (x y:Rat):(x*y).num.natAbs=(x.num.natAbs / Hr x.num.natAbs y.den)*(y.num.natAbs / Hr y.num.natAbs x.den) /\
  (x*y).den=(x.den / Hr y.num.natAbs x.den)*(y.den / Hr x.num.natAbs y.den)/\(x≠0->y≠0->dh (x*y)=(dh x != dh y)):=by
 have hd:x.den*y.den≠0:=JC x.den_nz y.den_nz;have hp:=jZ (x.num*y.num) hd;rw[<-Rat.mul_def',Int.natAbs_mul] at hp;have hg:Hr (x.num.natAbs*y.num.natAbs) (x.den*y.den)=Hr x.num.natAbs y.den*Hr y.num.natAbs x.den:=by
   have c1:=jC x;have c2:=jC y;generalize x.num.natAbs=a at *;generalize y.num.natAbs=b at *;generalize x.den=c at *;generalize y.den=d at *;obtain⟨a',ha⟩:=JE a d;obtain⟨d',hd'⟩:=Jk a d;obtain⟨b',hb⟩:=JE b c;obtain⟨c',hc⟩:=Jk b c;have hdp:0 < d:=JL λh=>hd (by rw[h,Nat.mul_zero])
   have hcp:0 < c:=JL λh=>hd (by rw[h,Nat.zero_mul])
   have hf:0 < Hr a d:=Jw _ hdp;have hg:0 < Hr b c:=Jw _ hcp;have k1:KO a' d':=by
     have:Hr a d*Hr a' d'=Hr a d:=by rw[<-JQ,<-ha,<-hd']
     exact Nat.eq_of_mul_eq_mul_left hf (by rw[this,Ho])
   have k2:KO b' c':=by
     have:Hr b c*Hr b' c'=Hr b c:=by rw[<-JQ,<-hb,<-hc]
     exact Nat.eq_of_mul_eq_mul_left hg (by rw[this,Ho])
   have k3:KO a' c':=by refine Le ⟨_,(ha.trans (Il _ _))⟩ (KZ ⟨_,(hc.trans (Il _ _))⟩ c1)
   have k4:KO b' d':=by refine Le ⟨_,(hb.trans (Il _ _))⟩ (KZ ⟨_,(hd'.trans (Il _ _))⟩ c2)
   generalize Hr a d=f at *;generalize Hr b c=g at *;have e1:a*b=f*g*(a'*b'):=by rw[ha,hb];grind
   have e2:c*d=f*g*(c'*d'):=by rw[hc,hd'];grind
   rw[e1,e2,JQ,show Hr (a'*b') (c'*d')=1 from Nat.Coprime.mul_left (Nat.Coprime.mul_right k3 k1) (Nat.Coprime.mul_right k2 k4),Ho]
 refine⟨?_,?_,?_⟩
 ·rw[hp.1,hg];exact Nat.mul_div_mul_comm (JE _ _) (JE _ _)
 ·rw[hp.2.1,hg,Il (Hr x.num.natAbs y.den)];exact Nat.mul_div_mul_comm (Jk _ _) (Jk _ _)
 ·intro hx hy;have hx':x.num≠0:=λh=>hx (Rat.num_eq_zero.1 h)
  have hy':y.num≠0:=λh=>hy (Rat.num_eq_zero.1 h)
  rw[Rat.mul_def',lT _ hd];unfold dh;rcases Int.lt_or_lt_of_ne hx' with h1 | h1 <;> rcases Int.lt_or_lt_of_ne hy' with h2 | h2
  ·have:=Int.mul_pos_of_neg_of_neg h1 h2;grind
  ·have:=Int.mul_neg_of_neg_of_pos h1 h2;grind
  ·grind [Int.mul_neg_of_pos_of_neg]
  grind
def iR (x y:Rat):Int:=if x < y then -1 else if x=y then 0 else 1
theorem dY (a b:Nat):(dig (a*b)).length<=(dig a).length+(dig b).length :=
 bC (by rw[KQ]; exact Nat.mul_lt_mul'' (nI a) (nI b))
theorem wK (a b:Nat):(dig (a+b)).length<=max (dig a).length (dig b).length+1:=by
 refine bC ?_;grind [Hz,nI,Jd]
theorem bW (a b:Nat):(dig (a / b)).length<=(dig a).length:=aV (Nat.div_le_self a b)
def rl (x:Rat):Nat:=max (dig x.num.natAbs).length (dig x.den).length
theorem fU (x:Rat):(dig x.num.natAbs).length<=rl x:=Nat.le_max_left _ _
theorem fV (x:Rat):(dig x.den).length<=rl x:=Nat.le_max_right _ _
theorem an0 {n:Int} (hd:d≠0) (h1:(dig n.natAbs).length<=k) (h2:(dig d).length<=k):rl (mkRat n d)<=k:=by grind [jZ,rl,bW]
theorem jQ (x y:Rat):rl (x*y)<=rl x+rl y:=by
 rw[Rat.mul_def'];refine an0 (JC x.den_nz y.den_nz) ?_ ?_
 all_goals grind [Int.natAbs_mul,dY,fU,fV]
theorem acw (x y:Rat):rl (x+y)<=rl x+rl y+1:=by
 rw[Rat.add_def'];have a1:=fU x;have a2:=fU y;have a3:=fV x;have a4:=fV y;refine an0 (JC x.den_nz y.den_nz) ?_ ?_
 ·have h1:(x.num*(y.den:Int)+y.num*(x.den:Int)).natAbs<=x.num.natAbs*y.den+y.num.natAbs*x.den:=by grind [Int.natAbs_add_le,Int.natAbs_mul]
  have h2:=aV h1;grind [wK,dY]
 grind [dY]
theorem aog (x:Rat):rl (-x)=rl x:=by grind [rl,Rat.neg_num,Rat.neg_den]
theorem lK:rl 0=1:=by unfold rl; rw[show(0:Rat).num=0 from rfl,show(0:Rat).den=1 from rfl,Int.natAbs_zero,bK,ji]; rfl
theorem ae0 (n:Int):rl (n:Rat)=max (dig n.natAbs).length 1:=by grind [rl,KH,KG,ji]
theorem aa1 (hy:y≠0):(y⁻¹).num.natAbs=y.den/\(y⁻¹).den=y.num.natAbs/\dh y⁻¹=dh y:=by
 have hn:y.num≠0:=λh=>hy (Rat.num_eq_zero.1 h)
 rw[Rat.inv_def];have hnd:y.num.natAbs≠0:=FI;have e:Rat.divInt (y.den:Int) y.num=mkRat (sgI (dh y) y.den) y.num.natAbs:=by
  have h1:y.num=sgI (dh y) y.num.natAbs:=(qA y).symm;have h2:Rat.divInt (y.den:Int) y.num=Rat.divInt (y.den:Int) (sgI (dh y) y.num.natAbs):=by rw[<-h1]
  rw[h2];unfold sgI;cases dh y
  ·simp[Rat.divInt_ofNat]
  ·simp only[if_true];rw[<-Rat.neg_divInt_neg,Int.neg_neg,Rat.divInt_ofNat]
 rw[e];have hg:Hr y.den y.num.natAbs=1:=by rw[IK];exact jC y
 have hp:=ou (neg:=dh y) hnd hg;refine⟨hp.1,hp.2,?_⟩;rw[lT _ hnd];exact aag y.den_nz
theorem ahE (hy:y≠0):rl y⁻¹=rl y:=by grind [rl,aa1]
theorem anb {x:Rat} (hn:x.num.natAbs=y.num.natAbs) (hd:x.den=y.den) (hs:dh x=dh y):x=y:=by grind [aa0]
theorem ajF:dh 0=false:=rfl
theorem alg {x:Rat} (h:x≠0):dh (-x) = !dh x:=by grind [Rat.num_eq_zero,dh,Rat.neg_num]
theorem ahF (x:Rat):dig x.den≠[]:=λh=>x.den_nz (qV.1 h)
theorem ajG {x:Rat} (hx:x.den=1) (hy:y.den=1):(x+y).den=1/\(x+y).num=x.num+y.num:=by
 have ex:x=(x.num:Rat):=Rat.ext (KH _).symm (by rw[hx,KG]);have ey:y=(y.num:Rat):=Rat.ext (KH _).symm (by rw[hy,KG]);have e:x+y=((x.num+y.num:Int):Rat):=by grind
 rw[e];exact⟨KG _,KH _⟩
def oz (x:Rat):Int:=if x.num.natAbs=0 then 0 else if dh x then -1 else 1
theorem ae1 (x:Rat):oz x=if x.num < 0 then -1 else if x.num=0 then 0 else 1:=by grind [oz,dh]
theorem ahG (x y:Rat):x=y↔x.num*y.den=y.num*x.den:=by
 constructor
 ·grind
 ·intro h;exact Rat.le_antisymm ((Rat.le_iff x y).2 (Int.le_of_eq h)) ((Rat.le_iff y x).2 (Int.le_of_eq h.symm))
theorem ae2 (x y:Rat):iR x y=if x.num*y.den < y.num*x.den then -1 else if x.num*y.den=y.num*x.den then 0 else 1:=by grind [iR,Rat.lt_iff,ahG]
theorem af6 {x:Rat} (h:oz x < oz y):iR x y = -1/\iR y x=1:=by
 have dx:(0:Int) < x.den:=by have:=x.den_pos;omega
 have dy:(0:Int) < y.den:=by have:=y.den_pos;omega
 have hl:x.num*y.den < y.num*x.den:=by
   rw[ae1,ae1] at h;rcases Int.lt_trichotomy x.num 0 with h1 | h1 | h1
   ·rw[LH h1] at h;have a1:=Int.mul_neg_of_neg_of_pos h1 dy;have a2:0<=y.num:=by grind
    have:=Ih a2 (Int.le_of_lt dx);omega
   ·rw[LG FI,LH h1] at h;rw[h1];have a2:0 < y.num:=by grind
    have:=Int.mul_pos a2 dx;omega
   grind
 grind [ae2]
theorem alh {x:Rat} (h:oz x=oz y) (h0:oz x=0):iR x y=0:=by grind [oz,ae2]
theorem ali {x:Rat} (h:oz x=oz y) (h0:oz x≠0):iR x y=oz x*bZ (x.num.natAbs*y.den) (y.num.natAbs*x.den):=by
 have ex:=qA x;have ey:=qA y;have hn:dh x=dh y:=by grind [oz]
 have hx0:x.num.natAbs≠0:=λe=>h0 (by unfold oz; rw[LH e])
 have e1:x.num*y.den=sgI (dh x) (x.num.natAbs*y.den):=by rw[sO,ex]
 have e2:y.num*x.den=sgI (dh x) (y.num.natAbs*x.den):=by rw[sO,hn,ey]
 grind [ae2,oz,bZ,sgI]
theorem alj (x y:Rat):iR x y=oz (x + -y):=by
 unfold iR;rw[ae1];have h1:x < y↔(x + -y).num < 0:=by grind [Rat.num_nonneg]
 grind [Rat.num_eq_zero]
theorem jc (x y:Rat):iR x y=0↔x=y:=by grind [iR]
theorem aah (x y:Rat):0 < iR x y↔y < x:=by grind [iR]
def dM (l:List Nat):Int:=if 1024 < l.length then 4 else if l.any (λx=>decide (LB<=x)) then 3 else if l.getLast? = some 0 then 3 else 0
theorem ajH (h:dM l=0):l=dig (aF l)/\l.length<=1024:=by
 unfold dM at h;by_cases h1:1024 < l.length
 ·grind
 ·rw[LG h1] at h;by_cases h2:l.any (λx=>decide (LB<=x))=true
  ·grind
  ·rw[LG h2] at h;by_cases h3:l.getLast? = some 0
   ·grind
   ·refine⟨(wI (λx hx=>?_) h3).symm,FI⟩;grind
theorem acy (h:(dig n).length<=1024):dM (dig n)=0:=by
 unfold dM;rw[LG FI];have h2:(dig n).any (λx=>decide (LB<=x))=false:=by
   rw[Bool.eq_false_iff];intro he;obtain⟨x,hx,h3⟩:=List.any_eq_true.1 he;have:=aO n x hx;grind
 grind [uG]
def og (n:Nat):List Rat:=GX n (((1:Int):Rat) / ((n:Int):Rat))
