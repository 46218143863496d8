/- Part of a claim. -/
set_option linter.all false
namespace Go.Proofs.YtnmeejofpkhlkaaGreatDoor
open Int renaming lt_or_lt_of_ne->LP,mul_le_mul_of_nonneg_left->Jt,mul_le_mul_of_nonneg_right->J6,mul_nonneg->Hf,mul_nonpos_of_nonneg_of_nonpos->LQ,natAbs_mul->JF
open List renaming append_assoc->GY,drop_eq_getElem_cons->Ii,drop_eq_nil_of_le->GU,drop_set_of_lt->Ld,getD_eq_getElem?_getD->FU,getElem?_append_left->Hg,getElem?_append_right->Gx,getElem?_eq_getElem->GX,getElem?_eq_none->G9,length_append->Gn,length_cons->LG,length_drop->J4,length_set->He,length_take->G5,mem_of_mem_take->LX,replicate->F8,take_append_drop->JY,take_of_length_le->Gl,take_set_of_le->Lh
open Nat renaming Coprime->KW,add_comm->JG,add_mul->KO,add_mul_div_left->JU,add_zero->J7,div_add_mod->I5,div_eq_of_lt->I7,div_lt_iff_lt_mul->I8,div_lt_self->KP,div_mul_cancel->LY,div_mul_le_self->Lr,div_one->JK,eq_zero_or_pos->Gt,gcd->Gv,gcd_comm->Iy,gcd_dvd_left->Jy,gcd_dvd_right->IQ,gcd_mul_left->JO,gcd_pos_of_pos_left->KE,gcd_pos_of_pos_right->Jq,le_div_iff_mul_le->Jr,le_refl->FV,le_trans->Gf,lt_of_le_of_lt->JD,lt_of_lt_of_le->GZ,lt_of_mul_lt_mul_left->Ku,lt_or_ge->Ip,min_eq_left->Hy,mod_eq_of_lt->KX,mod_lt->IK,mul_add->GV,mul_assoc->IE,mul_comm->Gy,mul_le_mul->IX,mul_le_mul_left->Gq,mul_le_mul_right->H8,mul_left_comm->JH,mul_lt_mul_of_pos_right->J8,mul_ne_zero->Jk,mul_one->Gp,mul_zero->JV,pos_of_ne_zero->Jz,pow_add->KY,pow_le_pow_right->Io,pow_succ->IJ,strongRecOn->LK,zero_add->Iz
open Nat.Coprime renaming coprime_dvd_left->Lp,coprime_dvd_right->Lj
open Rat renaming den_intCast->KQ,num_intCast->Kv
variable {neg:Bool} {P S a l o u u' v w:List Nat} {M N T b c c' d f g i j jY k m n q r s t x:Nat} {p:Prop} {y:Rat}
structure FN (p:Prop):Prop where
 out:p
theorem zbK (h:p:=by
 rw[this,Nat.mul_add,Nat.mul_add]
 have e2:LB*(q*v.getD (n - 1) 0)=q*(LB*v.getD (n - 1) 0):=Nat.mul_left_comm _ _ _
 have e3:LB*r=r*LB:=Nat.mul_comm _ _
 omega):p:=h
theorem zcD (h:p:=by
 have e:LB ^ i*(s+b.getD i 0+c)=LB ^ i*(a.getD i 0+LB*c'):=by rw[hs]
 rw[Nat.mul_add,Nat.mul_add,Nat.mul_add] at e
 omega):p:=h
theorem zcP {q:Prop} (k:q) (h:FN q->p:=by
 intro hq
 refine⟨by rw[List.length_set]; exact h.len,h.limbs.set hsl,?_,aa4 h.rest⟩
 rw[lU (by rw[h.len]; exact hk),bQ,bQ,Nat.pow_succ]
 exact hq.out):p:=h ⟨k⟩
theorem zc0 {q:Prop} (k:q) (h:FN q->p:=by
 intro hq
 have kC:k*C<=0:=Int.mul_nonpos_of_nonneg_of_nonpos k0 sC
 have kD:0<=k*D:=Int.mul_nonneg k0 sD
 revert kD
 revert kC
 exact hq.out):p:=h ⟨k⟩
theorem zc1 {q:Prop} (k:q) (h:FN q->p:=by
 intro hq
 have kD:k*D<=0:=Int.mul_nonpos_of_nonneg_of_nonpos k0 sD
 have kC:0<=k*C:=Int.mul_nonneg k0 sC
 revert kC
 revert kD
 exact hq.out):p:=h ⟨k⟩
theorem L6 {c:Prop} {h:Decidable c} (H:¬c) {α:Sort _} {t e:α}:ite c t e=e:=if_neg H
theorem L8 {c:Prop} {h:Decidable c} (H:c) {α:Sort _} {t e:α}:ite c t e=t:=if_pos H
theorem L9 [Decidable p] (h:¬p):decide p=false:=decide_eq_false h
theorem Mc [Decidable p] (h:p):decide p=true:=decide_eq_true h
theorem EN (h:p:=by omega):p:=h
theorem aA (h:p:=by decide):p:=h
theorem aF (h:p:=by simp):p:=h
theorem aG (h:p:=by (simp; omega)):p:=h
theorem FH {α:Sort _} (a:α):∃ x,x=a:=⟨_,rfl⟩
abbrev LB:Nat:=1000000000
def aH:List Nat->Nat
 | []=>0
 | x :: r=>x+LB*aH r
def dig (n:Nat):List Nat:=if h:n=0 then [] else (n % LB) :: dig (n / LB)
termination_by n
decreasing_by exact KP EN aA
def Limbs (l:List Nat):Prop:=∀ x∈l,x < LB
theorem bD:dig 0 = []:=by unfold dig; rfl
theorem lY (h:n≠0):dig n=(n % LB) :: dig (n / LB):=by rw[dig]; simp[h]
theorem oC:dig n = []↔n=0:=by
 constructor
 ·intro h;by_cases h0:n=0
  ·exact h0
  ·rw[lY h0] at h;cases h
 ·rintro rfl;exact bD
theorem aX (n:Nat):aH (dig n)=n:=by
 induction n using LK with
 | _ n ih =>
  by_cases h:n=0
  ·subst h;rw[bD];rfl
  ·rw[lY h];show n % LB+LB*aH (dig (n / LB))=n;rw[ih _ (KP EN aA)];exact Nat.mod_add_div n LB
theorem aP (n:Nat):Limbs (dig n):=by
 induction n using LK with
 | _ n ih =>
  by_cases h:n=0
  ·subst h;rw[bD];intro x hx;cases hx
  ·rw[lY h];intro x hx;rcases List.mem_cons.1 hx with rfl | hx
   ·exact IK _ aA
   ·exact ih _ (KP EN aA) x hx
theorem ak6 (hx:x < LB) (h:x+LB*n≠0):dig (x+LB*n)=x :: dig n:=by
 rw[lY h];have h1:(x+LB*n) % LB=x:=by rw[Nat.add_mul_mod_self_left];exact KX hx
 have h2:(x+LB*n) / LB=n:=by rw[JU _ _ aA,I7 hx];omega
 rw[h1,h2]
theorem Limbs.tail (h:Limbs (x :: l)):Limbs l:=λy hy=>h y (List.mem_cons_of_mem _ hy)
theorem Limbs.head (h:Limbs (x :: l)):x < LB:=h x (List.mem_cons_self)
theorem tC:∀ {l:List Nat},Limbs l->l.getLast?≠some 0->dig (aH l)=l
 | [],_,_=>bD
 | x :: r,h,hz=>by
  have hr:r.getLast?≠some 0:=by
   cases r with
   | nil=>simp
   | cons y r=>rwa [List.getLast?_cons_cons] at hz
  have ih:=tC h.tail hr;have h0:x+LB*aH r≠0:=by
   intro h0;have hx:x=0:=EN;have hn:aH r=0:=by
    rcases Nat.mul_eq_zero.1 (show LB*aH r=0 by omega) with h | h
    ·exact absurd h aA
    ·exact h
   rw[hn,bD] at ih;subst hx;rw[<-ih] at hz;exact hz rfl
  show dig (x+LB*aH r)=x :: r;rw[ak6 h.head h0,ih]
theorem iQ (l m:List Nat):aH (l++m)=aH l+LB ^ l.length*aH m:=by
 induction l with
 | nil=>simp[aH]
 | cons x l ih =>
  show x+LB*aH (l++m)=x+LB*aH l+LB ^ (l.length+1)*aH m;rw[ih,GV,IJ,Gy (LB ^ l.length) LB,IE,Nat.add_assoc]
theorem gV (h:Limbs l):aH l < LB ^ l.length:=by
 induction l with
 | nil=>simp[aH]
 | cons x l ih =>
  have h1:=ih h.tail;have h2:=h.head;show x+LB*aH l < LB ^ (l.length+1);rw[IJ,Gy (LB ^ l.length) LB];have h3:LB*(aH l+1)<=LB*LB ^ l.length:=Gq _ h1;rw[GV] at h3;omega
theorem ai3 (h0:l≠[]) (hz:l.getLast?≠some 0):LB ^ (l.length - 1)<=aH l:=by
 rw[<-List.dropLast_concat_getLast h0,iQ];have hl:l.getLast h0≠0:=by
  intro h;apply hz;rw[List.getLast?_eq_some_getLast h0,h]
 have h1:1<=aH [l.getLast h0]:=by show 1<=l.getLast h0+LB*0;omega
 have h2:=Gq (LB ^ l.dropLast.length) h1;simp only[Gn,List.length_dropLast,LG,List.length_nil] at *;have h3:l.length - 1+(0+1) - 1=l.length - 1:=EN;rw[h3];omega
theorem tH (n:Nat):(dig n).getLast?≠some 0:=by
 induction n using LK with
 | _ n ih =>
  by_cases h:n=0
  ·subst h;rw[bD];simp
  ·rw[lY h];have hlt:=KP (n:=n) (k:=LB) EN aA;by_cases h1:n / LB=0
   ·rw[h1,bD];have:=Nat.mod_add_div n LB;rw[h1] at this;simp;omega
   ·rw[lY h1,List.getLast?_cons_cons,<-lY h1];exact ih _ hlt
theorem aV (h:n < LB ^ k):(dig n).length<=k:=by
 by_cases h0:n=0
 ·subst h0;rw[bD];simp
 ·have h1:=ai3 (l:=dig n) (λh=>h0 (oC.1 h)) (tH n);rw[aX] at h1;have h2:LB ^ ((dig n).length - 1) < LB ^ k:=JD h1 h;have h3:=(Nat.pow_lt_pow_iff_right (show 1 < LB by decide)).1 h2;omega
theorem lS (n:Nat):n < LB ^ (dig n).length:=by
 have:=gV (aP n);rwa [aX] at this
theorem aau (h:n≠0):LB ^ ((dig n).length - 1)<=n:=by
 have:=ai3 (l:=dig n) (λe=>h (oC.1 e)) (tH n);rwa [aX] at this
theorem aT (h:m<=n):(dig m).length<=(dig n).length:=aV (JD h (lS n))
theorem adK (h:Limbs l) (hge:l≠[]->LB ^ (l.length - 1)<=aH l):dig (aH l)=l:=by
 refine tC h (λhz=>?_);have h0:l≠[]:=by intro h;subst h;cases hz
 have h1:=hge h0;rw[List.getLast?_eq_some_getLast h0] at hz;injection hz with hz
 rw[<-List.dropLast_concat_getLast h0,iQ,hz] at h1;have h2:=gV (l:=l.dropLast) (λx hx=>h x (List.dropLast_subset l hx));have h3:aH [0]=0:=rfl;rw[h3] at h1;simp only[Gn,List.length_dropLast,LG,List.length_nil] at h1 h2;have h4:l.length - 1+(0+1) - 1=l.length - 1:=EN;rw[h4] at h1;omega
def fF (l:List Nat):Nat->Nat
 | 0=>0
 | n+1=>if l[n]? = some 0 then fF l n else n+1
theorem adL (l:List Nat) (n:Nat):fF l n<=n:=by
 induction n with
 | zero=>exact FV _
 | succ n ih=>unfold fF; split <;> omega
theorem abX (l:List Nat):aH (l ++ [0])=aH l:=by rw[iQ]; simp[aH]
theorem adM {l:List Nat} (h:Limbs l):∀ {n:Nat},n<=l.length->l.take (fF l n)=dig (aH (l.take n))
 | 0,_=>by simp[fF,aH,bD]
 | n+1,hn=>by
  have hx:l[n]? = some l[n]:=GX EN;have ht:l.take (n+1)=l.take n ++ [l[n]]:=by rw[List.take_add_one,hx]; rfl
  unfold fF;split
  ·rename_i hz
   rw[hx] at hz; injection hz with hz
   rw[ht,hz,abX];exact adM h EN
  ·rename_i hz
   rw[hx] at hz;have hz':l[n]≠0:=λe=>hz (by rw[e])
   rw[tC (l:=l.take (n+1)) (λx hx=>h x (LX hx))];rw[ht,List.getLast?_concat];intro e; injection e with e; exact hz' e
theorem afJ (h:Limbs l):l.take (fF l l.length)=dig (aH l):=by
 have:=adM h (FV l.length);rwa [List.take_length] at this
theorem D5:0 < LB:=aA
theorem Bl (k:Nat):0 < LB ^ k:=Nat.pow_pos aA
theorem bQ (l:List Nat) (i:Nat):aH (l.take (i+1))=aH (l.take i)+LB ^ i*l.getD i 0:=by
 by_cases h:i < l.length
 ·have hx:l[i]? = some l[i]:=GX h;rw[List.take_add_one,hx,iQ];simp only[Option.toList,G5,Hy (Nat.le_of_lt h),FU,hx,Option.getD];simp[aH]
 ·rw[Gl EN,Gl EN];simp[FU,G9 (show l.length<=i by omega)]
theorem bT (l:List Nat) (i:Nat):aH (l.drop i)=l.getD i 0+LB*aH (l.drop (i+1)):=by
 by_cases h:i < l.length
 ·rw[Ii h];simp[aH,FU,h]
 ·rw[GU EN,GU EN];simp[aH,FU,G9 (show l.length<=i by omega)]
theorem gI (l:List Nat) (h:i<=l.length):aH l=aH (l.take i)+LB ^ i*aH (l.drop i):=by
 conv=>lhs; rw[<-JY i l,iQ]
 rw[G5,Hy h]
theorem afK (h:k < l.length) (v:Nat):aH (l.set k v)+LB ^ k*l.getD k 0=aH l+LB ^ k*v:=by
 have h1:=gI (l.set k v) (i:=k) aG;have h2:=gI l (i:=k) EN;rw[Lh EN] at h1;rw[bT] at h1 h2;have h3:(l.set k v).drop (k+1)=l.drop (k+1):=by rw[Ld EN]
 have h4:(l.set k v).getD k 0=v:=by simp[FU,h]
 rw[h3,h4,GV] at h1;rw[GV] at h2;omega
theorem lU (h:k < l.length) (v:Nat):aH ((l.set k v).take (k+1))=aH (l.take k)+LB ^ k*v:=by
 rw[bQ,Lh EN];have h4:(l.set k v).getD k 0=v:=by simp[FU,h]
 rw[h4]
theorem sV (h:k < l.length) (v:Nat):aH ((l.set k v).drop k)=v+LB*aH (l.drop (k+1)):=by
 rw[bT];have h4:(l.set k v).getD k 0=v:=by simp[FU,h]
 rw[h4,Ld EN]
theorem kP (l:List Nat) (x:Nat):aH (l ++ [x])=aH l+LB ^ l.length*x:=by
 rw[iQ];simp[aH]
theorem abY (n:Nat):aH (F8 n 0)=0:=by
 induction n with
 | zero=>rfl
 | succ n ih=>rw[List.replicate_succ]; show 0+LB*aH _=0; rw[ih]; omega
theorem Limbs.set (h:Limbs l) {v:Nat} (hv:v < LB):Limbs (l.set k v):=by
 intro x hx;rcases List.mem_or_eq_of_mem_set hx with h1 | h1
 ·exact h x h1
 ·subst h1;exact hv
theorem Limbs.concat (h:Limbs l) (hx:x < LB):Limbs (l ++ [x]):=by
 intro y hy;rcases List.mem_append.1 hy with h1 | h1
 ·exact h y h1
 ·rw[List.mem_singleton] at h1;subst h1;exact hx
theorem Limbs.zeros (n:Nat):Limbs (F8 n 0):=by
 intro x hx;rw[List.mem_replicate] at hx;obtain⟨_,rfl⟩:=hx;decide
theorem Limbs.getD (h:Limbs l) (k:Nat):l.getD k 0 < LB:=by
 by_cases hk:k < l.length
 ·rw[FU,GX hk];exact h _ (List.getElem_mem hk)
 ·rw[FU,G9 EN];decide
theorem Limbs.take (h:Limbs l) (k:Nat):Limbs (l.take k):=λx hx=>h x (LX hx)
theorem Limbs.drop (h:Limbs l) (k:Nat):Limbs (l.drop k):=λx hx=>h x (List.mem_of_mem_drop hx)
theorem Limbs.get (h:Limbs l) (hk:l[k]? = some x):x < LB:=h x (List.mem_of_getElem? hk)
theorem aN (h:l[k]? = some x):l.getD k 0=x:=by simp[FU,h]
theorem eU (h:l.length<=k):l.getD k 0=0:=by simp[FU,G9 h]
theorem pF {b:List Nat} (hl:o.length=i) (h:aH o+LB ^ i*c=aH (a.take i)+aH (b.take i)) (hs:s+LB*c'=a.getD i 0+b.getD i 0+c) :
  aH (o ++ [s])+LB ^ (i+1)*c'=aH (a.take (i+1))+aH (b.take (i+1)):=by
 rw[kP,hl,bQ,bQ,IJ,IE,Nat.add_assoc,<-GV,hs,GV,GV];omega
theorem zB {b:List Nat} (hl:i < o.length) (h:aH (o.take i)+aH (b.take i)=aH (a.take i)+LB ^ i*c) (hs:s+b.getD i 0+c=a.getD i 0+LB*c') :
  aH ((o.set i s).take (i+1))+aH (b.take (i+1))=aH (a.take (i+1))+LB ^ (i+1)*c':=by
 rw[lU hl,bQ,bQ,IJ,IE];exact zcD
theorem qF {b:List Nat} (hl:o.length=i) (h:aH o+aH (b.take i)=aH (a.take i)+LB ^ i*c) (hs:s+b.getD i 0+c=a.getD i 0+LB*c') :
  aH (o ++ [s])+aH (b.take (i+1))=aH (a.take (i+1))+LB ^ (i+1)*c':=by
 rw[kP,hl,bQ,bQ,IJ,IE];exact zcD
theorem ai4 {A B:Nat} (hle:B<=A) (hN:N < M) (h:N+B=A+M*c):N=A - B:=by
 rcases Gt c with h0 | h0
 ·subst h0;omega
 ·have:M*1<=M*c:=Gq _ h0;omega
theorem ak7 {p:Nat} (hk:k < o.length) (h:aH o+LB ^ k*c=T) (hs:s+LB*c'=o.getD k 0+p+c):aH (o.set k s)+LB ^ (k+1)*c'=T+LB ^ k*p:=by
 have h1:=afK hk s;rw[IJ,IE];have e:LB ^ k*(s+LB*c')=LB ^ k*(o.getD k 0+p+c):=by rw[hs]
 rw[GV,GV,GV] at e;omega
theorem wY {y:Nat} (hx:x < LB) (hy:y < LB):x*y<=999999998000000001:=by
 have:=IX (show x<=999999999 by unfold LB at hx; omega) (show y<=999999999 by unfold LB at hy; omega);omega
theorem yE {q:List Nat} {r' A:Nat} (hi:i < q.length) (h:aH (a.drop (i+1))=d*aH (q.drop (i+1))+r) (hs:r*LB+a.getD i 0=d*s+r') :
  aH (a.drop i)=d*aH ((q.set i s).drop i)+r':=by
 rw[bT,sV hi,h,GV,GV,<-IE d,Gy d LB,IE LB d];have:LB*r=r*LB:=Gy _ _;omega
def dB (a b:Nat):Int:=if a < b then -1 else if a=b then 0 else 1
theorem afL {b:List Nat} {y:Nat} (ha:Limbs a) (hlen:a.length=b.length) (hd:a.drop (i+1)=b.drop (i+1)) (hx:a[i]? = some x) (hy:b[i]? = some y) (hlt:x < y):aH a < aH b:=by
 have hi:i < a.length:=by
  rcases Ip i a.length with h | h
  ·exact h
  ·rw[G9 h] at hx;cases hx
 rw[gI a (i:=i) EN,gI b (i:=i) EN,bT a i,bT b i,aN hx,aN hy,hd,GV,GV];have h1:aH (a.take i) < LB ^ i:=by
  have:=gV (ha.take i);rwa [G5,Hy EN] at this
 have h2:LB ^ i*(x+1)<=LB ^ i*y:=Gq _ hlt;rw[GV,Gp] at h2;omega
theorem oD {a:Nat} (h:(dig a).length < (dig b).length):a < b:=by
 have hb0:b≠0:=by intro h0;subst h0;rw[bD] at h;simp at h
 have h1:=lS a;have h2:=aau hb0;have h3:LB ^ (dig a).length<=LB ^ ((dig b).length - 1):=Io aA EN;omega
theorem wZ {a:Nat} (h:dig a=dig b):a=b:=by rw[<-aX a,<-aX b,h]
theorem ku {a y:Nat} (hlen:(dig a).length=(dig b).length) (hd:(dig a).drop (i+1)=(dig b).drop (i+1)) (hx:(dig a)[i]? = some x) (hy:(dig b)[i]? = some y) (hlt:x < y):a < b:=by
 have:=afL (aP a) hlen hd hx hy hlt;rwa [aX,aX] at this
theorem uo {b:List Nat} (hd:a.drop (i+1)=b.drop (i+1)) (hx:a[i]? = some x) (hy:b[i]? = some x):a.drop i=b.drop i:=by
 have h1:i < a.length:=by
  rcases Ip i a.length with h | h
  ·exact h
  ·rw[G9 h] at hx;cases hx
 have h2:i < b.length:=by
  rcases Ip i b.length with h | h
  ·exact h
  ·rw[G9 h] at hy;cases hy
 rw[Ii h1,Ii h2,hd];rw[GX h1] at hx;rw[GX h2] at hy;injection hx with hx;injection hy with hy
 rw[hx,hy]
theorem kQ (h0:n≠0) (h:n < LB):dig n = [n]:=by
 rw[lY h0,KX h,I7 h,bD]
theorem iL:dig 1 = [1]:=kQ aA aA
theorem abZ:dig n = [1]↔n=1:=⟨λh=>wZ (by rw[h,iL]),λh=>by rw[h,iL]⟩
theorem bg:0 < (dig n).length↔n≠0:=by
 rw[List.length_pos_iff,Ne,oC]
theorem zC:(dig n).length=0↔n=0:=by
 rw[List.length_eq_zero_iff,oC]
theorem xg:(dig n).length<=2->n < 1000000000000000000:=λh=>by
 have h1:=lS n;have h2:LB ^ (dig n).length<=LB ^ 2:=Io aA h;have:LB ^ 2=1000000000000000000:=aA;omega
structure Est (u v:List Nat) (n:Nat):Prop where
 n2:2<=n
 ul:u.length=n+1
 vl:v.length=n
 lu:Limbs u
 lv:Limbs v
 half:LB<=2*v.getD (n - 1) 0
 less:aH u < LB*aH v
section
variable {u v:List Nat} {n:Nat}
theorem Est.ak8 (h:Est u v n):aH v=aH (v.take (n - 2))+LB ^ (n - 2)*(v.getD (n - 2) 0+LB*v.getD (n - 1) 0):=by
 have h2:=h.n2;rw[gI v (i:=n - 2) (by rw[h.vl]; omega),bT,show n - 2+1=n - 1 by omega,bT,show n - 1+1=n by omega,GU (by rw[h.vl]; omega)];simp[aH]
theorem Est.anQ (h:Est u v n):aH u=aH (u.take (n - 2))+LB ^ (n - 2)*(u.getD (n - 2) 0+LB*(u.getD (n - 1) 0+LB*u.getD n 0)):=by
 have h2:=h.n2;rw[gI u (i:=n - 2) (by rw[h.ul]; omega),bT,show n - 2+1=n - 1 by omega,bT,show n - 1+1=n by omega,bT,GU (by rw[h.ul]; omega)];simp[aH]
theorem Est.anH (h:Est u v n):aH (v.take (n - 2)) < LB ^ (n - 2):=by
 have:=gV (h.lv.take (n - 2));have h2:=h.n2;rwa [G5,h.vl,Hy EN] at this
theorem Est.aoG (h:Est u v n):aH (u.take (n - 2)) < LB ^ (n - 2):=by
 have:=gV (h.lu.take (n - 2));have h2:=h.n2;rwa [G5,h.ul,Hy EN] at this
theorem Est.ab1 (h:Est u v n):0 < aH v:=by
 have:=h.ak8;have h1:=h.half;have h3:1<=v.getD (n - 2) 0+LB*v.getD (n - 1) 0:=by unfold LB at *;omega
 have h4:=Gq (LB ^ (n - 2)) h3;have:=Bl (n - 2);omega
theorem Est.q_lt (h:Est u v n):aH u / aH v < LB:=(I8 h.ab1).2 h.less
theorem Est.top_le (h:Est u v n):u.getD n 0<=v.getD (n - 1) 0:=by
 have hu:=h.anQ;have hv:=h.ak8;have hl:=h.anH;have hless:=h.less;rcases Ip (v.getD (n - 1) 0) (u.getD n 0) with hh | hh
 ·exfalso
  have h2:=h.lv.getD (n - 2);have a1:aH v < LB ^ (n - 2)*(LB*(v.getD (n - 1) 0+1)):=by
   rw[hv];have:v.getD (n - 2) 0+LB*v.getD (n - 1) 0+1<=LB*(v.getD (n - 1) 0+1):=by rw[GV];omega
   have:=Gq (LB ^ (n - 2)) this;rw[GV] at this;omega
  have a2:LB*aH v < LB*(LB ^ (n - 2)*(LB*(v.getD (n - 1) 0+1))):=Nat.mul_lt_mul_of_pos_left a1 D5;have a3:LB*(LB ^ (n - 2)*(LB*(v.getD (n - 1) 0+1)))=LB ^ (n - 2)*(LB*(LB*(v.getD (n - 1) 0+1))):=by
   rw[JH]
  have a4:LB ^ (n - 2)*(LB*(LB*(v.getD (n - 1) 0+1)))<=LB ^ (n - 2)*(u.getD (n - 2) 0+LB*(u.getD (n - 1) 0+LB*u.getD n 0)):=by
   apply Gq
   have:LB*(v.getD (n - 1) 0+1)<=LB*u.getD n 0:=Gq _ hh;have:LB*(LB*(v.getD (n - 1) 0+1))<=LB*(u.getD (n - 1) 0+LB*u.getD n 0):=Gq _ EN;omega
  omega
 ·exact hh
theorem Est.adN (h:Est u v n) (hq:u.getD n 0*LB+u.getD (n - 1) 0=q*v.getD (n - 1) 0+r) (ht:LB<=q\/r*LB+u.getD (n - 2) 0 < q*v.getD (n - 2) 0):aH u / aH v < q:=by
 rcases ht with ht | ht
 ·exact GZ h.q_lt ht
 ·rw[I8 h.ab1,h.anQ];have hu:=h.aoG;have e1:u.getD (n - 2) 0+LB*(u.getD (n - 1) 0+LB*u.getD n 0)+1<=q*(v.getD (n - 2) 0+LB*v.getD (n - 1) 0):=by
   have:LB*(u.getD (n - 1) 0+LB*u.getD n 0)=LB*(q*v.getD (n - 1) 0+r):=by rw[<-hq,Gy LB (u.getD n 0),JG]
   exact zbK
  have e2:LB ^ (n - 2)*(u.getD (n - 2) 0+LB*(u.getD (n - 1) 0+LB*u.getD n 0)+1)<=LB ^ (n - 2)*(q*(v.getD (n - 2) 0+LB*v.getD (n - 1) 0)):=Gq _ e1;have e3:LB ^ (n - 2)*(q*(v.getD (n - 2) 0+LB*v.getD (n - 1) 0))<=q*aH v:=by
   rw[h.ak8,JH,GV q];omega
  rw[GV,Gp] at e2;omega
theorem Est.r_lt (h:Est u v n) (hq:u.getD n 0*LB+u.getD (n - 1) 0=q*v.getD (n - 1) 0+r) (ht:LB<=q):r < LB:=by
 have h1:=h.top_le;have h2:=h.lu.getD (n - 1);have h3:u.getD n 0*LB<=v.getD (n - 1) 0*LB:=H8 _ h1;have h4:LB*v.getD (n - 1) 0<=q*v.getD (n - 1) 0:=H8 _ ht;have h5:v.getD (n - 1) 0*LB=LB*v.getD (n - 1) 0:=Gy _ _;omega
theorem Est.almost (h:Est u v n) (hq:u.getD n 0*LB+u.getD (n - 1) 0=q*v.getD (n - 1) 0+r) (hge:aH u / aH v<=q) (ht:¬ (r < LB/\(LB<=q\/r*LB+u.getD (n - 2) 0 < q*v.getD (n - 2) 0))) :
  q < LB/\aH u / aH v<=q/\q<=aH u / aH v+1:=by
 have hqB:q < LB:=by
  rcases Ip q LB with h1 | h1
  ·exact h1
  ·exact absurd ⟨h.r_lt hq h1,.inl h1⟩ ht
 refine⟨hqB,hge,?_⟩;have ht2:q*v.getD (n - 2) 0<=r*LB+u.getD (n - 2) 0:=by
  rcases Ip r LB with h1 | h1
  ·rcases Ip (r*LB+u.getD (n - 2) 0) (q*v.getD (n - 2) 0) with h2 | h2
   ·exact absurd ⟨h1,.inr h2⟩ ht
   ·exact h2
  ·have h2:=h.lv.getD (n - 2);have h3:q*v.getD (n - 2) 0<=LB*LB:=IX EN EN;have h4:LB*LB<=r*LB:=H8 _ h1;omega
 have e1:q*(v.getD (n - 2) 0+LB*v.getD (n - 1) 0)<=u.getD (n - 2) 0+LB*(u.getD (n - 1) 0+LB*u.getD n 0):=by
  have:LB*(u.getD (n - 1) 0+LB*u.getD n 0)=LB*(q*v.getD (n - 1) 0+r):=by rw[<-hq,Gy LB (u.getD n 0),JG]
  exact zbK
 have e2:=Gq (LB ^ (n - 2)) e1;have e3:q*aH v=q*aH (v.take (n - 2))+LB ^ (n - 2)*(q*(v.getD (n - 2) 0+LB*v.getD (n - 1) 0)):=by
  rw[h.ak8,GV,JH q]
 have hlow:=h.anH;have hu:=h.anQ;have hv:=h.ak8;have e4:q*aH (v.take (n - 2))<=LB*LB ^ (n - 2):=IX EN EN;have htop:=h.half;have e5:LB ^ (n - 2)*(LB*1)<=LB ^ (n - 2)*(v.getD (n - 2) 0+LB*v.getD (n - 1) 0):=by
  apply Gq
  have:LB*1<=LB*v.getD (n - 1) 0:=Gq _ (by unfold LB at htop; omega);omega
 have e6:LB ^ (n - 2)*(LB*1)=LB*LB ^ (n - 2):=by rw[Gp,Gy]
 have key:q*aH v<=aH u+aH v:=EN;rcases Gt q with h0 | h0
 ·rw[h0];exact Nat.zero_le _
 ·have:(q - 1)*aH v<=aH u:=by
   rw[Nat.sub_mul,Nat.one_mul];omega
  exact Nat.le_add_of_sub_le ((Jr h.ab1).2 this)
end
theorem rO (hb:b≠0):1<=(dig b).getD ((dig b).length - 1) 0/\(dig b).getD ((dig b).length - 1) 0 < LB/\(dig b).getD ((dig b).length - 1) 0*LB ^ ((dig b).length - 1)<=b:=by
 have hp:=bg.2 hb;have hl:=tH b;have e:(dig b).getLast? = some ((dig b).getD ((dig b).length - 1) 0):=by
  rw[List.getLast?_eq_getElem?,FU,GX EN];rfl
 refine⟨?_,(aP b).getD _,?_⟩
 ·rw[e] at hl;have:(dig b).getD ((dig b).length - 1) 0≠0:=λh=>hl (by rw[h])
  omega
 ·have h1:=gI (dig b) (i:=(dig b).length - 1) EN;rw[aX,bT,show(dig b).length - 1+1=(dig b).length by omega,GU (FV _)] at h1;rw[Gy];simp[aH] at h1;simp;omega
theorem ak9 (hb:b≠0) (hr:r < LB*b):r / b<=min (r / LB ^ ((dig b).length - 1) / (dig b).getD ((dig b).length - 1) 0) (LB - 1):=by
 obtain⟨h1,_,h3⟩:=rO hb;rw[Nat.le_min];constructor
 ·rw[Nat.div_div_eq_div_mul];refine(Jr (Nat.mul_pos (Bl _) h1)).2 ?_;rw[Gy (LB ^ _)];exact Gf (Gq _ h3) (Lr r b)
 ·have:r / b < LB:=(I8 EN).2 hr;omega
theorem ala (hb:b≠0) (hge:r / b<=d) (hle:b*d<=r):d=r / b:=by
 have:d<=r / b:=(Jr EN).2 (by rw[Gy]; exact hle);omega
theorem ajB (h:d=r / b):r - b*d=r % b:=by
 subst h;have:=I5 r b;omega
theorem ajC {q:List Nat} (hi:i < q.length) (h:aH (a.drop (i+1))=b*aH (q.drop (i+1))+r) (hd:d=(a.getD i 0+LB*r) / b) :
  aH (a.drop i)=b*aH ((q.set i d).drop i)+(a.getD i 0+LB*r) % b:=by
 rw[bT,sV hi,h,GV,GV];have h1:=I5 (a.getD i 0+LB*r) b;rw[<-hd] at h1;have h2:LB*(b*aH (q.drop (i+1)))=b*(LB*aH (q.drop (i+1))):=JH _ _ _;omega
theorem aa3 {a:Nat} (hf:0 < f) (h:a*f=b*f*q+r) (hr:r < b*f):q=a / b/\r / f=a % b:=by
 have hb:0 < b:=by
  rcases Gt b with h0 | h0
  ·subst h0;simp at hr
  ·exact h0
 have e1:q=a*f / (b*f):=by
  rw[h,Gy (b*f) q,JG,Nat.add_mul_div_right _ _ (Nat.mul_pos hb hf),I7 hr];simp
 have e2:r=a*f % (b*f):=by
  rw[h,Gy (b*f) q,JG,Nat.add_mul_mod_self_right,KX hr]
 constructor
 ·rw[e1,Nat.mul_div_mul_right _ _ hf]
 ·rw[e2,Nat.mul_mod_mul_right,Nat.mul_div_cancel _ hf]
theorem jB (h1:1<=t) (h2:t < LB):1<=LB / (t+1)/\LB / (t+1)<=500000000/\LB / (t+1)*(t+1)<=LB/\LB<=2*(t*(LB / (t+1)))+2*(LB / (t+1))+2*t/\LB < (LB / (t+1)+1)*(t+1):=by
 have a1:1<=LB / (t+1):=(Jr EN).2 EN;have a2:LB / (t+1)<=LB / 2:=Nat.div_le_div_left EN EN;have a3:=Lr LB (t+1);have a4:LB < (LB / (t+1)+1)*(t+1):=Nat.lt_mul_of_div_lt EN EN;have a5:LB / 2=500000000:=aA;refine⟨a1,EN,a3,?_,a4⟩;generalize LB / (t+1)=f at *;rw[KO,GV,Gy f t] at a4;omega
theorem afM (h1:1<=t) (h2:t < LB):LB<=2*(t*(LB / (t+1))):=by
 obtain⟨a1,a2,a3,_,a4⟩:=jB h1 h2;generalize hf:LB / (t+1)=f at *;rw[KO,GV,Gy f t] at a4;rw[GV,Gy f t] at a3;have a6:LB < t*f+f+t+1:=EN;have a7:LB=1000000000:=rfl;by_cases hft:f=1
 ·have a8:t*f=t:=by rw[hft,Gp]
  omega
 ·by_cases ht:t=1
  ·subst ht;have:f=500000000:=by rw[<-hf];decide
   subst this;decide
  ·-- f,t >= 2:f+t <= f*t ; LB < t f+f+t+1
   have h3:2*t<=t*f:=by rw[Gy];exact Gq t EN
   have h4:2*f<=t*f:=H8 f EN;omega
theorem set_mid (hP:P.length=j) (hk:k < u.length):(P++u++S).set (j+k) x=P++u.set k x++S:=by
 rw[GY,List.set_append_right _ _ EN,hP,Nat.add_sub_cancel_left,List.set_append_left _ _ hk,GY]
theorem kK (hP:P.length=j) (hk:k < u.length):(P++u++S)[j+k]? = u[k]?:=by
 rw[GY,Gx EN,hP,Nat.add_sub_cancel_left,Hg hk]
theorem aa4 (h:u.drop k=w.drop k):(u.set k x).drop (k+1)=w.drop (k+1):=by
 rw[Ld EN,<-List.drop_drop,<-List.drop_drop,h]
theorem mX (h:u.drop k=w.drop k):u[k]? = w[k]?:=by
 have h1:(u.drop k)[0]? = (w.drop k)[0]?:=by rw[h]
 simpa using h1
structure CW (u v:List Nat) (q k c:Nat) (u':List Nat):Prop where
 len:u'.length=u.length
 limbs:Limbs u'
 eq:aH (u'.take k)+q*aH (v.take k)=aH (u.take k)+LB ^ k*c
 rest:u'.drop k=u.drop k
theorem CW.start (h:Limbs u):CW u v q 0 0 u:=⟨rfl,h,by simp[aH],rfl⟩
theorem CW.step (h:CW u v q k c u') (hk:k < u.length) (hs:s+q*v.getD k 0+c=u.getD k 0+LB*c') (hsl:s < LB):CW u v q (k+1) c' (u'.set k s):=by
 refine zcP ?_;have e:LB ^ k*(s+q*v.getD k 0+c)=LB ^ k*(u.getD k 0+LB*c'):=by rw[hs]
 have:=h.eq;grind
structure Dh (u v:List Nat) (k c:Nat) (u':List Nat):Prop where
 len:u'.length=u.length
 limbs:Limbs u'
 eq:aH (u'.take k)+LB ^ k*c=aH (u.take k)+aH (v.take k)
 rest:u'.drop k=u.drop k
theorem Dh.start (h:Limbs u):Dh u v 0 0 u:=⟨rfl,h,by simp[aH],rfl⟩
theorem Dh.step (h:Dh u v k c u') (hk:k < u.length) (hs:s+LB*c'=u.getD k 0+v.getD k 0+c) (hsl:s < LB):Dh u v (k+1) c' (u'.set k s):=by
 refine zcP ?_;have e:LB ^ k*(s+LB*c')=LB ^ k*(u.getD k 0+v.getD k 0+c):=by rw[hs]
 have:=h.eq;grind
theorem qN (h:u.length=n+1):aH u=aH (u.take n)+LB ^ n*u.getD n 0:=by
 rw[gI u (i:=n) EN,bT,GU EN];simp[aH]
section
variable {u v u':List Nat} {n q c:Nat}
theorem Est.anR (h:Est u v n):aH v < LB ^ n:=by have:=gV h.lv; rwa [h.vl] at this
theorem zD (h:Est u v n) (hm:CW u v q n c u'):aH (u'.take n)+q*aH v+LB ^ n*u.getD n 0=aH u+LB ^ n*c:=by
 have h1:=hm.eq;rw[Gl (l:=v) (by rw[h.vl]; omega)] at h1;have h2:=qN h.ul;omega
theorem rP (hl:Limbs u') (hn:n<=u'.length):aH (u'.take n) < LB ^ n:=by
 have:=gV (hl.take n);rwa [G5,Hy hn] at this
theorem ab2 (h:Est u v n) (hm:CW u v q n c u') (hq1:aH u / aH v<=q) (hq2:q<=aH u / aH v+1) (hc:c<=u.getD n 0):q=aH u / aH v/\aH (u'.take n)=aH u % aH v:=by
 have he:=zD h hm;have hv:=h.ab1;have h1:LB ^ n*c<=LB ^ n*u.getD n 0:=Gq _ hc;have h2:q*aH v<=aH u:=EN;have h3:q<=aH u / aH v:=(Jr hv).2 h2;have hq:q=aH u / aH v:=EN;refine⟨hq,?_⟩;have h4:=I5 (aH u) (aH v);have h5:=IK (aH u) hv;rw[<-hq,Gy (aH v) q] at h4;have hvl:=h.anR;have hcu:c=u.getD n 0:=by
  rcases Ip c (u.getD n 0) with hlt | hge
  ·have:LB ^ n*(c+1)<=LB ^ n*u.getD n 0:=Gq _ hlt;rw[GV,Gp] at this;omega
  ·omega
 rw[hcu] at he;omega
theorem adO (h:Est u v n) (hm:CW u v q n c u') (hq1:aH u / aH v<=q) (hq2:q<=aH u / aH v+1) (hc:u.getD n 0 < c) {u2:List Nat} {o:Nat} (ha:Dh u' v n o u2):q=aH u / aH v+1/\aH (u2.take n)=aH u % aH v:=by
 have he:=zD h hm;have hv:=h.ab1;have h1:LB ^ n*(u.getD n 0+1)<=LB ^ n*c:=Gq _ hc;rw[GV,Gp] at h1;have hlt:=rP hm.limbs (n:=n) (by rw[hm.len,h.ul]; omega);have h2:aH u < q*aH v:=EN;have h3:aH u / aH v < q:=(I8 hv).2 h2;have hq:q=aH u / aH v+1:=EN;refine⟨hq,?_⟩;have h4:=I5 (aH u) (aH v);have h5:=IK (aH u) hv;have hvl:=h.anR;have hqv:q*aH v=aH v*(aH u / aH v)+aH v:=by rw[hq,KO,Nat.one_mul,Gy]
 have ha1:=ha.eq;rw[Gl (l:=v) (by rw[h.vl]; omega)] at ha1;have hlt2:=rP ha.limbs (n:=n) (by rw[ha.len,hm.len,h.ul]; omega);obtain⟨D,hD⟩:∃ D,c=u.getD n 0+D:=⟨c - u.getD n 0,EN⟩;have e1:LB ^ n*c=LB ^ n*u.getD n 0+LB ^ n*D:=by rw[hD,GV]
 have e2:aH (u2.take n)+LB ^ n*o=aH u % aH v+LB ^ n*D:=EN;rcases Nat.lt_trichotomy o D with ho | ho | ho
 ·have:LB ^ n*(o+1)<=LB ^ n*D:=Gq _ ho;rw[GV,Gp] at this;omega
 ·subst ho;omega
 ·have:LB ^ n*(D+1)<=LB ^ n*o:=Gq _ ho;rw[GV,Gp] at this;omega
end
theorem adP {R:Nat} (hl:u'.length=n+1) (h:aH (u'.take n)=R):aH (u'.set n 0)=R:=by
 rw[qN (u:=u'.set n 0) (n:=n) (by rw[He]; exact hl),Lh (FV _),h];simp[FU,List.getElem?_set_self (show n < u'.length by omega)]
theorem Est.first (he:Est u v n) (hq:u.getD n 0*LB+u.getD (n - 1) 0=q*v.getD (n - 1) 0+r) (hr:r < v.getD (n - 1) 0):aH u / aH v<=q/\q<=1000000002:=by
 have h2:=he.n2;have hv:aH v=aH (v.take (n - 1))+LB ^ (n - 1)*v.getD (n - 1) 0:=qN (u:=v) (n:=n - 1) (by rw[he.vl]; omega);have hu:aH u=aH (u.take (n - 1))+LB ^ (n - 1)*(u.getD (n - 1) 0+LB*u.getD n 0):=by
  rw[gI u (i:=n - 1) (by rw[he.ul]; omega),bT,show n - 1+1=n by omega,bT,GU (by rw[he.ul]; omega)];simp[aH]
 have hul:=rP he.lu (n:=n - 1) (by rw[he.ul]; omega);have hvp:=he.ab1;constructor
 ·have h1:=Lr (aH u) (aH v);generalize aH u / aH v=Q at *;have h3:Q*(LB ^ (n - 1)*v.getD (n - 1) 0)<=Q*aH v:=Gq _ EN;have h4:LB ^ (n - 1)*(Q*v.getD (n - 1) 0) < LB ^ (n - 1)*(u.getD (n - 1) 0+LB*u.getD n 0+1):=by
   rw[JH,GV (LB ^ (n - 1)) _ 1,Gp];omega
  have h5:=Ku h4;have h6:LB*u.getD n 0=u.getD n 0*LB:=Gy _ _;have h7:Q*v.getD (n - 1) 0 < (q+1)*v.getD (n - 1) 0:=by rw[KO,Nat.one_mul];omega
  have:=Nat.lt_of_mul_lt_mul_right h7;omega
 ·have ht:=he.top_le;have hh:=he.half;have h1:=he.lu.getD (n - 1);generalize v.getD (n - 1) 0=t at *;generalize u.getD n 0=x at *;generalize u.getD (n - 1) 0=y at *;have h3:x*LB<=t*LB:=H8 _ ht;have h4:q*t<=(LB+2)*t:=by rw[KO,Gy LB t];omega
  have hLB:LB=1000000000:=rfl;have h5:=Nat.le_of_mul_le_mul_right h4 EN;omega
structure BO (a f:Nat) (v:List Nat) (n la k:Nat) (U q:List Nat):Prop where
 ul:U.length=la+1
 afN:Limbs U
 ql:q.length=la - n+1
 anS:Limbs q
 eq:a*f=aH v*LB ^ k*aH (q.drop k)+aH U
 lt:aH U < aH v*LB ^ k
 zero:∀ i,k+n<=i->U.getD i 0=0
structure CZ (v:List Nat) (n b f:Nat):Prop where
 n2:2<=n
 vl:v.length=n
 lv:Limbs v
 half:LB<=2*v.getD (n - 1) 0
 eq:aH v=b*f
 f0:1<=f
theorem uq (h:∀ i,l.getD i 0=0):aH l=0:=by
 induction l with
 | nil=>rfl
 | cons x l ih =>
  have h0:=h 0;simp at h0;show x+LB*aH l=0;rw[ih (λi=>by have:=h (i+1); simpa using this),h0];simp
theorem getD_drop (l:List Nat) (j i:Nat):(l.drop j).getD i 0=l.getD (j+i) 0:=by
 simp[FU,List.getElem?_drop]
theorem ahi (U:List Nat) (j n:Nat):U=U.take j++(U.drop j).take (n+1)++U.drop (j+(n+1)):=by
 rw[GY,<-List.drop_drop,JY,JY]
section
variable {a b f:Nat} {v U q:List Nat} {n la j:Nat}
theorem BO.parts (h:BO a f v n la (j+1) U q) (hj:j+n<=la):aH U=aH (U.take j)+LB ^ j*aH ((U.drop j).take (n+1)):=by
 have e:=congrArg aH (ahi U j n);rw[iQ,iQ,G5,h.ul,Hy EN] at e;have hz:aH (U.drop (j+(n+1)))=0:=uq λi=>by rw[getD_drop];exact h.zero _ EN
 rw[hz,JV,J7] at e;exact e
theorem BO.est (h:BO a f v n la (j+1) U q) (hv:CZ v n b f) (hj:j+n<=la):Est ((U.drop j).take (n+1)) v n:=by
 have hp:=h.parts hj;refine⟨hv.n2,by rw[G5,J4,h.ul]; omega,hv.vl,(h.afN.drop j).take _,hv.lv,hv.half,?_⟩;have hlt:=h.lt;rw[hp,IJ] at hlt;have h2:LB ^ j*aH ((U.drop j).take (n+1)) < LB ^ j*(LB*aH v):=by
  have:aH v*(LB ^ j*LB)=LB ^ j*(LB*aH v):=by grind
  omega
 exact Ku h2
theorem BO.step (h:BO a f v n la (j+1) U q) (hv:CZ v n b f) (hj:j+n<=la) (hul:u'.length=n+1) (hlim:Limbs u') (hu:aH u'=aH ((U.drop j).take (n+1)) % aH v) (hd:d=aH ((U.drop j).take (n+1)) / aH v) :
  BO a f v n la j (U.take j++u'++U.drop (j+(n+1))) (q.set j d):=by
 have hp:=h.parts hj;have aeH:=h.est hv hj;have hvp:=aeH.ab1;have hmod:=IK (aH ((U.drop j).take (n+1))) hvp;have hz:aH (U.drop (j+(n+1)))=0:=uq λi=>by rw[getD_drop];exact h.zero _ EN
 have hPl:(U.take j).length=j:=by rw[G5,h.ul];omega
 have hPlt:=rP h.afN (n:=j) (by rw[h.ul]; omega);have hU':aH (U.take j++u'++U.drop (j+(n+1)))=aH (U.take j)+LB ^ j*aH u':=by
  rw[iQ,iQ,hPl,hz,JV,J7]
 have hdm:=I5 (aH ((U.drop j).take (n+1))) (aH v);rw[<-hd,<-hu] at hdm;rw[<-hu] at hmod;have hdl:d < LB:=by rw[hd];exact aeH.q_lt
 refine⟨?_,?_,by rw[He]; exact h.ql,h.anS.set hdl,?_,?_,?_⟩
 ·simp only[Gn,J4,h.ul,hPl,hul];omega
 ·intro x hx;rw[List.mem_append,List.mem_append] at hx;rcases hx with(hx | hx) | hx
  ·exact h.afN.take j x hx
  ·exact hlim x hx
  ·exact h.afN.drop _ x hx
 ·rw[h.eq,hU',sV (by rw[h.ql]; omega),hp,<-hdm,IJ];grind
 ·rw[hU'];have:LB ^ j*(aH u'+1)<=LB ^ j*aH v:=Gq _ hmod;rw[GV,Gp] at this;rw[Gy (aH v)];omega
 ·intro i hi;have htop:u'.getD n 0=0:=by
   have h1:=qN hul;have h2:=aeH.anR;rcases Gt (u'.getD n 0) with h0 | h0
   ·exact h0
   ·have:LB ^ n*1<=LB ^ n*u'.getD n 0:=Gq _ h0;omega
  rw[FU,GY,Gx EN,hPl];by_cases hin:i=j+n
  ·rw[Hg EN,show i - j=n by omega];rw[FU] at htop;exact htop
  ·rw[Gx EN,hul,List.getElem?_drop,show j+(n+1)+(i - j - (n+1))=i by omega];have:=h.zero i EN;rwa [FU] at this
theorem BO.start (hv:CZ v n b f) (hb:n=(dig b).length) (hla:la=(dig a).length) (hle:n<=la) (hul:U.length=la+1) (hlim:Limbs U) (hU:aH U=a*f):BO a f v n la (la - n+1) U (F8 (la - n+1) 0):=by
 refine⟨hul,hlim,aF,Limbs.zeros _,?_,?_,λi hi=>eU (by rw[hul]; omega)⟩
 ·rw[GU aF,hU];simp[aH]
 ·rw[hU,hv.eq];have hb0:b≠0:=by
   intro h0;rw[h0,bD] at hb;have:=hv.n2;simp at hb;omega
  have h1:=aau hb0;have h2:=lS a;rw[<-hb] at h1;rw[<-hla] at h2;have h3:LB ^ la<=b*LB ^ (la - n+1):=by
   have:LB ^ la=LB ^ (n - 1)*LB ^ (la - n+1):=by rw[<-KY];congr 1;have:=hv.n2;omega
   rw[this];exact H8 _ h1
  have h4:a*f < b*LB ^ (la - n+1)*f:=J8 EN hv.f0;calc a*f < b*LB ^ (la - n+1)*f:=h4
   _=b*f*LB ^ (la - n+1):=by grind
theorem BO.last (h:BO a f v n la 0 U q) (hv:CZ v n b f):aH q=a / b/\aH (U.take n) / f=a % b/\aH (U.take n)=aH U:=by
 have h1:=h.eq;have h2:=h.lt;rw[Nat.pow_zero,Gp,List.drop_zero,hv.eq] at h1;rw[Nat.pow_zero,Gp,hv.eq] at h2;have h3:=aa3 hv.f0 h1 h2;have h4:aH (U.take n)=aH U:=by
  by_cases hn:n<=U.length
  ·rw[gI U hn,uq (l:=U.drop n) λi=>by rw[getD_drop]; exact h.zero _ EN];simp
  ·rw[Gl EN]
 exact⟨h3.1,by rw[h4]; exact h3.2,h4⟩
end
theorem afO (hn:n=(dig b).length) (h2:2<=n) (hvl:v.length=n) (hv:Limbs v) (he:aH v=b*(LB / ((dig b).getD (n - 1) 0+1))):CZ v n b (LB / ((dig b).getD (n - 1) 0+1)):=by
 have hb0:b≠0:=by intro h0;rw[h0,bD] at hn;simp at hn;omega
 obtain⟨t1,t2,t3⟩:=rO hb0;rw[<-hn] at t1 t2 t3;obtain⟨f1,_,_,_,_⟩:=jB t1 t2;have hh:=afM t1 t2;refine⟨h2,hvl,hv,?_,he,f1⟩;generalize LB / ((dig b).getD (n - 1) 0+1)=f at *;generalize (dig b).getD (n - 1) 0=t at *;have hs:=qN (u:=v) (n:=n - 1) EN;have hlt:=rP hv (n:=n - 1) EN;have h3:LB ^ (n - 1)*(t*f)<=aH v:=by
  rw[he];have:=H8 f t3;calc LB ^ (n - 1)*(t*f)=t*LB ^ (n - 1)*f:=by grind
   _<=b*f:=this
 have h4:LB ^ (n - 1)*(t*f) < LB ^ (n - 1)*(v.getD (n - 1) 0+1):=by rw[GV,Gp];omega
 have:=Ku h4;omega
theorem vN (hn:n=(dig b).length) (hb0:b≠0):b*(LB / ((dig b).getD (n - 1) 0+1)) < LB ^ n:=by
 obtain⟨t1,t2,_⟩:=rO hb0;have hp:=bg.2 hb0;rw[<-hn] at t1 t2 hp;obtain⟨f1,_,f3,_,_⟩:=jB t1 t2;have hs:=qN (u:=dig b) (n:=n - 1) EN;have hlt:=rP (aP b) (n:=n - 1) EN;rw[aX] at hs;generalize LB / ((dig b).getD (n - 1) 0+1)=f at *;generalize (dig b).getD (n - 1) 0=t at *;have h1:b < LB ^ (n - 1)*(t+1):=by rw[GV,Gp];omega
 have h2:b*f < LB ^ (n - 1)*(t+1)*f:=J8 h1 f1;have h3:LB ^ (n - 1)*(t+1)*f<=LB ^ (n - 1)*LB:=by
  rw[IE,Gy (t+1) f];exact Gq _ f3
 have h4:LB ^ (n - 1)*LB=LB ^ n:=by rw[<-IJ];congr 1;omega
 omega
theorem uy {a:Nat} (hf:f<=500000000):a*f < LB ^ ((dig a).length+1):=by
 have h1:=lS a;have h2:a*f<=a*LB:=Gq _ (by unfold LB; omega);have h3:a*LB < LB ^ (dig a).length*LB:=J8 h1 D5;rw[IJ];omega
theorem pG {b:List Nat} {s t c c':Int} (hi:i < o.length) (h:(aH (o.take i):Int)+(LB ^ i:Nat)*c=s*aH (a.take i)+t*aH (b.take i))
  (hv:(x:Int)+(LB:Nat)*c'=s*(a.getD i 0:Nat)+t*(b.getD i 0:Nat)+c) :
  (aH ((o.set i x).take (i+1)):Int)+(LB ^ (i+1):Nat)*c'=s*aH (a.take (i+1))+t*aH (b.take (i+1)):=by
 rw[lU hi,bQ,bQ,IJ];simp only[Int.natCast_add,Int.natCast_mul];generalize ((LB ^ i:Nat):Int)=P at *;generalize ((LB:Nat):Int)=L at *;generalize ((a.getD i 0:Nat):Int)=A at *;generalize ((b.getD i 0:Nat):Int)=B at *;have e:P*((x:Int)+L*c')=P*(s*A+t*B+c):=by rw[hv]
 grind
theorem ai5 {R c:Int} (hN:N < M) (h0:0<=R) (hR:R < M) (h:(N:Int)+(M:Int)*c=R):(N:Int)=R:=by
 rcases Int.lt_trichotomy c 0 with hc | hc | hc
 ·have:(M:Int)*c<=(M:Int)*(-1):=Jt EN EN;omega
 ·subst hc;omega
 ·have:(M:Int)*1<=(M:Int)*c:=Jt EN EN;omega
structure Leh (a b M p0 q0 al be p q A B C D:Int):Prop where
 ha:a=p0*M+al
 hb:b=q0*M+be
 al0:0<=al
 al1:al < M
 be0:0<=be
 be1:be < M
 hp:p=A*p0+B*q0
 hq:q=C*p0+D*q0
 pA:0<=p+A
 pB:0<=p+B
 qC:0<=q+C
 qD:0<=q+D
 pA1:p+A<=p0+1
 pB1:p+B<=p0+1
 qC1:q+C<=p0+1
 qD1:q+D<=p0+1
 sign:(0<=A/\B<=0/\C<=0/\0<=D)\/(A<=0/\0<=B/\0<=C/\D<=0)
 y0:0<=C*a+D*b
 yx:C*a+D*b<=A*a+B*b
 xa:A*a+B*b<=a
 yb:C*a+D*b<=b
 prog:B=0\/C*a+D*b < b
 gcd:Int.gcd (A*a+B*b) (C*a+D*b)=Int.gcd a b
theorem Leh.start {a b M p0 q0 al be:Int} (ha:a=p0*M+al) (hb:b=q0*M+be) (al0:0<=al) (al1:al < M) (be0:0<=be) (be1:be < M) (hq0:0<=q0) (hqp:q0<=p0) (h0:0<=b) (hba:b<=a) :
  Leh a b M p0 q0 al be p0 q0 1 0 0 1 :=
 ⟨ha,hb,al0,al1,be0,be1,EN,EN,EN,EN,EN,EN,EN,EN,EN,EN,.inl ⟨EN,EN,EN,EN⟩,EN,EN,EN,EN,.inl rfl,aF⟩
section
variable {a b M p0 q0 al be p q A B C D:Int}
theorem Leh.x_eq (h:Leh a b M p0 q0 al be p q A B C D):A*a+B*b=p*M+(A*al+B*be):=by
 rw[h.ha,h.hb,h.hp];grind
theorem Leh.y_eq (h:Leh a b M p0 q0 al be p q A B C D):C*a+D*b=q*M+(C*al+D*be):=by
 rw[h.ha,h.hb,h.hq];grind
theorem Leh.afP (h:Leh a b M p0 q0 al be p q A B C D):0<=p:=by
 have:=h.pA;have:=h.pB;rcases h.sign with⟨_,_,_,_⟩ | ⟨_,_,_,_⟩ <;> omega
theorem Leh.ab3 (h:Leh a b M p0 q0 al be p q A B C D):0<=q:=by
 have:=h.qC;have:=h.qD;rcases h.sign with⟨_,_,_,_⟩ | ⟨_,_,_,_⟩ <;> omega
theorem Leh.quot {p q A C k:Int} (hp:0<=p+A) (hq:0<=q+C) (h0:q+C≠0) (hk:k=(p+A) / (q+C)):0<=k/\k*(q+C)<=p+A/\p+A < (k+1)*(q+C):=by
 have hpos:0 < q+C:=EN;subst hk;exact⟨Int.ediv_nonneg hp hq,Int.ediv_mul_le _ h0,Int.lt_ediv_add_one_mul_self _ hpos⟩
theorem alb (x y k:Int):Int.gcd y (x - k*y)=Int.gcd x y:=by
 rw[Int.gcd_comm x y,Int.sub_eq_add_neg,<-Int.neg_mul];exact Int.gcd_add_mul_right_right _ _ _
theorem Leh.step (h:Leh a b M p0 q0 al be p q A B C D) {k:Int} (hC:q+C≠0) (hD:q+D≠0) (hk:k=(p+A) / (q+C)) (hk':k=(p+B) / (q+D)) :
  Leh a b M p0 q0 al be q (p - k*q) C D (A - k*C) (B - k*D)/\(A - k*C)*a+(B - k*D)*b < C*a+D*b:=by
 obtain⟨k0,k1,k2⟩:=Leh.quot h.pA h.qC hC hk;obtain⟨_,k3,k4⟩:=Leh.quot h.pB h.qD hD hk';clear hk hk';have ex:=h.x_eq;have ey:=h.y_eq;have hM:0 < M:=by have:=h.al0;have:=h.al1;omega
 have hal:=h.al0;have hal1:=h.al1;have hbe:=h.be0;have hbe1:=h.be1;have exy:(A - k*C)*a+(B - k*D)*b=(A*a+B*b) - k*(C*a+D*b):=by grind
 have main:0<=(A*a+B*b) - k*(C*a+D*b)/\(A*a+B*b) - k*(C*a+D*b) < C*a+D*b:=by
  rw[ex,ey];rcases h.sign with⟨sA,sB,sC,sD⟩ | ⟨sA,sB,sC,sD⟩
  ·have f1:0<=((p+B) - k*(q+D))*M:=Hf EN EN;refine zc0 ?_;intro kC kD;have f2:0<=(A - k*C)*al:=Hf EN hal;have f3:0<=(k*D - B)*(M - be):=Hf EN EN;have f4:1*M<=((k+1)*(q+C) - (p+A))*M:=J6 EN EN;have kC1:(k+1)*C<=0:=LQ EN sC;have kD1:0<=(k+1)*D:=Hf EN sD;have f5:0<=(A - (k+1)*C)*(M - al):=Hf EN EN;have f6:0<=((k+1)*D - B)*be:=Hf EN hbe;constructor
   ·have:p*M+(A*al+B*be) - k*(q*M+(C*al+D*be))=((p+B) - k*(q+D))*M+(A - k*C)*al+(k*D - B)*(M - be):=by grind
    omega
   ·have:q*M+(C*al+D*be) - (p*M+(A*al+B*be) - k*(q*M+(C*al+D*be)))=((k+1)*(q+C) - (p+A))*M+(A - (k+1)*C)*(M - al)+((k+1)*D - B)*be:=by grind
    omega
  ·have f1:0<=((p+A) - k*(q+C))*M:=Hf EN EN;refine zc1 ?_;intro kD kC;have f2:0<=(B - k*D)*be:=Hf EN hbe;have f3:0<=(k*C - A)*(M - al):=Hf EN EN;have f4:1*M<=((k+1)*(q+D) - (p+B))*M:=J6 EN EN;have kD1:(k+1)*D<=0:=LQ EN sD;have kC1:0<=(k+1)*C:=Hf EN sC;have f5:0<=(B - (k+1)*D)*(M - be):=Hf EN EN;have f6:0<=((k+1)*C - A)*al:=Hf EN hal;constructor
   ·have:p*M+(A*al+B*be) - k*(q*M+(C*al+D*be))=((p+A) - k*(q+C))*M+(B - k*D)*be+(k*C - A)*(M - al):=by grind
    omega
   ·have:q*M+(C*al+D*be) - (p*M+(A*al+B*be) - k*(q*M+(C*al+D*be)))=((k+1)*(q+D) - (p+B))*M+(B - (k+1)*D)*(M - be)+((k+1)*C - A)*al:=by grind
    omega
 have hkq:0<=k*(q+C):=Hf k0 h.qC;have hkq':0<=k*(q+D):=Hf k0 h.qD;have pA1:=h.pA1;have pB1:=h.pB1;have g1:p - k*q+(A - k*C)=p+A - k*(q+C):=by grind
 have g2:p - k*q+(B - k*D)=p+B - k*(q+D):=by grind
 have hyb:=h.yb;refine⟨⟨h.ha,h.hb,hal,hal1,hbe,hbe1,h.hq,?_,h.qC,h.qD,by rw[g1]; omega,by rw[g2]; omega,h.qC1,h.qD1,by rw[g1]; omega,by rw[g2]; omega,?_,by rw[exy]; exact main.1,by rw[exy]; omega,?_,by rw[exy]; omega,.inr (by rw[exy]; omega),?_⟩,by rw[exy]; exact main.2⟩
 ·rw[h.hp,h.hq];grind
 ·rcases h.sign with⟨sA,sB,sC,sD⟩ | ⟨sA,sB,sC,sD⟩
  ·right
   refine zc0 ?_;intro kC kD;exact⟨sC,sD,EN,EN⟩
  ·left
   refine zc1 ?_;intro kD kC;exact⟨sC,sD,EN,EN⟩
 ·have:=h.yx;have:=h.xa;omega
 ·rw[exy,alb,h.gcd]
theorem Leh.bounds (h:Leh a b M p0 q0 al be p q A B C D) {k:Int} (hC:q+C≠0) (hD:q+D≠0) (hk:k=(p+A) / (q+C)) (hk':k=(p+B) / (q+D)) :
  0<=k/\k<=p0+1/\0<=k*q/\k*q<=p0+1∧-(p0+1)<=k*C/\k*C<=p0+1∧-(p0+1)<=k*D/\k*D<=p0+1:=by
 obtain⟨k0,k1,k2⟩:=Leh.quot h.pA h.qC hC hk;obtain⟨_,k3,k4⟩:=Leh.quot h.pB h.qD hD hk';have pA1:=h.pA1;have pB1:=h.pB1;have hqC:=h.qC;have hqD:=h.qD;have hq:=h.ab3;have r1:k*(q+C)=k*q+k*C:=Int.mul_add _ _ _;have r2:k*(q+D)=k*q+k*D:=Int.mul_add _ _ _;have r3:0<=k*q:=Hf k0 hq;have r4:0<=k*(q+C):=Hf k0 hqC;have r5:0<=k*(q+D):=Hf k0 hqD;have r6:k*1<=k*(q+C):=Jt EN k0;rcases h.sign with⟨sA,sB,sC,sD⟩ | ⟨sA,sB,sC,sD⟩
 ·refine zc0 ?_;intro kC kD;omega
 ·refine zc1 ?_;intro kD kC;omega
end
theorem aeI (k m:Nat):(∀ i,i < k->(2 ^ k*(2*m+1)).testBit i=false)/\(2 ^ k*(2*m+1)).testBit k=true:=by
 constructor
 ·intro i hi;rw[Gy,Nat.testBit_mul_two_pow];simp;omega
 ·rw[Gy,Nat.testBit_mul_two_pow];simp
theorem aoH (h:(2 ^ i*(2*m+1)) ||| (2 ^ j*(2*n+1))=2 ^ s*(2*r+1)):s=min i j:=by
 have hi:=aeI i m;have hj:=aeI j n;have hs:=aeI s r;rw[<-h] at hs;have hs1:=hs.2;rw[Nat.testBit_or,Bool.or_eq_true] at hs1;have a1:min i j<=s:=by
  rcases Ip s (min i j) with h1 | h1
  ·rw[hi.1 s EN,hj.1 s EN] at hs1;simp at hs1
  ·exact h1
 have a2:s<=min i j:=by
  rcases Ip (min i j) s with h1 | h1
  ·have:=hs.1 _ h1;rw[Nat.testBit_or,Bool.or_eq_false_iff] at this;rcases Nat.le_total i j with h2 | h2
   ·rw[Hy h2,hi.2] at this;simp at this
   ·rw[Nat.min_eq_right h2,hj.2] at this;simp at this
  ·exact h1
 omega
theorem amM (k m:Nat):KW (2*m+1) (2 ^ k):=by
 apply Nat.Coprime.pow_right
 show Gv (2*m+1) 2=1;rw[Iy,Nat.gcd_rec,show(2*m+1) % 2=1 by omega];rfl
theorem abI (k m b:Nat):Gv (2*m+1) (2 ^ k*b)=Gv (2*m+1) b:=Nat.Coprime.gcd_mul_left_cancel_right _ (amM k m).symm
theorem amN {a:Nat} (ha:a=2 ^ i*(2*m+1)) (hb:b=2 ^ j*(2*n+1)) (hs:(a ||| b)=2 ^ s*(2*r+1)):Gv (2*m+1) b*2 ^ s=Gv a b:=by
 have he:s=min i j:=aoH (by rw[<-ha,<-hb]; exact hs);rw[hb,abI,ha,he];rcases Nat.le_total i j with h | h
 ·rw[Hy h];obtain⟨d,rfl⟩:∃ d,j=i+d:=⟨j - i,EN⟩;rw[KY,IE,JO,abI,Gy]
 ·rw[Nat.min_eq_right h];obtain⟨d,rfl⟩:∃ d,i=j+d:=⟨i - j,EN⟩;rw[KY,IE,JO,Iy (2 ^ d*_),abI,Gy,Iy]
theorem amO (hl:l.length<=n) (hn:3<=n) (hT:jY*T=LB) (hL:Limbs l) :
  (l.getD (n - 1) 0*LB+l.getD (n - 2) 0)*jY+l.getD (n - 3) 0*jY / LB=aH l / (LB ^ (n - 3)*T):=by
 have hTp:0 < T:=by
  rcases Gt T with h | h
  ·subst h;simp at hT
  ·exact h
 have htp:0 < jY:=by
  rcases Gt jY with h | h
  ·subst h;simp at hT
  ·exact h
 have e0:aH l=aH (l.take (n - 3))+LB ^ (n - 3)*(l.getD (n - 3) 0+LB*(l.getD (n - 2) 0+LB*l.getD (n - 1) 0)):=by
  by_cases h3:n - 3<=l.length
  ·rw[gI l h3,bT,show n - 3+1=n - 2 by omega,bT,show n - 2+1=n - 1 by omega,bT,show n - 1+1=n by omega,GU hl];simp[aH]
  ·rw[Gl EN,eU EN,eU EN,eU EN];simp
 have e1:aH (l.take (n - 3)) < LB ^ (n - 3):=by
  have:=gV (hL.take (n - 3));have h2:LB ^ (l.take (n - 3)).length<=LB ^ (n - 3):=Io aA (by rw[G5]; omega);omega
 rw[e0,<-Nat.div_div_eq_div_mul,JU _ _ (Bl _),I7 e1,Iz];generalize l.getD (n - 3) 0=z;generalize l.getD (n - 2) 0=y;generalize l.getD (n - 1) 0=x;have e2:z+LB*(y+LB*x)=z+T*(jY*(y+LB*x)):=by rw[<-hT];grind
 rw[e2,JU _ _ hTp];have e3:z*jY / LB=z / T:=by rw[<-hT,Gy z,Nat.mul_div_mul_left _ _ htp]
 rw[e3,JG (x*LB),Gy x,Gy jY,JG]
theorem amP (hl:l.length=n) (hn:3<=n) (hT:jY*T=LB) (hL:Limbs l) (ht:l.getD (n - 1) 0*jY < LB):aH l / (LB ^ (n - 3)*T) < 1000000000000000000:=by
 have hTp:0 < T:=by
  rcases Gt T with h | h
  ·subst h;simp at hT
  ·exact h
 rw[I8 (Nat.mul_pos (Bl _) hTp)];have h1:(l.getD (n - 1) 0+1)*jY<=LB:=by
  have:l.getD (n - 1) 0 < T:=by
   rcases Ip (l.getD (n - 1) 0) T with h | h
   ·exact h
   ·have:=Gq jY h;rw[Gy jY (l.getD _ _)] at this;omega
  have h9:(l.getD (n - 1) 0+1)*jY<=T*jY:=H8 jY this;rw[Gy T] at h9;omega
 have h2:aH l < LB ^ (n - 1)*(l.getD (n - 1) 0+1):=by
  rw[gI l (i:=n - 1) EN,bT,show n - 1+1=n by omega,GU EN];have:=gV (hL.take (n - 1));rw[G5,Hy EN] at this;rw[GV (LB ^ (n - 1)) _ 1];simp[aH] at *;omega
 have h3:LB ^ (n - 1)*(l.getD (n - 1) 0+1)*jY<=LB ^ (n - 1)*LB:=by rw[IE];exact Gq _ h1
 have htp:0 < jY:=by
  rcases Gt jY with h | h
  ·subst h;simp at hT
  ·exact h
 have h4:LB ^ (n - 1)*LB=1000000000000000000*(LB ^ (n - 3)*T)*jY:=by
  have:LB ^ (n - 1)=LB ^ (n - 3)*LB ^ 2:=by rw[<-KY];congr 1;omega
  rw[this,<-hT];have:(jY*T) ^ 2=1000000000000000000:=by rw[hT];decide
  rw[this];grind
 rw[h4] at h3;have h5:=Nat.le_of_mul_le_mul_right h3 htp;omega
theorem front_eq (hl:l.length<=n) (hn:2<=n) (hL:Limbs l):l.getD (n - 1) 0*LB+l.getD (n - 2) 0=aH l / LB ^ (n - 2):=by
 have e0:aH l=aH (l.take (n - 2))+LB ^ (n - 2)*(l.getD (n - 2) 0+LB*l.getD (n - 1) 0):=by
  by_cases h3:n - 2<=l.length
  ·rw[gI l h3,bT,show n - 2+1=n - 1 by omega,bT,show n - 1+1=n by omega,GU hl];simp[aH]
  ·rw[Gl EN,eU EN,eU EN];simp
 have e1:aH (l.take (n - 2)) < LB ^ (n - 2):=by
  have:=gV (hL.take (n - 2));have h2:LB ^ (l.take (n - 2)).length<=LB ^ (n - 2):=Io aA (by rw[G5]; omega);omega
 rw[e0,JU _ _ (Bl _),I7 e1,Iz,Gy LB,JG]
def sgI (neg:Bool) (n:Nat):Int:=if neg then -(n:Int) else (n:Int)
def dI (x:Rat):Bool:=decide (x.num < 0)
theorem qG (neg:Bool) (n:Nat):(sgI neg n).natAbs=n:=by unfold sgI; split <;> simp
theorem xk (h:n≠0):decide (sgI neg n < 0)=neg:=by
 unfold sgI;cases neg <;> simp <;> omega
theorem lZ (x:Rat):sgI (dI x) x.num.natAbs=x.num:=by
 unfold sgI dI;by_cases h:x.num < 0
 ·rw[L8 (by simpa using h)];omega
 ·rw[L6 (by simpa using h)];omega
theorem ab4 (neg:Bool):sgI neg 0=0:=by unfold sgI; cases neg <;> rfl
theorem amQ (a b:Bool) (m n:Nat):sgI (a != b) (m*n)=sgI a m*sgI b n:=by
 unfold sgI;cases a <;> cases b <;> simp[Int.neg_mul,Int.mul_neg]
theorem mY (a:Bool) (m n:Nat):sgI a (m*n)=sgI a m*(n:Int):=by
 unfold sgI;cases a <;> simp[Int.neg_mul]
theorem jl (n:Int) (hd:d≠0):(mkRat n d).num.natAbs=n.natAbs / Gv n.natAbs d/\(mkRat n d).den=d / Gv n.natAbs d/\((mkRat n d).num < 0↔n < 0):=by
 have hg:0 < d.gcd n.natAbs:=KE _ (Jz hd);rw[Rat.num_mkRat,Rat.den_mkRat,L6 hd,L6 hd,Iy n.natAbs d];have hdv:((d.gcd n.natAbs:Nat):Int) ∣ n:=Int.ofNat_dvd_left.2 (IQ _ _);refine⟨?_,rfl,?_⟩
 ·rw[Int.natAbs_ediv_of_dvd hdv];rfl
 ·obtain⟨c,hc⟩:=hdv;generalize d.gcd n.natAbs=G at *;rw[hc,Int.mul_ediv_cancel_left _ EN];constructor
  ·intro h;exact Int.mul_neg_of_pos_of_neg EN h
  ·intro h;rcases Int.lt_or_le c 0 with h1 | h1
   ·exact h1
   ·have:=Hf (show(0:Int)<=(G:Nat) by omega) h1;omega
theorem mg (n:Int) (hd:d≠0):dI (mkRat n d)=decide (n < 0):=by
 unfold dI;rw[decide_eq_decide];exact(jl n hd).2.2
theorem oG (hd:d≠0) (h:Gv n d=1):(mkRat (sgI neg n) d).num.natAbs=n/\(mkRat (sgI neg n) d).den=d:=by
 have:=jl (sgI neg n) hd;rw[qG,h,JK,JK] at this;exact⟨this.1,this.2.1⟩
theorem yF (x:Rat):mkRat (sgI (dI x) x.num.natAbs) x.den=x:=by rw[lZ,Rat.mkRat_self]
theorem jQ (x:Rat):Gv x.num.natAbs x.den=1:=x.reduced
theorem lF (x:Rat):x.num.natAbs=0↔x=0:=by rw[Int.natAbs_eq_zero,Rat.num_eq_zero]
theorem anT (x y:Rat) {l:Nat} (hg:g=Gv x.den y.den) (hl:l=x.den / g) (hr:r=y.den / g):x+y=mkRat (x.num*r+y.num*l) (l*y.den):=by
 have hgp:0 < g:=by rw[hg];exact KE _ x.den_pos
 have e1:l*g=x.den:=by rw[hl,hg];exact LY (Jy _ _)
 have e2:r*g=y.den:=by rw[hr,hg];exact LY (IQ _ _)
 rw[Rat.add_def'];have e3:x.num*(y.den:Int)+y.num*(x.den:Int)=(x.num*r+y.num*l)*(g:Nat):=by
  rw[<-e1,<-e2];simp only[Int.natCast_mul];grind
 have e4:x.den*y.den=(l*y.den)*g:=by rw[<-e1];grind
 rw[e3,e4,Rat.mkRat_mul_right EN]
theorem ajD (x y:Rat) {l:Nat} {t:Int} (hg:g=Gv x.den y.den) (hl:l=x.den / g) (hr:r=y.den / g) (ht:t=x.num*r+y.num*l) (hf:f=Gv t.natAbs g) :
  (x+y).num.natAbs=t.natAbs / f/\(x+y).den=l*(y.den / f)/\dI (x+y)=decide (t < 0):=by
 have hgp:0 < g:=by rw[hg];exact KE _ x.den_pos
 have hlp:l≠0:=by
  intro h0;have e1:l*g=x.den:=by rw[hl,hg];exact LY (Jy _ _)
  rw[h0] at e1;have:=x.den_pos;omega
 have hd:l*y.den≠0:=Jk hlp y.den_nz;have e:=anT x y hg hl hr;rw[<-ht] at e;have hp:=jl t hd;have ha:=Rat.add.aux x y hg hl hr;simp only at ha;rw[<-ht] at ha;rw[<-ha,<-hf] at hp;have hfg:f ∣ y.den:=by
  rw[hf];refine Nat.dvd_trans (IQ _ _) ?_;rw[hg];exact IQ _ _
 rw[e];refine⟨hp.1,?_,?_⟩
 ·rw[hp.2.1,Nat.mul_div_assoc _ hfg]
 ·exact mg t hd
theorem ajE (x y:Rat):(x*y).num.natAbs=(x.num.natAbs / Gv x.num.natAbs y.den)*(y.num.natAbs / Gv y.num.natAbs x.den) /\
  (x*y).den=(x.den / Gv y.num.natAbs x.den)*(y.den / Gv x.num.natAbs y.den)/\(x≠0->y≠0->dI (x*y)=(dI x != dI y)):=by
 have hd:x.den*y.den≠0:=Jk x.den_nz y.den_nz;have hp:=jl (x.num*y.num) hd;rw[<-Rat.mul_def',JF] at hp;have hg:Gv (x.num.natAbs*y.num.natAbs) (x.den*y.den)=Gv x.num.natAbs y.den*Gv y.num.natAbs x.den:=by
  have c1:=jQ x;have c2:=jQ y;generalize x.num.natAbs=a at *;generalize y.num.natAbs=b at *;generalize x.den=c at *;generalize y.den=d at *;obtain⟨a',ha⟩:=Jy a d;obtain⟨d',hd'⟩:=IQ a d;obtain⟨b',hb⟩:=Jy b c;obtain⟨c',hc⟩:=IQ b c;have hdp:0 < d:=Jz λh=>hd (by rw[h,JV])
  have hcp:0 < c:=Jz λh=>hd (by rw[h,Nat.zero_mul])
  have hf:0 < Gv a d:=Jq _ hdp;have hg:0 < Gv b c:=Jq _ hcp;have k1:KW a' d':=by
   have:Gv a d*Gv a' d'=Gv a d:=by rw[<-JO,<-ha,<-hd']
   exact Nat.eq_of_mul_eq_mul_left hf (by rw[this,Gp])
  have k2:KW b' c':=by
   have:Gv b c*Gv b' c'=Gv b c:=by rw[<-JO,<-hb,<-hc]
   exact Nat.eq_of_mul_eq_mul_left hg (by rw[this,Gp])
  have k3:KW a' c':=by
   refine Lp ⟨_,(ha.trans (Gy _ _))⟩ (Lj ⟨_,(hc.trans (Gy _ _))⟩ c1)
  have k4:KW b' d':=by
   refine Lp ⟨_,(hb.trans (Gy _ _))⟩ (Lj ⟨_,(hd'.trans (Gy _ _))⟩ c2)
  generalize Gv a d=f at *;generalize Gv b c=g at *;have e1:a*b=f*g*(a'*b'):=by rw[ha,hb];grind
  have e2:c*d=f*g*(c'*d'):=by rw[hc,hd'];grind
  rw[e1,e2,JO,show Gv (a'*b') (c'*d')=1 from Nat.Coprime.mul_left (Nat.Coprime.mul_right k3 k1) (Nat.Coprime.mul_right k2 k4),Gp]
 refine⟨?_,?_,?_⟩
 ·rw[hp.1,hg];exact Nat.mul_div_mul_comm (Jy _ _) (Jy _ _)
 ·rw[hp.2.1,hg,Gy (Gv x.num.natAbs y.den)];exact Nat.mul_div_mul_comm (IQ _ _) (IQ _ _)
 ·intro hx hy;have hx':x.num≠0:=λh=>hx (Rat.num_eq_zero.1 h)
  have hy':y.num≠0:=λh=>hy (Rat.num_eq_zero.1 h)
  rw[Rat.mul_def',mg _ hd];unfold dI;rcases LP hx' with h1 | h1 <;> rcases LP hy' with h2 | h2
  ·have:=Int.mul_pos_of_neg_of_neg h1 h2;simp[h1,h2];omega
  ·have:=Int.mul_neg_of_neg_of_pos h1 h2;simp[h1,show ¬ y.num < 0 by omega];omega
  ·have:=Int.mul_neg_of_pos_of_neg h1 h2;simp[h2,show ¬ x.num < 0 by omega];omega
  ·have:=Int.mul_pos h1 h2;simp[show ¬ y.num < 0 by omega,show ¬ x.num < 0 by omega];omega
def jC (x y:Rat):Int:=if x < y then -1 else if x=y then 0 else 1
theorem dW (a b:Nat):(dig (a*b)).length<=(dig a).length+(dig b).length :=
 aV (by rw[KY]; exact Nat.mul_lt_mul'' (lS a) (lS b))
theorem vO (a b:Nat):(dig (a+b)).length<=max (dig a).length (dig b).length+1:=by
 refine aV ?_;have h1:a < LB ^ max (dig a).length (dig b).length:=GZ (lS a) (Io aA (Nat.le_max_left _ _));have h2:b < LB ^ max (dig a).length (dig b).length:=GZ (lS b) (Io aA (Nat.le_max_right _ _));rw[IJ];generalize LB ^ max (dig a).length (dig b).length=M at *;unfold LB;omega
theorem bY (a b:Nat):(dig (a / b)).length<=(dig a).length:=aT (Nat.div_le_self a b)
def rl (x:Rat):Nat:=max (dig x.num.natAbs).length (dig x.den).length
theorem gy (x:Rat):(dig x.num.natAbs).length<=rl x:=Nat.le_max_left _ _
theorem gB (x:Rat):(dig x.den).length<=rl x:=Nat.le_max_right _ _
theorem alc {n:Int} (hd:d≠0) (h1:(dig n.natAbs).length<=k) (h2:(dig d).length<=k):rl (mkRat n d)<=k:=by
 have h:=jl n hd;unfold rl;rw[h.1,h.2.1];exact Nat.max_le.2 ⟨Gf (bY _ _) h1,Gf (bY _ _) h2⟩
theorem kR (x y:Rat):rl (x*y)<=rl x+rl y:=by
 rw[Rat.mul_def'];refine alc (Jk x.den_nz y.den_nz) ?_ ?_
 ·rw[JF];exact Gf (dW _ _) (Nat.add_le_add (gy x) (gy y))
 ·exact Gf (dW _ _) (Nat.add_le_add (gB x) (gB y))
theorem aav (x y:Rat):rl (x+y)<=rl x+rl y+1:=by
 rw[Rat.add_def'];have a1:=gy x;have a2:=gy y;have a3:=gB x;have a4:=gB y;refine alc (Jk x.den_nz y.den_nz) ?_ ?_
 ·have h1:(x.num*(y.den:Int)+y.num*(x.den:Int)).natAbs<=x.num.natAbs*y.den+y.num.natAbs*x.den:=by
   refine Gf (Int.natAbs_add_le _ _) ?_;rw[JF,JF];exact FV _
  have h2:=aT h1;have h3:=vO (x.num.natAbs*y.den) (y.num.natAbs*x.den);have h4:=dW x.num.natAbs y.den;have h5:=dW y.num.natAbs x.den;omega
 ·have:=dW x.den y.den;omega
theorem aeJ (x:Rat):rl (-x)=rl x:=by unfold rl; rw[Rat.neg_num,Rat.neg_den,Int.natAbs_neg]
theorem rQ:rl 0=1:=by unfold rl; rw[show(0:Rat).num=0 from rfl,show(0:Rat).den=1 from rfl,Int.natAbs_zero,bD,iL]; rfl
theorem ab5 (n:Int):rl (n:Rat)=max (dig n.natAbs).length 1:=by unfold rl; rw[Kv,KQ,iL]; rfl
theorem tJ (hy:y≠0):(y⁻¹).num.natAbs=y.den/\(y⁻¹).den=y.num.natAbs/\dI y⁻¹=dI y:=by
 have hn:y.num≠0:=λh=>hy (Rat.num_eq_zero.1 h)
 rw[Rat.inv_def];have hnd:y.num.natAbs≠0:=EN;have e:Rat.divInt (y.den:Int) y.num=mkRat (sgI (dI y) y.den) y.num.natAbs:=by
  have h1:y.num=sgI (dI y) y.num.natAbs:=(lZ y).symm;have h2:Rat.divInt (y.den:Int) y.num=Rat.divInt (y.den:Int) (sgI (dI y) y.num.natAbs):=by rw[<-h1]
  rw[h2];unfold sgI;cases dI y
  ·simp[Rat.divInt_ofNat]
  ·simp only[if_true];rw[<-Rat.neg_divInt_neg,Int.neg_neg,Rat.divInt_ofNat]
 rw[e];have hg:Gv y.den y.num.natAbs=1:=by rw[Iy];exact jQ y
 have hp:=oG (neg:=dI y) hnd hg;refine⟨hp.1,hp.2,?_⟩;rw[mg _ hnd];exact xk y.den_nz
theorem ahj (hy:y≠0):rl y⁻¹=rl y:=by
 unfold rl;rw[(tJ hy).1,(tJ hy).2.1,Nat.max_comm]
theorem amR {x:Rat} (hn:x.num.natAbs=y.num.natAbs) (hd:x.den=y.den) (hs:dI x=dI y):x=y:=by
 rw[<-yF x,<-yF y,hn,hd,hs]
theorem ajF:dI 0=false:=rfl
theorem ald {x:Rat} (h:x≠0):dI (-x) = !dI x:=by
 have:x.num≠0:=λe=>h (Rat.num_eq_zero.1 e)
 unfold dI;rw[Rat.neg_num];rcases LP this with h1 | h1
 ·simp[h1];omega
 ·have:¬ x.num < 0:=EN;simp[this];omega
theorem ahk (x:Rat):dig x.den≠[]:=λh=>x.den_nz (oC.1 h)
theorem ajG {x:Rat} (hx:x.den=1) (hy:y.den=1):(x+y).den=1/\(x+y).num=x.num+y.num:=by
 have ex:x=(x.num:Rat):=Rat.ext (Kv _).symm (by rw[hx,KQ]);have ey:y=(y.num:Rat):=Rat.ext (Kv _).symm (by rw[hy,KQ]);have e:x+y=((x.num+y.num:Int):Rat):=by
  rw[Rat.intCast_add,<-ex,<-ey]
 rw[e];exact⟨KQ _,Kv _⟩
def nT (x:Rat):Int:=if x.num.natAbs=0 then 0 else if dI x then -1 else 1
theorem abJ (x:Rat):nT x=if x.num < 0 then -1 else if x.num=0 then 0 else 1:=by
 unfold nT dI;by_cases h:x.num=0
 ·simp[h]
 ·by_cases h1:x.num < 0 <;> simp[h,h1]
theorem ab6 (x y:Rat):x=y↔x.num*y.den=y.num*x.den:=by
 constructor
 ·rintro rfl;rfl
 ·intro h;exact Rat.le_antisymm ((Rat.le_iff x y).2 (Int.le_of_eq h)) ((Rat.le_iff y x).2 (Int.le_of_eq h.symm))
theorem abK (x y:Rat):jC x y=if x.num*y.den < y.num*x.den then -1 else if x.num*y.den=y.num*x.den then 0 else 1:=by
 unfold jC;by_cases h:x < y
 ·rw[L8 h,L8 ((Rat.lt_iff x y).1 h)]
 ·rw[L6 h,L6 (λe=>h ((Rat.lt_iff x y).2 e))];by_cases h2:x=y
  ·rw[L8 h2,L8 ((ab6 x y).1 h2)]
  ·rw[L6 h2,L6 (λe=>h2 ((ab6 x y).2 e))]
theorem afQ {x:Rat} (h:nT x < nT y):jC x y = -1/\jC y x=1:=by
 have dx:(0:Int) < x.den:=by have:=x.den_pos;omega
 have dy:(0:Int) < y.den:=by have:=y.den_pos;omega
 have hl:x.num*y.den < y.num*x.den:=by
  rw[abJ,abJ] at h;rcases Int.lt_trichotomy x.num 0 with h1 | h1 | h1
  ·rw[L8 h1] at h;have a1:=Int.mul_neg_of_neg_of_pos h1 dy;have a2:0<=y.num:=by
    rcases Int.lt_or_le y.num 0 with h2 | h2
    ·rw[L8 h2] at h;omega
    ·exact h2
   have:=Hf a2 (Int.le_of_lt dx);omega
  ·rw[L6 EN,L8 h1] at h;rw[h1];have a2:0 < y.num:=by
    rcases Int.lt_trichotomy y.num 0 with h2 | h2 | h2
    ·rw[L8 h2] at h;omega
    ·rw[L6 EN,L8 h2] at h;omega
    ·exact h2
   have:=Int.mul_pos a2 dx;omega
  ·rw[L6 EN,L6 EN] at h;split at h
   ·omega
   ·split at h <;> omega
 rw[abK,abK,L8 hl,L6 EN,L6 EN];exact⟨rfl,rfl⟩
theorem ale {x:Rat} (h:nT x=nT y) (h0:nT x=0):jC x y=0:=by
 have key:∀ z:Rat,nT z=0->z.num=0:=by
  intro z hz;rw[abJ] at hz;by_cases h1:z.num < 0
  ·rw[L8 h1] at hz;omega
  ·rw[L6 h1] at hz;by_cases h2:z.num=0
   ·exact h2
   ·rw[L6 h2] at hz;omega
 have hx:=key x h0;have hy:=key y (by rw[<-h,h0]);rw[abK,hx,hy];simp
theorem alf {x:Rat} (h:nT x=nT y) (h0:nT x≠0):jC x y=nT x*dB (x.num.natAbs*y.den) (y.num.natAbs*x.den):=by
 have ex:=lZ x;have ey:=lZ y;have hn:dI x=dI y:=by
  have hx0:x.num.natAbs≠0:=λe=>h0 (by unfold nT; rw[L8 e])
  have hy0:y.num.natAbs≠0:=λe=>h0 (by rw[h]; unfold nT; rw[L8 e])
  unfold nT at h;rw[L6 hx0,L6 hy0] at h;cases hx:dI x <;> cases hy:dI y <;> rw[hx,hy] at h <;> simp at h ⊢
 have hx0:x.num.natAbs≠0:=λe=>h0 (by unfold nT; rw[L8 e])
 have e1:x.num*y.den=sgI (dI x) (x.num.natAbs*y.den):=by rw[mY,ex]
 have e2:y.num*x.den=sgI (dI x) (y.num.natAbs*x.den):=by rw[mY,hn,ey]
 rw[abK,e1,e2];unfold nT dB;rw[L6 hx0];generalize x.num.natAbs*y.den=a;generalize y.num.natAbs*x.den=b;cases dI x
 ·simp only[sgI,Bool.false_eq_true,if_false,Int.one_mul];split <;> split <;> (try split) <;> (try split) <;> omega
 ·simp only[sgI,if_true];split <;> split <;> (try split) <;> (try split) <;> omega
theorem alg (x y:Rat):jC x y=nT (x + -y):=by
 unfold jC;rw[abJ];have h1:x < y↔(x + -y).num < 0:=by
  have h0:(x + -y).num < 0↔¬ 0<=x + -y:=by rw[<-Rat.num_nonneg];omega
  rw[h0];constructor <;> intro h <;> grind
 have h2:x=y↔(x + -y).num=0:=by
  rw[Rat.num_eq_zero];constructor <;> intro h <;> grind
 by_cases a:x < y
 ·rw[L8 a,L8 (h1.1 a)]
 ·rw[L6 a,L6 (λe=>a (h1.2 e))];by_cases b:x=y
  ·rw[L8 b,L8 (h2.1 b)]
  ·rw[L6 b,L6 (λe=>b (h2.2 e))]
theorem sW (x y:Rat):jC x y=0↔x=y:=by
 unfold jC;split
 ·rename_i h
  constructor
  ·intro e;omega
  ·rintro rfl;exact absurd h Rat.lt_irrefl
 ·split
  ·rename_i h; simp[h]
  ·rename_i h; simp[h]
theorem aeK (x y:Rat):0 < jC x y↔y < x:=by
 unfold jC;split
 ·rename_i h
  constructor
  ·intro e;omega
  ·intro e;grind
 ·split
  ·rename_i h; subst h; simp[Rat.lt_irrefl]
  ·rename_i h1 h2
   constructor
   ·intro _;grind
   ·intro _;omega
def dP (l:List Nat):Int:=if 1024 < l.length then 4 else if l.any (λx=>decide (LB<=x)) then 3 else if l.getLast? = some 0 then 3 else 0
theorem adQ (h:dP l=0):l=dig (aH l)/\l.length<=1024:=by
 unfold dP at h;by_cases h1:1024 < l.length
 ·rw[L8 h1] at h;omega
 ·rw[L6 h1] at h;by_cases h2:l.any (λx=>decide (LB<=x))=true
  ·rw[L8 h2] at h;omega
  ·rw[L6 h2] at h;by_cases h3:l.getLast? = some 0
   ·rw[L8 h3] at h;omega
   ·refine⟨(tC (λx hx=>?_) h3).symm,EN⟩;rcases Ip x LB with h4 | h4
    ·exact h4
    ·exact absurd (List.any_eq_true.2 ⟨x,hx,Mc h4⟩) h2
theorem ab7 (h:(dig n).length<=1024):dP (dig n)=0:=by
 unfold dP;rw[L6 EN];have h2:(dig n).any (λx=>decide (LB<=x))=false:=by
  rw[Bool.eq_false_iff];intro he;obtain⟨x,hx,h3⟩:=List.any_eq_true.1 he;have:=aP n x hx;have:=of_decide_eq_true h3;omega
 rw[h2,L6 aA,L6 (tH n)]
def mZ (n:Nat):List Rat:=F8 n (((1:Int):Rat) / ((n:Int):Rat))
end Go.Proofs.YtnmeejofpkhlkaaGreatDoor
