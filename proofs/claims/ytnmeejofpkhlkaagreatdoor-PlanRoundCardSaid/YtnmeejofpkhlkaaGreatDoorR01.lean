/- Short names for closing steps. -/
set_option linter.all false
namespace Go.Proofs.YtnmeejofpkhlkaaGreatDoor
structure Mhid (p:Prop):Prop where
 out:p
theorem zaT {p:Prop} (h:p:=by
 rw[this,Nat.mul_add,Nat.mul_add]
 have e2:LB*(q*v.getD (n - 1) 0)=q*(LB*v.getD (n - 1) 0):=Nat.mul_left_comm _ _ _
 have e3:LB*r=r*LB:=Nat.mul_comm _ _
 omega):p:=h
theorem zbv {p:Prop} (h:p:=by
 have e:LB ^ i*(s+b.getD i 0+c)=LB ^ i*(a.getD i 0+LB*c'):=by rw[hs]
 rw[Nat.mul_add,Nat.mul_add,Nat.mul_add] at e
 omega):p:=h
theorem zbI {p q:Prop} (k:q) (h:Mhid q→p:=by
 intro hq
 refine⟨by rw[List.length_set]; exact h.len,h.limbs.set hsl,?_,yE h.rest⟩
 rw[jT (by rw[h.len]; exact hk),bF,bF,Nat.pow_succ]
 exact hq.out):p:=h ⟨k⟩
theorem zbP {p q:Prop} (k:q) (h:Mhid q→p:=by
 intro hq
 have kC:k*C≤0:=Int.mul_nonpos_of_nonneg_of_nonpos k0 sC
 have kD:0≤k*D:=Int.mul_nonneg k0 sD
 revert kD
 revert kC
 exact hq.out):p:=h ⟨k⟩
theorem zbQ {p q:Prop} (k:q) (h:Mhid q→p:=by
 intro hq
 have kD:k*D≤0:=Int.mul_nonpos_of_nonneg_of_nonpos k0 sD
 have kC:0≤k*C:=Int.mul_nonneg k0 sC
 revert kC
 revert kD
 exact hq.out):p:=h ⟨k⟩
theorem byOmega {p:Prop} (h:p:=by omega):p:=h
theorem ay {p:Prop} (h:p:=by decide):p:=h
theorem aB {p:Prop} (h:p:=by simp):p:=h
theorem aF {p:Prop} (h:p:=by (simp; omega)):p:=h
theorem named {α:Sort _} (a:α):∃ x,x=a:=⟨_,rfl⟩
abbrev LB:Nat:=1000000000
def aH:List Nat→Nat
 | []=>0
 | x :: r=>x+LB*aH r
def dig (n:Nat):List Nat:=if h:n=0 then [] else (n % LB) :: dig (n / LB)
termination_by n
decreasing_by exact Nat.div_lt_self byOmega ay
def Limbs (l:List Nat):Prop:=∀ x∈l,x < LB
theorem bD:dig 0 = []:=by unfold dig; rfl
theorem kU {n:Nat} (h:n≠0):dig n=(n % LB) :: dig (n / LB):=by rw[dig]; simp[h]
theorem lQ {n:Nat}:dig n = []↔n=0:=by
 constructor
 ·intro h;by_cases h0:n=0
  ·exact h0
  ·rw[kU h0] at h;cases h
 ·rintro rfl;exact bD
theorem aW (n:Nat):aH (dig n)=n:=by
 induction n using Nat.strongRecOn with
 | _ n ih =>
  by_cases h:n=0
  ·subst h;rw[bD];rfl
  ·rw[kU h];show n % LB+LB*aH (dig (n / LB))=n;rw[ih _ (Nat.div_lt_self byOmega ay)];exact Nat.mod_add_div n LB
theorem aP (n:Nat):Limbs (dig n):=by
 induction n using Nat.strongRecOn with
 | _ n ih =>
  by_cases h:n=0
  ·subst h;rw[bD];intro x hx;cases hx
  ·rw[kU h];intro x hx;rcases List.mem_cons.1 hx with rfl | hx
   ·exact Nat.mod_lt _ ay
   ·exact ih _ (Nat.div_lt_self byOmega ay) x hx
theorem ahZ {x n:Nat} (hx:x < LB) (h:x+LB*n≠0):dig (x+LB*n)=x :: dig n:=by
 rw[kU h];have h1:(x+LB*n) % LB=x:=by rw[Nat.add_mul_mod_self_left];exact Nat.mod_eq_of_lt hx
 have h2:(x+LB*n) / LB=n:=by rw[Nat.add_mul_div_left _ _ ay,Nat.div_eq_of_lt hx];omega
 rw[h1,h2]
theorem Limbs.tail {x:Nat} {l:List Nat} (h:Limbs (x :: l)):Limbs l:=fun y hy=>h y (List.mem_cons_of_mem _ hy)
theorem Limbs.head {x:Nat} {l:List Nat} (h:Limbs (x :: l)):x < LB:=h x (List.mem_cons_self)
theorem qy:∀ {l:List Nat},Limbs l→l.getLast?≠some 0→dig (aH l)=l
 | [],_,_=>bD
 | x :: r,h,hz=>by
  have hr:r.getLast?≠some 0:=by
   cases r with
   | nil=>simp
   | cons y r=>rwa [List.getLast?_cons_cons] at hz
  have ih:=qy h.tail hr;have h0:x+LB*aH r≠0:=by
   intro h0;have hx:x=0:=byOmega;have hn:aH r=0:=by
    rcases Nat.mul_eq_zero.1 (show LB*aH r=0 by omega) with h | h
    ·exact absurd h ay
    ·exact h
   rw[hn,bD] at ih;subst hx;rw[← ih] at hz;exact hz rfl
  show dig (x+LB*aH r)=x :: r;rw[ahZ h.head h0,ih]
theorem gY (l m:List Nat):aH (l++m)=aH l+LB ^ l.length*aH m:=by
 induction l with
 | nil=>simp[aH]
 | cons x l ih =>
  show x+LB*aH (l++m)=x+LB*aH l+LB ^ (l.length+1)*aH m;rw[ih,Nat.mul_add,Nat.pow_succ,Nat.mul_comm (LB ^ l.length) LB,Nat.mul_assoc,Nat.add_assoc]
theorem fH {l:List Nat} (h:Limbs l):aH l < LB ^ l.length:=by
 induction l with
 | nil=>simp[aH]
 | cons x l ih =>
  have h1:=ih h.tail;have h2:=h.head;show x+LB*aH l < LB ^ (l.length+1);rw[Nat.pow_succ,Nat.mul_comm (LB ^ l.length) LB];have h3:LB*(aH l+1)≤LB*LB ^ l.length:=Nat.mul_le_mul_left _ h1;rw[Nat.mul_add] at h3;omega
theorem agh {l:List Nat} (h0:l≠[]) (hz:l.getLast?≠some 0):LB ^ (l.length - 1)≤aH l:=by
 rw[← List.dropLast_concat_getLast h0,gY];have hl:l.getLast h0≠0:=by
  intro h;apply hz;rw[List.getLast?_eq_some_getLast h0,h]
 have h1:1≤aH [l.getLast h0]:=by show 1≤l.getLast h0+LB*0;omega
 have h2:=Nat.mul_le_mul_left (LB ^ l.dropLast.length) h1;simp only[List.length_append,List.length_dropLast,List.length_cons,List.length_nil] at *;have h3:l.length - 1+(0+1) - 1=l.length - 1:=byOmega;rw[h3];omega
theorem qA (n:Nat):(dig n).getLast?≠some 0:=by
 induction n using Nat.strongRecOn with
 | _ n ih =>
  by_cases h:n=0
  ·subst h;rw[bD];simp
  ·rw[kU h];have hlt:=Nat.div_lt_self (n:=n) (k:=LB) byOmega ay;by_cases h1:n / LB=0
   ·rw[h1,bD];have:=Nat.mod_add_div n LB;rw[h1] at this;simp;omega
   ·rw[kU h1,List.getLast?_cons_cons,← kU h1];exact ih _ hlt
theorem aS {n k:Nat} (h:n < LB ^ k):(dig n).length≤k:=by
 by_cases h0:n=0
 ·subst h0;rw[bD];simp
 ·have h1:=agh (l:=dig n) (fun h=>h0 (lQ.1 h)) (qA n);rw[aW] at h1;have h2:LB ^ ((dig n).length - 1) < LB ^ k:=Nat.lt_of_le_of_lt h1 h;have h3:=(Nat.pow_lt_pow_iff_right (show 1 < LB by decide)).1 h2;omega
theorem jW (n:Nat):n < LB ^ (dig n).length:=by
 have:=fH (aP n);rwa [aW] at this
theorem acf {n:Nat} (h:n≠0):LB ^ ((dig n).length - 1)≤n:=by
 have:=agh (l:=dig n) (fun e=>h (lQ.1 e)) (qA n);rwa [aW] at this
theorem aU {m n:Nat} (h:m≤n):(dig m).length≤(dig n).length:=aS (Nat.lt_of_le_of_lt h (jW n))
theorem agI {l:List Nat} (h:Limbs l) (hge:l≠[]→LB ^ (l.length - 1)≤aH l):dig (aH l)=l:=by
 refine qy h (fun hz=>?_);have h0:l≠[]:=by intro h;subst h;cases hz
 have h1:=hge h0;rw[List.getLast?_eq_some_getLast h0] at hz;injection hz with hz
 rw[← List.dropLast_concat_getLast h0,gY,hz] at h1;have h2:=fH (l:=l.dropLast) (fun x hx=>h x (List.dropLast_subset l hx));have h3:aH [0]=0:=rfl;rw[h3] at h1;simp only[List.length_append,List.length_dropLast,List.length_cons,List.length_nil] at h1 h2;have h4:l.length - 1+(0+1) - 1=l.length - 1:=byOmega;rw[h4] at h1;omega
def dP (l:List Nat):Nat→Nat
 | 0=>0
 | n+1=>if l[n]? = some 0 then dP l n else n+1
theorem abt (l:List Nat) (n:Nat):dP l n≤n:=by
 induction n with
 | zero=>exact Nat.le_refl _
 | succ n ih=>unfold dP; split <;> omega
theorem zQ (l:List Nat):aH (l ++ [0])=aH l:=by rw[gY]; simp[aH]
theorem abu {l:List Nat} (h:Limbs l):∀ {n:Nat},n≤l.length→l.take (dP l n)=dig (aH (l.take n))
 | 0,_=>by simp[dP,aH,bD]
 | n+1,hn=>by
  have hx:l[n]? = some l[n]:=List.getElem?_eq_getElem byOmega;have ht:l.take (n+1)=l.take n ++ [l[n]]:=by rw[List.take_add_one,hx]; rfl
  unfold dP;split
  ·rename_i hz
   rw[hx] at hz; injection hz with hz
   rw[ht,hz,zQ];exact abu h byOmega
  ·rename_i hz
   rw[hx] at hz;have hz':l[n]≠0:=fun e=>hz (by rw[e])
   rw[qy (l:=l.take (n+1)) (fun x hx=>h x (List.mem_of_mem_take hx))];rw[ht,List.getLast?_concat];intro e; injection e with e; exact hz' e
theorem adr {l:List Nat} (h:Limbs l):l.take (dP l l.length)=dig (aH l):=by
 have:=abu h (Nat.le_refl l.length);rwa [List.take_length] at this
theorem DX:0 < LB:=ay
theorem Bj (k:Nat):0 < LB ^ k:=Nat.pow_pos ay
theorem bF (l:List Nat) (i:Nat):aH (l.take (i+1))=aH (l.take i)+LB ^ i*l.getD i 0:=by
 by_cases h:i < l.length
 ·have hx:l[i]? = some l[i]:=List.getElem?_eq_getElem h;rw[List.take_add_one,hx,gY];simp only[Option.toList,List.length_take,Nat.min_eq_left (Nat.le_of_lt h),List.getD_eq_getElem?_getD,hx,Option.getD];simp[aH]
 ·rw[List.take_of_length_le byOmega,List.take_of_length_le byOmega];simp[List.getD_eq_getElem?_getD,List.getElem?_eq_none (show l.length≤i by omega)]
theorem bM (l:List Nat) (i:Nat):aH (l.drop i)=l.getD i 0+LB*aH (l.drop (i+1)):=by
 by_cases h:i < l.length
 ·rw[List.drop_eq_getElem_cons h];simp[aH,List.getD_eq_getElem?_getD,h]
 ·rw[List.drop_eq_nil_of_le byOmega,List.drop_eq_nil_of_le byOmega];simp[aH,List.getD_eq_getElem?_getD,List.getElem?_eq_none (show l.length≤i by omega)]
theorem eP (l:List Nat) {i:Nat} (h:i≤l.length):aH l=aH (l.take i)+LB ^ i*aH (l.drop i):=by
 conv=>lhs; rw[← List.take_append_drop i l,gY]
 rw[List.length_take,Nat.min_eq_left h]
theorem ads {l:List Nat} {k:Nat} (h:k < l.length) (v:Nat):aH (l.set k v)+LB ^ k*l.getD k 0=aH l+LB ^ k*v:=by
 have h1:=eP (l.set k v) (i:=k) aF;have h2:=eP l (i:=k) byOmega;rw[List.take_set_of_le byOmega] at h1;rw[bM] at h1 h2;have h3:(l.set k v).drop (k+1)=l.drop (k+1):=by rw[List.drop_set_of_lt byOmega]
 have h4:(l.set k v).getD k 0=v:=by simp[List.getD_eq_getElem?_getD,h]
 rw[h3,h4,Nat.mul_add] at h1;rw[Nat.mul_add] at h2;omega
theorem jT {l:List Nat} {k:Nat} (h:k < l.length) (v:Nat):aH ((l.set k v).take (k+1))=aH (l.take k)+LB ^ k*v:=by
 rw[bF,List.take_set_of_le byOmega];have h4:(l.set k v).getD k 0=v:=by simp[List.getD_eq_getElem?_getD,h]
 rw[h4]
theorem qh {l:List Nat} {k:Nat} (h:k < l.length) (v:Nat):aH ((l.set k v).drop k)=v+LB*aH (l.drop (k+1)):=by
 rw[bM];have h4:(l.set k v).getD k 0=v:=by simp[List.getD_eq_getElem?_getD,h]
 rw[h4,List.drop_set_of_lt byOmega]
theorem rJ (l:List Nat) (x:Nat):aH (l ++ [x])=aH l+LB ^ l.length*x:=by
 rw[gY];simp[aH]
theorem zS (n:Nat):aH (List.replicate n 0)=0:=by
 induction n with
 | zero=>rfl
 | succ n ih=>rw[List.replicate_succ]; show 0+LB*aH _=0; rw[ih]; omega
theorem Limbs.set {l:List Nat} (h:Limbs l) {k v:Nat} (hv:v < LB):Limbs (l.set k v):=by
 intro x hx;rcases List.mem_or_eq_of_mem_set hx with h1 | h1
 ·exact h x h1
 ·subst h1;exact hv
theorem Limbs.concat {l:List Nat} (h:Limbs l) {x:Nat} (hx:x < LB):Limbs (l ++ [x]):=by
 intro y hy;rcases List.mem_append.1 hy with h1 | h1
 ·exact h y h1
 ·rw[List.mem_singleton] at h1;subst h1;exact hx
theorem Limbs.zeros (n:Nat):Limbs (List.replicate n 0):=by
 intro x hx;rw[List.mem_replicate] at hx;obtain⟨_,rfl⟩:=hx;decide
theorem Limbs.getD {l:List Nat} (h:Limbs l) (k:Nat):l.getD k 0 < LB:=by
 by_cases hk:k < l.length
 ·rw[List.getD_eq_getElem?_getD,List.getElem?_eq_getElem hk];exact h _ (List.getElem_mem hk)
 ·rw[List.getD_eq_getElem?_getD,List.getElem?_eq_none byOmega];decide
theorem Limbs.take {l:List Nat} (h:Limbs l) (k:Nat):Limbs (l.take k):=fun x hx=>h x (List.mem_of_mem_take hx)
theorem Limbs.drop {l:List Nat} (h:Limbs l) (k:Nat):Limbs (l.drop k):=fun x hx=>h x (List.mem_of_mem_drop hx)
theorem Limbs.get {l:List Nat} (h:Limbs l) {k x:Nat} (hk:l[k]? = some x):x < LB:=h x (List.mem_of_getElem? hk)
theorem aN {l:List Nat} {k x:Nat} (h:l[k]? = some x):l.getD k 0=x:=by simp[List.getD_eq_getElem?_getD,h]
theorem eF {l:List Nat} {k:Nat} (h:l.length≤k):l.getD k 0=0:=by simp[List.getD_eq_getElem?_getD,List.getElem?_eq_none h]
theorem vU {o a b:List Nat} {i c s c':Nat} (hl:o.length=i) (h:aH o+LB ^ i*c=aH (a.take i)+aH (b.take i)) (hs:s+LB*c'=a.getD i 0+b.getD i 0+c) :
  aH (o ++ [s])+LB ^ (i+1)*c'=aH (a.take (i+1))+aH (b.take (i+1)):=by
 rw[rJ,hl,bF,bF,Nat.pow_succ,Nat.mul_assoc,Nat.add_assoc,← Nat.mul_add,hs,Nat.mul_add,Nat.mul_add];omega
theorem vV {o a b:List Nat} {i c s c':Nat} (hl:i < o.length) (h:aH (o.take i)+aH (b.take i)=aH (a.take i)+LB ^ i*c) (hs:s+b.getD i 0+c=a.getD i 0+LB*c') :
  aH ((o.set i s).take (i+1))+aH (b.take (i+1))=aH (a.take (i+1))+LB ^ (i+1)*c':=by
 rw[jT hl,bF,bF,Nat.pow_succ,Nat.mul_assoc];exact zbv
theorem nJ {o a b:List Nat} {i c s c':Nat} (hl:o.length=i) (h:aH o+aH (b.take i)=aH (a.take i)+LB ^ i*c) (hs:s+b.getD i 0+c=a.getD i 0+LB*c') :
  aH (o ++ [s])+aH (b.take (i+1))=aH (a.take (i+1))+LB ^ (i+1)*c':=by
 rw[rJ,hl,bF,bF,Nat.pow_succ,Nat.mul_assoc];exact zbv
theorem agi {N A B M c:Nat} (hle:B≤A) (hN:N < M) (h:N+B=A+M*c):N=A - B:=by
 rcases Nat.eq_zero_or_pos c with h0 | h0
 ·subst h0;omega
 ·have:M*1≤M*c:=Nat.mul_le_mul_left _ h0;omega
theorem ah0 {o:List Nat} {k T c s c' p:Nat} (hk:k < o.length) (h:aH o+LB ^ k*c=T) (hs:s+LB*c'=o.getD k 0+p+c):aH (o.set k s)+LB ^ (k+1)*c'=T+LB ^ k*p:=by
 have h1:=ads hk s;rw[Nat.pow_succ,Nat.mul_assoc];have e:LB ^ k*(s+LB*c')=LB ^ k*(o.getD k 0+p+c):=by rw[hs]
 rw[Nat.mul_add,Nat.mul_add,Nat.mul_add] at e;omega
theorem tK {x y:Nat} (hx:x < LB) (hy:y < LB):x*y≤999999998000000001:=by
 have:=Nat.mul_le_mul (show x≤999999999 by unfold LB at hx; omega) (show y≤999999999 by unfold LB at hy; omega);omega
theorem uP {q a:List Nat} {i d r r' s A:Nat} (hi:i < q.length) (h:aH (a.drop (i+1))=d*aH (q.drop (i+1))+r) (hs:r*LB+a.getD i 0=d*s+r') :
  aH (a.drop i)=d*aH ((q.set i s).drop i)+r':=by
 rw[bM,qh hi,h,Nat.mul_add,Nat.mul_add,← Nat.mul_assoc d,Nat.mul_comm d LB,Nat.mul_assoc LB d];have:LB*r=r*LB:=Nat.mul_comm _ _;omega
def bZ (a b:Nat):Int:=if a < b then -1 else if a=b then 0 else 1
theorem adt {a b:List Nat} {i x y:Nat} (ha:Limbs a) (hlen:a.length=b.length) (hd:a.drop (i+1)=b.drop (i+1)) (hx:a[i]? = some x) (hy:b[i]? = some y) (hlt:x < y):aH a < aH b:=by
 have hi:i < a.length:=by
  rcases Nat.lt_or_ge i a.length with h | h
  ·exact h
  ·rw[List.getElem?_eq_none h] at hx;cases hx
 rw[eP a (i:=i) byOmega,eP b (i:=i) byOmega,bM a i,bM b i,aN hx,aN hy,hd,Nat.mul_add,Nat.mul_add];have h1:aH (a.take i) < LB ^ i:=by
  have:=fH (ha.take i);rwa [List.length_take,Nat.min_eq_left byOmega] at this
 have h2:LB ^ i*(x+1)≤LB ^ i*y:=Nat.mul_le_mul_left _ hlt;rw[Nat.mul_add,Nat.mul_one] at h2;omega
theorem lS {a b:Nat} (h:(dig a).length < (dig b).length):a < b:=by
 have hb0:b≠0:=by intro h0;subst h0;rw[bD] at h;simp at h
 have h1:=jW a;have h2:=acf hb0;have h3:LB ^ (dig a).length≤LB ^ ((dig b).length - 1):=Nat.pow_le_pow_right ay byOmega;omega
theorem tN {a b:Nat} (h:dig a=dig b):a=b:=by rw[← aW a,← aW b,h]
theorem jl {a b i x y:Nat} (hlen:(dig a).length=(dig b).length) (hd:(dig a).drop (i+1)=(dig b).drop (i+1)) (hx:(dig a)[i]? = some x) (hy:(dig b)[i]? = some y) (hlt:x < y):a < b:=by
 have:=adt (aP a) hlen hd hx hy hlt;rwa [aW,aW] at this
theorem qH {a b:List Nat} {i x:Nat} (hd:a.drop (i+1)=b.drop (i+1)) (hx:a[i]? = some x) (hy:b[i]? = some x):a.drop i=b.drop i:=by
 have h1:i < a.length:=by
  rcases Nat.lt_or_ge i a.length with h | h
  ·exact h
  ·rw[List.getElem?_eq_none h] at hx;cases hx
 have h2:i < b.length:=by
  rcases Nat.lt_or_ge i b.length with h | h
  ·exact h
  ·rw[List.getElem?_eq_none h] at hy;cases hy
 rw[List.drop_eq_getElem_cons h1,List.drop_eq_getElem_cons h2,hd];rw[List.getElem?_eq_getElem h1] at hx;rw[List.getElem?_eq_getElem h2] at hy;injection hx with hx;injection hy with hy
 rw[hx,hy]
theorem kV {n:Nat} (h0:n≠0) (h:n < LB):dig n = [n]:=by
 rw[kU h0,Nat.mod_eq_of_lt h,Nat.div_eq_of_lt h,bD]
theorem iZ:dig 1 = [1]:=kV ay ay
theorem zT {n:Nat}:dig n = [1]↔n=1:=⟨fun h=>tN (by rw[h,iZ]),fun h=>by rw[h,iZ]⟩
theorem bG {n:Nat}:0 < (dig n).length↔n≠0:=by
 rw[List.length_pos_iff,Ne,lQ]
theorem vW {n:Nat}:(dig n).length=0↔n=0:=by
 rw[List.length_eq_zero_iff,lQ]
theorem tV {n:Nat}:(dig n).length≤2→n < 1000000000000000000:=fun h=>by
 have h1:=jW n;have h2:LB ^ (dig n).length≤LB ^ 2:=Nat.pow_le_pow_right ay h;have:LB ^ 2=1000000000000000000:=ay;omega
structure Est (u v:List Nat) (n:Nat):Prop where
 n2:2≤n
 ul:u.length=n+1
 vl:v.length=n
 lu:Limbs u
 lv:Limbs v
 half:LB≤2*v.getD (n - 1) 0
 less:aH u < LB*aH v
section
variable {u v:List Nat} {n:Nat}
theorem Est.ah1 (h:Est u v n):aH v=aH (v.take (n - 2))+LB ^ (n - 2)*(v.getD (n - 2) 0+LB*v.getD (n - 1) 0):=by
 have h2:=h.n2;rw[eP v (i:=n - 2) (by rw[h.vl]; omega),bM,show n - 2+1=n - 1 by omega,bM,show n - 1+1=n by omega,List.drop_eq_nil_of_le (by rw[h.vl]; omega)];simp[aH]
theorem Est.akv (h:Est u v n):aH u=aH (u.take (n - 2))+LB ^ (n - 2)*(u.getD (n - 2) 0+LB*(u.getD (n - 1) 0+LB*u.getD n 0)):=by
 have h2:=h.n2;rw[eP u (i:=n - 2) (by rw[h.ul]; omega),bM,show n - 2+1=n - 1 by omega,bM,show n - 1+1=n by omega,bM,List.drop_eq_nil_of_le (by rw[h.ul]; omega)];simp[aH]
theorem Est.akm (h:Est u v n):aH (v.take (n - 2)) < LB ^ (n - 2):=by
 have:=fH (h.lv.take (n - 2));have h2:=h.n2;rwa [List.length_take,h.vl,Nat.min_eq_left byOmega] at this
theorem Est.ale (h:Est u v n):aH (u.take (n - 2)) < LB ^ (n - 2):=by
 have:=fH (h.lu.take (n - 2));have h2:=h.n2;rwa [List.length_take,h.ul,Nat.min_eq_left byOmega] at this
theorem Est.zU (h:Est u v n):0 < aH v:=by
 have:=h.ah1;have h1:=h.half;have h3:1≤v.getD (n - 2) 0+LB*v.getD (n - 1) 0:=by unfold LB at *;omega
 have h4:=Nat.mul_le_mul_left (LB ^ (n - 2)) h3;have:=Bj (n - 2);omega
theorem Est.q_lt (h:Est u v n):aH u / aH v < LB:=(Nat.div_lt_iff_lt_mul h.zU).2 h.less
theorem Est.top_le (h:Est u v n):u.getD n 0≤v.getD (n - 1) 0:=by
 have hu:=h.akv;have hv:=h.ah1;have hl:=h.akm;have hless:=h.less;rcases Nat.lt_or_ge (v.getD (n - 1) 0) (u.getD n 0) with hh | hh
 ·exfalso
  have h2:=h.lv.getD (n - 2);have a1:aH v < LB ^ (n - 2)*(LB*(v.getD (n - 1) 0+1)):=by
   rw[hv];have:v.getD (n - 2) 0+LB*v.getD (n - 1) 0+1≤LB*(v.getD (n - 1) 0+1):=by rw[Nat.mul_add];omega
   have:=Nat.mul_le_mul_left (LB ^ (n - 2)) this;rw[Nat.mul_add] at this;omega
  have a2:LB*aH v < LB*(LB ^ (n - 2)*(LB*(v.getD (n - 1) 0+1))):=Nat.mul_lt_mul_of_pos_left a1 DX;have a3:LB*(LB ^ (n - 2)*(LB*(v.getD (n - 1) 0+1)))=LB ^ (n - 2)*(LB*(LB*(v.getD (n - 1) 0+1))):=by
   rw[Nat.mul_left_comm]
  have a4:LB ^ (n - 2)*(LB*(LB*(v.getD (n - 1) 0+1)))≤LB ^ (n - 2)*(u.getD (n - 2) 0+LB*(u.getD (n - 1) 0+LB*u.getD n 0)):=by
   apply Nat.mul_le_mul_left
   have:LB*(v.getD (n - 1) 0+1)≤LB*u.getD n 0:=Nat.mul_le_mul_left _ hh;have:LB*(LB*(v.getD (n - 1) 0+1))≤LB*(u.getD (n - 1) 0+LB*u.getD n 0):=Nat.mul_le_mul_left _ byOmega;omega
  omega
 ·exact hh
theorem Est.abv (h:Est u v n) {q r:Nat} (hq:u.getD n 0*LB+u.getD (n - 1) 0=q*v.getD (n - 1) 0+r) (ht:LB≤q∨r*LB+u.getD (n - 2) 0 < q*v.getD (n - 2) 0):aH u / aH v < q:=by
 rcases ht with ht | ht
 ·exact Nat.lt_of_lt_of_le h.q_lt ht
 ·rw[Nat.div_lt_iff_lt_mul h.zU,h.akv];have hu:=h.ale;have e1:u.getD (n - 2) 0+LB*(u.getD (n - 1) 0+LB*u.getD n 0)+1≤q*(v.getD (n - 2) 0+LB*v.getD (n - 1) 0):=by
   have:LB*(u.getD (n - 1) 0+LB*u.getD n 0)=LB*(q*v.getD (n - 1) 0+r):=by rw[← hq,Nat.mul_comm LB (u.getD n 0),Nat.add_comm]
   exact zaT
  have e2:LB ^ (n - 2)*(u.getD (n - 2) 0+LB*(u.getD (n - 1) 0+LB*u.getD n 0)+1)≤LB ^ (n - 2)*(q*(v.getD (n - 2) 0+LB*v.getD (n - 1) 0)):=Nat.mul_le_mul_left _ e1;have e3:LB ^ (n - 2)*(q*(v.getD (n - 2) 0+LB*v.getD (n - 1) 0))≤q*aH v:=by
   rw[h.ah1,Nat.mul_left_comm,Nat.mul_add q];omega
  rw[Nat.mul_add,Nat.mul_one] at e2;omega
theorem Est.r_lt (h:Est u v n) {q r:Nat} (hq:u.getD n 0*LB+u.getD (n - 1) 0=q*v.getD (n - 1) 0+r) (ht:LB≤q):r < LB:=by
 have h1:=h.top_le;have h2:=h.lu.getD (n - 1);have h3:u.getD n 0*LB≤v.getD (n - 1) 0*LB:=Nat.mul_le_mul_right _ h1;have h4:LB*v.getD (n - 1) 0≤q*v.getD (n - 1) 0:=Nat.mul_le_mul_right _ ht;have h5:v.getD (n - 1) 0*LB=LB*v.getD (n - 1) 0:=Nat.mul_comm _ _;omega
theorem Est.almost (h:Est u v n) {q r:Nat} (hq:u.getD n 0*LB+u.getD (n - 1) 0=q*v.getD (n - 1) 0+r) (hge:aH u / aH v≤q) (ht:¬ (r < LB∧(LB≤q∨r*LB+u.getD (n - 2) 0 < q*v.getD (n - 2) 0))) :
  q < LB∧aH u / aH v≤q∧q≤aH u / aH v+1:=by
 have hqB:q < LB:=by
  rcases Nat.lt_or_ge q LB with h1 | h1
  ·exact h1
  ·exact absurd ⟨h.r_lt hq h1,.inl h1⟩ ht
 refine⟨hqB,hge,?_⟩;have ht2:q*v.getD (n - 2) 0≤r*LB+u.getD (n - 2) 0:=by
  rcases Nat.lt_or_ge r LB with h1 | h1
  ·rcases Nat.lt_or_ge (r*LB+u.getD (n - 2) 0) (q*v.getD (n - 2) 0) with h2 | h2
   ·exact absurd ⟨h1,.inr h2⟩ ht
   ·exact h2
  ·have h2:=h.lv.getD (n - 2);have h3:q*v.getD (n - 2) 0≤LB*LB:=Nat.mul_le_mul byOmega byOmega;have h4:LB*LB≤r*LB:=Nat.mul_le_mul_right _ h1;omega
 have e1:q*(v.getD (n - 2) 0+LB*v.getD (n - 1) 0)≤u.getD (n - 2) 0+LB*(u.getD (n - 1) 0+LB*u.getD n 0):=by
  have:LB*(u.getD (n - 1) 0+LB*u.getD n 0)=LB*(q*v.getD (n - 1) 0+r):=by rw[← hq,Nat.mul_comm LB (u.getD n 0),Nat.add_comm]
  exact zaT
 have e2:=Nat.mul_le_mul_left (LB ^ (n - 2)) e1;have e3:q*aH v=q*aH (v.take (n - 2))+LB ^ (n - 2)*(q*(v.getD (n - 2) 0+LB*v.getD (n - 1) 0)):=by
  rw[h.ah1,Nat.mul_add,Nat.mul_left_comm q]
 have hlow:=h.akm;have hu:=h.akv;have hv:=h.ah1;have e4:q*aH (v.take (n - 2))≤LB*LB ^ (n - 2):=Nat.mul_le_mul byOmega byOmega;have htop:=h.half;have e5:LB ^ (n - 2)*(LB*1)≤LB ^ (n - 2)*(v.getD (n - 2) 0+LB*v.getD (n - 1) 0):=by
  apply Nat.mul_le_mul_left
  have:LB*1≤LB*v.getD (n - 1) 0:=Nat.mul_le_mul_left _ (by unfold LB at htop; omega);omega
 have e6:LB ^ (n - 2)*(LB*1)=LB*LB ^ (n - 2):=by rw[Nat.mul_one,Nat.mul_comm]
 have key:q*aH v≤aH u+aH v:=byOmega;rcases Nat.eq_zero_or_pos q with h0 | h0
 ·rw[h0];exact Nat.zero_le _
 ·have:(q - 1)*aH v≤aH u:=by
   rw[Nat.sub_mul,Nat.one_mul];omega
  exact Nat.le_add_of_sub_le ((Nat.le_div_iff_mul_le h.zU).2 this)
end
theorem pq {b:Nat} (hb:b≠0):1≤(dig b).getD ((dig b).length - 1) 0∧(dig b).getD ((dig b).length - 1) 0 < LB∧(dig b).getD ((dig b).length - 1) 0*LB ^ ((dig b).length - 1)≤b:=by
 have hp:=bG.2 hb;have hl:=qA b;have e:(dig b).getLast? = some ((dig b).getD ((dig b).length - 1) 0):=by
  rw[List.getLast?_eq_getElem?,List.getD_eq_getElem?_getD,List.getElem?_eq_getElem byOmega];rfl
 refine⟨?_,(aP b).getD _,?_⟩
 ·rw[e] at hl;have:(dig b).getD ((dig b).length - 1) 0≠0:=fun h=>hl (by rw[h])
  omega
 ·have h1:=eP (dig b) (i:=(dig b).length - 1) byOmega;rw[aW,bM,show(dig b).length - 1+1=(dig b).length by omega,List.drop_eq_nil_of_le (Nat.le_refl _)] at h1;rw[Nat.mul_comm];simp[aH] at h1;simp;omega
theorem ah2 {b r:Nat} (hb:b≠0) (hr:r < LB*b):r / b≤min (r / LB ^ ((dig b).length - 1) / (dig b).getD ((dig b).length - 1) 0) (LB - 1):=by
 obtain⟨h1,_,h3⟩:=pq hb;rw[Nat.le_min];constructor
 ·rw[Nat.div_div_eq_div_mul];refine(Nat.le_div_iff_mul_le (Nat.mul_pos (Bj _) h1)).2 ?_;rw[Nat.mul_comm (LB ^ _)];exact Nat.le_trans (Nat.mul_le_mul_left _ h3) (Nat.div_mul_le_self r b)
 ·have:r / b < LB:=(Nat.div_lt_iff_lt_mul byOmega).2 hr;omega
theorem ah3 {b r d:Nat} (hb:b≠0) (hge:r / b≤d) (hle:b*d≤r):d=r / b:=by
 have:d≤r / b:=(Nat.le_div_iff_mul_le byOmega).2 (by rw[Nat.mul_comm]; exact hle);omega
theorem agJ {b r d:Nat} (h:d=r / b):r - b*d=r % b:=by
 subst h;have:=Nat.div_add_mod r b;omega
theorem agK {a q:List Nat} {i b r d:Nat} (hi:i < q.length) (h:aH (a.drop (i+1))=b*aH (q.drop (i+1))+r) (hd:d=(a.getD i 0+LB*r) / b) :
  aH (a.drop i)=b*aH ((q.set i d).drop i)+(a.getD i 0+LB*r) % b:=by
 rw[bM,qh hi,h,Nat.mul_add,Nat.mul_add];have h1:=Nat.div_add_mod (a.getD i 0+LB*r) b;rw[← hd] at h1;have h2:LB*(b*aH (q.drop (i+1)))=b*(LB*aH (q.drop (i+1))):=Nat.mul_left_comm _ _ _;omega
theorem yD {a b f q r:Nat} (hf:0 < f) (h:a*f=b*f*q+r) (hr:r < b*f):q=a / b∧r / f=a % b:=by
 have hb:0 < b:=by
  rcases Nat.eq_zero_or_pos b with h0 | h0
  ·subst h0;simp at hr
  ·exact h0
 have e1:q=a*f / (b*f):=by
  rw[h,Nat.mul_comm (b*f) q,Nat.add_comm,Nat.add_mul_div_right _ _ (Nat.mul_pos hb hf),Nat.div_eq_of_lt hr];simp
 have e2:r=a*f % (b*f):=by
  rw[h,Nat.mul_comm (b*f) q,Nat.add_comm,Nat.add_mul_mod_self_right,Nat.mod_eq_of_lt hr]
 constructor
 ·rw[e1,Nat.mul_div_mul_right _ _ hf]
 ·rw[e2,Nat.mul_mod_mul_right,Nat.mul_div_cancel _ hf]
theorem iM {t:Nat} (h1:1≤t) (h2:t < LB):1≤LB / (t+1)∧LB / (t+1)≤500000000∧LB / (t+1)*(t+1)≤LB∧LB≤2*(t*(LB / (t+1)))+2*(LB / (t+1))+2*t∧LB < (LB / (t+1)+1)*(t+1):=by
 have a1:1≤LB / (t+1):=(Nat.le_div_iff_mul_le byOmega).2 byOmega;have a2:LB / (t+1)≤LB / 2:=Nat.div_le_div_left byOmega byOmega;have a3:=Nat.div_mul_le_self LB (t+1);have a4:LB < (LB / (t+1)+1)*(t+1):=Nat.lt_mul_of_div_lt byOmega byOmega;have a5:LB / 2=500000000:=ay;refine⟨a1,byOmega,a3,?_,a4⟩;generalize LB / (t+1)=f at *;rw[Nat.add_mul,Nat.mul_add,Nat.mul_comm f t] at a4;omega
theorem adu {t:Nat} (h1:1≤t) (h2:t < LB):LB≤2*(t*(LB / (t+1))):=by
 obtain⟨a1,a2,a3,_,a4⟩:=iM h1 h2;generalize hf:LB / (t+1)=f at *;rw[Nat.add_mul,Nat.mul_add,Nat.mul_comm f t] at a4;rw[Nat.mul_add,Nat.mul_comm f t] at a3;have a6:LB < t*f+f+t+1:=byOmega;have a7:LB=1000000000:=rfl;by_cases hft:f=1
 ·have a8:t*f=t:=by rw[hft,Nat.mul_one]
  omega
 ·by_cases ht:t=1
  ·subst ht;have:f=500000000:=by rw[← hf];decide
   subst this;decide
  ·-- f,t >= 2:f+t <= f*t ; LB < t f+f+t+1
   have h3:2*t≤t*f:=by rw[Nat.mul_comm];exact Nat.mul_le_mul_left t byOmega
   have h4:2*f≤t*f:=Nat.mul_le_mul_right f byOmega;omega
theorem set_mid {P u S:List Nat} {j k x:Nat} (hP:P.length=j) (hk:k < u.length):(P++u++S).set (j+k) x=P++u.set k x++S:=by
 rw[List.append_assoc,List.set_append_right _ _ byOmega,hP,Nat.add_sub_cancel_left,List.set_append_left _ _ hk,List.append_assoc]
theorem jA {P u S:List Nat} {j k:Nat} (hP:P.length=j) (hk:k < u.length):(P++u++S)[j+k]? = u[k]?:=by
 rw[List.append_assoc,List.getElem?_append_right byOmega,hP,Nat.add_sub_cancel_left,List.getElem?_append_left hk]
theorem yE {u w:List Nat} {k x:Nat} (h:u.drop k=w.drop k):(u.set k x).drop (k+1)=w.drop (k+1):=by
 rw[List.drop_set_of_lt byOmega,← List.drop_drop,← List.drop_drop,h]
theorem kG {u w:List Nat} {k:Nat} (h:u.drop k=w.drop k):u[k]? = w[k]?:=by
 have h1:(u.drop k)[0]? = (w.drop k)[0]?:=by rw[h]
 simpa using h1
structure CS (u v:List Nat) (q k c:Nat) (u':List Nat):Prop where
 len:u'.length=u.length
 limbs:Limbs u'
 eq:aH (u'.take k)+q*aH (v.take k)=aH (u.take k)+LB ^ k*c
 rest:u'.drop k=u.drop k
theorem CS.start {u v:List Nat} {q:Nat} (h:Limbs u):CS u v q 0 0 u:=⟨rfl,h,by simp[aH],rfl⟩
theorem CS.step {u v u':List Nat} {q k c s c':Nat} (h:CS u v q k c u') (hk:k < u.length) (hs:s+q*v.getD k 0+c=u.getD k 0+LB*c') (hsl:s < LB):CS u v q (k+1) c' (u'.set k s):=by
 refine zbI ?_;have e:LB ^ k*(s+q*v.getD k 0+c)=LB ^ k*(u.getD k 0+LB*c'):=by rw[hs]
 have:=h.eq;grind
structure CZ (u v:List Nat) (k c:Nat) (u':List Nat):Prop where
 len:u'.length=u.length
 limbs:Limbs u'
 eq:aH (u'.take k)+LB ^ k*c=aH (u.take k)+aH (v.take k)
 rest:u'.drop k=u.drop k
theorem CZ.start {u v:List Nat} (h:Limbs u):CZ u v 0 0 u:=⟨rfl,h,by simp[aH],rfl⟩
theorem CZ.step {u v u':List Nat} {k c s c':Nat} (h:CZ u v k c u') (hk:k < u.length) (hs:s+LB*c'=u.getD k 0+v.getD k 0+c) (hsl:s < LB):CZ u v (k+1) c' (u'.set k s):=by
 refine zbI ?_;have e:LB ^ k*(s+LB*c')=LB ^ k*(u.getD k 0+v.getD k 0+c):=by rw[hs]
 have:=h.eq;grind
theorem og {u:List Nat} {n:Nat} (h:u.length=n+1):aH u=aH (u.take n)+LB ^ n*u.getD n 0:=by
 rw[eP u (i:=n) byOmega,bM,List.drop_eq_nil_of_le byOmega];simp[aH]
section
variable {u v u':List Nat} {n q c:Nat}
theorem Est.akw (h:Est u v n):aH v < LB ^ n:=by have:=fH h.lv; rwa [h.vl] at this
theorem vX (h:Est u v n) (hm:CS u v q n c u'):aH (u'.take n)+q*aH v+LB ^ n*u.getD n 0=aH u+LB ^ n*c:=by
 have h1:=hm.eq;rw[List.take_of_length_le (l:=v) (by rw[h.vl]; omega)] at h1;have h2:=og h.ul;omega
theorem pz (hl:Limbs u') (hn:n≤u'.length):aH (u'.take n) < LB ^ n:=by
 have:=fH (hl.take n);rwa [List.length_take,Nat.min_eq_left hn] at this
theorem zV (h:Est u v n) (hm:CS u v q n c u') (hq1:aH u / aH v≤q) (hq2:q≤aH u / aH v+1) (hc:c≤u.getD n 0):q=aH u / aH v∧aH (u'.take n)=aH u % aH v:=by
 have he:=vX h hm;have hv:=h.zU;have h1:LB ^ n*c≤LB ^ n*u.getD n 0:=Nat.mul_le_mul_left _ hc;have h2:q*aH v≤aH u:=byOmega;have h3:q≤aH u / aH v:=(Nat.le_div_iff_mul_le hv).2 h2;have hq:q=aH u / aH v:=byOmega;refine⟨hq,?_⟩;have h4:=Nat.div_add_mod (aH u) (aH v);have h5:=Nat.mod_lt (aH u) hv;rw[← hq,Nat.mul_comm (aH v) q] at h4;have hvl:=h.akw;have hcu:c=u.getD n 0:=by
  rcases Nat.lt_or_ge c (u.getD n 0) with hlt | hge
  ·have:LB ^ n*(c+1)≤LB ^ n*u.getD n 0:=Nat.mul_le_mul_left _ hlt;rw[Nat.mul_add,Nat.mul_one] at this;omega
  ·omega
 rw[hcu] at he;omega
theorem abw (h:Est u v n) (hm:CS u v q n c u') (hq1:aH u / aH v≤q) (hq2:q≤aH u / aH v+1) (hc:u.getD n 0 < c) {u2:List Nat} {o:Nat} (ha:CZ u' v n o u2):q=aH u / aH v+1∧aH (u2.take n)=aH u % aH v:=by
 have he:=vX h hm;have hv:=h.zU;have h1:LB ^ n*(u.getD n 0+1)≤LB ^ n*c:=Nat.mul_le_mul_left _ hc;rw[Nat.mul_add,Nat.mul_one] at h1;have hlt:=pz hm.limbs (n:=n) (by rw[hm.len,h.ul]; omega);have h2:aH u < q*aH v:=byOmega;have h3:aH u / aH v < q:=(Nat.div_lt_iff_lt_mul hv).2 h2;have hq:q=aH u / aH v+1:=byOmega;refine⟨hq,?_⟩;have h4:=Nat.div_add_mod (aH u) (aH v);have h5:=Nat.mod_lt (aH u) hv;have hvl:=h.akw;have hqv:q*aH v=aH v*(aH u / aH v)+aH v:=by rw[hq,Nat.add_mul,Nat.one_mul,Nat.mul_comm]
 have ha1:=ha.eq;rw[List.take_of_length_le (l:=v) (by rw[h.vl]; omega)] at ha1;have hlt2:=pz ha.limbs (n:=n) (by rw[ha.len,hm.len,h.ul]; omega);obtain⟨D,hD⟩:∃ D,c=u.getD n 0+D:=⟨c - u.getD n 0,byOmega⟩;have e1:LB ^ n*c=LB ^ n*u.getD n 0+LB ^ n*D:=by rw[hD,Nat.mul_add]
 have e2:aH (u2.take n)+LB ^ n*o=aH u % aH v+LB ^ n*D:=byOmega;rcases Nat.lt_trichotomy o D with ho | ho | ho
 ·have:LB ^ n*(o+1)≤LB ^ n*D:=Nat.mul_le_mul_left _ ho;rw[Nat.mul_add,Nat.mul_one] at this;omega
 ·subst ho;omega
 ·have:LB ^ n*(D+1)≤LB ^ n*o:=Nat.mul_le_mul_left _ ho;rw[Nat.mul_add,Nat.mul_one] at this;omega
end
theorem abx {u':List Nat} {n R:Nat} (hl:u'.length=n+1) (h:aH (u'.take n)=R):aH (u'.set n 0)=R:=by
 rw[og (u:=u'.set n 0) (n:=n) (by rw[List.length_set]; exact hl),List.take_set_of_le (Nat.le_refl _),h];simp[List.getD_eq_getElem?_getD,List.getElem?_set_self (show n < u'.length by omega)]
theorem Est.first {u v:List Nat} {n:Nat} (he:Est u v n) {q r:Nat} (hq:u.getD n 0*LB+u.getD (n - 1) 0=q*v.getD (n - 1) 0+r) (hr:r < v.getD (n - 1) 0):aH u / aH v≤q∧q≤1000000002:=by
 have h2:=he.n2;have hv:aH v=aH (v.take (n - 1))+LB ^ (n - 1)*v.getD (n - 1) 0:=og (u:=v) (n:=n - 1) (by rw[he.vl]; omega);have hu:aH u=aH (u.take (n - 1))+LB ^ (n - 1)*(u.getD (n - 1) 0+LB*u.getD n 0):=by
  rw[eP u (i:=n - 1) (by rw[he.ul]; omega),bM,show n - 1+1=n by omega,bM,List.drop_eq_nil_of_le (by rw[he.ul]; omega)];simp[aH]
 have hul:=pz he.lu (n:=n - 1) (by rw[he.ul]; omega);have hvp:=he.zU;constructor
 ·have h1:=Nat.div_mul_le_self (aH u) (aH v);generalize aH u / aH v=Q at *;have h3:Q*(LB ^ (n - 1)*v.getD (n - 1) 0)≤Q*aH v:=Nat.mul_le_mul_left _ byOmega;have h4:LB ^ (n - 1)*(Q*v.getD (n - 1) 0) < LB ^ (n - 1)*(u.getD (n - 1) 0+LB*u.getD n 0+1):=by
   rw[Nat.mul_left_comm,Nat.mul_add (LB ^ (n - 1)) _ 1,Nat.mul_one];omega
  have h5:=Nat.lt_of_mul_lt_mul_left h4;have h6:LB*u.getD n 0=u.getD n 0*LB:=Nat.mul_comm _ _;have h7:Q*v.getD (n - 1) 0 < (q+1)*v.getD (n - 1) 0:=by rw[Nat.add_mul,Nat.one_mul];omega
  have:=Nat.lt_of_mul_lt_mul_right h7;omega
 ·have ht:=he.top_le;have hh:=he.half;have h1:=he.lu.getD (n - 1);generalize v.getD (n - 1) 0=t at *;generalize u.getD n 0=x at *;generalize u.getD (n - 1) 0=y at *;have h3:x*LB≤t*LB:=Nat.mul_le_mul_right _ ht;have h4:q*t≤(LB+2)*t:=by rw[Nat.add_mul,Nat.mul_comm LB t];omega
  have hLB:LB=1000000000:=rfl;have h5:=Nat.le_of_mul_le_mul_right h4 byOmega;omega
structure BK (a f:Nat) (v:List Nat) (n la k:Nat) (U q:List Nat):Prop where
 ul:U.length=la+1
 adv:Limbs U
 ql:q.length=la - n+1
 akx:Limbs q
 eq:a*f=aH v*LB ^ k*aH (q.drop k)+aH U
 lt:aH U < aH v*LB ^ k
 zero:∀ i,k+n≤i→U.getD i 0=0
structure CW (v:List Nat) (n b f:Nat):Prop where
 n2:2≤n
 vl:v.length=n
 lv:Limbs v
 half:LB≤2*v.getD (n - 1) 0
 eq:aH v=b*f
 f0:1≤f
theorem qI {l:List Nat} (h:∀ i,l.getD i 0=0):aH l=0:=by
 induction l with
 | nil=>rfl
 | cons x l ih =>
  have h0:=h 0;simp at h0;show x+LB*aH l=0;rw[ih (fun i=>by have:=h (i+1); simpa using this),h0];simp
theorem getD_drop (l:List Nat) (j i:Nat):(l.drop j).getD i 0=l.getD (j+i) 0:=by
 simp[List.getD_eq_getElem?_getD,List.getElem?_drop]
theorem aeZ (U:List Nat) (j n:Nat):U=U.take j++(U.drop j).take (n+1)++U.drop (j+(n+1)):=by
 rw[List.append_assoc,← List.drop_drop,List.take_append_drop,List.take_append_drop]
section
variable {a b f:Nat} {v U q:List Nat} {n la j:Nat}
theorem BK.parts (h:BK a f v n la (j+1) U q) (hj:j+n≤la):aH U=aH (U.take j)+LB ^ j*aH ((U.drop j).take (n+1)):=by
 have e:=congrArg aH (aeZ U j n);rw[gY,gY,List.length_take,h.ul,Nat.min_eq_left byOmega] at e;have hz:aH (U.drop (j+(n+1)))=0:=qI fun i=>by rw[getD_drop];exact h.zero _ byOmega
 rw[hz,Nat.mul_zero,Nat.add_zero] at e;exact e
theorem BK.est (h:BK a f v n la (j+1) U q) (hv:CW v n b f) (hj:j+n≤la):Est ((U.drop j).take (n+1)) v n:=by
 have hp:=h.parts hj;refine⟨hv.n2,by rw[List.length_take,List.length_drop,h.ul]; omega,hv.vl,(h.adv.drop j).take _,hv.lv,hv.half,?_⟩;have hlt:=h.lt;rw[hp,Nat.pow_succ] at hlt;have h2:LB ^ j*aH ((U.drop j).take (n+1)) < LB ^ j*(LB*aH v):=by
  have:aH v*(LB ^ j*LB)=LB ^ j*(LB*aH v):=by grind
  omega
 exact Nat.lt_of_mul_lt_mul_left h2
theorem BK.step (h:BK a f v n la (j+1) U q) (hv:CW v n b f) (hj:j+n≤la) {u':List Nat} {d:Nat} (hul:u'.length=n+1) (hlim:Limbs u') (hu:aH u'=aH ((U.drop j).take (n+1)) % aH v) (hd:d=aH ((U.drop j).take (n+1)) / aH v) :
  BK a f v n la j (U.take j++u'++U.drop (j+(n+1))) (q.set j d):=by
 have hp:=h.parts hj;have acg:=h.est hv hj;have hvp:=acg.zU;have hmod:=Nat.mod_lt (aH ((U.drop j).take (n+1))) hvp;have hz:aH (U.drop (j+(n+1)))=0:=qI fun i=>by rw[getD_drop];exact h.zero _ byOmega
 have hPl:(U.take j).length=j:=by rw[List.length_take,h.ul];omega
 have hPlt:=pz h.adv (n:=j) (by rw[h.ul]; omega);have hU':aH (U.take j++u'++U.drop (j+(n+1)))=aH (U.take j)+LB ^ j*aH u':=by
  rw[gY,gY,hPl,hz,Nat.mul_zero,Nat.add_zero]
 have hdm:=Nat.div_add_mod (aH ((U.drop j).take (n+1))) (aH v);rw[← hd,← hu] at hdm;rw[← hu] at hmod;have hdl:d < LB:=by rw[hd];exact acg.q_lt
 refine⟨?_,?_,by rw[List.length_set]; exact h.ql,h.akx.set hdl,?_,?_,?_⟩
 ·simp only[List.length_append,List.length_drop,h.ul,hPl,hul];omega
 ·intro x hx;rw[List.mem_append,List.mem_append] at hx;rcases hx with(hx | hx) | hx
  ·exact h.adv.take j x hx
  ·exact hlim x hx
  ·exact h.adv.drop _ x hx
 ·rw[h.eq,hU',qh (by rw[h.ql]; omega),hp,← hdm,Nat.pow_succ];grind
 ·rw[hU'];have:LB ^ j*(aH u'+1)≤LB ^ j*aH v:=Nat.mul_le_mul_left _ hmod;rw[Nat.mul_add,Nat.mul_one] at this;rw[Nat.mul_comm (aH v)];omega
 ·intro i hi;have htop:u'.getD n 0=0:=by
   have h1:=og hul;have h2:=acg.akw;rcases Nat.eq_zero_or_pos (u'.getD n 0) with h0 | h0
   ·exact h0
   ·have:LB ^ n*1≤LB ^ n*u'.getD n 0:=Nat.mul_le_mul_left _ h0;omega
  rw[List.getD_eq_getElem?_getD,List.append_assoc,List.getElem?_append_right byOmega,hPl];by_cases hin:i=j+n
  ·rw[List.getElem?_append_left byOmega,show i - j=n by omega];rw[List.getD_eq_getElem?_getD] at htop;exact htop
  ·rw[List.getElem?_append_right byOmega,hul,List.getElem?_drop,show j+(n+1)+(i - j - (n+1))=i by omega];have:=h.zero i byOmega;rwa [List.getD_eq_getElem?_getD] at this
theorem BK.start (hv:CW v n b f) (hb:n=(dig b).length) (hla:la=(dig a).length) (hle:n≤la) (hul:U.length=la+1) (hlim:Limbs U) (hU:aH U=a*f):BK a f v n la (la - n+1) U (List.replicate (la - n+1) 0):=by
 refine⟨hul,hlim,aB,Limbs.zeros _,?_,?_,fun i hi=>eF (by rw[hul]; omega)⟩
 ·rw[List.drop_eq_nil_of_le aB,hU];simp[aH]
 ·rw[hU,hv.eq];have hb0:b≠0:=by
   intro h0;rw[h0,bD] at hb;have:=hv.n2;simp at hb;omega
  have h1:=acf hb0;have h2:=jW a;rw[← hb] at h1;rw[← hla] at h2;have h3:LB ^ la≤b*LB ^ (la - n+1):=by
   have:LB ^ la=LB ^ (n - 1)*LB ^ (la - n+1):=by rw[← Nat.pow_add];congr 1;have:=hv.n2;omega
   rw[this];exact Nat.mul_le_mul_right _ h1
  have h4:a*f < b*LB ^ (la - n+1)*f:=Nat.mul_lt_mul_of_pos_right byOmega hv.f0;calc a*f < b*LB ^ (la - n+1)*f:=h4
   _=b*f*LB ^ (la - n+1):=by grind
theorem BK.last (h:BK a f v n la 0 U q) (hv:CW v n b f):aH q=a / b∧aH (U.take n) / f=a % b∧aH (U.take n)=aH U:=by
 have h1:=h.eq;have h2:=h.lt;rw[Nat.pow_zero,Nat.mul_one,List.drop_zero,hv.eq] at h1;rw[Nat.pow_zero,Nat.mul_one,hv.eq] at h2;have h3:=yD hv.f0 h1 h2;have h4:aH (U.take n)=aH U:=by
  by_cases hn:n≤U.length
  ·rw[eP U hn,qI (l:=U.drop n) fun i=>by rw[getD_drop]; exact h.zero _ byOmega];simp
  ·rw[List.take_of_length_le byOmega]
 exact⟨h3.1,by rw[h4]; exact h3.2,h4⟩
end
theorem adw {b:Nat} {v:List Nat} {n:Nat} (hn:n=(dig b).length) (h2:2≤n) (hvl:v.length=n) (hv:Limbs v) (he:aH v=b*(LB / ((dig b).getD (n - 1) 0+1))):CW v n b (LB / ((dig b).getD (n - 1) 0+1)):=by
 have hb0:b≠0:=by intro h0;rw[h0,bD] at hn;simp at hn;omega
 obtain⟨t1,t2,t3⟩:=pq hb0;rw[← hn] at t1 t2 t3;obtain⟨f1,_,_,_,_⟩:=iM t1 t2;have hh:=adu t1 t2;refine⟨h2,hvl,hv,?_,he,f1⟩;generalize LB / ((dig b).getD (n - 1) 0+1)=f at *;generalize (dig b).getD (n - 1) 0=t at *;have hs:=og (u:=v) (n:=n - 1) byOmega;have hlt:=pz hv (n:=n - 1) byOmega;have h3:LB ^ (n - 1)*(t*f)≤aH v:=by
  rw[he];have:=Nat.mul_le_mul_right f t3;calc LB ^ (n - 1)*(t*f)=t*LB ^ (n - 1)*f:=by grind
   _≤b*f:=this
 have h4:LB ^ (n - 1)*(t*f) < LB ^ (n - 1)*(v.getD (n - 1) 0+1):=by rw[Nat.mul_add,Nat.mul_one];omega
 have:=Nat.lt_of_mul_lt_mul_left h4;omega
theorem rM {b n:Nat} (hn:n=(dig b).length) (hb0:b≠0):b*(LB / ((dig b).getD (n - 1) 0+1)) < LB ^ n:=by
 obtain⟨t1,t2,_⟩:=pq hb0;have hp:=bG.2 hb0;rw[← hn] at t1 t2 hp;obtain⟨f1,_,f3,_,_⟩:=iM t1 t2;have hs:=og (u:=dig b) (n:=n - 1) byOmega;have hlt:=pz (aP b) (n:=n - 1) byOmega;rw[aW] at hs;generalize LB / ((dig b).getD (n - 1) 0+1)=f at *;generalize (dig b).getD (n - 1) 0=t at *;have h1:b < LB ^ (n - 1)*(t+1):=by rw[Nat.mul_add,Nat.mul_one];omega
 have h2:b*f < LB ^ (n - 1)*(t+1)*f:=Nat.mul_lt_mul_of_pos_right h1 f1;have h3:LB ^ (n - 1)*(t+1)*f≤LB ^ (n - 1)*LB:=by
  rw[Nat.mul_assoc,Nat.mul_comm (t+1) f];exact Nat.mul_le_mul_left _ f3
 have h4:LB ^ (n - 1)*LB=LB ^ n:=by rw[← Nat.pow_succ];congr 1;omega
 omega
theorem qJ {a f:Nat} (hf:f≤500000000):a*f < LB ^ ((dig a).length+1):=by
 have h1:=jW a;have h2:a*f≤a*LB:=Nat.mul_le_mul_left _ (by unfold LB; omega);have h3:a*LB < LB ^ (dig a).length*LB:=Nat.mul_lt_mul_of_pos_right h1 DX;rw[Nat.pow_succ];omega
theorem mP {o a b:List Nat} {i x:Nat} {s t c c':Int} (hi:i < o.length) (h:(aH (o.take i):Int)+(LB ^ i:Nat)*c=s*aH (a.take i)+t*aH (b.take i))
  (hv:(x:Int)+(LB:Nat)*c'=s*(a.getD i 0:Nat)+t*(b.getD i 0:Nat)+c) :
  (aH ((o.set i x).take (i+1)):Int)+(LB ^ (i+1):Nat)*c'=s*aH (a.take (i+1))+t*aH (b.take (i+1)):=by
 rw[jT hi,bF,bF,Nat.pow_succ];simp only[Int.natCast_add,Int.natCast_mul];generalize ((LB ^ i:Nat):Int)=P at *;generalize ((LB:Nat):Int)=L at *;generalize ((a.getD i 0:Nat):Int)=A at *;generalize ((b.getD i 0:Nat):Int)=B at *;have e:P*((x:Int)+L*c')=P*(s*A+t*B+c):=by rw[hv]
 grind
theorem agj {N M:Nat} {R c:Int} (hN:N < M) (h0:0≤R) (hR:R < M) (h:(N:Int)+(M:Int)*c=R):(N:Int)=R:=by
 rcases Int.lt_trichotomy c 0 with hc | hc | hc
 ·have:(M:Int)*c≤(M:Int)*(-1):=Int.mul_le_mul_of_nonneg_left byOmega byOmega;omega
 ·subst hc;omega
 ·have:(M:Int)*1≤(M:Int)*c:=Int.mul_le_mul_of_nonneg_left byOmega byOmega;omega
structure Leh (a b M p0 q0 al be p q A B C D:Int):Prop where
 ha:a=p0*M+al
 hb:b=q0*M+be
 al0:0≤al
 al1:al < M
 be0:0≤be
 be1:be < M
 hp:p=A*p0+B*q0
 hq:q=C*p0+D*q0
 pA:0≤p+A
 pB:0≤p+B
 qC:0≤q+C
 qD:0≤q+D
 pA1:p+A≤p0+1
 pB1:p+B≤p0+1
 qC1:q+C≤p0+1
 qD1:q+D≤p0+1
 sign:(0≤A∧B≤0∧C≤0∧0≤D)∨(A≤0∧0≤B∧0≤C∧D≤0)
 y0:0≤C*a+D*b
 yx:C*a+D*b≤A*a+B*b
 xa:A*a+B*b≤a
 yb:C*a+D*b≤b
 prog:B=0∨C*a+D*b < b
 gcd:Int.gcd (A*a+B*b) (C*a+D*b)=Int.gcd a b
theorem Leh.start {a b M p0 q0 al be:Int} (ha:a=p0*M+al) (hb:b=q0*M+be) (al0:0≤al) (al1:al < M) (be0:0≤be) (be1:be < M) (hq0:0≤q0) (hqp:q0≤p0) (h0:0≤b) (hba:b≤a) :
  Leh a b M p0 q0 al be p0 q0 1 0 0 1 :=
 ⟨ha,hb,al0,al1,be0,be1,byOmega,byOmega,byOmega,byOmega,byOmega,byOmega,byOmega,byOmega,byOmega,byOmega,.inl ⟨byOmega,byOmega,byOmega,byOmega⟩,byOmega,byOmega,byOmega,byOmega,.inl rfl,aB⟩
section
variable {a b M p0 q0 al be p q A B C D:Int}
theorem Leh.x_eq (h:Leh a b M p0 q0 al be p q A B C D):A*a+B*b=p*M+(A*al+B*be):=by
 rw[h.ha,h.hb,h.hp];grind
theorem Leh.y_eq (h:Leh a b M p0 q0 al be p q A B C D):C*a+D*b=q*M+(C*al+D*be):=by
 rw[h.ha,h.hb,h.hq];grind
theorem Leh.adx (h:Leh a b M p0 q0 al be p q A B C D):0≤p:=by
 have:=h.pA;have:=h.pB;rcases h.sign with⟨_,_,_,_⟩ | ⟨_,_,_,_⟩ <;> omega
theorem Leh.zW (h:Leh a b M p0 q0 al be p q A B C D):0≤q:=by
 have:=h.qC;have:=h.qD;rcases h.sign with⟨_,_,_,_⟩ | ⟨_,_,_,_⟩ <;> omega
theorem Leh.quot {p q A C k:Int} (hp:0≤p+A) (hq:0≤q+C) (h0:q+C≠0) (hk:k=(p+A) / (q+C)):0≤k∧k*(q+C)≤p+A∧p+A < (k+1)*(q+C):=by
 have hpos:0 < q+C:=byOmega;subst hk;exact⟨Int.ediv_nonneg hp hq,Int.ediv_mul_le _ h0,Int.lt_ediv_add_one_mul_self _ hpos⟩
theorem ah4 (x y k:Int):Int.gcd y (x - k*y)=Int.gcd x y:=by
 rw[Int.gcd_comm x y,Int.sub_eq_add_neg,← Int.neg_mul];exact Int.gcd_add_mul_right_right _ _ _
theorem Leh.step (h:Leh a b M p0 q0 al be p q A B C D) {k:Int} (hC:q+C≠0) (hD:q+D≠0) (hk:k=(p+A) / (q+C)) (hk':k=(p+B) / (q+D)) :
  Leh a b M p0 q0 al be q (p - k*q) C D (A - k*C) (B - k*D)∧(A - k*C)*a+(B - k*D)*b < C*a+D*b:=by
 obtain⟨k0,k1,k2⟩:=Leh.quot h.pA h.qC hC hk;obtain⟨_,k3,k4⟩:=Leh.quot h.pB h.qD hD hk';clear hk hk';have ex:=h.x_eq;have ey:=h.y_eq;have hM:0 < M:=by have:=h.al0;have:=h.al1;omega
 have hal:=h.al0;have hal1:=h.al1;have hbe:=h.be0;have hbe1:=h.be1;have exy:(A - k*C)*a+(B - k*D)*b=(A*a+B*b) - k*(C*a+D*b):=by grind
 have main:0≤(A*a+B*b) - k*(C*a+D*b)∧(A*a+B*b) - k*(C*a+D*b) < C*a+D*b:=by
  rw[ex,ey];rcases h.sign with⟨sA,sB,sC,sD⟩ | ⟨sA,sB,sC,sD⟩
  ·have f1:0≤((p+B) - k*(q+D))*M:=Int.mul_nonneg byOmega byOmega;refine zbP ?_;intro kC kD;have f2:0≤(A - k*C)*al:=Int.mul_nonneg byOmega hal;have f3:0≤(k*D - B)*(M - be):=Int.mul_nonneg byOmega byOmega;have f4:1*M≤((k+1)*(q+C) - (p+A))*M:=Int.mul_le_mul_of_nonneg_right byOmega byOmega;have kC1:(k+1)*C≤0:=Int.mul_nonpos_of_nonneg_of_nonpos byOmega sC;have kD1:0≤(k+1)*D:=Int.mul_nonneg byOmega sD;have f5:0≤(A - (k+1)*C)*(M - al):=Int.mul_nonneg byOmega byOmega;have f6:0≤((k+1)*D - B)*be:=Int.mul_nonneg byOmega hbe;constructor
   ·have:p*M+(A*al+B*be) - k*(q*M+(C*al+D*be))=((p+B) - k*(q+D))*M+(A - k*C)*al+(k*D - B)*(M - be):=by grind
    omega
   ·have:q*M+(C*al+D*be) - (p*M+(A*al+B*be) - k*(q*M+(C*al+D*be)))=((k+1)*(q+C) - (p+A))*M+(A - (k+1)*C)*(M - al)+((k+1)*D - B)*be:=by grind
    omega
  ·have f1:0≤((p+A) - k*(q+C))*M:=Int.mul_nonneg byOmega byOmega;refine zbQ ?_;intro kD kC;have f2:0≤(B - k*D)*be:=Int.mul_nonneg byOmega hbe;have f3:0≤(k*C - A)*(M - al):=Int.mul_nonneg byOmega byOmega;have f4:1*M≤((k+1)*(q+D) - (p+B))*M:=Int.mul_le_mul_of_nonneg_right byOmega byOmega;have kD1:(k+1)*D≤0:=Int.mul_nonpos_of_nonneg_of_nonpos byOmega sD;have kC1:0≤(k+1)*C:=Int.mul_nonneg byOmega sC;have f5:0≤(B - (k+1)*D)*(M - be):=Int.mul_nonneg byOmega byOmega;have f6:0≤((k+1)*C - A)*al:=Int.mul_nonneg byOmega hal;constructor
   ·have:p*M+(A*al+B*be) - k*(q*M+(C*al+D*be))=((p+A) - k*(q+C))*M+(B - k*D)*be+(k*C - A)*(M - al):=by grind
    omega
   ·have:q*M+(C*al+D*be) - (p*M+(A*al+B*be) - k*(q*M+(C*al+D*be)))=((k+1)*(q+D) - (p+B))*M+(B - (k+1)*D)*(M - be)+((k+1)*C - A)*al:=by grind
    omega
 have hkq:0≤k*(q+C):=Int.mul_nonneg k0 h.qC;have hkq':0≤k*(q+D):=Int.mul_nonneg k0 h.qD;have pA1:=h.pA1;have pB1:=h.pB1;have g1:p - k*q+(A - k*C)=p+A - k*(q+C):=by grind
 have g2:p - k*q+(B - k*D)=p+B - k*(q+D):=by grind
 have hyb:=h.yb;refine⟨⟨h.ha,h.hb,hal,hal1,hbe,hbe1,h.hq,?_,h.qC,h.qD,by rw[g1]; omega,by rw[g2]; omega,h.qC1,h.qD1,by rw[g1]; omega,by rw[g2]; omega,?_,by rw[exy]; exact main.1,by rw[exy]; omega,?_,by rw[exy]; omega,.inr (by rw[exy]; omega),?_⟩,by rw[exy]; exact main.2⟩
 ·rw[h.hp,h.hq];grind
 ·rcases h.sign with⟨sA,sB,sC,sD⟩ | ⟨sA,sB,sC,sD⟩
  ·right
   refine zbP ?_;intro kC kD;exact⟨sC,sD,byOmega,byOmega⟩
  ·left
   refine zbQ ?_;intro kD kC;exact⟨sC,sD,byOmega,byOmega⟩
 ·have:=h.yx;have:=h.xa;omega
 ·rw[exy,ah4,h.gcd]
theorem Leh.bounds (h:Leh a b M p0 q0 al be p q A B C D) {k:Int} (hC:q+C≠0) (hD:q+D≠0) (hk:k=(p+A) / (q+C)) (hk':k=(p+B) / (q+D)) :
  0≤k∧k≤p0+1∧0≤k*q∧k*q≤p0+1∧-(p0+1)≤k*C∧k*C≤p0+1∧-(p0+1)≤k*D∧k*D≤p0+1:=by
 obtain⟨k0,k1,k2⟩:=Leh.quot h.pA h.qC hC hk;obtain⟨_,k3,k4⟩:=Leh.quot h.pB h.qD hD hk';have pA1:=h.pA1;have pB1:=h.pB1;have hqC:=h.qC;have hqD:=h.qD;have hq:=h.zW;have r1:k*(q+C)=k*q+k*C:=Int.mul_add _ _ _;have r2:k*(q+D)=k*q+k*D:=Int.mul_add _ _ _;have r3:0≤k*q:=Int.mul_nonneg k0 hq;have r4:0≤k*(q+C):=Int.mul_nonneg k0 hqC;have r5:0≤k*(q+D):=Int.mul_nonneg k0 hqD;have r6:k*1≤k*(q+C):=Int.mul_le_mul_of_nonneg_left byOmega k0;rcases h.sign with⟨sA,sB,sC,sD⟩ | ⟨sA,sB,sC,sD⟩
 ·refine zbP ?_;intro kC kD;omega
 ·refine zbQ ?_;intro kD kC;omega
end
theorem ach (k m:Nat):(∀ i,i < k→(2 ^ k*(2*m+1)).testBit i=false)∧(2 ^ k*(2*m+1)).testBit k=true:=by
 constructor
 ·intro i hi;rw[Nat.mul_comm,Nat.testBit_mul_two_pow];simp;omega
 ·rw[Nat.mul_comm,Nat.testBit_mul_two_pow];simp
theorem alf {i j s m n r:Nat} (h:(2 ^ i*(2*m+1)) ||| (2 ^ j*(2*n+1))=2 ^ s*(2*r+1)):s=min i j:=by
 have hi:=ach i m;have hj:=ach j n;have hs:=ach s r;rw[← h] at hs;have hs1:=hs.2;rw[Nat.testBit_or,Bool.or_eq_true] at hs1;have a1:min i j≤s:=by
  rcases Nat.lt_or_ge s (min i j) with h1 | h1
  ·rw[hi.1 s byOmega,hj.1 s byOmega] at hs1;simp at hs1
  ·exact h1
 have a2:s≤min i j:=by
  rcases Nat.lt_or_ge (min i j) s with h1 | h1
  ·have:=hs.1 _ h1;rw[Nat.testBit_or,Bool.or_eq_false_iff] at this;rcases Nat.le_total i j with h2 | h2
   ·rw[Nat.min_eq_left h2,hi.2] at this;simp at this
   ·rw[Nat.min_eq_right h2,hj.2] at this;simp at this
  ·exact h1
 omega
theorem ajy (k m:Nat):Nat.Coprime (2*m+1) (2 ^ k):=by
 apply Nat.Coprime.pow_right
 show Nat.gcd (2*m+1) 2=1;rw[Nat.gcd_comm,Nat.gcd_rec,show(2*m+1) % 2=1 by omega];rfl
theorem zB (k m b:Nat):Nat.gcd (2*m+1) (2 ^ k*b)=Nat.gcd (2*m+1) b:=Nat.Coprime.gcd_mul_left_cancel_right _ (ajy k m).symm
theorem ajz {a b i j s m n r:Nat} (ha:a=2 ^ i*(2*m+1)) (hb:b=2 ^ j*(2*n+1)) (hs:(a ||| b)=2 ^ s*(2*r+1)):Nat.gcd (2*m+1) b*2 ^ s=Nat.gcd a b:=by
 have he:s=min i j:=alf (by rw[← ha,← hb]; exact hs);rw[hb,zB,ha,he];rcases Nat.le_total i j with h | h
 ·rw[Nat.min_eq_left h];obtain⟨d,rfl⟩:∃ d,j=i+d:=⟨j - i,byOmega⟩;rw[Nat.pow_add,Nat.mul_assoc,Nat.gcd_mul_left,zB,Nat.mul_comm]
 ·rw[Nat.min_eq_right h];obtain⟨d,rfl⟩:∃ d,i=j+d:=⟨i - j,byOmega⟩;rw[Nat.pow_add,Nat.mul_assoc,Nat.gcd_mul_left,Nat.gcd_comm (2 ^ d*_),zB,Nat.mul_comm,Nat.gcd_comm]
theorem ajA {l:List Nat} {n jf T:Nat} (hl:l.length≤n) (hn:3≤n) (hT:jf*T=LB) (hL:Limbs l) :
  (l.getD (n - 1) 0*LB+l.getD (n - 2) 0)*jf+l.getD (n - 3) 0*jf / LB=aH l / (LB ^ (n - 3)*T):=by
 have hTp:0 < T:=by
  rcases Nat.eq_zero_or_pos T with h | h
  ·subst h;simp at hT
  ·exact h
 have htp:0 < jf:=by
  rcases Nat.eq_zero_or_pos jf with h | h
  ·subst h;simp at hT
  ·exact h
 have e0:aH l=aH (l.take (n - 3))+LB ^ (n - 3)*(l.getD (n - 3) 0+LB*(l.getD (n - 2) 0+LB*l.getD (n - 1) 0)):=by
  by_cases h3:n - 3≤l.length
  ·rw[eP l h3,bM,show n - 3+1=n - 2 by omega,bM,show n - 2+1=n - 1 by omega,bM,show n - 1+1=n by omega,List.drop_eq_nil_of_le hl];simp[aH]
  ·rw[List.take_of_length_le byOmega,eF byOmega,eF byOmega,eF byOmega];simp
 have e1:aH (l.take (n - 3)) < LB ^ (n - 3):=by
  have:=fH (hL.take (n - 3));have h2:LB ^ (l.take (n - 3)).length≤LB ^ (n - 3):=Nat.pow_le_pow_right ay (by rw[List.length_take]; omega);omega
 rw[e0,← Nat.div_div_eq_div_mul,Nat.add_mul_div_left _ _ (Bj _),Nat.div_eq_of_lt e1,Nat.zero_add];generalize l.getD (n - 3) 0=z;generalize l.getD (n - 2) 0=y;generalize l.getD (n - 1) 0=x;have e2:z+LB*(y+LB*x)=z+T*(jf*(y+LB*x)):=by rw[← hT];grind
 rw[e2,Nat.add_mul_div_left _ _ hTp];have e3:z*jf / LB=z / T:=by rw[← hT,Nat.mul_comm z,Nat.mul_div_mul_left _ _ htp]
 rw[e3,Nat.add_comm (x*LB),Nat.mul_comm x,Nat.mul_comm jf,Nat.add_comm]
theorem ajB {l:List Nat} {n jf T:Nat} (hl:l.length=n) (hn:3≤n) (hT:jf*T=LB) (hL:Limbs l) (ht:l.getD (n - 1) 0*jf < LB):aH l / (LB ^ (n - 3)*T) < 1000000000000000000:=by
 have hTp:0 < T:=by
  rcases Nat.eq_zero_or_pos T with h | h
  ·subst h;simp at hT
  ·exact h
 rw[Nat.div_lt_iff_lt_mul (Nat.mul_pos (Bj _) hTp)];have h1:(l.getD (n - 1) 0+1)*jf≤LB:=by
  have:l.getD (n - 1) 0 < T:=by
   rcases Nat.lt_or_ge (l.getD (n - 1) 0) T with h | h
   ·exact h
   ·have:=Nat.mul_le_mul_left jf h;rw[Nat.mul_comm jf (l.getD _ _)] at this;omega
  have h9:(l.getD (n - 1) 0+1)*jf≤T*jf:=Nat.mul_le_mul_right jf this;rw[Nat.mul_comm T] at h9;omega
 have h2:aH l < LB ^ (n - 1)*(l.getD (n - 1) 0+1):=by
  rw[eP l (i:=n - 1) byOmega,bM,show n - 1+1=n by omega,List.drop_eq_nil_of_le byOmega];have:=fH (hL.take (n - 1));rw[List.length_take,Nat.min_eq_left byOmega] at this;rw[Nat.mul_add (LB ^ (n - 1)) _ 1];simp[aH] at *;omega
 have h3:LB ^ (n - 1)*(l.getD (n - 1) 0+1)*jf≤LB ^ (n - 1)*LB:=by rw[Nat.mul_assoc];exact Nat.mul_le_mul_left _ h1
 have htp:0 < jf:=by
  rcases Nat.eq_zero_or_pos jf with h | h
  ·subst h;simp at hT
  ·exact h
 have h4:LB ^ (n - 1)*LB=1000000000000000000*(LB ^ (n - 3)*T)*jf:=by
  have:LB ^ (n - 1)=LB ^ (n - 3)*LB ^ 2:=by rw[← Nat.pow_add];congr 1;omega
  rw[this,← hT];have:(jf*T) ^ 2=1000000000000000000:=by rw[hT];decide
  rw[this];grind
 rw[h4] at h3;have h5:=Nat.le_of_mul_le_mul_right h3 htp;omega
theorem front_eq {l:List Nat} {n:Nat} (hl:l.length≤n) (hn:2≤n) (hL:Limbs l):l.getD (n - 1) 0*LB+l.getD (n - 2) 0=aH l / LB ^ (n - 2):=by
 have e0:aH l=aH (l.take (n - 2))+LB ^ (n - 2)*(l.getD (n - 2) 0+LB*l.getD (n - 1) 0):=by
  by_cases h3:n - 2≤l.length
  ·rw[eP l h3,bM,show n - 2+1=n - 1 by omega,bM,show n - 1+1=n by omega,List.drop_eq_nil_of_le hl];simp[aH]
  ·rw[List.take_of_length_le byOmega,eF byOmega,eF byOmega];simp
 have e1:aH (l.take (n - 2)) < LB ^ (n - 2):=by
  have:=fH (hL.take (n - 2));have h2:LB ^ (l.take (n - 2)).length≤LB ^ (n - 2):=Nat.pow_le_pow_right ay (by rw[List.length_take]; omega);omega
 rw[e0,Nat.add_mul_div_left _ _ (Bj _),Nat.div_eq_of_lt e1,Nat.zero_add,Nat.mul_comm LB,Nat.add_comm]
def sgI (neg:Bool) (n:Nat):Int:=if neg then -(n:Int) else (n:Int)
def dF (x:Rat):Bool:=decide (x.num < 0)
theorem nK (neg:Bool) (n:Nat):(sgI neg n).natAbs=n:=by unfold sgI; split <;> simp
theorem tX {neg:Bool} {n:Nat} (h:n≠0):decide (sgI neg n < 0)=neg:=by
 unfold sgI;cases neg <;> simp <;> omega
theorem mG (x:Rat):sgI (dF x) x.num.natAbs=x.num:=by
 unfold sgI dF;by_cases h:x.num < 0
 ·rw[if_pos (by simpa using h)];omega
 ·rw[if_neg (by simpa using h)];omega
theorem zX (neg:Bool):sgI neg 0=0:=by unfold sgI; cases neg <;> rfl
theorem ajC (a b:Bool) (m n:Nat):sgI (a != b) (m*n)=sgI a m*sgI b n:=by
 unfold sgI;cases a <;> cases b <;> simp[Int.neg_mul,Int.mul_neg]
theorem pF (a:Bool) (m n:Nat):sgI a (m*n)=sgI a m*(n:Int):=by
 unfold sgI;cases a <;> simp[Int.neg_mul]
theorem iW (n:Int) {d:Nat} (hd:d≠0):(mkRat n d).num.natAbs=n.natAbs / Nat.gcd n.natAbs d∧(mkRat n d).den=d / Nat.gcd n.natAbs d∧((mkRat n d).num < 0↔n < 0):=by
 have hg:0 < d.gcd n.natAbs:=Nat.gcd_pos_of_pos_left _ (Nat.pos_of_ne_zero hd);rw[Rat.num_mkRat,Rat.den_mkRat,if_neg hd,if_neg hd,Nat.gcd_comm n.natAbs d];have hdv:((d.gcd n.natAbs:Nat):Int) ∣ n:=Int.ofNat_dvd_left.2 (Nat.gcd_dvd_right _ _);refine⟨?_,rfl,?_⟩
 ·rw[Int.natAbs_ediv_of_dvd hdv];rfl
 ·obtain⟨c,hc⟩:=hdv;generalize d.gcd n.natAbs=G at *;rw[hc,Int.mul_ediv_cancel_left _ byOmega];constructor
  ·intro h;exact Int.mul_neg_of_pos_of_neg byOmega h
  ·intro h;rcases Int.lt_or_le c 0 with h1 | h1
   ·exact h1
   ·have:=Int.mul_nonneg (show(0:Int)≤(G:Nat) by omega) h1;omega
theorem jX (n:Int) {d:Nat} (hd:d≠0):dF (mkRat n d)=decide (n < 0):=by
 unfold dF;rw[decide_eq_decide];exact(iW n hd).2.2
theorem lT {neg:Bool} {n d:Nat} (hd:d≠0) (h:Nat.gcd n d=1):(mkRat (sgI neg n) d).num.natAbs=n∧(mkRat (sgI neg n) d).den=d:=by
 have:=iW (sgI neg n) hd;rw[nK,h,Nat.div_one,Nat.div_one] at this;exact⟨this.1,this.2.1⟩
theorem rO (x:Rat):mkRat (sgI (dF x) x.num.natAbs) x.den=x:=by rw[mG,Rat.mkRat_self]
theorem iH (x:Rat):Nat.gcd x.num.natAbs x.den=1:=x.reduced
theorem nM (x:Rat):x.num.natAbs=0↔x=0:=by rw[Int.natAbs_eq_zero,Rat.num_eq_zero]
theorem aky (x y:Rat) {g l r:Nat} (hg:g=Nat.gcd x.den y.den) (hl:l=x.den / g) (hr:r=y.den / g):x+y=mkRat (x.num*r+y.num*l) (l*y.den):=by
 have hgp:0 < g:=by rw[hg];exact Nat.gcd_pos_of_pos_left _ x.den_pos
 have e1:l*g=x.den:=by rw[hl,hg];exact Nat.div_mul_cancel (Nat.gcd_dvd_left _ _)
 have e2:r*g=y.den:=by rw[hr,hg];exact Nat.div_mul_cancel (Nat.gcd_dvd_right _ _)
 rw[Rat.add_def'];have e3:x.num*(y.den:Int)+y.num*(x.den:Int)=(x.num*r+y.num*l)*(g:Nat):=by
  rw[← e1,← e2];simp only[Int.natCast_mul];grind
 have e4:x.den*y.den=(l*y.den)*g:=by rw[← e1];grind
 rw[e3,e4,Rat.mkRat_mul_right byOmega]
theorem agL (x y:Rat) {g l r f:Nat} {t:Int} (hg:g=Nat.gcd x.den y.den) (hl:l=x.den / g) (hr:r=y.den / g) (ht:t=x.num*r+y.num*l) (hf:f=Nat.gcd t.natAbs g) :
  (x+y).num.natAbs=t.natAbs / f∧(x+y).den=l*(y.den / f)∧dF (x+y)=decide (t < 0):=by
 have hgp:0 < g:=by rw[hg];exact Nat.gcd_pos_of_pos_left _ x.den_pos
 have hlp:l≠0:=by
  intro h0;have e1:l*g=x.den:=by rw[hl,hg];exact Nat.div_mul_cancel (Nat.gcd_dvd_left _ _)
  rw[h0] at e1;have:=x.den_pos;omega
 have hd:l*y.den≠0:=Nat.mul_ne_zero hlp y.den_nz;have e:=aky x y hg hl hr;rw[← ht] at e;have hp:=iW t hd;have ha:=Rat.add.aux x y hg hl hr;simp only at ha;rw[← ht] at ha;rw[← ha,← hf] at hp;have hfg:f ∣ y.den:=by
  rw[hf];refine Nat.dvd_trans (Nat.gcd_dvd_right _ _) ?_;rw[hg];exact Nat.gcd_dvd_right _ _
 rw[e];refine⟨hp.1,?_,?_⟩
 ·rw[hp.2.1,Nat.mul_div_assoc _ hfg]
 ·exact jX t hd
theorem agM (x y:Rat):(x*y).num.natAbs=(x.num.natAbs / Nat.gcd x.num.natAbs y.den)*(y.num.natAbs / Nat.gcd y.num.natAbs x.den) ∧
  (x*y).den=(x.den / Nat.gcd y.num.natAbs x.den)*(y.den / Nat.gcd x.num.natAbs y.den)∧(x≠0→y≠0→dF (x*y)=(dF x != dF y)):=by
 have hd:x.den*y.den≠0:=Nat.mul_ne_zero x.den_nz y.den_nz;have hp:=iW (x.num*y.num) hd;rw[← Rat.mul_def',Int.natAbs_mul] at hp;have hg:Nat.gcd (x.num.natAbs*y.num.natAbs) (x.den*y.den)=Nat.gcd x.num.natAbs y.den*Nat.gcd y.num.natAbs x.den:=by
  have c1:=iH x;have c2:=iH y;generalize x.num.natAbs=a at *;generalize y.num.natAbs=b at *;generalize x.den=c at *;generalize y.den=d at *;obtain⟨a',ha⟩:=Nat.gcd_dvd_left a d;obtain⟨d',hd'⟩:=Nat.gcd_dvd_right a d;obtain⟨b',hb⟩:=Nat.gcd_dvd_left b c;obtain⟨c',hc⟩:=Nat.gcd_dvd_right b c;have hdp:0 < d:=Nat.pos_of_ne_zero fun h=>hd (by rw[h,Nat.mul_zero])
  have hcp:0 < c:=Nat.pos_of_ne_zero fun h=>hd (by rw[h,Nat.zero_mul])
  have hf:0 < Nat.gcd a d:=Nat.gcd_pos_of_pos_right _ hdp;have hg:0 < Nat.gcd b c:=Nat.gcd_pos_of_pos_right _ hcp;have k1:Nat.Coprime a' d':=by
   have:Nat.gcd a d*Nat.gcd a' d'=Nat.gcd a d:=by rw[← Nat.gcd_mul_left,← ha,← hd']
   exact Nat.eq_of_mul_eq_mul_left hf (by rw[this,Nat.mul_one])
  have k2:Nat.Coprime b' c':=by
   have:Nat.gcd b c*Nat.gcd b' c'=Nat.gcd b c:=by rw[← Nat.gcd_mul_left,← hb,← hc]
   exact Nat.eq_of_mul_eq_mul_left hg (by rw[this,Nat.mul_one])
  have k3:Nat.Coprime a' c':=by
   refine Nat.Coprime.coprime_dvd_left ⟨_,(ha.trans (Nat.mul_comm _ _))⟩ (Nat.Coprime.coprime_dvd_right ⟨_,(hc.trans (Nat.mul_comm _ _))⟩ c1)
  have k4:Nat.Coprime b' d':=by
   refine Nat.Coprime.coprime_dvd_left ⟨_,(hb.trans (Nat.mul_comm _ _))⟩ (Nat.Coprime.coprime_dvd_right ⟨_,(hd'.trans (Nat.mul_comm _ _))⟩ c2)
  generalize Nat.gcd a d=f at *;generalize Nat.gcd b c=g at *;have e1:a*b=f*g*(a'*b'):=by rw[ha,hb];grind
  have e2:c*d=f*g*(c'*d'):=by rw[hc,hd'];grind
  rw[e1,e2,Nat.gcd_mul_left,show Nat.gcd (a'*b') (c'*d')=1 from Nat.Coprime.mul_left (Nat.Coprime.mul_right k3 k1) (Nat.Coprime.mul_right k2 k4),Nat.mul_one]
 refine⟨?_,?_,?_⟩
 ·rw[hp.1,hg];exact Nat.mul_div_mul_comm (Nat.gcd_dvd_left _ _) (Nat.gcd_dvd_left _ _)
 ·rw[hp.2.1,hg,Nat.mul_comm (Nat.gcd x.num.natAbs y.den)];exact Nat.mul_div_mul_comm (Nat.gcd_dvd_right _ _) (Nat.gcd_dvd_right _ _)
 ·intro hx hy;have hx':x.num≠0:=fun h=>hx (Rat.num_eq_zero.1 h)
  have hy':y.num≠0:=fun h=>hy (Rat.num_eq_zero.1 h)
  rw[Rat.mul_def',jX _ hd];unfold dF;rcases Int.lt_or_lt_of_ne hx' with h1 | h1 <;> rcases Int.lt_or_lt_of_ne hy' with h2 | h2
  ·have:=Int.mul_pos_of_neg_of_neg h1 h2;simp[h1,h2];omega
  ·have:=Int.mul_neg_of_neg_of_pos h1 h2;simp[h1,show ¬ y.num < 0 by omega];omega
  ·have:=Int.mul_neg_of_pos_of_neg h1 h2;simp[h2,show ¬ x.num < 0 by omega];omega
  ·have:=Int.mul_pos h1 h2;simp[show ¬ y.num < 0 by omega,show ¬ x.num < 0 by omega];omega
def mQ (x y:Rat):Int:=if x < y then -1 else if x=y then 0 else 1
theorem fC (a b:Nat):(dig (a*b)).length≤(dig a).length+(dig b).length :=
 aS (by rw[Nat.pow_add]; exact Nat.mul_lt_mul'' (jW a) (jW b))
theorem yF (a b:Nat):(dig (a+b)).length≤max (dig a).length (dig b).length+1:=by
 refine aS ?_;have h1:a < LB ^ max (dig a).length (dig b).length:=Nat.lt_of_lt_of_le (jW a) (Nat.pow_le_pow_right ay (Nat.le_max_left _ _));have h2:b < LB ^ max (dig a).length (dig b).length:=Nat.lt_of_lt_of_le (jW b) (Nat.pow_le_pow_right ay (Nat.le_max_right _ _));rw[Nat.pow_succ];generalize LB ^ max (dig a).length (dig b).length=M at *;unfold LB;omega
theorem bU (a b:Nat):(dig (a / b)).length≤(dig a).length:=aU (Nat.div_le_self a b)
def rl (x:Rat):Nat:=max (dig x.num.natAbs).length (dig x.den).length
theorem gJ (x:Rat):(dig x.num.natAbs).length≤rl x:=Nat.le_max_left _ _
theorem gK (x:Rat):(dig x.den).length≤rl x:=Nat.le_max_right _ _
theorem zY {n:Int} {d k:Nat} (hd:d≠0) (h1:(dig n.natAbs).length≤k) (h2:(dig d).length≤k):rl (mkRat n d)≤k:=by
 have h:=iW n hd;unfold rl;rw[h.1,h.2.1];exact Nat.max_le.2 ⟨Nat.le_trans (bU _ _) h1,Nat.le_trans (bU _ _) h2⟩
theorem qj (x y:Rat):rl (x*y)≤rl x+rl y:=by
 rw[Rat.mul_def'];refine zY (Nat.mul_ne_zero x.den_nz y.den_nz) ?_ ?_
 ·rw[Int.natAbs_mul];exact Nat.le_trans (fC _ _) (Nat.add_le_add (gJ x) (gJ y))
 ·exact Nat.le_trans (fC _ _) (Nat.add_le_add (gK x) (gK y))
theorem aci (x y:Rat):rl (x+y)≤rl x+rl y+1:=by
 rw[Rat.add_def'];have a1:=gJ x;have a2:=gJ y;have a3:=gK x;have a4:=gK y;refine zY (Nat.mul_ne_zero x.den_nz y.den_nz) ?_ ?_
 ·have h1:(x.num*(y.den:Int)+y.num*(x.den:Int)).natAbs≤x.num.natAbs*y.den+y.num.natAbs*x.den:=by
   refine Nat.le_trans (Int.natAbs_add_le _ _) ?_;rw[Int.natAbs_mul,Int.natAbs_mul];exact Nat.le_refl _
  have h2:=aU h1;have h3:=yF (x.num.natAbs*y.den) (y.num.natAbs*x.den);have h4:=fC x.num.natAbs y.den;have h5:=fC y.num.natAbs x.den;omega
 ·have:=fC x.den y.den;omega
theorem ah5 (x:Rat):rl (-x)=rl x:=by unfold rl; rw[Rat.neg_num,Rat.neg_den,Int.natAbs_neg]
theorem vY:rl 0=1:=by unfold rl; rw[show(0:Rat).num=0 from rfl,show(0:Rat).den=1 from rfl,Int.natAbs_zero,bD,iZ]; rfl
theorem zZ (n:Int):rl (n:Rat)=max (dig n.natAbs).length 1:=by unfold rl; rw[Rat.num_intCast,Rat.den_intCast,iZ]; rfl
theorem xI {y:Rat} (hy:y≠0):(y⁻¹).num.natAbs=y.den∧(y⁻¹).den=y.num.natAbs∧dF y⁻¹=dF y:=by
 have hn:y.num≠0:=fun h=>hy (Rat.num_eq_zero.1 h)
 rw[Rat.inv_def];have hnd:y.num.natAbs≠0:=byOmega;have e:Rat.divInt (y.den:Int) y.num=mkRat (sgI (dF y) y.den) y.num.natAbs:=by
  have h1:y.num=sgI (dF y) y.num.natAbs:=(mG y).symm;have h2:Rat.divInt (y.den:Int) y.num=Rat.divInt (y.den:Int) (sgI (dF y) y.num.natAbs):=by rw[← h1]
  rw[h2];unfold sgI;cases dF y
  ·simp[Rat.divInt_ofNat]
  ·simp only[if_true];rw[← Rat.neg_divInt_neg,Int.neg_neg,Rat.divInt_ofNat]
 rw[e];have hg:Nat.gcd y.den y.num.natAbs=1:=by rw[Nat.gcd_comm];exact iH y
 have hp:=lT (neg:=dF y) hnd hg;refine⟨hp.1,hp.2,?_⟩;rw[jX _ hnd];exact tX y.den_nz
theorem ae0 {y:Rat} (hy:y≠0):rl y⁻¹=rl y:=by
 unfold rl;rw[(xI hy).1,(xI hy).2.1,Nat.max_comm]
theorem ajD {x y:Rat} (hn:x.num.natAbs=y.num.natAbs) (hd:x.den=y.den) (hs:dF x=dF y):x=y:=by
 rw[← rO x,← rO y,hn,hd,hs]
theorem ae1 (x:Rat):dig x.den≠[]:=fun h=>x.den_nz (lQ.1 h)
theorem agN {x y:Rat} (hx:x.den=1) (hy:y.den=1):(x+y).den=1∧(x+y).num=x.num+y.num:=by
 have ex:x=(x.num:Rat):=Rat.ext (Rat.num_intCast _).symm (by rw[hx,Rat.den_intCast]);have ey:y=(y.num:Rat):=Rat.ext (Rat.num_intCast _).symm (by rw[hy,Rat.den_intCast]);have e:x+y=((x.num+y.num:Int):Rat):=by
  rw[Rat.intCast_add,← ex,← ey]
 rw[e];exact⟨Rat.den_intCast _,Rat.num_intCast _⟩
def lU (x:Rat):Int:=if x.num.natAbs=0 then 0 else if dF x then -1 else 1
theorem acj (x:Rat):lU x=if x.num < 0 then -1 else if x.num=0 then 0 else 1:=by
 unfold lU dF;by_cases h:x.num=0
 ·simp[h]
 ·by_cases h1:x.num < 0 <;> simp[h,h1]
theorem aac (x y:Rat):x=y↔x.num*y.den=y.num*x.den:=by
 constructor
 ·rintro rfl;rfl
 ·intro h;exact Rat.le_antisymm ((Rat.le_iff x y).2 (Int.le_of_eq h)) ((Rat.le_iff y x).2 (Int.le_of_eq h.symm))
theorem zC (x y:Rat):mQ x y=if x.num*y.den < y.num*x.den then -1 else if x.num*y.den=y.num*x.den then 0 else 1:=by
 unfold mQ;by_cases h:x < y
 ·rw[if_pos h,if_pos ((Rat.lt_iff x y).1 h)]
 ·rw[if_neg h,if_neg (fun e=>h ((Rat.lt_iff x y).2 e))];by_cases h2:x=y
  ·rw[if_pos h2,if_pos ((aac x y).1 h2)]
  ·rw[if_neg h2,if_neg (fun e=>h2 ((aac x y).2 e))]
theorem ady {x y:Rat} (h:lU x < lU y):mQ x y = -1∧mQ y x=1:=by
 have dx:(0:Int) < x.den:=by have:=x.den_pos;omega
 have dy:(0:Int) < y.den:=by have:=y.den_pos;omega
 have hl:x.num*y.den < y.num*x.den:=by
  rw[acj,acj] at h;rcases Int.lt_trichotomy x.num 0 with h1 | h1 | h1
  ·rw[if_pos h1] at h;have a1:=Int.mul_neg_of_neg_of_pos h1 dy;have a2:0≤y.num:=by
    rcases Int.lt_or_le y.num 0 with h2 | h2
    ·rw[if_pos h2] at h;omega
    ·exact h2
   have:=Int.mul_nonneg a2 (Int.le_of_lt dx);omega
  ·rw[if_neg byOmega,if_pos h1] at h;rw[h1];have a2:0 < y.num:=by
    rcases Int.lt_trichotomy y.num 0 with h2 | h2 | h2
    ·rw[if_pos h2] at h;omega
    ·rw[if_neg byOmega,if_pos h2] at h;omega
    ·exact h2
   have:=Int.mul_pos a2 dx;omega
  ·rw[if_neg byOmega,if_neg byOmega] at h;split at h
   ·omega
   ·split at h <;> omega
 rw[zC,zC,if_pos hl,if_neg byOmega,if_neg byOmega];exact⟨rfl,rfl⟩
theorem ah6 {x y:Rat} (h:lU x=lU y) (h0:lU x=0):mQ x y=0:=by
 have key:∀ z:Rat,lU z=0→z.num=0:=by
  intro z hz;rw[acj] at hz;by_cases h1:z.num < 0
  ·rw[if_pos h1] at hz;omega
  ·rw[if_neg h1] at hz;by_cases h2:z.num=0
   ·exact h2
   ·rw[if_neg h2] at hz;omega
 have hx:=key x h0;have hy:=key y (by rw[← h,h0]);rw[zC,hx,hy];simp
theorem ah7 {x y:Rat} (h:lU x=lU y) (h0:lU x≠0):mQ x y=lU x*bZ (x.num.natAbs*y.den) (y.num.natAbs*x.den):=by
 have ex:=mG x;have ey:=mG y;have hn:dF x=dF y:=by
  have hx0:x.num.natAbs≠0:=fun e=>h0 (by unfold lU; rw[if_pos e])
  have hy0:y.num.natAbs≠0:=fun e=>h0 (by rw[h]; unfold lU; rw[if_pos e])
  unfold lU at h;rw[if_neg hx0,if_neg hy0] at h;cases hx:dF x <;> cases hy:dF y <;> rw[hx,hy] at h <;> simp at h ⊢
 have hx0:x.num.natAbs≠0:=fun e=>h0 (by unfold lU; rw[if_pos e])
 have e1:x.num*y.den=sgI (dF x) (x.num.natAbs*y.den):=by rw[pF,ex]
 have e2:y.num*x.den=sgI (dF x) (y.num.natAbs*x.den):=by rw[pF,hn,ey]
 rw[zC,e1,e2];unfold lU bZ;rw[if_neg hx0];generalize x.num.natAbs*y.den=a;generalize y.num.natAbs*x.den=b;cases dF x
 ·simp only[sgI,Bool.false_eq_true,if_false,Int.one_mul];split <;> split <;> (try split) <;> (try split) <;> omega
 ·simp only[sgI,if_true];split <;> split <;> (try split) <;> (try split) <;> omega
theorem qm (x y:Rat):mQ x y=0↔x=y:=by
 unfold mQ;split
 ·rename_i h
  constructor
  ·intro e;omega
  ·rintro rfl;exact absurd h Rat.lt_irrefl
 ·split
  ·rename_i h; simp[h]
  ·rename_i h; simp[h]
theorem acn (x y:Rat):0 < mQ x y↔y < x:=by
 unfold mQ;split
 ·rename_i h
  constructor
  ·intro e;omega
  ·intro e;grind
 ·split
  ·rename_i h; subst h; simp[Rat.lt_irrefl]
  ·rename_i h1 h2
   constructor
   ·intro _;grind
   ·intro _;omega
def fZ (l:List Nat):Int:=if 1024 < l.length then 4 else if l.any (fun x=>decide (LB≤x)) then 3 else if l.getLast? = some 0 then 3 else 0
theorem aby {l:List Nat} (h:fZ l=0):l=dig (aH l)∧l.length≤1024:=by
 unfold fZ at h;by_cases h1:1024 < l.length
 ·rw[if_pos h1] at h;omega
 ·rw[if_neg h1] at h;by_cases h2:l.any (fun x=>decide (LB≤x))=true
  ·rw[if_pos h2] at h;omega
  ·rw[if_neg h2] at h;by_cases h3:l.getLast? = some 0
   ·rw[if_pos h3] at h;omega
   ·refine⟨(qy (fun x hx=>?_) h3).symm,byOmega⟩;rcases Nat.lt_or_ge x LB with h4 | h4
    ·exact h4
    ·exact absurd (List.any_eq_true.2 ⟨x,hx,decide_eq_true h4⟩) h2
theorem aad {n:Nat} (h:(dig n).length≤1024):fZ (dig n)=0:=by
 unfold fZ;rw[if_neg byOmega];have h2:(dig n).any (fun x=>decide (LB≤x))=false:=by
  rw[Bool.eq_false_iff];intro he;obtain⟨x,hx,h3⟩:=List.any_eq_true.1 he;have:=aP n x hx;have:=of_decide_eq_true h3;omega
 rw[h2,if_neg ay,if_neg (qA n)]
def gZ (n:Nat):List Rat:=List.replicate n (((1:Int):Rat) / ((n:Int):Rat))
end Go.Proofs.YtnmeejofpkhlkaaGreatDoor
