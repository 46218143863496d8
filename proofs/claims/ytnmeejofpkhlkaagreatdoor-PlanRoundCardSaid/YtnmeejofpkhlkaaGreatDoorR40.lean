/- Games that numbers select have perfect recall: plain law. -/
import Derived.Test.YtnmeejofpkhlkaaGreatDoorR39
import Derived.Sort.CutIn
import Derived.Test.YtnmeejofpkhlkaaGreatDoorR37
import Derived.Test.YtnmeejofpkhlkaaGreatDoorR35
set_option linter.all false
set_option maxRecDepth 100000
set_option maxHeartbeats 12800000
namespace Go.Proofs.YtnmeejofpkhlkaaGreatDoor
open Lib renaming hid → Ag
open Go.RowKit
def VD (V:List View):Prop:=∀ (x y:Nat) (v w:View),V[x]? = some v→V[y]? = some w→v.aC=w.aC→v.level=w.level→v.seen=w.seen→x=y
theorem VD.sub {V W:List View} (h:VD V) (hW:∀ (x:Nat) (v:View),W[x]? = some v→V[x]? = some v):VD W:=fun x y v w hx hy=>h x y v w (hW x v hx) (hW y w hy)
theorem VD.push {V:List View} {q:View} (h:VD V) (hq:V.find? (dH q.aC q.level q.seen)=none):VD (V ++ [q]):=by
 have hno:∀ v∈V,¬ (v.aC=q.aC∧v.level=q.level∧v.seen=q.seen):=fun v hv he=>by
  have:=List.find?_eq_none.1 hq v hv;apply this;unfold dH;simp[he.1,he.2.1,he.2.2]
 have cut:∀ (x:Nat) (v:View),(V ++ [q])[x]? = some v→V[x]? = some v∨(x=V.length∧v=q):=fun x v hx=>by
  by_cases hl:x < V.length
  ·rw[List.getElem?_append_left hl] at hx;exact .inl hx
  ·rw[List.getElem?_append_right byOmega] at hx;have e:x - V.length < 1:=lt_of_get hx;have e2:x - V.length=0:=byOmega;rw[e2] at hx;exact .inr ⟨byOmega,by simpa using hx.symm⟩
 intro x y v w hx hy h1 h2 h3;rcases cut x v hx with a1 | ⟨a1,a2⟩ <;> rcases cut y w hy with b1 | ⟨b1,b2⟩
 ·exact h x y v w a1 b1 h1 h2 h3
 ·exact absurd (by rw[← b2]; exact⟨h1,h2,h3⟩) (hno v (List.mem_of_getElem? a1))
 ·exact absurd (by rw[← a2]; exact⟨h1.symm,h2.symm,h3.symm⟩) (hno w (List.mem_of_getElem? b1))
 ·omega
section
variable {C:MC}
theorem ajn {aC level:Int} {seen:List Int} {s:MS} (h:VD s.views):VD (jB C aC level seen s).2.views:=by
 unfold jB;cases hf:s.views.find? (dH aC level seen) with
 | some v=>exact h
 | none=>exact VD.push (q:=⟨aC,level,seen,_⟩) h hf
theorem ajo {info aC:Int} {s:MS} (h:VD s.views):VD (jR info aC s).views:=by
 unfold jR;split
 ·exact h
 split
 ·exact h
 refine h.sub fun x v hx=>?_
 have hx:s.views.dropLast[x]? = some v:=hx;rw[List.dropLast_eq_take,List.getElem?_take] at hx;split at hx
 ·exact hx
 ·cases hx
theorem ajp {p:Place} {level:Int} {seen:List (List Int)} {s:MS} (h:VD s.views):VD (kQ C p level seen s).2.2.views:=by
 unfold kQ;split
 ·exact h
 ·exact ajn h
theorem adg {i:Nat} {s:MS} (h:VD s.views):VD (ny C i s).views:=by
 obtain⟨a,n,e⟩:=abV C i s;rw[e];exact h
theorem agF {rec:List (List Int)→MS→Nat×MS} {p:Place} {seen:List (List Int)} (hrec:∀ sn s,VD s.views→VD (rec sn s).2.views):∀ (k:Nat) (s:MS),VD s.views→VD (dA C rec p seen k s).s.views
 | 0,s,h=>h
 | k+1,s,h=>by
  have ih:=agF (p:=p) (seen:=seen) hrec k s h;have e:(dA C rec p seen (k+1) s).s=(rec (gV p k seen) (if p.aC < 0 then ((dA C rec p seen k s).weights ++ [1+((dA C rec p seen k s).s.draw C 3).1],((dA C rec p seen k s).s.draw C 3).2) else ((dA C rec p seen k s).weights,(dA C rec p seen k s).s)).2).2:=rfl;rw[e];refine hrec _ _ ?_;split
  ·exact ih
  ·exact ih
theorem aeM:∀ (f level:Nat) (seen:List (List Int)) (s:MS),VD s.views→VD (bQ C f level seen s).2.views
 | 0,_,_,s,h=>h
 | f+1,level,seen,s,h=>by
  unfold bQ;simp only;split
  ·exact adg h
  split
  ·exact adg (s:=(MS.draw C { s with pending:=s.pending - 1,nodes:=s.nodes ++ [jE] } 8).2) h
  have ho:=ajp (C:=C) (p:=C.levels.getD level default) (level:=(level:Int)) (seen:=seen) (s:=(MS.draw C { s with pending:=s.pending - 1,nodes:=s.nodes ++ [jE] } 8).2) h;split
  ·exact adg (ajo ho)
  ·exact agF (C:=C) (fun sn t ht=>aeM f (level+1) sn t ht) _ _ ho
end
def aeN (C:MC) (V:List View) (pl:Nat) (s:List Int):Nat→List (Int×Int)
 | 0=>[]
 | l+1=>aeN C V pl s l++(if (C.levels.getD l default).aC=(pl:Int) then [(((V.find? (dH pl (l:Int) (s.take l))).map View.info).getD 0,s.getD l 0)] else [])
theorem aeO {C:MC} {V:List View} {pl:Nat} {s t:List Int}:∀ {l:Nat},l≤s.length→aeN C V pl (s++t) l=aeN C V pl s l
 | 0,_=>rfl
 | l+1,h=>by
  have e:(s++t).getD l 0=s.getD l 0:=by rw[List.getD_eq_getElem?_getD,List.getElem?_append_left byOmega,← List.getD_eq_getElem?_getD]
  rw[aeN,aeN,aeO byOmega,List.take_append_of_le_length byOmega,e]
theorem ahN {V:List View} (hv:VD V) {x:Nat} {pl l:Int} {s:List Int} {i:Int} (hx:V[x]? = some ⟨pl,l,s,i⟩):V.find? (dH pl l s)=some ⟨pl,l,s,i⟩:=by
 cases hf:V.find? (dH pl l s) with
 | none =>
  have:=List.find?_eq_none.1 hf _ (List.mem_of_getElem? hx);exfalso;apply this;unfold dH;simp
 | some v =>
  have hm:=List.mem_of_find?_eq_some hf;have hs:=List.find?_some hf;unfold dH at hs;simp only[Bool.and_eq_true,decide_eq_true_eq] at hs;obtain⟨y,hy⟩:=List.getElem?_of_mem hm;have e:=hv y x v _ hy hx hs.1.1 hs.1.2 hs.2;subst e;rw[hx] at hy;exact congrArg _ (Option.some.inj hy).symm
theorem af9 {p:Place} {i pl:Nat} {seen:List (List Int)} (h:pl < seen.length):(gV p i seen).getD pl []=seen.getD pl [] ++ [if (pl:Int)=p.aC∨(p.seen.toNat >>> pl) % 2=1 then (i:Int) else -1]:=by
 unfold gV;rw[List.getD_eq_getElem?_getD,List.getElem?_mapIdx,List.getElem?_eq_getElem h,List.getD_eq_getElem?_getD,List.getElem?_eq_getElem h];rfl
theorem adh {p:Place} {i:Nat} {seen:List (List Int)}:(gV p i seen).length=seen.length:=by unfold gV; simp
def Rts (g:Gm) (C:MC) (V:List View) (P pl level:Nat) (ss:List (List (List Int))) (cs:List Int):Prop :=
 ∀ (k:Nat) (seen:List (List Int)) (c:Int),ss[k]? = some seen→cs[k]? = some c→seen.length=P∧(∀ l∈seen,l.length=level)∧lJ g pl c.toNat=aeN C V pl (seen.getD pl []) level
theorem Bt.ways {g:Gm} (hg:Good g) {C:MC} {V:List View} (hv:VD V) {P pl:Nat} (hpl:pl < P) {level a b:Nat} {ss:List (List (List Int))} {cs:List Int} (h:Bt C V g.infos g.nodes level ss cs a b):Rts g C V P pl level ss cs →
  ∀ (i:Nat) (n:Nd),a≤i→i < b→g.nodes[i]? = some n→n.kind=2→∃ l seen,Dq C V g.infos l seen n∧lJ g pl i=aeN C V pl (seen.getD pl []) l:=by
 induction h with
 | nil level a=>intro _ i n h1 h2; omega
 | @fin level a b n0 seen ss cs hn he hr ih =>
  intro hR i n h1 h2 hi hk;by_cases e:i=a
  ·subst e;rw[hn] at hi;cases hi;have:=he.1;omega
  ·exact ih (fun k s c hs hc=>hR (k+1) s c hs hc) i n byOmega h2 hi hk
 | @mid level a m b n0 seen ss cs hn hm hk hr ih1 ih2 =>
  intro hR i n h1 h2 hi hkd;obtain⟨r1,r2,r3⟩:=hR 0 seen a rfl rfl;rw[Int.toNat_natCast] at r3;by_cases e:i=a
  ·subst e;rw[hn] at hi;cases hi;exact⟨level,seen,hm,r3⟩
  by_cases e2:i < m
  ·refine ih1 (fun k s c hs hc=>?_) i n byOmega e2 hi hkd;have hkl:=lt_of_get hc;rw[List.getElem?_map,List.getElem?_range hkl] at hs;cases hs;have hmem:=List.mem_of_getElem? hc;have hqc:=hg.span.kids a n0 (Nat.zero_le _) (lt_of_get hn) hn _ hmem;obtain⟨d,rfl⟩:∃ d:Nat,c=(d:Int):=⟨c.toNat,byOmega⟩;have hd:d < g.nodes.length:=byOmega;have hpd:=mW hg hd hn hmem;rw[Int.toNat_natCast];refine⟨by rw[adh,r1],uo r2,?_⟩;have hsl:(seen.getD pl []).length=level:=by
    rw[List.getD_eq_getElem?_getD,List.getElem?_eq_getElem byOmega];exact r2 _ (List.getElem_mem _)
   rw[adD hg hd hpd hn byOmega,r3,af9 byOmega,aeN,aeO byOmega,List.take_append_of_le_length byOmega,List.take_of_length_le byOmega];congr 1;obtain⟨_,_,_,_,m5⟩:=hm;rcases m5 with⟨p0,k1,_⟩ | ⟨p0,k1,k2,_,x,k3,_,k5⟩
   ·rw[nP byOmega,if_neg byOmega];rfl
   ·by_cases hp:n0.aC=(pl:Int)
    ·rw[sV hg hn ⟨k1,hp⟩ hc,if_pos byOmega];rw[hp,Int.toNat_natCast] at k5;have e3:(seen.getD pl [] ++ [if (pl:Int)=(C.levels.getD level default).aC∨((C.levels.getD level default).seen.toNat >>> pl) % 2=1 then (k:Int) else -1]).getD level 0=(k:Int):=by
      rw[List.getD_eq_getElem?_getD,List.getElem?_append_right byOmega,hsl,Nat.sub_self,if_pos (.inl byOmega)];rfl
     rw[e3,ahN hv k5,k3];rfl
    ·rw[nP byOmega,if_neg byOmega];rfl
  ·exact ih2 (fun k s c hs hc=>hR (k+1) s c hs hc) i n byOmega h2 hi hkd
theorem ajq (L:List Int) {aA most:Int} (zero:Bool) (hp:1≤aA) (hm:1≤most):∃ C V,VD V∧Bt C V (pW L aA most zero).infos (pW L aA most zero).nodes 0 [List.replicate aA.toNat []] [(0:Int)] 0 (pW L aA most zero).nodes.length:=by
 refine ZL ?_;intro hl hpl hd hC hJ h1 h2 h3;exact⟨_,_,aeM (C:=⟨L,(dR L aA (1+dw L 0 5).toNat (cZ L 0)).1,aA,most,zero⟩) ((1+dw L 0 5).toNat+1) 0 (List.replicate aA.toNat []) ⟨(dR L aA (1+dw L 0 5).toNat (cZ L 0)).2,[],1,[],[]⟩ (fun x y v w h=>by simp at h),h3.bt⟩
theorem aga (L:List Int) {aA most:Int} (zero:Bool) (hp:1≤aA) (hm:1≤most) (hform:bP (pW L aA most zero)=0) (pl:Nat) (hpl:(pl:Int) < aA):wX (pW L aA most zero) pl=true:=by
 obtain⟨C,V,hv,hb⟩:=ajq L zero hp hm;generalize hgg:pW L aA most zero=g at *;have hg:=kX hform;have hR:Rts g C V aA.toNat pl 0 [List.replicate aA.toNat []] [(0:Int)]:=fun k s c hs hc=>by
  cases k with
  | succ k=>simp at hs
  | zero =>
   cases hs;cases hc;exact⟨aB,fun l h=>by rw[List.eq_of_mem_replicate h]; rfl,abC hg⟩
 have hw:=hb.ways hg hv (P:=aA.toNat) (pl:=pl) byOmega hR;unfold wX;rw[y9];intro i hi hip;obtain⟨h2,h3,h4⟩:=oz hform hi;obtain⟨n0,hn0,k0,i0,p0,_,f0⟩:=kF hform hi;unfold nH;rw[List.all_eq_true];intro x hx;obtain⟨j,n,rfl,hn,hk,hin⟩:=h4 x hx;rw[f0];refine decide_eq_true ?_;rw[Int.toNat_natCast,Int.toNat_natCast];obtain⟨l,s,m1,w1⟩:=hw j n (Nat.zero_le _) (lt_of_get hn) hn hk;obtain⟨l',s',m2,w2⟩:=hw (iJ g i) n0 (Nat.zero_le _) (lt_of_get hn0) hn0 k0;rw[w1,w2];have hpn:=(h3 j n hn hk hin).1;rcases m1.2.2.2.2 with⟨_,a,_⟩ | ⟨_,_,_,_,y,a1,_,a2⟩
 ·omega
 rcases m2.2.2.2.2 with⟨_,a,_⟩ | ⟨_,_,_,_,z,b1,_,b2⟩
 ·omega
 have hy:y=i:=byOmega;have hz:z=i:=byOmega;subst hy;subst hz;rw[a2] at b2;rw[hpn,p0,hip,Int.toNat_natCast] at b2;simp only[Option.some.injEq,View.mk.injEq,and_true,true_and] at b2;obtain⟨e1,e2⟩:=b2;rw[e2,show l=l' by omega]
theorem ahO (L:List Int) {aA most:Int} (zero:Bool) (hp1:1≤aA) (hp4:aA≤4) (hm1:1≤most) (hm:most≤100):o8 (pW L aA most zero)=0:=by
 have hf:=zn L zero hp1 hp4 hm1 hm;unfold o8;rw[if_pos];unfold mM;rw[List.all_eq_true];intro p hp;have h:=List.mem_range.1 hp;rw[hf.hpl] at h;exact aga L zero hp1 hm1 hf.form p byOmega
section
variable {g:Gm} {ch:List Int}
end
theorem ahP {n:Nat} (h1:1≤n) (h2:n≤10):Dh (n:Int) (gZ n):=by
 have key:∀ n:Fin 11,1≤n.val→((gZ n.val).length=n.val∧jD (gZ n.val)=1∧∀ x∈gZ n.val,0≤x∧x≤1):=by decide +kernel
 obtain⟨k1,k2,k3⟩:=key ⟨n,byOmega⟩ h1;exact⟨by exact_mod_cast k1,k2,fun x hx=>⟨ac6 h1 h2 x hx,(k3 x hx).1,(k3 x hx).2⟩⟩
theorem aa0 {g:Gm} {m:List (List Rat)} (hf:bP g=0) (hp:o8 g=0) (h:Bc g m):ofE g (m.map (List.map aG))=0:=by
 unfold ofE;rw[if_neg (by rw[h.yZ hf]; decide),hp]
theorem aa1 {g:Gm} {m:List (List Rat)} (hf:bP g=0) (hp:o8 g=0) (h:Bc g m):xE g (m.map (List.map aG))=(aV (aK g) m).map (List.map aG):=by
 unfold xE;rw[if_neg (by rw[aa0 hf hp h]; decide),qg]
theorem zq {up:List (Int×Int)} {m:List (List Rat)} (p:Rat→Prop) (h0:p 0) (h1:p 1) (hm:∀ l∈m,∀ x∈l,p x) (hmul:∀ a b,p a→p b→p (a*b)):∀ k,∀ row∈bT up m k,∀ x∈row,p x
 | 0,row,hr,_,_=>by cases hr
 | k+1,row,hr,x,hx=>by
  have ih:=zq (up:=up) p h0 h1 hm hmul k;rw[bT] at hr;rcases List.mem_append.1 hr with hr | hr
  ·exact ih row hr x hx
  ·rw[List.mem_singleton.1 hr] at hx;obtain⟨y,hy,rfl⟩:=List.mem_map.1 hx;refine hmul _ _ ?_ ?_
   ·unfold fF;split
    ·exact h1
    ·rw[List.getD_eq_getElem?_getD];cases e:((bT up m k).getD (up.getD k (-1,-1)).1.toNat [])[(up.getD k (-1,-1)).2.toNat]? with
     | none=>exact h0
     | some z =>
      refine ih _ ?_ z (List.mem_of_getElem? e);rw[List.getD_eq_getElem?_getD] at e ⊢;cases e2:(bT up m k)[(up.getD k (-1,-1)).1.toNat]? with
      | none=>rw[e2] at e; simp at e
      | some l=>exact List.mem_of_getElem? e2
   ·rw[List.getD_eq_getElem?_getD] at hy;cases e2:m[k]? with
    | none=>rw[e2] at hy; cases hy
    | some l=>rw[e2] at hy; exact hm l (List.mem_of_getElem? e2) y hy
theorem rE {up:List (Int×Int)} {m:List (List Rat)} {k:Nat} {l row:List Rat} (h:(aV up m)[k]? = some l) (hm:m[k]? = some row):l=row.map fun x=>fF (bT up m k) (up.getD k (-1,-1))*x:=by
 have hk:k < m.length:=lt_of_get hm;have e:(aV up m).getD k []=l:=by rw[List.getD_eq_getElem?_getD,h];rfl
 unfold aV at e;rw[iK hk] at e;have e2:m.getD k []=row:=by rw[List.getD_eq_getElem?_getD,hm];rfl
 rw[← e,e2]
theorem aa2 {g:Gm} {m:List (List Rat)} (h:Bc g m) {k:Nat} {l:List Rat} (hl:(aV (aK g) m)[k]? = some l):∃ inf,g.infos[k]? = some inf∧(l.length:Int)=inf.actions:=by
 have hk:k < m.length:=by have:=lt_of_get hl;unfold aV at this;rwa [bV] at this
 obtain⟨row,hr⟩:=getSome hk;obtain⟨inf,hi⟩:=getSome (l:=g.infos) (k:=k) (by have:=h.1; omega);refine⟨inf,hi,?_⟩;rw[rE hl hr,List.length_map];exact(h.2 k inf row hi hr).1
theorem ace {g:Gm} {m:List (List Rat)} (hf:bP g=0) (hs:Small g) (h:Bc g m):∀ l∈aV (aK g) m,∀ x∈l,rl x≤1000:=by
 have hst:=h.yZ hf;have hft:=vP hst;have hl4:=xw h.limbs;have hml:m.length≤100:=by have:=h.1;have:=hs.infos;omega
 intro l hl x hx;obtain⟨k,hk⟩:=List.getElem?_of_mem hl;have hkm:k < m.length:=by have:=lt_of_get hk;unfold aV at this;rwa [bV] at this
 obtain⟨row,hr⟩:=getSome hkm;rw[rE hk hr] at hx;obtain⟨y,hy,rfl⟩:=List.mem_map.1 hx;obtain⟨s,hs'⟩:=getSome (l:=aK g) (k:=k) (by rw[hft.len]; exact hkm);have h1:=tJ hft hl4 k byOmega s (by have:=hft.ok k s hs'; omega);rw[List.getD_eq_getElem?_getD,hs',Option.getD_some];have h2:=qj (fF (bT (aK g) m k) s) y;have h3:=hl4 row (List.mem_of_getElem? hr) y hy;omega
open List renaming getElem_toArray → lq1, getElem_cons_zero → lq2, getElem_cons_succ → lq3, setIfInBounds_toArray → lq4, set_cons_zero → lq5, set_cons_succ → lq6
open Go.RowKit Go.Shelf
attribute [local go_sem] Oper.semAt_some
structure CJ (g:Gm) (r:List (List Rat)):Prop where
 len:r.length=g.infos.length
 acts:∀ (k:Nat) (l:List Rat) (inf:Inf),r[k]? = some l→g.infos[k]? = some inf→(l.length:Int)=inf.actions
 pos:∀ l∈r,∀ x∈l,dF x=false
 fits:∀ l∈r,∀ x∈l,rl x≤1000
 sum:∀ (k:Nat) (l:List Rat) (s:Int×Int),r[k]? = some l→(aK g)[k]? = some s→jD l=fF r s
 up:∀ (k:Nat) (s:Int×Int),(aK g)[k]? = some s→s.1 < 0∨(0≤s.1∧s.1 < (k:Int)∧0≤s.2∧s.2 < ((r.getD s.1.toNat []).length:Int))
theorem aa3 (w:World) (t1:TypeId) (c1:Array Value) (t2:TypeId) (c2:Array Value) (t3:TypeId) (c3:Array Value) (t4:TypeId) (c4:Array Value):∃ W:World,W=(((w.alloc (.cells c1 t1)).alloc (.cells c2 t2)).alloc (.cells c3 t3)).alloc (.cells c4 t4)∧Row W w.heap.size t1 c1.toList∧Row W (w.heap.size+1) t2 c2.toList∧Row W (w.heap.size+1+1) t3 c3.toList∧Row W (w.heap.size+1+1+1) t4 c4.toList∧Below w.heap.size w W∧W.heap.size=w.heap.size+4:=by
 obtain⟨W,hW,h1,h2,h3,h4,_⟩:=lC w t1 c1 t2 c2 t3 c3;have e:W.heap.size=w.heap.size+3:=by rw[hW];simp
 have h:=Row.new W t4 c4;rw[e] at h;refine⟨W.alloc (.cells c4 t4),by rw[hW],h1.alloc _,h2.alloc _,h3.alloc _,h,h4.alloc byOmega _,by simp[e]⟩
def BInv (F:Foot) (w:World) (r:List (List Rat)) (bo n ob B1:Nat) (k:Nat) (wr:World):Prop :=
 (∃ vs,vs.length=k∧MkO F w bo 96 n B1 vs ((r.take k).map (List.map au)) wr)∧Row wr ob 106 [.slice (some ⟨bo,0,none⟩) n n]
theorem BInv.own {F:Foot} {w:World} {r:List (List Rat)} {bo n ob B1 B:Nat} (hB:w.heap.size≤B):OwnFrom B (fun k W=>BInv F w r bo n ob B1 k W):=by
 rintro k X Y row ⟨⟨vs,hvl,hm⟩,hx⟩ hg hr';have hr:∀ r,row=some r→∃ o:Obj,X.heap[r]? = some o∧o.isCells=false:=fun r e=>(hr' r e).2
 exact⟨⟨vs,hvl,hm.row.kept hg hr,hm.done.kept hg hr,hm.bel.grown hg hm.bel.size (fun k hk=>by have:=(hr' k hk).1; omega),hm.lo,hm.hi,Nat.le_trans hm.size hg.size⟩,hx.kept hg hr⟩
theorem agb {F:Foot} {w W:World} {r:List (List Rat)} {bo n B1 k:Nat} {vs:List Value} (hm:MkO F w bo 96 n B1 vs ((r.take k).map (List.map au)) W) (hvl:vs.length=k) (hkn:k≤n) (hkr:k≤r.length) (s:Int×Int) (hs:s.1 < 0∨(0≤s.1∧s.1 < (k:Int)∧0≤s.2∧s.2 < ((r.getD s.1.toNat []).length:Int))) :
  Calls Tryz.prog 71 #[.slice (some ⟨bo,0,none⟩) n n,.agg #[.int .i64 s.1,.int .i64 s.2]] W (Ret W fun u w'=>NmV w' (GoF F w B1) u (fF r s)):=by
 by_cases h0:s.1 < 0
 ·exact zaE
 ·obtain⟨h1,h2,h3,h4⟩:=hs.resolve_left h0;obtain⟨i,hi⟩:∃ i:Nat,s.1=(i:Int):=⟨s.1.toNat,byOmega⟩;obtain⟨j,hj⟩:∃ j:Nat,s.2=(j:Int):=⟨s.2.toNat,byOmega⟩;obtain⟨s1,s2⟩:=s;simp only at hi hj h0 h1 h2 h3 h4;subst hi;subst hj;rw[Int.toNat_natCast] at h4;have hik:i < k:=byOmega;obtain⟨vr,hvr⟩:=getSome (l:=vs) (k:=i) byOmega;obtain⟨row,hrow⟩:=getSome (l:=r) (k:=i) byOmega;have hrd:r.getD i []=row:=by rw[List.getD_eq_getElem?_getD,hrow];rfl
  rw[hrd] at h4;obtain⟨x,hx⟩:=getSome (l:=row) (k:=j) byOmega;have hra:=hm.done.2 i vr (row.map au) hvr (by rw[List.getElem?_map,List.getElem?_take,if_pos hik,hrow]; rfl);exact Yl
theorem CJ.adi {g:Gm} {r:List (List Rat)} (h:CJ g r) (s:Int×Int):rl (fF r s)≤1000:=by
 unfold fF;split
 ·rw[sF];omega
 ·rw[List.getD_eq_getElem?_getD];cases e:(r.getD s.1.toNat [])[s.2.toNat]? with
  | none=>show rl 0≤1000; rw[vY]; omega
  | some x =>
   refine h.fits (r.getD s.1.toNat []) ?_ x (List.mem_of_getElem? e);rw[List.getD_eq_getElem?_getD] at e ⊢;cases e2:r[s.1.toNat]? with
   | none=>rw[e2] at e; simp at e
   | some l=>exact List.mem_of_getElem? e2
theorem zu (w:World) (F:Foot) (vg vm:Value) (g:Gm) (r:List (List Rat)) (hg:AO w F vg g) (hsm:Small g) (hform:bP g=0) (hpar:o8 g=0) (hm:Df w F vm r) (hT:Bz w) (hok:CJ g r) :
  Calls Tryz.prog 22 #[vg,vm] w (Ret w fun v w'=>∃ t,v = .tuple #[t,.int .i64 (l9 (eG r).flatten)]∧RawRowsAt w' (fun b=>w.heap.size≤b) t (qx (eG r))):=by
 have HG:=Ag (hg.keep (G:=fun _=>True) (fun _ _ _=>trivial) (Same.refl _ _)); have HM:=Ag (RawRowsAt.keep (G:=fun _=>True) hm (fun _ _ _=>trivial) (Same.refl _ _));have HS:=Ag hsm; have HT:=Ag hT; have HOK:=Ag hok;have HPE:=Ag (show zi g=0 by unfold zi; rw[if_neg (by rw[hform]; decide)]; exact hpar);have HPO:=Ag (show pY g=aK g by
  unfold pY;rw[if_neg (by rw[hform]; decide)];rcases oV g with⟨_,h⟩ | h
  ·exact h
  ·exact absurd hpar h)
 have HA10:=Ag (qV hform);have hni:=hsm.infos;obtain⟨n,hn⟩:=named r.length;have hgi:g.infos.length=n:=by rw[hn,hok.len]
 have hmn:(r.map (List.map aG)).length=n:=by rw[List.length_map,hn]
 obtain⟨vn,vi,rfl,⟨A,c,rfl,-,-⟩,⟨Ai,ci,rfl,-,-⟩⟩:=hg;obtain⟨Am,cm,e,-,-⟩:=hm;rw[hmn] at e;subst e;rw[hgi] at HG ⊢;have HN:=Ag hn;have HGI:=Ag hgi;have hn100:n≤100:=byOmega;clear hsm hT hok hform hpar hn hgi hmn hni;refine(callsIn_wide (n:=9)).1 ?_;refine callsIn_of_wp_marks Tryz.func22 rfl trivial ?_ rfl;refine wpIn_wide.2 ?_;simp only[Tryz.ntmps22,List.size_toArray,List.length_cons,List.length_nil,Nat.reduceAdd,Nat.reduceSub,Array.replicate_succ,Array.replicate_zero,List.push_toArray,List.append_toArray,List.nil_append,List.cons_append];go_upto_region 1 with(fail)
 obtain⟨W,hW,rg,rm,rr,re,hB,hz⟩:=aa3 w 27 #[.int .i64 g.aA,.slice A g.nodes.length c,.slice Ai n ci] 30 #[.slice Am n cm] 30 #[.slice none 0 0] 44 #[.int .i64 0];rw[← hW];clear hW;obtain⟨b2,hb2⟩:=named (w.heap.size+1+1);rw[← hb2] at rr re ⊢;have k2:w.heap.size+1 < b2:=byOmega;have k3:b2+1 < W.heap.size:=byOmega;clear hb2 hz;replace HG:=Ag (HG.out.on (Below.same' hB _));replace HM:=Ag (RawRowsAt.on HM.out (Below.same' hB _));replace HT:=Ag (HT.out.on hB);refine ZY ?_;intro x0 x1 x2;go_wp2_with fail
 clear x0 x1 x2;refine(lH W (fun _=>True) _ g HG.out HS.out).mono ?_;rintro e w1 ⟨_,rfl,hb,vp,rfl,hvp⟩;replace HG:=Ag (HG.out.on (Below.same' hb _));replace HM:=Ag (RawRowsAt.on HM.out (Below.same' hb _));replace HT:=Ag (HT.out.on hb);replace rg:=rg.below hb rg.lt;replace rm:=rm.below hb rm.lt;replace rr:=rr.below hb rr.lt;replace re:=re.below hb re.lt;replace hB:=hB.trans (hb.mono hB.size);have k4:b2+1 < w1.heap.size:=re.lt;rw[HPE.out];rw[HPO.out] at hvp;have HU:=Ag (AB.keep (G:=(fun _=>True)) hvp (fun _ _ _=>trivial) (Same.refl _ _));obtain⟨Au,cu,e⟩:=hvp.open;rw[dS,HGI.out] at e;subst e;clear hvp hb k3;dsimp only;go_upto_region 2 with(fail)
 obtain⟨W2,hW2,ru,hb,hz2⟩:=aO w1 55 #[.slice Au n cu];rw[← hW2];replace HG:=Ag (HG.out.on (Below.same' hb _));replace HM:=Ag (RawRowsAt.on HM.out (Below.same' hb _));replace HT:=Ag (HT.out.on hb);replace rg:=rg.below hb rg.lt;replace rm:=rm.below hb rm.lt;replace rr:=rr.below hb rr.lt;replace re:=re.below hb re.lt;replace hB:=hB.trans (hb.mono hB.size);replace HU:=Ag (AB.on HU.out (Below.same' hb _));obtain⟨ub,hub⟩:=named w1.heap.size;rw[← hub] at ru ⊢;have k5:b2+1 < ub:=byOmega;have k6:ub < W2.heap.size:=ru.lt;clear hb hz2 hub hW2 k4;have x2:=rg.cell (i:=2) rfl;have y0:=rm.cell (i:=0) rfl;go_upto_region 7 with(at_make; refine dQ _ rfl _ _ 106 rfl 96 (.slice none 0 0) 24 Tryz.underlying106 Tryz.infoNumRow rfl n rfl rfl byOmega byOmega ?_; intro w3 hb1 ajl hr1; have hz1:=Nat.le_of_eq ajl.symm; clear ajl)
 obtain⟨W3,hW3,ro,hB1,hz1'⟩:=aO w3 106 #[.slice (some ⟨W2.heap.size,0,none⟩) n n];rw[← hW3];clear hW3;obtain⟨bo,hbo⟩:=named W2.heap.size;obtain⟨ob,hob⟩:=named w3.heap.size;replace hr1:=hr1.below hB1 hr1.lt;have HBW:=Ag (hb1.trans (hB1.mono hb1.size));rw[← hbo] at hr1 ro k6 ⊢;rw[← hob] at ro ⊢;have k7:bo < ob:=byOmega;have k8:ob < W3.heap.size:=byOmega;have y1:=ak (ak y0 hb1) hB1;have HBO:=Ag hbo;have ko1:W2.heap.size≤bo:=byOmega;clear hb1 hB1 hz1 hz1' hob x2 y0 hbo;go_wp2_with fail
 refine(ab5 W3 n).mono ?_;rintro e w4 ⟨rfl,hw4⟩;obtain⟨W4,hW4,r4,hB4,hz4⟩:=aO W3 3 #[.int .i64 (n:Int)];rw[← hW4] at hw4;rw[hw4];clear hw4 hW4;obtain⟨lb,hlb⟩:=named W3.heap.size;rw[← hlb] at r4 ⊢;have k9:ob < lb:=byOmega;have k10:lb < W4.heap.size:=byOmega;replace hr1:=hr1.below hB4 hr1.lt;replace ro:=ro.below hB4 ro.lt;replace HBW:=Ag (HBW.out.trans (hB4.mono HBW.out.size));clear hB4 hz4 hlb k8 y1;have hinv:BInv (fun _=>True) W2 r bo n ob W4.heap.size 0 W4:=⟨⟨[],rfl,by rw[HBO.out] at hr1 ⊢; exact MkO.begin hr1 HBW.out (Nat.le_refl _) byOmega (Nat.le_refl _)⟩,ro⟩;have HI:=Ag hinv;clear hr1 hinv ro;dsimp only;go_wp2_with fail
 refine(wpIn_wide (n:=9)).1 ?_;refine sS (w0:=W4) (gf:=116) (lb:=#[.pointer (some ⟨lb,0,none⟩)]) byOmega rfl (enters' Tryz.func116 ah ah)
  (ab4 8 byOmega lb W2.heap.size n W4 (r4.cell rfl) k10 byOmega) (Below.refl _ _) (by have:=HBO.out; omega) (fun _=>rfl)
  (BInv (fun _=>True) W2 r bo n ob W4.heap.size) (fun _=>False) (BInv.own (by have:=HBO.out; omega)) (fun _ _ _ _ hs _ _=>hs) HI.out
  (fun k=>{ tmps:=#[.agg #[.int .i64 g.aA,.slice A g.nodes.length c,.slice Ai n ci],.slice Am n cm,.pointer (some ⟨w.heap.size,0,none⟩),.pointer (some ⟨w.heap.size+1,0,none⟩),.pointer (some ⟨b2,0,none⟩),.pointer (some ⟨b2+1,0,none⟩),.pointer (some ⟨ub,0,none⟩),.int .i64 0,.pointer (some ⟨ob,0,none⟩),.int .i64 (k:Int),undef,undef,undef,.tuple #[.slice Au n cu,.int .i64 0],.agg #[.int .i64 g.aA,.slice A g.nodes.length c,.slice Ai n ci],.tuple #[.slice Au n cu,.int .i64 0],.slice Au n cu,.int .i64 0,.int .i64 0,.bool false,undef,.slice Am n cm,.int .i64 (n:Int),.pointer (some ⟨w.heap.size,2,none⟩),.slice Ai n ci,.int .i64 (n:Int),.bool false,.slice Am n cm,.int .i64 (n:Int),.slice (some ⟨bo,0,none⟩) n n,.slice Am n cm,.int .i64 (n:Int),.func (.func 116) #[] #[.pointer (some ⟨lb,0,none⟩)],.int .i64 (k:Int),undef,undef,undef,undef,undef,undef,undef,undef,undef,undef,undef,undef,undef,undef,undef,undef,undef,undef,undef,undef,undef,undef,undef,undef,undef,undef,undef,undef,undef,undef,undef,undef,undef,undef,undef,undef,undef,undef,undef,undef,undef,undef,undef,undef,undef,undef,undef,undef,undef,undef,undef,undef,undef,undef,undef],defers:=[] }) ?assign ?body ?done ?stop
 case assign =>
  intro l x W K hK;gi_wp2;exact hK
 case stop=>rintro D W _ h; exact h.elim
 case done =>
  rintro D W hD ⟨⟨vs,hvl,hmk⟩,ho⟩ hK;have hrn:(r.take n)=r:=by rw[HN.out];exact List.take_length
  rw[hrn] at hmk;have o0:=ho.cell (i:=0) rfl;have hlsn:(r.map (List.map au)).length=n:=by rw[List.length_map,HN.out]
  have HR:=Ag (show RawRowsAt W (fun _=>True) (.slice (some ⟨bo,0,none⟩) n n) (r.map (List.map au)) by have h:=hmk.rows (G:=fun _=>True) (by rw[hvl]; exact Nat.le_refl _) (fun _ _=>trivial) (c:=n) byOmega; rw[hlsn] at h; exact h);have HBW:=Ag hmk.bel;have HK:=Ag hK;have HL10:=Ag (show ∀ l∈r,l.length≤10 from fun l hl=>by
   obtain⟨k,hk⟩:=List.getElem?_of_mem hl;obtain⟨inf,gU⟩:=getSome (l:=g.infos) (k:=k) (by have:=lt_of_get hk; have:=HN.out; have:=HGI.out; omega);have:=HOK.out.acts k l inf hk gU;have:=HA10.out inf (List.mem_of_getElem? gU);omega)
  have HF:=Ag HOK.out.fits;have HBM:=Ag (back_mem (p:=r) fun l hl=>⟨HL10.out l hl,fun x hx=>by have:=HF.out l hl x hx; omega⟩);have HBL:=Ag (show(eG r).length=n by unfold eG; rw[List.length_map,HN.out]);have hDl:=(Array.getElem?_eq_some_iff.1 hK).1;clear hmk ho hK hlsn hrn;show Exit.inBlock _ _ .normal _ _;go_wp2_with fail
  refine(aeD W (fun _=>True) _ r HR.out (by have:=HN.out; omega) HL10.out (fun l hl x hx=>by have:=HF.out l hl x hx; omega) (fun l hl k=>uz (HL10.out l hl) (fun x hx=>by have:=HF.out l hl x hx; omega) k)).mono ?_;rintro e w5 ⟨u,rfl,hb5,hu⟩;have HU5:=Ag (RawRowsAt.keep (G:=fun _=>True) hu (fun _ _ _=>trivial) (Same.refl _ _));obtain⟨A5,c5,e,-,-⟩:=hu;rw[List.length_map,HBL.out] at e;subst e;have HB5:=Ag hb5;clear hb5 o0;dsimp only;go_wp2_with fail
  refine(qG w5 (fun _=>True) _ (eG r) HU5.out (by rw[HBL.out]; omega) (fun l hl=>by have:=(HBM.out l hl).1; omega) (fun l hl x hx=>by have:=(HBM.out l hl).2 x hx; omega)).mono ?_;rintro e w6 ⟨_,rfl,hb6,t,rfl,ht⟩;have hb56:=HB5.out.trans (hb6.mono HB5.out.size);have hb26:=HBW.out.trans (hb56.mono HBW.out.size);have hk6:w6.heap[D]? = some (.deferred (some [])):=(hb56.block D hDl).trans HK.out;have hbs:=HBW.out.size;have h5s:=HB5.out.size;have hws:=hB.size;have h6s:=hb6.size;have HT6:=Ag (RawRowsAt.keep (G:=fun b=>W2.heap.size≤b) ht (fun b hb _=>by omega) (Same.refl _ _));have r6:=rr.below hb26 rr.lt;have e6:=re.below hb26 re.lt;obtain⟨At,ct,rfl,-,-⟩:=ht;have q0:=r6.cell (i:=0) rfl;have q1:=e6.cell (i:=0) rfl;have z0:=r6.frozen 0;have z1:=e6.frozen 0;generalize hErr:l9 (eG r).flatten=er at *;generalize hOut:qx (eG r)=ol at *;obtain⟨W9,hW9⟩:=named ((w6.setCell ⟨b2,0,none⟩ (.slice At ol.length ct)).setCell ⟨b2+1,0,none⟩ (.int .i64 er));have HW9:=Ag hW9;have hDb:D≠b2∧D≠b2+1:=byOmega;have hk9:W9.heap[D]? = some (.deferred (some [])):=by rw[hW9,Below.heap_setCell _ _ _ _ hDb.2,Below.heap_setCell _ _ _ _ hDb.1];exact hk6
  have r9:=r6.set 0 (.slice At ol.length ct);have hw9:Wrote (fun b=>b=b2∨b=b2+1) w6 W9:=by rw[hW9];exact((Wrote.refl _ _).setCell (p:=⟨b2,0,none⟩) (.inl (.inl rfl)) _).setCell (p:=⟨b2+1,0,none⟩) (.inl (.inr rfl)) _
  have t0:W9.cell? ⟨b2,0,none⟩=some (.slice At ol.length ct):=by rw[hW9];exact((r6.set 0 _).other (a:=⟨b2+1,0,none⟩) aB _).cell (i:=0) rfl
  have t1:W9.cell? ⟨b2+1,0,none⟩=some (.int .i64 er):=by rw[hW9];exact((e6.other (a:=⟨b2,0,none⟩) aB _).set 0 _).cell (i:=0) rfl
  have ko2:bo≤W2.heap.size:=by rw[HBO.out];exact Nat.le_refl _
  have HT9:=Ag (RawRowsAt.on HT6.out (hw9.same fun b hb e=>by have hb:W2.heap.size≤b:=hb; rcases e with e | e <;> omega));have HB9:=Ag (Wrote.below (hB.trans (hb26.mono byOmega)) hw9 (fun b hb=>by rcases hb with e | e <;> omega) byOmega);have HK9:=Ag hk9;clear hW9 r9 hw9 hk9 hk6 hb56 hb26 r6 e6 HT6 hb6;dsimp only;go_wp2
  rw[← HW9.out];refine⟨aB,.inl ⟨_,_,rfl,run_takeDeferred HK9.out,?_⟩⟩;have c0:=cell_kept t0 (grownBy_putObj' W9 D (.deferred none)) (fun r e=>by cases e; exact⟨_,HK9.out,rfl⟩);have c1:=cell_kept t1 (grownBy_putObj' W9 D (.deferred none)) (fun r e=>by cases e; exact⟨_,HK9.out,rfl⟩);refine⟨.tuple #[.slice At ol.length ct,.int .i64 er],by simp[results,Tryz.results22,go_sem,c0,c1],⟨_,rfl,?_,_,by rw[hErr],?_⟩⟩
  ·exact HB9.out.trans (belowK_b (w:=w) (Nat.le_refl _) W9 D _ _ byOmega HK9.out rfl rfl)
  ·rw[hOut];exact(RawRowsAt.kept HT9.out (grownBy_putObj' W9 D _) (fun r e=>by cases e; exact⟨_,HK9.out,rfl⟩)).keep (fun b hb _=>by have hb:W2.heap.size≤b:=hb; omega) (Same.refl _ _)
 case body =>
  rintro l k W ⟨⟨vs,hvl,hmk⟩,ho⟩ hk;have HMK:=Ag hmk;have HVL:=Ag hvl;have HO:=Ag ho;obtain⟨row,hrow⟩:=getSome (l:=r) (k:=k) (by rw[← HN.out]; exact hk);obtain⟨inf,gU⟩:=getSome (l:=g.infos) (k:=k) (by rw[HGI.out]; exact hk);obtain⟨s,hs⟩:=getSome (l:=aK g) (k:=k) (by rw[dS,HGI.out]; exact hk);have HAC:=Ag (HOK.out.acts k row inf hrow gU);have HSM:=Ag (HOK.out.sum k row s hrow hs);have HUP:=Ag (HOK.out.up k s hs);have HRL:=Ag (HOK.out.fits row (List.mem_of_getElem? hrow));have HPS:=Ag (HOK.out.pos row (List.mem_of_getElem? hrow));have hbel:=hmk.bel;have alx:row.length≤10:=by have:=HAC.out;have:=HA10.out inf (List.mem_of_getElem? gU);omega
  obtain⟨A',c',e,_,hxm⟩:=HM.out;rw[List.length_map,← HN.out] at e;injection e with e1 e2 e3
  subst e1;obtain⟨mb,mo,rfl,_,tH,hcm⟩:=hxm (by rw[List.length_map,← HN.out]; omega);obtain⟨vr,hvr,hra⟩:=hcm k (row.map aG) (by rw[List.getElem?_map,hrow]; rfl);rw[Nat.mul_one] at hvr;have rF:=RawsAt.keep (G:=Old (fun _=>True) W2.heap.size) hra (fun b hb hl=>⟨hb,hl⟩) (Same.refl _ _);obtain⟨Ar,cr,rfl,-,-⟩:=hra;rw[List.length_map] at hvr rF;have HRV:=Ag rF;have AZ:=Ag hrow;have HVR:=Ag hvr;have HSG:=Ag hs;have m1:=(hbel.cell (p:=⟨mb,mo+k,none⟩) tH).trans hvr;obtain⟨_,_,e,-,A2,c2,he2,_,hxi⟩:=HG.out;simp only[Value.agg.injEq,Array.mk.injEq,List.cons.injEq,and_true,true_and] at e;obtain⟨-,e⟩:=e;rw[he2,HGI.out] at e;injection e with e1 e2' e3'
  subst e1;obtain⟨bI,oI,rfl,_,hbI,hcI⟩:=hxi (by rw[HGI.out]; omega);have i1:=(hbel.cell (p:=⟨bI,oI+k*2+1,none⟩) hbI).trans (hcI k inf gU).c1;rw[← HAC.out] at i1;have x2:=(hbel.cell (p:=⟨w.heap.size,2,none⟩) rg.lt).trans (rg.cell (i:=2) rfl);have y0:=(hbel.cell (p:=⟨w.heap.size+1,0,none⟩) rm.lt).trans (rm.cell (i:=0) rfl);clear e2 e3 e2' e3' he2 hxm hcm hvr rF hxi hcI hmk ho hrow gU hs;have ak9:((row.length:Int) != (row.length:Int))=false:=aB;have hkI:(k:Int) < n:=byOmega;gi_wp2_with fail;have hBn:=Below.refl W.heap.size W;refine rG (S:=fun w'=>w'.cell? ⟨w.heap.size+1,0,none⟩=some (.slice (some ⟨mb,mo,none⟩) n cm)∧w'.cell? ⟨mb,mo+k,none⟩=some (.slice Ar row.length cr)∧w'.cell? ⟨w.heap.size,2,none⟩=some (.slice (some ⟨bI,oI,none⟩) n ci)∧w'.cell? ⟨bI,oI+k*2+1,none⟩=some (.int .i64 (row.length:Int))) ah ah (by rintro⟨_,_,hh⟩; exact hh) ⟨y0,m1,x2,i1⟩ (fun hHeld=>?_);refine zao ?_;intro hb;replace y0:=ak y0 hb;replace m1:=ak m1 hb;replace x2:=ak x2 hb;replace i1:=ak i1 hb;replace hBn:=hBn.trans (hb.mono hBn.size);clear hb;generalize W.drew=wn at *;refine tkm [0,1,2,3,4,5,6,7,8,9,10,11] ?_;refine Yp ?_;clear hHeld;clear y0 m1 x2 i1 ak9;have y0:=(hbel.trans (hBn.mono hbel.size)).cell (p:=⟨w.heap.size+1,0,none⟩) rm.lt |>.trans (rm.cell (i:=0) rfl)
  have m1:=(hbel.trans (hBn.mono hbel.size)).cell (p:=⟨mb,mo+k,none⟩) tH |>.trans HVR.out
  refine Yb ?_;gi_wp2_with fail;clear y0 m1;gi_loopw [51] (fun iv wr=>∃ j:Nat,j≤row.length∧iv = .int .i64 (j:Int)∧Below W.heap.size W wr) (fun iv _=>row.length - (intOf iv).toNat)
  case atStart=>exact⟨0,Nat.zero_le _,rfl,hBn⟩
  case round =>
   clear hBn;obtain⟨j,hj,rfl,hbj⟩:=hrel;obtain⟨wb,rfl⟩:=named wr;have hB2:=hbel.trans (hbj.mono hbel.size);by_cases hjt:j < row.length
   ·obtain⟨x,hx⟩:=getSome hjt;have hxf:=HRL.out x (List.mem_of_getElem? hx);have HNG:=Ag (show(aG x).neg=false from HPS.out x (List.mem_of_getElem? hx));obtain⟨rb,ro,rc,vn,vd,e,_,_,y0,y1,y2,hn,hd⟩:=RawsAt.at (HRV.out.on (Below.same' hB2 _)) (show(row.map aG)[j]? = some (aG x) by rw[List.getElem?_map,hx]; rfl);injection e with e1 e2 e3
    subst e1;have HXV:=Ag (Ak.make (r:=aG x) rfl hn hd);obtain⟨An,cn,rfl,-,-⟩:=hn;obtain⟨Ad,cd,rfl,-,-⟩:=hd;have hjr:(j:Int) < row.length:=byOmega;have HXL:=Ag (show(aG x).num.length≤100000∧(aG x).den.length≤100000 by have:=gJ x; have:=gK x; rw[lX]; exact⟨byOmega,by show(dig x.den).length≤_; omega⟩);clear e2 e3 hx;gi_upto_region 14 with(fail)
    obtain⟨W7,hW7,r7,hb7,hz7⟩:=aO wb 42 #[.bool (aG x).neg,.slice An (aG x).num.length cn,.slice Ad (aG x).den.length cd];rw[← hW7];obtain⟨xb,hxb⟩:=named wb.heap.size;replace HXV:=Ag (Ak.below HXV.out hb7);have HB7:=Ag (hbj.trans (hb7.mono hbj.size));have HT7:=Ag (HT.out.on (hB2.trans (hb7.mono hB2.size)));rw[← hxb] at r7 ⊢;clear hW7 hb7 hz7 hxb y0 y1 y2;refine zby ?_;intro x0 x1 x2;gi_wp2_with fail;refine⟨trivial,(CallsIn.inRound l (callsIn_wide.2 (wQ W7 _ _ (aG x) HXV.out (zJ x) HXL.out.1 HXL.out.2 HT7.out))).mono ?_⟩;rintro e w8 ⟨_,rfl,hb8,rfl⟩;rw[vI byOmega];replace x0:=ak x0 hb8;rw[HNG.out] at x0;have HB8:=Ag (HB7.out.trans (hb8.mono HB7.out.size));clear hb8 x1 x2 r7;dsimp only;gi_wp2_with fail;go_roundw
    case rel=>exact⟨j+1,byOmega,by go_num,HB8.out⟩
    case measure=>simp[intOf]; omega
   ·have hje:j=row.length:=byOmega;subst hje;have y0:=(hB2.cell (p:=⟨w.heap.size+1,0,none⟩) rm.lt).trans (rm.cell (i:=0) rfl);have m1:=(hB2.cell (p:=⟨mb,mo+k,none⟩) tH).trans HVR.out;have HMB:=Ag (HMK.out.below hbj);have HOB:=Ag (HO.out.below hbj HO.out.lt);have o0:=HOB.out.cell (i:=0) rfl;have HNV:=Ag (HRV.out.on (Below.same' hB2 _));have hBe:=hbj;gi_wp2_with fail;refine nG (fun w'=>w'.cell? ⟨w.heap.size+1,0,none⟩=some (.slice (some ⟨mb,mo,none⟩) n cm)∧w'.cell? ⟨mb,mo+k,none⟩=some (.slice Ar row.length cr)∧w'.cell? ⟨ob,0,none⟩=some (.slice (some ⟨bo,0,none⟩) n n)) 8 1 ah ah (by rintro⟨_,_,hh⟩; exact hh) rfl ah ?_;have hHeld:(fun w':World=>w'.cell? ⟨w.heap.size+1,0,none⟩=some (.slice (some ⟨mb,mo,none⟩) n cm)∧w'.cell? ⟨mb,mo+k,none⟩=some (.slice Ar row.length cr)∧w'.cell? ⟨ob,0,none⟩=some (.slice (some ⟨bo,0,none⟩) n n)) wb.drew:=⟨y0,m1,o0⟩;refine Zq ?_;have hb:Below wb.heap.size wb wb.drew:=aI (Below.refl _ wb) 1;replace y0:=ak y0 hb;replace m1:=ak m1 hb;replace o0:=ak o0 hb;replace HNV:=Ag (RawsAt.on HNV.out (Below.same' hb _));replace HMB:=Ag (HMB.out.below hb);replace HOB:=Ag (HOB.out.below hb HOB.out.lt);replace hBe:=hBe.trans (hb.mono hBe.size);clear hb;generalize wb.drew=wn at *;refine tkm [0,1,2,3,4,5] ?_;refine tk2 6 ah rfl fun K hK=>?_
    go_simp;refine(yS wn (Old (fun _=>True) W2.heap.size) _ row HNV.out byOmega (fun x hx=>by have:=HRL.out x hx; omega)).mono ?_;rintro e wn ⟨u,rfl,hb,hu⟩;have hsz:=HMB.out.size;have HRW:=Ag (show RawsAt _ (GoF (fun _=>True) W2 W4.heap.size) u (row.map au) from RawsAt.keep hu (fun b hb _=>hb.imp id fun h=>by omega) (Same.refl _ _));obtain⟨Az,cz,e,-,-⟩:=hu;rw[List.length_map] at e;subst e;replace y0:=ak y0 hb;replace m1:=ak m1 hb;replace o0:=ak o0 hb;replace HNV:=Ag (RawsAt.on HNV.out (Below.same' hb _));replace HMB:=Ag (HMB.out.below hb);replace HOB:=Ag (HOB.out.below hb HOB.out.lt);replace hBe:=hBe.trans (hb.mono hBe.size);clear hb;dsimp only;clear hHeld;refine hK.out _ _ ⟨y0,m1,o0⟩ (fun hHeld=>?_);clear hK K;refine Zb ?_;refine tkm [7] ?_;refine Zw ?_;clear hHeld;have c0:=HMB.out.row.cell (i:=k) (by have:=restN_get (vs:=vs) (n:=n) (by rw[HVL.out]; exact hk); rwa [HVL.out] at this);have fz:=HMB.out.row.frozen k;obtain⟨W9,hW9⟩:=named (wn.setCell ⟨bo,k,none⟩ (.slice Az row.length cz));have hob:=HOB.out.lt;have HM9:=Ag (show MkO (fun _=>True) W2 bo 96 n W4.heap.size (vs ++ [.slice Az row.length cz]) ((r.take (k+1)).map (List.map au)) W9 by rw[hW9,take_snoc AZ.out,List.map_append]; exact HMB.out.lay (by rw[HVL.out]; exact hk) HRW.out HVL.out);have HO9:=Ag (show Row W9 ob _ _ from hW9▸HOB.out.other (a:=⟨bo,k,none⟩) aF _);have HK9:=Ag (show KeepsFrom W4.heap.size W W9 from hW9▸(jV hBe _).trans ((KeepsOthers.setCell _ _ _).from _));have hWW:=hBe.size;have HB9:=Ag (show Below W2.heap.size W W9 from hW9▸(hBe.mono (by have:=hbel.size; omega)).setCell (p:=⟨bo,k,none⟩) ko1 _);have HW9:=Ag hW9;have hb29:=HM9.out.bel;clear hW9 HMB HOB HNV hBe hob hWW HRW;go_wp2
    rw[← HW9.out];unfold Ba;refine Yb ?_;clear c0 fz o0 y0 m1 HW9;obtain⟨A',c',e,_,hxu⟩:=HU.out;rw[dS,HGI.out] at e;injection e with e1 e2 e3
    subst e1;obtain⟨pb,po,rfl,_,hpb,hcu⟩:=hxu (by rw[dS,HGI.out]; omega);obtain⟨q0,q1⟩:=hcu k s HSG.out;have p0:=(hb29.cell (p:=⟨pb,po+k*2,none⟩) hpb).trans q0;have p1:=(hb29.cell (p:=⟨pb,po+k*2+1,none⟩) hpb).trans q1;have u0:=(hb29.cell (p:=⟨ub,0,none⟩) ru.lt).trans (ru.cell (i:=0) rfl);have c9:=HM9.out.row.cell (i:=k) (v:=.slice Az row.length cz) (by unfold restN; rw[List.getElem?_append_left (by rw[List.length_append,HVL.out]; simp),List.getElem?_append_right (by rw[HVL.out]; exact Nat.le_refl _),HVL.out,Nat.sub_self]; rfl);have o0:=HO9.out.cell (i:=0) rfl;obtain⟨s1,s2⟩:=s;dsimp only at p0 p1;have HNV:=Ag (show RawsAt W9 (GoF (fun _=>True) W2 W4.heap.size) (.slice Az row.length cz) (row.map au) from HM9.out.done.2 k _ _ (by rw[List.getElem?_append_right (by rw[HVL.out]; exact Nat.le_refl _),HVL.out,Nat.sub_self]; rfl) (by rw[List.getElem?_map,List.getElem?_take,if_pos byOmega,AZ.out]; rfl));have HMB:=HM9;have hBe:=Below.refl W9.heap.size W9;clear e2 e3 hxu hcu q0 q1;gi_wp2_with fail;refine rG (S:=fun w'=>w'.cell? ⟨ob,0,none⟩=some (.slice (some ⟨bo,0,none⟩) n n)∧w'.cell? ⟨bo,k,none⟩=some (.slice Az row.length cz)∧w'.cell? ⟨ub,0,none⟩=some (.slice (some ⟨pb,po,none⟩) n cu)∧w'.cell? ⟨pb,po+k*2,none⟩=some (.int .i64 s1)∧w'.cell? ⟨pb,po+k*2+1,none⟩=some (.int .i64 s2)) ah ah (by rintro⟨_,_,hh⟩; exact hh) ⟨o0,c9,u0,p0,p1⟩ (fun hHeld=>?_);have hb:Below W9.heap.size W9 W9.drew:=aI (Below.refl _ W9) 1;refine Yu ?_;clear o0 c9 u0 p0 p1 HNV HMB hBe;intro o0 c9 u0 p0 p1 HNV HMB hBe;clear hb;generalize W9.drew=wn at *;refine tkm [0,1,2,3,5,6,7,8,9] ?_;refine tk2 4 ah rfl fun K hK=>?_
    go_simp;refine(sum_any wn (GoF (fun _=>True) W2 W4.heap.size) _ row HNV.out byOmega (fun x hx=>by have:=HRL.out x hx; omega) (uz alx (fun x hx=>by have:=HRL.out x hx; omega))).mono ?_;rintro e wn ⟨u,rfl,hb,hu⟩;have HSV:=Ag (Ak.mono (G:=(fun _=>True)) hu (fun _ _ _=>trivial));obtain⟨A5,c5,B5,d5,rfl,-⟩:=hu.opened;clear hu;refine Yu ?_;clear o0 c9 u0 p0 p1 HNV HMB hBe;intro o0 c9 u0 p0 p1 HNV HMB hBe;clear hb;dsimp only;clear hHeld;refine hK.out _ _ ⟨o0,c9,u0,p0,p1⟩ (fun hHeld=>?_);clear hK K;refine Zb ?_;refine tk2 10 ah rfl fun K hK=>?_
    go_simp;refine(agb HMB.out (by rw[List.length_append,HVL.out]; rfl) byOmega (by rw[← HN.out]; omega) (s1,s2) (HUP.out.imp id fun h=>⟨h.1,by have:=h.2.1; omega,h.2.2.1,h.2.2.2⟩)).mono ?_;rintro e wn ⟨u,rfl,hb,hu⟩;have HFV:=Ag (Ak.mono (G:=(fun _=>True)) hu (fun _ _ _=>trivial));obtain⟨A6,c6,B6,d6,rfl,-⟩:=hu.opened;clear hu;refine Yu ?_;clear o0 c9 u0 p0 p1 HNV HMB hBe;intro o0 c9 u0 p0 p1 HNV HMB hBe;replace HSV:=Ag (Ak.on HSV.out (Below.same' hb _));clear hb;dsimp only;clear hHeld;refine hK.out _ _ ⟨o0,c9,u0,p0,p1⟩ (fun hHeld=>?_);clear hK K;refine Zb ?_;refine tk2 11 ah rfl fun K hK=>?_
    go_simp;refine(wL wn (fun _=>True) _ _ (jD row) (fF r (s1,s2)) HSV.out HFV.out (by rw[HSM.out]; have:=HOK.out.adi (s1,s2); omega) (by have:=HOK.out.adi (s1,s2); omega)).mono ?_;rintro e wn ⟨_,rfl,hb,rfl⟩;rw[show mQ (jD row) (fF r (s1,s2))=0 from(qm _ _).2 HSM.out];refine Yu ?_;clear o0 c9 u0 p0 p1 HNV HMB hBe;intro o0 c9 u0 p0 p1 HNV HMB hBe;replace HSV:=Ag (Ak.on HSV.out (Below.same' hb _));replace HFV:=Ag (Ak.on HFV.out (Below.same' hb _));clear hb;dsimp only;clear hHeld;refine hK.out _ _ ⟨o0,c9,u0,p0,p1⟩ (fun hHeld=>?_);clear hK K;refine Zb ?_;refine tkm [12] ?_;refine Yp ?_;clear hHeld;refine Yb ?_;have HKF:=Ag (HK9.out.trans (jV hBe _));have HBW2:=Ag (HB9.out.trans (hBe.mono (by have:=HM9.out.bel.size; omega)));have AL:=Ag (show BInv (fun _=>True) W2 r bo n ob W4.heap.size (k+1) wn from⟨⟨vs ++ [.slice Az row.length cz],by rw[List.length_append,HVL.out]; rfl,HMB.out⟩,HO9.out.below hBe HO9.out.lt⟩);clear o0 c9 u0 p0 p1 hBe HMB HM9;gi_wp2;exact⟨HKF.out,HBW2.out,AL.out⟩
theorem aeP (u:Rat):∀ (l:List Rat) (a:Rat),(l.map fun x=>u*x).foldl (· + ·) (u*a)=u*l.foldl (· + ·) a
 | [],_=>rfl
 | x :: l,a=>by
  rw[List.map_cons,List.foldl_cons,List.foldl_cons,← Rat.mul_add];exact aeP u l (a+x)
theorem aa4 (u:Rat) (l:List Rat):jD (l.map fun x=>u*x)=u*jD l:=by
 have h:=aeP u l 0;rw[Rat.mul_zero] at h;exact h
theorem Bc.row {g:Gm} {m:List (List Rat)} (h:Bc g m) {k:Nat} {row:List Rat} (hr:m[k]? = some row):∃ inf,g.infos[k]? = some inf∧Dh inf.actions row:=by
 obtain⟨inf,hi⟩:=getSome (l:=g.infos) (k:=k) (by have:=lt_of_get hr; have:=h.1; omega);exact⟨inf,hi,h.2 k inf row hi hr⟩
section
variable {g:Gm} {m:List (List Rat)} (hf:bP g=0) (h:Bc g m)
include hf h
theorem aa5 {k:Nat} {row:List Rat} {s:Int×Int} (hr:m[k]? = some row) (hs:(aK g)[k]? = some s):(aV (aK g) m)[k]? = some (row.map fun x=>fF (aV (aK g) m) s*x):=by
 have hft:=vP (h.yZ hf);have hk:=lt_of_get hr;obtain⟨l,hl⟩:=getSome (l:=aV (aK g) m) (k:=k) (by unfold aV; rw[bV]; exact hk);rw[hl,rE hl hr];have e:(aK g).getD k (-1,-1)=s:=by rw[List.getD_eq_getElem?_getD,hs];rfl
 rw[e,aeA (k':=m.length) (by have:=hft.ok k s hs; omega) byOmega];rfl
theorem ajr (hsm:Small g):CJ g (aV (aK g) m):=by
 have hft:=vP (h.yZ hf);have hlen:(aV (aK g) m).length=m.length:=by unfold aV;rw[bV]
 refine⟨by rw[hlen,h.1],fun k l inf hl hi=>?_,?_,ace hf hsm h,fun k l s hl hs=>?_,fun k s hs=>?_⟩
 ·obtain⟨inf',hi',e⟩:=aa2 h hl;rw[hi] at hi';cases hi';exact e
 ·refine fun l hl x hx=>agD (zq (fun x=>0≤x) ay ay (fun l hl x hx=>?_) (fun a b ha hb=>Rat.mul_nonneg ha hb) _ l hl x hx)
  obtain⟨k,hk⟩:=List.getElem?_of_mem hl;obtain⟨_,_,hr⟩:=h.row hk;exact(hr.2.2 x hx).2.1
 ·obtain⟨row,hr⟩:=getSome (l:=m) (k:=k) (by have:=lt_of_get hl; omega);obtain⟨_,_,ho⟩:=h.row hr;rw[aa5 hf h hr hs] at hl;cases hl;rw[aa4,ho.2.1,Rat.mul_one]
 ·rcases hft.ok k s hs with h1 | ⟨h1,h2,h3,h4⟩
  ·exact .inl h1
  ·refine .inr ⟨h1,h2,h3,?_⟩;have hk:k < m.length:=by rw[← hft.len];exact lt_of_get hs
   unfold aV;rw[iK byOmega,List.length_map];exact h4
theorem adk {k:Nat} {row:List Rat} {s:Int×Int} (hr:m[k]? = some row) (hs:(aK g)[k]? = some s):(eG (aV (aK g) m))[k]? = some (if fF (aV (aK g) m) s=0 then gZ row.length else row):=by
 obtain⟨_,_,ho⟩:=h.row hr;unfold eG;rw[List.getElem?_map,aa5 hf h hr hs,Option.map_some];unfold mO;rw[aa4,ho.2.1,Rat.mul_one];by_cases hu:fF (aV (aK g) m) s=0
 ·rw[if_pos hu,if_pos hu,List.length_map]
 ·rw[if_neg hu,if_neg hu,List.map_map];refine congrArg some ?_;conv=>rhs;rw[← List.map_id row]
  refine List.map_congr_left fun x _=>?_
  show fF (aV (aK g) m) s*x / fF (aV (aK g) m) s=x;rw[Rat.div_def,Rat.mul_comm (fF _ _) x,Rat.mul_assoc,Rat.mul_inv_cancel _ hu,Rat.mul_one]
theorem agc (hI:∀ i∈g.infos,1≤i.actions∧i.actions≤10):Bc g (eG (aV (aK g) m)):=by
 have hlen:(eG (aV (aK g) m)).length=m.length:=by unfold eG aV;rw[List.length_map,bV]
 refine⟨by rw[hlen,h.1],fun k i l hi hl=>?_⟩;obtain⟨row,hr⟩:=getSome (l:=m) (k:=k) (by have:=lt_of_get hl; omega);obtain⟨s,hs⟩:=getSome (l:=aK g) (k:=k) (by rw[dS]; exact lt_of_get hi);have ho:=h.2 k i row hi hr;have hi1:=hI i (List.mem_of_getElem? hi);rw[adk hf h hr hs] at hl;cases hl
 split
 ·have:=ahP (n:=row.length) (by have:=ho.1; omega) (by have:=ho.1; omega);rwa [ho.1] at this
 ·exact ho
theorem aeQ:∀ k,k≤m.length→bT (aK g) (eG (aV (aK g) m)) k=bT (aK g) m k
 | 0,_=>rfl
 | k+1,hk=>by
  rw[bT,bT,aeQ k byOmega];refine congrArg (fun x=>bT (aK g) m k ++ [x]) ?_;have hft:=vP (h.yZ hf);obtain⟨row,hr⟩:=getSome (l:=m) (k:=k) byOmega;obtain⟨s,hs⟩:=getSome (l:=aK g) (k:=k) (by rw[hft.len]; omega);have e:(aK g).getD k (-1,-1)=s:=by rw[List.getD_eq_getElem?_getD,hs]; rfl
  have e2:m.getD k []=row:=by rw[List.getD_eq_getElem?_getD,hr]; rfl
  have e3:fF (bT (aK g) m k) s=fF (aV (aK g) m) s:=by
   rw[aeA (k':=m.length) (by have:=hft.ok k s hs; omega) byOmega];rfl
  have e4:(eG (aV (aK g) m)).getD k []=if fF (aV (aK g) m) s=0 then gZ row.length else row:=by rw[List.getD_eq_getElem?_getD,adk hf h hr hs];rfl
  rw[e,e2,e3,e4];show List.map _ (if fF (aV (aK g) m) s=0 then gZ row.length else row)=_;split
  ·rename_i hu
   rw[hu];have hz:∀ l:List Rat,(l.map fun x=>(0:Rat)*x)=List.replicate l.length 0:=fun l=>by
    rw[List.eq_replicate_iff];refine⟨aB,fun b hb=>?_⟩;obtain⟨y,_,rfl⟩:=List.mem_map.1 hb;exact Rat.zero_mul y
   rw[hz,hz];unfold gZ;rw[List.length_replicate]
  ·rfl
theorem agd:aV (aK g) (eG (aV (aK g) m))=aV (aK g) m:=by
 have hlen:(eG (aV (aK g) m)).length=m.length:=by unfold eG aV;rw[List.length_map,bV]
 have e:aV (aK g) (eG (aV (aK g) m))=bT (aK g) (eG (aV (aK g) m)) m.length:=by
  show bT (aK g) (eG (aV (aK g) m)) (eG (aV (aK g) m)).length=_;rw[hlen]
 rw[e];exact aeQ hf h m.length (Nat.le_refl _)
end
theorem ahQ {g:Gm} (hf:bP g=0) {k:Nat} {s:Int×Int} {inf:Inf} (hs:(aK g)[k]? = some s) (hi:g.infos[k]? = some inf):s=(-1,-1)∨∃ (q:Nat) (pi:Inf),s.1=(q:Int)∧q < k∧g.infos[q]? = some pi∧0≤s.2∧s.2 < pi.actions∧pi.aC=inf.aC:=by
 have hk:=lt_of_get hi;have hu:=(aaR hf).ok k s hs;rw[sW hk] at hs;cases hs;have hg:=kX hf;obtain⟨n,hn,hkd,hin,hpl,_⟩:=kF hf hk;have hpi:(g.infos.getD k default).aC=inf.aC:=by rw[List.getD_eq_getElem?_getD,hi];rfl
 rcases vM hg (g.infos.getD k default).aC _ (iJ g k) (Nat.le_refl _) (lt_of_get hn) with e | ⟨q,j,n2,h1,h2,h3,h4,h5,h6⟩
 ·exact .inl e
 ·right
  obtain⟨inf2,e1,e2,_⟩:=mg hf (List.mem_of_getElem? h2) h3;have hii:=hg.infos n2 (List.mem_of_getElem? h2) h3;have hm:(n2.info.toNat:Int)=n2.info:=byOmega;have hs1:(kS g (g.infos.getD k default).aC (iJ g k)).1=n2.info:=by rw[h6]
  have hs2:(kS g (g.infos.getD k default).aC (iJ g k)).2=(j:Int):=by rw[h6]
  rw[hs1,hs2];rw[hs1,hs2] at hu;obtain⟨_,h3',_⟩:=oz hf (i:=n2.info.toNat) (lt_of_get e1);have hp:=(h3' q n2 h2 h3 hm.symm).1;refine⟨n2.info.toNat,inf2,hm.symm,?_,e1,byOmega,?_,?_⟩
  ·rcases hu with hu | hu
   ·omega
   ·omega
  ·omega
  ·rw[← hpi,← h4,hp,List.getD_eq_getElem?_getD,e1];rfl
theorem zK:aG 1=⟨false,[1],[1]⟩:=by
 unfold aG;exact zcj
def knM:List (List Rat):=[[1,0],[0,1],[0,0,1]]
def knR:List (List Rat):=[[1,0],[0,1],[0,0,0]]
def knB:List (List Rat):=[[1,0],[0,1],[mkRat 1 3,mkRat 1 3,mkRat 1 3]]
def knX:List (List Rat):=[[1,0],[1,0],[1,0,0]]
def knY:List (List Rat):=[[0,1],[0,1],[0,0,1]]
def knZ:List (List Rat):=[[mkRat 3 4,mkRat 1 4],[mkRat 3 4,mkRat 1 4],[0,0,1]]
def knW:List (List Rat):=[[1,1],[1,0],[1,0,0]]
def zo:Raw:=⟨false,[],[1]⟩
def on:Raw:=⟨false,[1],[1]⟩
theorem aj9:knM.map (List.map aG) = [[on,zo],[zo,on],[zo,zo,on]]:=by unfold knM on zo; simp only[List.map_cons,List.map_nil,oM,zK]
theorem akb:knX.map (List.map aG) = [[on,zo],[on,zo],[on,zo,zo]]:=by unfold knX on zo; simp only[List.map_cons,List.map_nil,oM,zK]
theorem akc:knY.map (List.map aG) = [[zo,on],[zo,on],[zo,zo,on]]:=by unfold knY on zo; simp only[List.map_cons,List.map_nil,oM,zK]
theorem akd:knW.map (List.map aG) = [[on,on],[on,zo],[on,zo,zo]]:=by unfold knW on zo; simp only[List.map_cons,List.map_nil,oM,zK]
theorem ahR:dM bg (knM.map (List.map aG))=0:=by rw[aj9]; decide +kernel
theorem ahS:dM bg (knX.map (List.map aG))=0:=by rw[akb]; decide +kernel
theorem ahT:dM bg (knY.map (List.map aG))=0:=by rw[akc]; decide +kernel
theorem ahU:dM bg (knW.map (List.map aG))=14:=by rw[akd]; decide +kernel
theorem aeR:tu bg [0,1,2]=0:=by decide +kernel
theorem aeS:tu bg [0,0,0]=0:=by decide +kernel
theorem aeT:tu bg [1,1,2]=0:=by decide +kernel
theorem ajs:tu bg [0,1,3]=2:=by decide +kernel
theorem ajt:tu bg [0,1]=3:=by decide +kernel
theorem vT {g:Gm} {c:List Int} {m:List (List Rat)} (h:tu g c=0) (hm:qc g c=m):rC g c=m.map (List.map aG):=by
 unfold rC;rw[if_neg (by rw[h]; decide),hm]
theorem ake:rC bg [0,1,2]=knM.map (List.map aG):=vT aeR (by decide +kernel)
theorem akf:rC bg [0,0,0]=knX.map (List.map aG):=vT aeS (by decide +kernel)
theorem akg:rC bg [1,1,2]=knY.map (List.map aG):=vT aeT (by decide +kernel)
theorem aju:ofE bg (knM.map (List.map aG))=0:=by
 unfold ofE;rw[if_neg (by rw[ahR]; decide),mF]
theorem ajv:xE bg (knM.map (List.map aG))=knR.map (List.map aG):=by
 unfold xE;rw[if_neg (by rw[aju]; decide),qg,lI,show aV [(-1,-1),(-1,-1),(0,1)] knM=knR by decide +kernel]
theorem akh:eG knR=knB:=by decide +kernel
theorem oZ {m:List (List Rat)} (h:∀ l∈m,l.length≤3∧∀ x∈l,x=0∨x=1∨x=mkRat 1 3∨x=mkRat 1 4∨x=mkRat 3 4):∀ l∈m,l.length≤3∧∀ x∈l,rl x≤4:=fun l hl=>⟨(h l hl).1,fun x hx=>by
 rcases (h l hl).2 x hx with rfl | rfl | rfl | rfl | rfl
 ·rw[vY]; omega
 ·rw[sF]; omega
 all_goals exact Nat.le_trans (zY ay (aS (k:=1) (by unfold LB; decide)) (aS (k:=1) (by unfold LB; decide))) ay⟩
theorem zL {m:List (List Rat)} (h:∀ l∈m,l.length≤3∧∀ x∈l,rl x≤4):l9 m.flatten=0:=oU fun x hx=>by
 obtain⟨l,hl,hx⟩:=List.mem_flatten.1 hx;have:=(h l hl).2 x hx;omega
theorem xG {m:List (List Rat)} (hm:m.length≤3) (h:∀ l∈m,l.length≤3∧∀ x∈l,rl x≤4):BJ (m.map (List.map aG)) :=
 aaZ byOmega fun l hl=>⟨by have:=(h l hl).1; omega,fun x hx=>by have:=(h l hl).2 x hx; omega⟩
theorem xH {m:List (List Rat)} (h:∀ l∈m,l.length≤3∧∀ x∈l,rl x≤4):BO (m.map (List.map aG)):=by
 intro l hl r hr;obtain⟨l',hl',rfl⟩:=List.mem_map.1 hl;obtain⟨x,hx,rfl⟩:=List.mem_map.1 hr;have h1:=(h l' hl').2 x hx;have h2:=gJ x;have h3:=gK x;rw[lX];exact⟨byOmega,by show(dig x.den).length≤4; omega⟩
theorem zM {m:List (List Rat)} (h:∀ l∈m,l.length≤3∧∀ x∈l,rl x≤4):∀ l∈m.map (List.map aG),l.length≤20:=by
 intro l hl;obtain⟨l',hl',rfl⟩:=List.mem_map.1 hl;rw[List.length_map];have:=(h l' hl').1;omega
theorem zN {m:List (List Rat)} (h:∀ l∈m,l.length≤3∧∀ x∈l,rl x≤4):BG (m.map (List.map aG)):=by
 intro l hl;have h1:=zM h l hl;have h2:=xH h l hl;refine⟨byOmega,fun r hr=>?_⟩;have h3:=h2 r hr;obtain⟨l',hl',rfl⟩:=List.mem_map.1 hl;obtain⟨x,_,rfl⟩:=List.mem_map.1 hr;exact⟨zJ x,byOmega,byOmega⟩
theorem zO:∀ l∈knM,l.length≤3∧∀ x∈l,rl x≤4:=oZ fun l hl=>by
 unfold knM at hl;simp only[List.mem_cons,List.not_mem_nil,or_false] at hl;rcases hl with rfl | rfl | rfl <;> exact⟨ay,fun x hx=>by simp only[List.mem_cons,List.not_mem_nil,or_false] at hx; rcases hx with rfl | rfl | rfl <;> simp⟩
theorem agG:∀ l∈knR,l.length≤3∧∀ x∈l,rl x≤4:=oZ fun l hl=>by
 unfold knR at hl;simp only[List.mem_cons,List.not_mem_nil,or_false] at hl;rcases hl with rfl | rfl | rfl <;> exact⟨ay,fun x hx=>by simp only[List.mem_cons,List.not_mem_nil,or_false] at hx; rcases hx with rfl | rfl | rfl <;> simp⟩
theorem adl:∀ l∈knB,l.length≤3∧∀ x∈l,rl x≤4:=oZ fun l hl=>by
 unfold knB at hl;simp only[List.mem_cons,List.not_mem_nil,or_false] at hl;rcases hl with rfl | rfl | rfl <;> exact⟨ay,fun x hx=>by simp only[List.mem_cons,List.not_mem_nil,or_false] at hx; rcases hx with rfl | rfl | rfl <;> simp⟩
theorem adn:∀ l∈knX,l.length≤3∧∀ x∈l,rl x≤4:=oZ fun l hl=>by
 unfold knX at hl;simp only[List.mem_cons,List.not_mem_nil,or_false] at hl;rcases hl with rfl | rfl | rfl <;> exact⟨ay,fun x hx=>by simp only[List.mem_cons,List.not_mem_nil,or_false] at hx; rcases hx with rfl | rfl | rfl <;> simp⟩
theorem ado:∀ l∈knY,l.length≤3∧∀ x∈l,rl x≤4:=oZ fun l hl=>by
 unfold knY at hl;simp only[List.mem_cons,List.not_mem_nil,or_false] at hl;rcases hl with rfl | rfl | rfl <;> exact⟨ay,fun x hx=>by simp only[List.mem_cons,List.not_mem_nil,or_false] at hx; rcases hx with rfl | rfl | rfl <;> simp⟩
theorem adp:∀ l∈knZ,l.length≤3∧∀ x∈l,rl x≤4:=oZ fun l hl=>by
 unfold knZ at hl;simp only[List.mem_cons,List.not_mem_nil,or_false] at hl;rcases hl with rfl | rfl | rfl <;> exact⟨ay,fun x hx=>by simp only[List.mem_cons,List.not_mem_nil,or_false] at hx; rcases hx with rfl | rfl | rfl <;> simp⟩
theorem aki:∀ l∈knW,l.length≤3∧∀ x∈l,rl x≤4:=oZ fun l hl=>by
 unfold knW at hl;simp only[List.mem_cons,List.not_mem_nil,or_false] at hl;rcases hl with rfl | rfl | rfl <;> exact⟨ay,fun x hx=>by simp only[List.mem_cons,List.not_mem_nil,or_false] at hx; rcases hx with rfl | rfl | rfl <;> simp⟩
theorem ahV:CJ bg knR where
 len:=by decide +kernel
 acts k l inf hl hi:=by
  have h:∀ k:Nat,k < 3→((knR.getD k []).length:Int)=(bg.infos.getD k default).actions:=by decide +kernel
  have hk:k < 3:=lt_of_get hl;have:=h k hk;rw[List.getD_eq_getElem?_getD,List.getD_eq_getElem?_getD,hl,hi] at this;exact this
 pos:=by decide +kernel
 fits l hl x hx:=by have:=(agG l hl).2 x hx; omega
 sum k l s hl hs:=by
  have h:∀ k:Nat,k < 3→jD (knR.getD k [])=fF knR ((aK bg).getD k (-1,-1)):=by decide +kernel
  have hk:k < 3:=lt_of_get hl;have:=h k hk;rw[List.getD_eq_getElem?_getD,List.getD_eq_getElem?_getD,hl,hs] at this;exact this
 up k s hs:=by
  have h:∀ k:Nat,k < 3→((aK bg).getD k (-1,-1)).1 < 0∨(0≤((aK bg).getD k (-1,-1)).1∧((aK bg).getD k (-1,-1)).1 < (k:Int)∧0≤((aK bg).getD k (-1,-1)).2∧((aK bg).getD k (-1,-1)).2 < ((knR.getD ((aK bg).getD k (-1,-1)).1.toNat []).length:Int)):=by decide +kernel
  have hk:k < 3:=by have:=lt_of_get hs;rwa [lI] at this
  have:=h k hk;rw[List.getD_eq_getElem?_getD,hs] at this;exact this
theorem ajw:fG (aG (mkRat 1 4))=0:=by
 have h:iT (aG (mkRat 1 4))=0:=vI (Nat.le_trans (zY ay (aS (k:=1) (by unfold LB; decide)) (aS (k:=1) (by unfold LB; decide))) ay);rw[aaB _ h,if_neg];rintro(h | h)
 ·revert h; decide +kernel
 ·revert h; decide +kernel
theorem aeU:uO bg (knX.map (List.map aG)) (knY.map (List.map aG)) (aG (mkRat 1 4))=0:=by
 unfold uO;rw[if_neg (by rw[ahS]; decide),if_neg (by rw[ng ahT]; decide),if_neg (by rw[ajw]; decide),mF]
theorem agH:abp bg (knX.map (List.map aG)) (knY.map (List.map aG)) (aG (mkRat 1 4))=knZ:=by
 unfold abp;rw[qg,qg,oJ,lI];decide +kernel
theorem akj:ahI bg (knX.map (List.map aG)) (knY.map (List.map aG)) (aG (mkRat 1 4))=0:=by
 unfold ahI;rw[if_neg (by rw[aeU]; decide),agH,zL adp]
theorem ahW:yA bg (knX.map (List.map aG)) (knY.map (List.map aG)) (aG (mkRat 1 4))=knZ.map (List.map aG):=by
 unfold yA qx;rw[if_neg (by rw[aeU]; decide),agH,if_neg (by rw[zL adp]; decide)]
end Go.Proofs.YtnmeejofpkhlkaaGreatDoor
