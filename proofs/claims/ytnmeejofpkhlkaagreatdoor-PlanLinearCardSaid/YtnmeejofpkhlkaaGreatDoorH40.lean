/- Games that numbers select have perfect recall: plain law. -/
import Derived.Test.YtnmeejofpkhlkaaGreatDoorH39
import Derived.Sort.CutIn
import Derived.Test.YtnmeejofpkhlkaaGreatDoorH37
import Derived.Test.YtnmeejofpkhlkaaGreatDoorH35
set_option linter.all false
set_option maxRecDepth 100000
set_option maxHeartbeats 12800000
namespace Go.Proofs.YtnmeejofpkhlkaaGreatDoor
open Lib renaming hid → Ag
open Go.RowKit
def VD (V:List View):Prop:=∀ (x y:Nat) (v w:View),V[x]? = some v→V[y]? = some w→v.aF=w.aF→v.level=w.level→v.seen=w.seen→x=y
theorem VD.sub {V W:List View} (h:VD V) (hW:∀ (x:Nat) (v:View),W[x]? = some v→V[x]? = some v):VD W:=fun x y v w hx hy=>h x y v w (hW x v hx) (hW y w hy)
theorem VD.push {V:List View} {q:View} (h:VD V) (hq:V.find? (dP q.aF q.level q.seen)=none):VD (V ++ [q]):=by
 have hno:∀ v∈V,¬ (v.aF=q.aF∧v.level=q.level∧v.seen=q.seen):=fun v hv he=>by
  have:=List.find?_eq_none.1 hq v hv;apply this;unfold dP;simp[he.1,he.2.1,he.2.2]
 have cut:∀ (x:Nat) (v:View),(V ++ [q])[x]? = some v→V[x]? = some v∨(x=V.length∧v=q):=fun x v hx=>by
  by_cases hl:x < V.length
  ·rw[List.getElem?_append_left hl] at hx;exact .inl hx
  ·rw[List.getElem?_append_right byOmega] at hx;have e:x - V.length < 1:=lt_of_get hx;have e2:x - V.length=0:=byOmega;rw[e2] at hx;exact .inr ⟨byOmega,by simpa using hx.symm⟩
 intro x y v w hx hy h1 h2 h3;rcases cut x v hx with a1 | ⟨a1,a2⟩ <;> rcases cut y w hy with b1 | ⟨b1,b2⟩
 ·exact h x y v w a1 b1 h1 h2 h3
 ·exact absurd (by rw[← b2]; exact⟨h1,h2,h3⟩) (hno v (List.mem_of_getElem? a1))
 ·exact absurd (by rw[← a2]; exact⟨h1.symm,h2.symm,h3.symm⟩) (hno w (List.mem_of_getElem? b1))
 ·omega
section
variable {C:MC}
theorem ajO {aF level:Int} {seen:List Int} {s:MS} (h:VD s.views):VD (jF C aF level seen s).2.views:=by
 unfold jF;cases hf:s.views.find? (dP aF level seen) with
 | some v=>exact h
 | none=>exact VD.push (q:=⟨aF,level,seen,_⟩) h hf
theorem ajP {info aF:Int} {s:MS} (h:VD s.views):VD (jY info aF s).views:=by
 unfold jY;split
 ·exact h
 split
 ·exact h
 refine h.sub fun x v hx=>?_
 have hx:s.views.dropLast[x]? = some v:=hx;rw[List.dropLast_eq_take,List.getElem?_take] at hx;split at hx
 ·exact hx
 ·cases hx
theorem ajQ {p:Place} {level:Int} {seen:List (List Int)} {s:MS} (h:VD s.views):VD (lG C p level seen s).2.2.views:=by
 unfold lG;split
 ·exact h
 ·exact ajO h
theorem adI {i:Nat} {s:MS} (h:VD s.views):VD (nN C i s).views:=by
 obtain⟨a,n,e⟩:=acr C i s;rw[e];exact h
theorem ag8 {rec:List (List Int)→MS→Nat×MS} {p:Place} {seen:List (List Int)} (hrec:∀ sn s,VD s.views→VD (rec sn s).2.views):∀ (k:Nat) (s:MS),VD s.views→VD (dI C rec p seen k s).s.views
 | 0,s,h=>h
 | k+1,s,h=>by
  have ih:=ag8 (p:=p) (seen:=seen) hrec k s h;have e:(dI C rec p seen (k+1) s).s=(rec (gQ p k seen) (if p.aF < 0 then ((dI C rec p seen k s).weights ++ [1+((dI C rec p seen k s).s.draw C 3).1],((dI C rec p seen k s).s.draw C 3).2) else ((dI C rec p seen k s).weights,(dI C rec p seen k s).s)).2).2:=rfl;rw[e];refine hrec _ _ ?_;split
  ·exact ih
  ·exact ih
theorem afc:∀ (f level:Nat) (seen:List (List Int)) (s:MS),VD s.views→VD (bU C f level seen s).2.views
 | 0,_,_,s,h=>h
 | f+1,level,seen,s,h=>by
  unfold bU;simp only;split
  ·exact adI h
  split
  ·exact adI (s:=(MS.draw C { s with pending:=s.pending - 1,nodes:=s.nodes ++ [jH] } 8).2) h
  have ho:=ajQ (C:=C) (p:=C.levels.getD level default) (level:=(level:Int)) (seen:=seen) (s:=(MS.draw C { s with pending:=s.pending - 1,nodes:=s.nodes ++ [jH] } 8).2) h;split
  ·exact adI (ajP ho)
  ·exact ag8 (C:=C) (fun sn t ht=>afc f (level+1) sn t ht) _ _ ho
end
def afd (C:MC) (V:List View) (pl:Nat) (s:List Int):Nat→List (Int×Int)
 | 0=>[]
 | l+1=>afd C V pl s l++(if (C.levels.getD l default).aF=(pl:Int) then [(((V.find? (dP pl (l:Int) (s.take l))).map View.info).getD 0,s.getD l 0)] else [])
theorem afe {C:MC} {V:List View} {pl:Nat} {s t:List Int}:∀ {l:Nat},l≤s.length→afd C V pl (s++t) l=afd C V pl s l
 | 0,_=>rfl
 | l+1,h=>by
  have e:(s++t).getD l 0=s.getD l 0:=by rw[List.getD_eq_getElem?_getD,List.getElem?_append_left byOmega,← List.getD_eq_getElem?_getD]
  rw[afd,afd,afe byOmega,List.take_append_of_le_length byOmega,e]
theorem aij {V:List View} (hv:VD V) {x:Nat} {pl l:Int} {s:List Int} {i:Int} (hx:V[x]? = some ⟨pl,l,s,i⟩):V.find? (dP pl l s)=some ⟨pl,l,s,i⟩:=by
 cases hf:V.find? (dP pl l s) with
 | none =>
  have:=List.find?_eq_none.1 hf _ (List.mem_of_getElem? hx);exfalso;apply this;unfold dP;simp
 | some v =>
  have hm:=List.mem_of_find?_eq_some hf;have hs:=List.find?_some hf;unfold dP at hs;simp only[Bool.and_eq_true,decide_eq_true_eq] at hs;obtain⟨y,hy⟩:=List.getElem?_of_mem hm;have e:=hv y x v _ hy hx hs.1.1 hs.1.2 hs.2;subst e;rw[hx] at hy;exact congrArg _ (Option.some.inj hy).symm
theorem agC {p:Place} {i pl:Nat} {seen:List (List Int)} (h:pl < seen.length):(gQ p i seen).getD pl []=seen.getD pl [] ++ [if (pl:Int)=p.aF∨(p.seen.toNat >>> pl) % 2=1 then (i:Int) else -1]:=by
 unfold gQ;rw[List.getD_eq_getElem?_getD,List.getElem?_mapIdx,List.getElem?_eq_getElem h,List.getD_eq_getElem?_getD,List.getElem?_eq_getElem h];rfl
theorem adJ {p:Place} {i:Nat} {seen:List (List Int)}:(gQ p i seen).length=seen.length:=by unfold gQ; simp
def Rts (g:Gm) (C:MC) (V:List View) (P pl level:Nat) (ss:List (List (List Int))) (cs:List Int):Prop :=
 ∀ (k:Nat) (seen:List (List Int)) (c:Int),ss[k]? = some seen→cs[k]? = some c→seen.length=P∧(∀ l∈seen,l.length=level)∧jl g pl c.toNat=afd C V pl (seen.getD pl []) level
theorem Bt.ways {g:Gm} (hg:Good g) {C:MC} {V:List View} (hv:VD V) {P pl:Nat} (hpl:pl < P) {level a b:Nat} {ss:List (List (List Int))} {cs:List Int} (h:Bt C V g.infos g.nodes level ss cs a b):Rts g C V P pl level ss cs →
  ∀ (i:Nat) (n:Nd),a≤i→i < b→g.nodes[i]? = some n→n.kind=2→∃ l seen,Dk C V g.infos l seen n∧jl g pl i=afd C V pl (seen.getD pl []) l:=by
 induction h with
 | nil level a=>intro _ i n h1 h2; omega
 | @fin level a b n0 seen ss cs hn he hr ih =>
  intro hR i n h1 h2 hi hk;by_cases e:i=a
  ·subst e;rw[hn] at hi;cases hi;have:=he.1;omega
  ·exact ih (fun k s c hs hc=>hR (k+1) s c hs hc) i n byOmega h2 hi hk
 | @mid level a m b n0 seen ss cs hn hm hk hr ih1 ih2 =>
  intro hR i n h1 h2 hi hkd;obtain⟨r1,r2,r3⟩:=hR 0 seen a rfl rfl;rw[Int.toNat_natCast] at r3;by_cases e:i=a
  ·subst e;rw[hn] at hi;cases hi;exact⟨level,seen,hm,r3⟩
  by_cases e2:i < m
  ·refine ih1 (fun k s c hs hc=>?_) i n byOmega e2 hi hkd;have hkl:=lt_of_get hc;rw[List.getElem?_map,List.getElem?_range hkl] at hs;cases hs;have hmem:=List.mem_of_getElem? hc;have hqc:=hg.span.kids a n0 (Nat.zero_le _) (lt_of_get hn) hn _ hmem;obtain⟨d,rfl⟩:∃ d:Nat,c=(d:Int):=⟨c.toNat,byOmega⟩;have hd:d < g.nodes.length:=byOmega;have hpd:=kW hg hd hn hmem;rw[Int.toNat_natCast];refine⟨by rw[adJ,r1],uT r2,?_⟩;have hsl:(seen.getD pl []).length=level:=by
    rw[List.getD_eq_getElem?_getD,List.getElem?_eq_getElem byOmega];exact r2 _ (List.getElem_mem _)
   rw[wX hg hd hpd hn byOmega,r3,agC byOmega,afd,afe byOmega,List.take_append_of_le_length byOmega,List.take_of_length_le byOmega];congr 1;obtain⟨_,_,_,_,m5⟩:=hm;rcases m5 with⟨p0,k1,_⟩ | ⟨p0,k1,k2,_,x,k3,_,k5⟩
   ·rw[jR byOmega,if_neg byOmega];rfl
   ·by_cases hp:n0.aF=(pl:Int)
    ·rw[nR hg hn ⟨k1,hp⟩ hc,if_pos byOmega];rw[hp,Int.toNat_natCast] at k5;have e3:(seen.getD pl [] ++ [if (pl:Int)=(C.levels.getD level default).aF∨((C.levels.getD level default).seen.toNat >>> pl) % 2=1 then (k:Int) else -1]).getD level 0=(k:Int):=by
      rw[List.getD_eq_getElem?_getD,List.getElem?_append_right byOmega,hsl,Nat.sub_self,if_pos (.inl byOmega)];rfl
     rw[e3,aij hv k5,k3];rfl
    ·rw[jR byOmega,if_neg byOmega];rfl
  ·exact ih2 (fun k s c hs hc=>hR (k+1) s c hs hc) i n byOmega h2 hi hkd
theorem ajR (L:List Int) {aA most:Int} (zero:Bool) (hp:1≤aA) (hm:1≤most):∃ C V,VD V∧Bt C V (nO L aA most zero).infos (nO L aA most zero).nodes 0 [List.replicate aA.toNat []] [(0:Int)] 0 (nO L aA most zero).nodes.length:=by
 refine ZV ?_;intro hl hpl hd hC hJ h1 h2 h3;exact⟨_,_,afc (C:=⟨L,(eH L aA (1+dH L 0 5).toNat (dA L 0)).1,aA,most,zero⟩) ((1+dH L 0 5).toNat+1) 0 (List.replicate aA.toNat []) ⟨(eH L aA (1+dH L 0 5).toNat (dA L 0)).2,[],1,[],[]⟩ (fun x y v w h=>by simp at h),h3.bt⟩
theorem agD (L:List Int) {aA most:Int} (zero:Bool) (hp:1≤aA) (hm:1≤most) (hform:bJ (nO L aA most zero)=0) (pl:Nat) (hpl:(pl:Int) < aA):uf (nO L aA most zero) pl=true:=by
 obtain⟨C,V,hv,hb⟩:=ajR L zero hp hm;generalize hgg:nO L aA most zero=g at *;have hg:=jE hform;have hR:Rts g C V aA.toNat pl 0 [List.replicate aA.toNat []] [(0:Int)]:=fun k s c hs hc=>by
  cases k with
  | succ k=>simp at hs
  | zero =>
   cases hs;cases hc;exact⟨aB,fun l h=>by rw[List.eq_of_mem_replicate h]; rfl,qN hg⟩
 have hw:=hb.ways hg hv (P:=aA.toNat) (pl:=pl) byOmega hR;unfold uf;rw[ug];intro i hi hip;obtain⟨h2,h3,h4⟩:=mX hform hi;obtain⟨n0,hn0,k0,i0,p0,_,f0⟩:=kS hform hi;unfold mV;rw[List.all_eq_true];intro x hx;obtain⟨j,n,rfl,hn,hk,hin⟩:=h4 x hx;rw[f0];refine decide_eq_true ?_;rw[Int.toNat_natCast,Int.toNat_natCast];obtain⟨l,s,m1,w1⟩:=hw j n (Nat.zero_le _) (lt_of_get hn) hn hk;obtain⟨l',s',m2,w2⟩:=hw (iJ g i) n0 (Nat.zero_le _) (lt_of_get hn0) hn0 k0;rw[w1,w2];have hpn:=(h3 j n hn hk hin).1;rcases m1.2.2.2.2 with⟨_,a,_⟩ | ⟨_,_,_,_,y,a1,_,a2⟩
 ·omega
 rcases m2.2.2.2.2 with⟨_,a,_⟩ | ⟨_,_,_,_,z,b1,_,b2⟩
 ·omega
 have hy:y=i:=byOmega;have hz:z=i:=byOmega;subst hy;subst hz;rw[a2] at b2;rw[hpn,p0,hip,Int.toNat_natCast] at b2;simp only[Option.some.injEq,View.mk.injEq,and_true,true_and] at b2;obtain⟨e1,e2⟩:=b2;rw[e2,show l=l' by omega]
theorem aik (L:List Int) {aA most:Int} (zero:Bool) (hp1:1≤aA) (hp4:aA≤4) (hm1:1≤most) (hm:most≤100):lX (nO L aA most zero)=0:=by
 have hf:=zT L zero hp1 hp4 hm1 hm;unfold lX;rw[if_pos];unfold jV;rw[List.all_eq_true];intro p hp;have h:=List.mem_range.1 hp;rw[hf.hpl] at h;exact agD L zero hp1 hm1 hf.form p byOmega
section
variable {g:Gm} {ch:List Int}
end
theorem acJ {n:Nat} (h1:1≤n) (h2:n≤10):Dc (n:Int) (iR n):=by
 have key:∀ n:Fin 11,1≤n.val→((iR n.val).length=n.val∧fQ (iR n.val)=1∧∀ x∈iR n.val,0≤x∧x≤1):=by decide +kernel
 obtain⟨k1,k2,k3⟩:=key ⟨n,byOmega⟩ h1;exact⟨by exact_mod_cast k1,k2,fun x hx=>⟨ady h1 h2 x hx,(k3 x hx).1,(k3 x hx).2⟩⟩
theorem yh {g:Gm} {m:List (List Rat)} (hf:bJ g=0) (hp:lX g=0) (h:AL g m):ofE g (m.map (List.map aC))=0:=by
 unfold ofE;rw[if_neg (by rw[h.qR hf]; decide),hp]
theorem wK {g:Gm} {m:List (List Rat)} (hf:bJ g=0) (hp:lX g=0) (h:AL g m):yg g (m.map (List.map aC))=(aT (aN g) m).map (List.map aC):=by
 unfold yg;rw[if_neg (by rw[yh hf hp h]; decide),ny]
theorem zU {up:List (Int×Int)} {m:List (List Rat)} (p:Rat→Prop) (h0:p 0) (h1:p 1) (hm:∀ l∈m,∀ x∈l,p x) (hmul:∀ a b,p a→p b→p (a*b)):∀ k,∀ row∈dD up m k,∀ x∈row,p x
 | 0,row,hr,_,_=>by cases hr
 | k+1,row,hr,x,hx=>by
  have ih:=zU (up:=up) p h0 h1 hm hmul k;rw[dD] at hr;rcases List.mem_append.1 hr with hr | hr
  ·exact ih row hr x hx
  ·rw[List.mem_singleton.1 hr] at hx;obtain⟨y,hy,rfl⟩:=List.mem_map.1 hx;refine hmul _ _ ?_ ?_
   ·unfold dZ;split
    ·exact h1
    ·rw[List.getD_eq_getElem?_getD];cases e:((dD up m k).getD (up.getD k (-1,-1)).1.toNat [])[(up.getD k (-1,-1)).2.toNat]? with
     | none=>exact h0
     | some z =>
      refine ih _ ?_ z (List.mem_of_getElem? e);rw[List.getD_eq_getElem?_getD] at e ⊢;cases e2:(dD up m k)[(up.getD k (-1,-1)).1.toNat]? with
      | none=>rw[e2] at e; simp at e
      | some l=>exact List.mem_of_getElem? e2
   ·rw[List.getD_eq_getElem?_getD] at hy;cases e2:m[k]? with
    | none=>rw[e2] at hy; cases hy
    | some l=>rw[e2] at hy; exact hm l (List.mem_of_getElem? e2) y hy
theorem rZ {up:List (Int×Int)} {m:List (List Rat)} {k:Nat} {l row:List Rat} (h:(aT up m)[k]? = some l) (hm:m[k]? = some row):l=row.map fun x=>dZ (dD up m k) (up.getD k (-1,-1))*x:=by
 have hk:k < m.length:=lt_of_get hm;have e:(aT up m).getD k []=l:=by rw[List.getD_eq_getElem?_getD,h];rfl
 unfold aT at e;rw[gX hk] at e;have e2:m.getD k []=row:=by rw[List.getD_eq_getElem?_getD,hm];rfl
 rw[← e,e2]
theorem agE {g:Gm} {m:List (List Rat)} (h:AL g m) {k:Nat} {l:List Rat} (hl:(aT (aN g) m)[k]? = some l):∃ inf,g.infos[k]? = some inf∧(l.length:Int)=inf.actions:=by
 have hk:k < m.length:=by have:=lt_of_get hl;unfold aT at this;rwa [bY] at this
 obtain⟨row,hr⟩:=getSome hk;obtain⟨inf,hi⟩:=getSome (l:=g.infos) (k:=k) (by have:=h.1; omega);refine⟨inf,hi,?_⟩;rw[rZ hl hr,List.length_map];exact(h.2 k inf row hi hr).1
theorem ail {g:Gm} {m:List (List Rat)} (hf:bJ g=0) (hs:Small g) (h:AL g m):∀ l∈aT (aN g) m,∀ x∈l,rl x≤1000:=by
 have hst:=h.qR hf;have hft:=uq hst;have hl4:=yc h.limbs;have hml:m.length≤100:=by have:=h.1;have:=hs.infos;omega
 intro l hl x hx;refine zbQ ?_;intro k hk;refine zcV ?_;intro hkm;obtain⟨row,hr⟩:=getSome hkm;rw[rZ hk hr] at hx;obtain⟨y,hy,rfl⟩:=List.mem_map.1 hx;obtain⟨s,hs'⟩:=getSome (l:=aN g) (k:=k) (by rw[hft.len]; exact hkm);have h1:=uz hft hl4 k byOmega s (by have:=hft.ok k s hs'; omega);rw[List.getD_eq_getElem?_getD,hs',Option.getD_some];have h2:=nS (dZ (dD (aN g) m k) s) y;have h3:=hl4 row (List.mem_of_getElem? hr) y hy;omega
open List renaming getElem_toArray → lq1, getElem_cons_zero → lq2, getElem_cons_succ → lq3, setIfInBounds_toArray → lq4, set_cons_zero → lq5, set_cons_succ → lq6
open Go.RowKit Go.Shelf
attribute [local go_sem] Oper.semAt_some
structure Bz (g:Gm) (r:List (List Rat)):Prop where
 len:r.length=g.infos.length
 acts:∀ (k:Nat) (l:List Rat) (inf:Inf),r[k]? = some l→g.infos[k]? = some inf→(l.length:Int)=inf.actions
 pos:∀ l∈r,∀ x∈l,dF x=false
 fits:∀ l∈r,∀ x∈l,rl x≤1000
 sum:∀ (k:Nat) (l:List Rat) (s:Int×Int),r[k]? = some l→(aN g)[k]? = some s→fQ l=dZ r s
 up:∀ (k:Nat) (s:Int×Int),(aN g)[k]? = some s→s.1 < 0∨(0≤s.1∧s.1 < (k:Int)∧0≤s.2∧s.2 < ((r.getD s.1.toNat []).length:Int))
theorem abo (w:World) (t1:TypeId) (c1:Array Value) (t2:TypeId) (c2:Array Value) (t3:TypeId) (c3:Array Value) (t4:TypeId) (c4:Array Value):∃ W:World,W=(((w.alloc (.cells c1 t1)).alloc (.cells c2 t2)).alloc (.cells c3 t3)).alloc (.cells c4 t4)∧Row W w.heap.size t1 c1.toList∧Row W (w.heap.size+1) t2 c2.toList∧Row W (w.heap.size+1+1) t3 c3.toList∧Row W (w.heap.size+1+1+1) t4 c4.toList∧Below w.heap.size w W∧W.heap.size=w.heap.size+4:=by
 obtain⟨W,hW,h1,h2,h3,h4,_⟩:=kN w t1 c1 t2 c2 t3 c3;have e:W.heap.size=w.heap.size+3:=by rw[hW];simp
 have h:=Row.new W t4 c4;rw[e] at h;refine⟨W.alloc (.cells c4 t4),by rw[hW],h1.alloc _,h2.alloc _,h3.alloc _,h,h4.alloc byOmega _,by simp[e]⟩
def BInv (F:Foot) (w:World) (r:List (List Rat)) (bo n ob B1:Nat) (k:Nat) (wr:World):Prop :=
 (∃ vs,vs.length=k∧MkO F w bo 96 n B1 vs ((r.take k).map (List.map au)) wr)∧Row wr ob 106 [.slice (some ⟨bo,0,none⟩) n n]
theorem BInv.own {F:Foot} {w:World} {r:List (List Rat)} {bo n ob B1 B:Nat} (hB:w.heap.size≤B):OwnFrom B (fun k W=>BInv F w r bo n ob B1 k W):=by
 rintro k X Y row ⟨⟨vs,hvl,hm⟩,hx⟩ hg hr';have hr:∀ r,row=some r→∃ o:Obj,X.heap[r]? = some o∧o.isCells=false:=fun r e=>(hr' r e).2
 exact⟨⟨vs,hvl,hm.row.kept hg hr,hm.done.kept hg hr,hm.bel.grown hg hm.bel.size (fun k hk=>by have:=(hr' k hk).1; omega),hm.lo,hm.hi,Nat.le_trans hm.size hg.size⟩,hx.kept hg hr⟩
theorem agF {F:Foot} {w W:World} {r:List (List Rat)} {bo n B1 k:Nat} {vs:List Value} (hm:MkO F w bo 96 n B1 vs ((r.take k).map (List.map au)) W) (hvl:vs.length=k) (hkn:k≤n) (hkr:k≤r.length) (s:Int×Int) (hs:s.1 < 0∨(0≤s.1∧s.1 < (k:Int)∧0≤s.2∧s.2 < ((r.getD s.1.toNat []).length:Int))) :
  Calls Tryz.prog 71 #[.slice (some ⟨bo,0,none⟩) n n,.agg #[.int .i64 s.1,.int .i64 s.2]] W (Ret W fun u w'=>NmV w' (GoF F w B1) u (dZ r s)):=by
 by_cases h0:s.1 < 0
 ·exact zaX
 ·obtain⟨h1,h2,h3,h4⟩:=hs.resolve_left h0;obtain⟨i,hi⟩:∃ i:Nat,s.1=(i:Int):=⟨s.1.toNat,byOmega⟩;obtain⟨j,hj⟩:∃ j:Nat,s.2=(j:Int):=⟨s.2.toNat,byOmega⟩;obtain⟨s1,s2⟩:=s;simp only at hi hj h0 h1 h2 h3 h4;subst hi;subst hj;rw[Int.toNat_natCast] at h4;have hik:i < k:=byOmega;obtain⟨vr,hvr⟩:=getSome (l:=vs) (k:=i) byOmega;obtain⟨row,hrow⟩:=getSome (l:=r) (k:=i) byOmega;have hrd:r.getD i []=row:=by rw[List.getD_eq_getElem?_getD,hrow];rfl
  rw[hrd] at h4;obtain⟨x,hx⟩:=getSome (l:=row) (k:=j) byOmega;have hra:=hm.done.2 i vr (row.map au) hvr (by rw[List.getElem?_map,List.getElem?_take,if_pos hik,hrow]; rfl);exact YB
theorem Bz.ag9 {g:Gm} {r:List (List Rat)} (h:Bz g r) (s:Int×Int):rl (dZ r s)≤1000:=by
 unfold dZ;split
 ·rw[nT];omega
 ·rw[List.getD_eq_getElem?_getD];cases e:(r.getD s.1.toNat [])[s.2.toNat]? with
  | none=>show rl 0≤1000; rw[qc]; omega
  | some x =>
   refine h.fits (r.getD s.1.toNat []) ?_ x (List.mem_of_getElem? e);rw[List.getD_eq_getElem?_getD] at e ⊢;cases e2:r[s.1.toNat]? with
   | none=>rw[e2] at e; simp at e
   | some l=>exact List.mem_of_getElem? e2
theorem uD (w:World) (F:Foot) (vg vm:Value) (g:Gm) (r:List (List Rat)) (hg:AO w F vg g) (hsm:Small g) (hform:bJ g=0) (hpar:lX g=0) (hm:BU w F vm r) (hT:Bl w) (hok:Bz g r) :
  Calls Tryz.prog 22 #[vg,vm] w (Ret w fun v w'=>∃ t,v = .tuple #[t,.int .i64 (kR (dh r).flatten)]∧RawRowsAt w' (fun b=>w.heap.size≤b) t (oD (dh r))):=by
 have HG:=Ag (hg.keep (G:=fun _=>True) (fun _ _ _=>trivial) (Same.refl _ _)); have HM:=Ag (RawRowsAt.keep (G:=fun _=>True) hm (fun _ _ _=>trivial) (Same.refl _ _));have HS:=Ag hsm; have HT:=Ag hT; have HOK:=Ag hok;have HPE:=Ag (show acF g=0 by unfold acF; rw[if_neg (by rw[hform]; decide)]; exact hpar);have HPO:=Ag (show uX g=aN g by
  unfold uX;rw[if_neg (by rw[hform]; decide)];rcases rX g with⟨_,h⟩ | h
  ·exact h
  ·exact absurd hpar h)
 have HA10:=Ag (rO hform);have hni:=hsm.infos;obtain⟨n,hn⟩:=named r.length;have hgi:g.infos.length=n:=by rw[hn,hok.len]
 have hmn:(r.map (List.map aC)).length=n:=by rw[List.length_map,hn]
 obtain⟨vn,vi,rfl,⟨A,c,rfl,-,-⟩,⟨Ai,ci,rfl,-,-⟩⟩:=hg;obtain⟨Am,cm,e,-,-⟩:=hm;rw[hmn] at e;subst e;rw[hgi] at HG ⊢;have HN:=Ag hn;have HGI:=Ag hgi;have hn100:n≤100:=byOmega;clear hsm hT hok hform hpar hn hgi hmn hni;refine(callsIn_wide (n:=9)).1 ?_;refine callsIn_of_wp_marks Tryz.func22 rfl trivial ?_ rfl;refine wpIn_wide.2 ?_;simp only[Tryz.ntmps22,List.size_toArray,List.length_cons,List.length_nil,Nat.reduceAdd,Nat.reduceSub,Array.replicate_succ,Array.replicate_zero,List.push_toArray,List.append_toArray,List.nil_append,List.cons_append];go_upto_region 1 with(fail)
 obtain⟨W,hW,rg,rm,rr,re,hB,hz⟩:=abo w 27 #[.int .i64 g.aA,.slice A g.nodes.length c,.slice Ai n ci] 30 #[.slice Am n cm] 30 #[.slice none 0 0] 44 #[.int .i64 0];rw[← hW];clear hW;obtain⟨b2,hb2⟩:=named (w.heap.size+1+1);rw[← hb2] at rr re ⊢;have k2:w.heap.size+1 < b2:=byOmega;have k3:b2+1 < W.heap.size:=byOmega;clear hb2 hz;replace HG:=Ag (HG.out.on (Below.same' hB _));replace HM:=Ag (RawRowsAt.on HM.out (Below.same' hB _));replace HT:=Ag (HT.out.on hB);refine Yf ?_;intro x0 x1 x2;go_wp2_with fail
 clear x0 x1 x2;refine(qE W (fun _=>True) _ g HG.out HS.out).mono ?_;rintro e w1 ⟨_,rfl,hb,vp,rfl,hvp⟩;refine zbL ?_;clear HG;intro HG;refine zcU ?_;clear HM;intro HM;replace HT:=Ag (HT.out.on hb);replace rg:=rg.below hb rg.lt;replace rm:=rm.below hb rm.lt;replace rr:=rr.below hb rr.lt;replace re:=re.below hb re.lt;replace hB:=hB.trans (hb.mono hB.size);have k4:b2+1 < w1.heap.size:=re.lt;rw[HPE.out];rw[HPO.out] at hvp;have HU:=Ag (AB.keep (G:=(fun _=>True)) hvp (fun _ _ _=>trivial) (Same.refl _ _));obtain⟨Au,cu,e⟩:=hvp.open;rw[cO,HGI.out] at e;subst e;clear hvp hb k3;dsimp only;go_upto_region 2 with(fail)
 obtain⟨W2,hW2,ru,hb,hz2⟩:=aO w1 55 #[.slice Au n cu];rw[← hW2];refine zbL ?_;clear HG;intro HG;refine zcU ?_;clear HM;intro HM;replace HT:=Ag (HT.out.on hb);replace rg:=rg.below hb rg.lt;replace rm:=rm.below hb rm.lt;replace rr:=rr.below hb rr.lt;replace re:=re.below hb re.lt;replace hB:=hB.trans (hb.mono hB.size);replace HU:=Ag (AB.on HU.out (Below.same' hb _));obtain⟨ub,hub⟩:=named w1.heap.size;rw[← hub] at ru ⊢;have k5:b2+1 < ub:=byOmega;have k6:ub < W2.heap.size:=ru.lt;clear hb hz2 hub hW2 k4;have x2:=rg.cell (i:=2) rfl;have y0:=rm.cell (i:=0) rfl;go_upto_region 7 with(at_make; refine eG _ rfl _ _ 106 rfl 96 (.slice none 0 0) 24 Tryz.underlying106 Tryz.infoNumRow rfl n rfl rfl byOmega byOmega ?_; intro w3 hb1 ajM hr1; have hz1:=Nat.le_of_eq ajM.symm; clear ajM)
 obtain⟨W3,hW3,ro,hB1,hz1'⟩:=aO w3 106 #[.slice (some ⟨W2.heap.size,0,none⟩) n n];rw[← hW3];clear hW3;obtain⟨bo,hbo⟩:=named W2.heap.size;obtain⟨ob,hob⟩:=named w3.heap.size;replace hr1:=hr1.below hB1 hr1.lt;have HBW:=Ag (hb1.trans (hB1.mono hb1.size));rw[← hbo] at hr1 ro k6 ⊢;rw[← hob] at ro ⊢;have k7:bo < ob:=byOmega;have k8:ob < W3.heap.size:=byOmega;have y1:=ak (ak y0 hb1) hB1;have HBO:=Ag hbo;have ko1:W2.heap.size≤bo:=byOmega;clear hb1 hB1 hz1 hz1' hob x2 y0 hbo;go_wp2_with fail
 refine(acD W3 n).mono ?_;rintro e w4 ⟨rfl,hw4⟩;obtain⟨W4,hW4,r4,hB4,hz4⟩:=aO W3 3 #[.int .i64 (n:Int)];rw[← hW4] at hw4;rw[hw4];clear hw4 hW4;obtain⟨lb,hlb⟩:=named W3.heap.size;rw[← hlb] at r4 ⊢;have k9:ob < lb:=byOmega;have k10:lb < W4.heap.size:=byOmega;replace hr1:=hr1.below hB4 hr1.lt;replace ro:=ro.below hB4 ro.lt;replace HBW:=Ag (HBW.out.trans (hB4.mono HBW.out.size));clear hB4 hz4 hlb k8 y1;have hinv:BInv (fun _=>True) W2 r bo n ob W4.heap.size 0 W4:=⟨⟨[],rfl,by rw[HBO.out] at hr1 ⊢; exact MkO.begin hr1 HBW.out (Nat.le_refl _) byOmega (Nat.le_refl _)⟩,ro⟩;have HI:=Ag hinv;clear hr1 hinv ro;dsimp only;go_wp2_with fail
 refine(wpIn_wide (n:=9)).1 ?_;refine tY (w0:=W4) (gf:=116) (lb:=#[.pointer (some ⟨lb,0,none⟩)]) byOmega rfl (enters' Tryz.func116 ah ah)
  (acC 8 byOmega lb W2.heap.size n W4 (r4.cell rfl) k10 byOmega) (Below.refl _ _) (by have:=HBO.out; omega) (fun _=>rfl)
  (BInv (fun _=>True) W2 r bo n ob W4.heap.size) (fun _=>False) (BInv.own (by have:=HBO.out; omega)) (fun _ _ _ _ hs _ _=>hs) HI.out
  (fun k=>{ tmps:=#[.agg #[.int .i64 g.aA,.slice A g.nodes.length c,.slice Ai n ci],.slice Am n cm,.pointer (some ⟨w.heap.size,0,none⟩),.pointer (some ⟨w.heap.size+1,0,none⟩),.pointer (some ⟨b2,0,none⟩),.pointer (some ⟨b2+1,0,none⟩),.pointer (some ⟨ub,0,none⟩),.int .i64 0,.pointer (some ⟨ob,0,none⟩),.int .i64 (k:Int),undef,undef,undef,.tuple #[.slice Au n cu,.int .i64 0],.agg #[.int .i64 g.aA,.slice A g.nodes.length c,.slice Ai n ci],.tuple #[.slice Au n cu,.int .i64 0],.slice Au n cu,.int .i64 0,.int .i64 0,.bool false,undef,.slice Am n cm,.int .i64 (n:Int),.pointer (some ⟨w.heap.size,2,none⟩),.slice Ai n ci,.int .i64 (n:Int),.bool false,.slice Am n cm,.int .i64 (n:Int),.slice (some ⟨bo,0,none⟩) n n,.slice Am n cm,.int .i64 (n:Int),.func (.func 116) #[] #[.pointer (some ⟨lb,0,none⟩)],.int .i64 (k:Int),undef,undef,undef,undef,undef,undef,undef,undef,undef,undef,undef,undef,undef,undef,undef,undef,undef,undef,undef,undef,undef,undef,undef,undef,undef,undef,undef,undef,undef,undef,undef,undef,undef,undef,undef,undef,undef,undef,undef,undef,undef,undef,undef,undef,undef,undef,undef,undef,undef,undef,undef,undef,undef,undef,undef],defers:=[] }) ?assign ?body ?done ?stop
 case assign =>
  intro l x W K hK;gi_wp2;exact hK
 case stop=>rintro D W _ h; exact h.elim
 case done =>
  rintro D W hD ⟨⟨vs,hvl,hmk⟩,ho⟩ hK;have hrn:(r.take n)=r:=by rw[HN.out];exact List.take_length
  rw[hrn] at hmk;have o0:=ho.cell (i:=0) rfl;have hlsn:(r.map (List.map au)).length=n:=by rw[List.length_map,HN.out]
  have HR:=Ag (show RawRowsAt W (fun _=>True) (.slice (some ⟨bo,0,none⟩) n n) (r.map (List.map au)) by have h:=hmk.rows (G:=fun _=>True) (by rw[hvl]; exact Nat.le_refl _) (fun _ _=>trivial) (c:=n) byOmega; rw[hlsn] at h; exact h);have HBW:=Ag hmk.bel;have HK:=Ag hK;have HL10:=Ag (show ∀ l∈r,l.length≤10 from fun l hl=>by
   obtain⟨k,hk⟩:=List.getElem?_of_mem hl;obtain⟨inf,iC⟩:=getSome (l:=g.infos) (k:=k) (by have:=lt_of_get hk; have:=HN.out; have:=HGI.out; omega);have:=HOK.out.acts k l inf hk iC;have:=HA10.out inf (List.mem_of_getElem? iC);omega)
  have HF:=Ag HOK.out.fits;have HBM:=Ag (back_mem (p:=r) fun l hl=>⟨HL10.out l hl,fun x hx=>by have:=HF.out l hl x hx; omega⟩);have HBL:=Ag (show(dh r).length=n by unfold dh; rw[List.length_map,HN.out]);have hDl:=(Array.getElem?_eq_some_iff.1 hK).1;clear hmk ho hK hlsn hrn;show Exit.inBlock _ _ .normal _ _;go_wp2_with fail
  refine(ae3 W (fun _=>True) _ r HR.out (by have:=HN.out; omega) HL10.out (fun l hl x hx=>by have:=HF.out l hl x hx; omega) (fun l hl k=>uY (HL10.out l hl) (fun x hx=>by have:=HF.out l hl x hx; omega) k)).mono ?_;rintro e w5 ⟨u,rfl,hb5,hu⟩;have HU5:=Ag (RawRowsAt.keep (G:=fun _=>True) hu (fun _ _ _=>trivial) (Same.refl _ _));obtain⟨A5,c5,e,-,-⟩:=hu;rw[List.length_map,HBL.out] at e;subst e;have HB5:=Ag hb5;clear hb5 o0;dsimp only;go_wp2_with fail
  refine(qQ w5 (fun _=>True) _ (dh r) HU5.out (by rw[HBL.out]; omega) (fun l hl=>by have:=(HBM.out l hl).1; omega) (fun l hl x hx=>by have:=(HBM.out l hl).2 x hx; omega)).mono ?_;rintro e w6 ⟨_,rfl,hb6,t,rfl,ht⟩;have hb56:=HB5.out.trans (hb6.mono HB5.out.size);have hb26:=HBW.out.trans (hb56.mono HBW.out.size);have hk6:w6.heap[D]? = some (.deferred (some [])):=(hb56.block D hDl).trans HK.out;have hbs:=HBW.out.size;have h5s:=HB5.out.size;have hws:=hB.size;have h6s:=hb6.size;have HT6:=Ag (RawRowsAt.keep (G:=fun b=>W2.heap.size≤b) ht (fun b hb _=>by omega) (Same.refl _ _));have r6:=rr.below hb26 rr.lt;have e6:=re.below hb26 re.lt;obtain⟨At,ct,rfl,-,-⟩:=ht;have q0:=r6.cell (i:=0) rfl;have q1:=e6.cell (i:=0) rfl;have z0:=r6.frozen 0;have z1:=e6.frozen 0;generalize hErr:kR (dh r).flatten=er at *;generalize hOut:oD (dh r)=ol at *;obtain⟨W9,hW9⟩:=named ((w6.setCell ⟨b2,0,none⟩ (.slice At ol.length ct)).setCell ⟨b2+1,0,none⟩ (.int .i64 er));have HW9:=Ag hW9;have hDb:D≠b2∧D≠b2+1:=byOmega;have hk9:W9.heap[D]? = some (.deferred (some [])):=by rw[hW9,Below.heap_setCell _ _ _ _ hDb.2,Below.heap_setCell _ _ _ _ hDb.1];exact hk6
  have r9:=r6.set 0 (.slice At ol.length ct);have hw9:Wrote (fun b=>b=b2∨b=b2+1) w6 W9:=by rw[hW9];exact((Wrote.refl _ _).setCell (p:=⟨b2,0,none⟩) (.inl (.inl rfl)) _).setCell (p:=⟨b2+1,0,none⟩) (.inl (.inr rfl)) _
  have t0:W9.cell? ⟨b2,0,none⟩=some (.slice At ol.length ct):=by rw[hW9];exact((r6.set 0 _).other (a:=⟨b2+1,0,none⟩) aB _).cell (i:=0) rfl
  have t1:W9.cell? ⟨b2+1,0,none⟩=some (.int .i64 er):=by rw[hW9];exact((e6.other (a:=⟨b2,0,none⟩) aB _).set 0 _).cell (i:=0) rfl
  have ko2:bo≤W2.heap.size:=by rw[HBO.out];exact Nat.le_refl _
  have HT9:=Ag (RawRowsAt.on HT6.out (hw9.same fun b hb e=>by have hb:W2.heap.size≤b:=hb; rcases e with e | e <;> omega));have HB9:=Ag (Wrote.below (hB.trans (hb26.mono byOmega)) hw9 (fun b hb=>by rcases hb with e | e <;> omega) byOmega);have HK9:=Ag hk9;clear hW9 r9 hw9 hk9 hk6 hb56 hb26 r6 e6 HT6 hb6;dsimp only;go_wp2
  rw[← HW9.out];refine⟨aB,.inl ⟨_,_,rfl,run_takeDeferred HK9.out,?_⟩⟩;have c0:=cell_kept t0 (grownBy_putObj' W9 D (.deferred none)) (fun r e=>by cases e; exact⟨_,HK9.out,rfl⟩);have c1:=cell_kept t1 (grownBy_putObj' W9 D (.deferred none)) (fun r e=>by cases e; exact⟨_,HK9.out,rfl⟩);refine⟨.tuple #[.slice At ol.length ct,.int .i64 er],by simp[results,Tryz.results22,go_sem,c0,c1],⟨_,rfl,?_,_,by rw[hErr],?_⟩⟩
  ·exact HB9.out.trans (belowK_b (w:=w) (Nat.le_refl _) W9 D _ _ byOmega HK9.out rfl rfl)
  ·rw[hOut];exact(RawRowsAt.kept HT9.out (grownBy_putObj' W9 D _) (fun r e=>by cases e; exact⟨_,HK9.out,rfl⟩)).keep (fun b hb _=>by have hb:W2.heap.size≤b:=hb; omega) (Same.refl _ _)
 case body =>
  rintro l k W ⟨⟨vs,hvl,hmk⟩,ho⟩ hk;have HMK:=Ag hmk;have HVL:=Ag hvl;have HO:=Ag ho;obtain⟨row,hrow⟩:=getSome (l:=r) (k:=k) (by rw[← HN.out]; exact hk);obtain⟨inf,iC⟩:=getSome (l:=g.infos) (k:=k) (by rw[HGI.out]; exact hk);obtain⟨s,hs⟩:=getSome (l:=aN g) (k:=k) (by rw[cO,HGI.out]; exact hk);have HAC:=Ag (HOK.out.acts k row inf hrow iC);have HSM:=Ag (HOK.out.sum k row s hrow hs);have HUP:=Ag (HOK.out.up k s hs);have HRL:=Ag (HOK.out.fits row (List.mem_of_getElem? hrow));have HPS:=Ag (HOK.out.pos row (List.mem_of_getElem? hrow));have hbel:=hmk.bel;have amb:row.length≤10:=by have:=HAC.out;have:=HA10.out inf (List.mem_of_getElem? iC);omega
  obtain⟨A',c',e,_,hxm⟩:=HM.out;rw[List.length_map,← HN.out] at e;injection e with e1 e2 e3
  subst e1;obtain⟨mb,mo,rfl,_,yY,hcm⟩:=hxm (by rw[List.length_map,← HN.out]; omega);obtain⟨vr,hvr,hra⟩:=hcm k (row.map aC) (by rw[List.getElem?_map,hrow]; rfl);rw[Nat.mul_one] at hvr;have wL:=RawsAt.keep (G:=Old (fun _=>True) W2.heap.size) hra (fun b hb hl=>⟨hb,hl⟩) (Same.refl _ _);obtain⟨Ar,cr,rfl,-,-⟩:=hra;rw[List.length_map] at hvr wL;have HRV:=Ag wL;have AY:=Ag hrow;have HVR:=Ag hvr;have HSG:=Ag hs;have m1:=(hbel.cell (p:=⟨mb,mo+k,none⟩) yY).trans hvr;obtain⟨_,_,e,-,A2,c2,he2,_,hxi⟩:=HG.out;simp only[Value.agg.injEq,Array.mk.injEq,List.cons.injEq,and_true,true_and] at e;obtain⟨-,e⟩:=e;rw[he2,HGI.out] at e;injection e with e1 e2' e3'
  subst e1;obtain⟨bI,oI,rfl,_,hbI,hcI⟩:=hxi (by rw[HGI.out]; omega);have i1:=(hbel.cell (p:=⟨bI,oI+k*2+1,none⟩) hbI).trans (hcI k inf iC).c1;rw[← HAC.out] at i1;have x2:=(hbel.cell (p:=⟨w.heap.size,2,none⟩) rg.lt).trans (rg.cell (i:=2) rfl);have y0:=(hbel.cell (p:=⟨w.heap.size+1,0,none⟩) rm.lt).trans (rm.cell (i:=0) rfl);clear e2 e3 e2' e3' he2 hxm hcm hvr wL hxi hcI hmk ho hrow iC hs;have alJ:((row.length:Int) != (row.length:Int))=false:=aB;have hkI:(k:Int) < n:=byOmega;gi_wp2_with fail;have hBn:=Below.refl W.heap.size W;refine su (S:=fun w'=>w'.cell? ⟨w.heap.size+1,0,none⟩=some (.slice (some ⟨mb,mo,none⟩) n cm)∧w'.cell? ⟨mb,mo+k,none⟩=some (.slice Ar row.length cr)∧w'.cell? ⟨w.heap.size,2,none⟩=some (.slice (some ⟨bI,oI,none⟩) n ci)∧w'.cell? ⟨bI,oI+k*2+1,none⟩=some (.int .i64 (row.length:Int))) ah ah (by rintro⟨_,_,hh⟩; exact hh) ⟨y0,m1,x2,i1⟩ (fun hHeld=>?_);refine YJ ?_;intro hb;replace y0:=ak y0 hb;replace m1:=ak m1 hb;replace x2:=ak x2 hb;replace i1:=ak i1 hb;replace hBn:=hBn.trans (hb.mono hBn.size);clear hb;generalize W.drew=wn at *;refine tkm [0,1,2,3,4,5,6,7,8,9,10,11] ?_;refine Yt ?_;clear hHeld;clear y0 m1 x2 i1 alJ;have y0:=(hbel.trans (hBn.mono hbel.size)).cell (p:=⟨w.heap.size+1,0,none⟩) rm.lt |>.trans (rm.cell (i:=0) rfl)
  have m1:=(hbel.trans (hBn.mono hbel.size)).cell (p:=⟨mb,mo+k,none⟩) yY |>.trans HVR.out
  refine ZY ?_;gi_wp2_with fail;clear y0 m1;gi_loopw [51] (fun iv wr=>∃ j:Nat,j≤row.length∧iv = .int .i64 (j:Int)∧Below W.heap.size W wr) (fun iv _=>row.length - (intOf iv).toNat)
  case atStart=>exact⟨0,Nat.zero_le _,rfl,hBn⟩
  case round =>
   clear hBn;obtain⟨j,hj,rfl,hbj⟩:=hrel;obtain⟨wb,rfl⟩:=named wr;have hB2:=hbel.trans (hbj.mono hbel.size);by_cases hjt:j < row.length
   ·obtain⟨x,hx⟩:=getSome hjt;have hxf:=HRL.out x (List.mem_of_getElem? hx);have HNG:=Ag (show(aC x).neg=false from HPS.out x (List.mem_of_getElem? hx));obtain⟨rb,ro,rc,vn,vd,e,_,_,y0,y1,y2,hn,hd⟩:=RawsAt.at (HRV.out.on (Below.same' hB2 _)) (show(row.map aC)[j]? = some (aC x) by rw[List.getElem?_map,hx]; rfl);injection e with e1 e2 e3
    subst e1;have HXV:=Ag (Ak.make (r:=aC x) rfl hn hd);obtain⟨An,cn,rfl,-,-⟩:=hn;obtain⟨Ad,cd,rfl,-,-⟩:=hd;have hjr:(j:Int) < row.length:=byOmega;have HXL:=Ag (show(aC x).num.length≤100000∧(aC x).den.length≤100000 by have:=eY x; have:=fA x; rw[mM]; exact⟨byOmega,by show(dig x.den).length≤_; omega⟩);clear e2 e3 hx;gi_upto_region 14 with(fail)
    obtain⟨W7,hW7,r7,hb7,hz7⟩:=aO wb 42 #[.bool (aC x).neg,.slice An (aC x).num.length cn,.slice Ad (aC x).den.length cd];rw[← hW7];obtain⟨xb,hxb⟩:=named wb.heap.size;replace HXV:=Ag (Ak.below HXV.out hb7);have HB7:=Ag (hbj.trans (hb7.mono hbj.size));have HT7:=Ag (HT.out.on (hB2.trans (hb7.mono hB2.size)));rw[← hxb] at r7 ⊢;clear hW7 hb7 hz7 hxb y0 y1 y2;refine zbU ?_;intro x0 x1 x2;gi_wp2_with fail;refine⟨trivial,(CallsIn.inRound l (callsIn_wide.2 (xJ W7 _ _ (aC x) HXV.out (rY x) HXL.out.1 HXL.out.2 HT7.out))).mono ?_⟩;rintro e w8 ⟨_,rfl,hb8,rfl⟩;rw[wG byOmega];replace x0:=ak x0 hb8;rw[HNG.out] at x0;have HB8:=Ag (HB7.out.trans (hb8.mono HB7.out.size));clear hb8 x1 x2 r7;dsimp only;gi_wp2_with fail;go_roundw
    case rel=>exact⟨j+1,byOmega,by go_num,HB8.out⟩
    case measure=>simp[intOf]; omega
   ·have hje:j=row.length:=byOmega;subst hje;have y0:=(hB2.cell (p:=⟨w.heap.size+1,0,none⟩) rm.lt).trans (rm.cell (i:=0) rfl);have m1:=(hB2.cell (p:=⟨mb,mo+k,none⟩) yY).trans HVR.out;have HMB:=Ag (HMK.out.below hbj);have HOB:=Ag (HO.out.below hbj HO.out.lt);have o0:=HOB.out.cell (i:=0) rfl;have HNV:=Ag (HRV.out.on (Below.same' hB2 _));have hBe:=hbj;gi_wp2_with fail;refine nV (fun w'=>w'.cell? ⟨w.heap.size+1,0,none⟩=some (.slice (some ⟨mb,mo,none⟩) n cm)∧w'.cell? ⟨mb,mo+k,none⟩=some (.slice Ar row.length cr)∧w'.cell? ⟨ob,0,none⟩=some (.slice (some ⟨bo,0,none⟩) n n)) 8 1 ah ah (by rintro⟨_,_,hh⟩; exact hh) rfl ah ?_;have hHeld:(fun w':World=>w'.cell? ⟨w.heap.size+1,0,none⟩=some (.slice (some ⟨mb,mo,none⟩) n cm)∧w'.cell? ⟨mb,mo+k,none⟩=some (.slice Ar row.length cr)∧w'.cell? ⟨ob,0,none⟩=some (.slice (some ⟨bo,0,none⟩) n n)) wb.drew:=⟨y0,m1,o0⟩;refine Zy ?_;refine zcF ?_;intro hb;replace y0:=ak y0 hb;replace m1:=ak m1 hb;replace o0:=ak o0 hb;replace HNV:=Ag (RawsAt.on HNV.out (Below.same' hb _));replace HMB:=Ag (HMB.out.below hb);replace HOB:=Ag (HOB.out.below hb HOB.out.lt);replace hBe:=hBe.trans (hb.mono hBe.size);clear hb;generalize wb.drew=wn at *;refine tkm [0,1,2,3,4,5] ?_;refine tk2 6 ah rfl fun K hK=>?_
    go_simp;refine(zD wn (Old (fun _=>True) W2.heap.size) _ row HNV.out byOmega (fun x hx=>by have:=HRL.out x hx; omega)).mono ?_;rintro e wn ⟨u,rfl,hb,hu⟩;have hsz:=HMB.out.size;have HRW:=Ag (show RawsAt _ (GoF (fun _=>True) W2 W4.heap.size) u (row.map au) from RawsAt.keep hu (fun b hb _=>hb.imp id fun h=>by omega) (Same.refl _ _));obtain⟨Az,cz,e,-,-⟩:=hu;rw[List.length_map] at e;subst e;replace y0:=ak y0 hb;replace m1:=ak m1 hb;replace o0:=ak o0 hb;replace HNV:=Ag (RawsAt.on HNV.out (Below.same' hb _));replace HMB:=Ag (HMB.out.below hb);replace HOB:=Ag (HOB.out.below hb HOB.out.lt);replace hBe:=hBe.trans (hb.mono hBe.size);clear hb;dsimp only;clear hHeld;refine hK.out _ _ ⟨y0,m1,o0⟩ (fun hHeld=>?_);clear hK K;refine Zb ?_;refine tkm [7] ?_;refine ZF ?_;clear hHeld;have c0:=HMB.out.row.cell (i:=k) (by have:=restN_get (vs:=vs) (n:=n) (by rw[HVL.out]; exact hk); rwa [HVL.out] at this);have fz:=HMB.out.row.frozen k;obtain⟨W9,hW9⟩:=named (wn.setCell ⟨bo,k,none⟩ (.slice Az row.length cz));have hob:=HOB.out.lt;have HM9:=Ag (show MkO (fun _=>True) W2 bo 96 n W4.heap.size (vs ++ [.slice Az row.length cz]) ((r.take (k+1)).map (List.map au)) W9 by rw[hW9,take_snoc AY.out,List.map_append]; exact HMB.out.lay (by rw[HVL.out]; exact hk) HRW.out HVL.out);have HO9:=Ag (show Row W9 ob _ _ from hW9▸HOB.out.other (a:=⟨bo,k,none⟩) aG _);have HK9:=Ag (show KeepsFrom W4.heap.size W W9 from hW9▸(kH hBe _).trans ((KeepsOthers.setCell _ _ _).from _));have hWW:=hBe.size;have HB9:=Ag (show Below W2.heap.size W W9 from hW9▸(hBe.mono (by have:=hbel.size; omega)).setCell (p:=⟨bo,k,none⟩) ko1 _);have HW9:=Ag hW9;have hb29:=HM9.out.bel;clear hW9 HMB HOB HNV hBe hob hWW HRW;go_wp2
    rw[← HW9.out];unfold AZ;refine ZY ?_;clear c0 fz o0 y0 m1 HW9;obtain⟨A',c',e,_,hxu⟩:=HU.out;rw[cO,HGI.out] at e;injection e with e1 e2 e3
    subst e1;obtain⟨pb,po,rfl,_,hpb,hcu⟩:=hxu (by rw[cO,HGI.out]; omega);obtain⟨q0,q1⟩:=hcu k s HSG.out;have p0:=(hb29.cell (p:=⟨pb,po+k*2,none⟩) hpb).trans q0;have p1:=(hb29.cell (p:=⟨pb,po+k*2+1,none⟩) hpb).trans q1;have u0:=(hb29.cell (p:=⟨ub,0,none⟩) ru.lt).trans (ru.cell (i:=0) rfl);have c9:=HM9.out.row.cell (i:=k) (v:=.slice Az row.length cz) (by unfold restN; rw[List.getElem?_append_left (by rw[List.length_append,HVL.out]; simp),List.getElem?_append_right (by rw[HVL.out]; exact Nat.le_refl _),HVL.out,Nat.sub_self]; rfl);have o0:=HO9.out.cell (i:=0) rfl;obtain⟨s1,s2⟩:=s;dsimp only at p0 p1;have HNV:=Ag (show RawsAt W9 (GoF (fun _=>True) W2 W4.heap.size) (.slice Az row.length cz) (row.map au) from HM9.out.done.2 k _ _ (by rw[List.getElem?_append_right (by rw[HVL.out]; exact Nat.le_refl _),HVL.out,Nat.sub_self]; rfl) (by rw[List.getElem?_map,List.getElem?_take,if_pos byOmega,AY.out]; rfl));have HMB:=HM9;have hBe:=Below.refl W9.heap.size W9;clear e2 e3 hxu hcu q0 q1;gi_wp2_with fail;refine su (S:=fun w'=>w'.cell? ⟨ob,0,none⟩=some (.slice (some ⟨bo,0,none⟩) n n)∧w'.cell? ⟨bo,k,none⟩=some (.slice Az row.length cz)∧w'.cell? ⟨ub,0,none⟩=some (.slice (some ⟨pb,po,none⟩) n cu)∧w'.cell? ⟨pb,po+k*2,none⟩=some (.int .i64 s1)∧w'.cell? ⟨pb,po+k*2+1,none⟩=some (.int .i64 s2)) ah ah (by rintro⟨_,_,hh⟩; exact hh) ⟨o0,c9,u0,p0,p1⟩ (fun hHeld=>?_);have hb:Below W9.heap.size W9 W9.drew:=aI (Below.refl _ W9) 1;refine YL ?_;clear o0 c9 u0 p0 p1 HNV HMB hBe;intro o0 c9 u0 p0 p1 HNV HMB hBe;clear hb;generalize W9.drew=wn at *;refine tkm [0,1,2,3,5,6,7,8,9] ?_;refine tk2 4 ah rfl fun K hK=>?_
    go_simp;refine(sum_any wn (GoF (fun _=>True) W2 W4.heap.size) _ row HNV.out byOmega (fun x hx=>by have:=HRL.out x hx; omega) (uY amb (fun x hx=>by have:=HRL.out x hx; omega))).mono ?_;rintro e wn ⟨u,rfl,hb,hu⟩;have HSV:=Ag (Ak.mono (G:=(fun _=>True)) hu (fun _ _ _=>trivial));obtain⟨A5,c5,B5,d5,rfl,-⟩:=hu.opened;clear hu;refine YL ?_;clear o0 c9 u0 p0 p1 HNV HMB hBe;intro o0 c9 u0 p0 p1 HNV HMB hBe;clear hb;dsimp only;clear hHeld;refine hK.out _ _ ⟨o0,c9,u0,p0,p1⟩ (fun hHeld=>?_);clear hK K;refine Zb ?_;refine tk2 10 ah rfl fun K hK=>?_
    go_simp;refine(agF HMB.out (by rw[List.length_append,HVL.out]; rfl) byOmega (by rw[← HN.out]; omega) (s1,s2) (HUP.out.imp id fun h=>⟨h.1,by have:=h.2.1; omega,h.2.2.1,h.2.2.2⟩)).mono ?_;rintro e wn ⟨u,rfl,hb,hu⟩;have HFV:=Ag (Ak.mono (G:=(fun _=>True)) hu (fun _ _ _=>trivial));obtain⟨A6,c6,B6,d6,rfl,-⟩:=hu.opened;clear hu;refine YL ?_;clear o0 c9 u0 p0 p1 HNV HMB hBe;intro o0 c9 u0 p0 p1 HNV HMB hBe;replace HSV:=Ag (Ak.on HSV.out (Below.same' hb _));clear hb;dsimp only;clear hHeld;refine hK.out _ _ ⟨o0,c9,u0,p0,p1⟩ (fun hHeld=>?_);clear hK K;refine Zb ?_;refine tk2 11 ah rfl fun K hK=>?_
    go_simp;refine(xE wn (fun _=>True) _ _ (fQ row) (dZ r (s1,s2)) HSV.out HFV.out (by rw[HSM.out]; have:=HOK.out.ag9 (s1,s2); omega) (by have:=HOK.out.ag9 (s1,s2); omega)).mono ?_;rintro e wn ⟨_,rfl,hb,rfl⟩;rw[show nG (fQ row) (dZ r (s1,s2))=0 from(qI _ _).2 HSM.out];refine YL ?_;clear o0 c9 u0 p0 p1 HNV HMB hBe;intro o0 c9 u0 p0 p1 HNV HMB hBe;replace HSV:=Ag (Ak.on HSV.out (Below.same' hb _));replace HFV:=Ag (Ak.on HFV.out (Below.same' hb _));clear hb;dsimp only;clear hHeld;refine hK.out _ _ ⟨o0,c9,u0,p0,p1⟩ (fun hHeld=>?_);clear hK K;refine Zb ?_;refine tkm [12] ?_;refine Yt ?_;clear hHeld;refine ZY ?_;have HKF:=Ag (HK9.out.trans (kH hBe _));have HBW2:=Ag (HB9.out.trans (hBe.mono (by have:=HM9.out.bel.size; omega)));have AU:=Ag (show BInv (fun _=>True) W2 r bo n ob W4.heap.size (k+1) wn from⟨⟨vs ++ [.slice Az row.length cz],by rw[List.length_append,HVL.out]; rfl,HMB.out⟩,HO9.out.below hBe HO9.out.lt⟩);clear o0 c9 u0 p0 p1 hBe HMB HM9;gi_wp2;exact⟨HKF.out,HBW2.out,AU.out⟩
theorem aff (u:Rat):∀ (l:List Rat) (a:Rat),(l.map fun x=>u*x).foldl (· + ·) (u*a)=u*l.foldl (· + ·) a
 | [],_=>rfl
 | x :: l,a=>by
  rw[List.map_cons,List.foldl_cons,List.foldl_cons,← Rat.mul_add];exact aff u l (a+x)
theorem wM (u:Rat) (l:List Rat):fQ (l.map fun x=>u*x)=u*fQ l:=by
 have h:=aff u l 0;rw[Rat.mul_zero] at h;exact h
theorem AL.row {g:Gm} {m:List (List Rat)} (h:AL g m) {k:Nat} {row:List Rat} (hr:m[k]? = some row):∃ inf,g.infos[k]? = some inf∧Dc inf.actions row:=by
 obtain⟨inf,hi⟩:=getSome (l:=g.infos) (k:=k) (by have:=lt_of_get hr; have:=h.1; omega);exact⟨inf,hi,h.2 k inf row hi hr⟩
section
variable {g:Gm} {m:List (List Rat)} (hf:bJ g=0) (h:AL g m)
include hf h
theorem abp {k:Nat} {row:List Rat} {s:Int×Int} (hr:m[k]? = some row) (hs:(aN g)[k]? = some s):(aT (aN g) m)[k]? = some (row.map fun x=>dZ (aT (aN g) m) s*x):=by
 have hft:=uq (h.qR hf);have hk:=lt_of_get hr;obtain⟨l,hl⟩:=getSome (l:=aT (aN g) m) (k:=k) (by unfold aT; rw[bY]; exact hk);rw[hl,rZ hl hr];have e:(aN g).getD k (-1,-1)=s:=by rw[List.getD_eq_getElem?_getD,hs];rfl
 rw[e,ae0 (k':=m.length) (by have:=hft.ok k s hs; omega) byOmega];rfl
theorem yj (hsm:Small g):Bz g (aT (aN g) m):=by
 have hft:=uq (h.qR hf);have hlen:(aT (aN g) m).length=m.length:=by unfold aT;rw[bY]
 refine⟨by rw[hlen,h.1],fun k l inf hl hi=>?_,?_,ail hf hsm h,fun k l s hl hs=>?_,fun k s hs=>?_⟩
 ·obtain⟨inf',hi',e⟩:=agE h hl;rw[hi] at hi';cases hi';exact e
 ·refine fun l hl x hx=>adl (zU (fun x=>0≤x) ay ay (fun l hl x hx=>?_) (fun a b ha hb=>Rat.mul_nonneg ha hb) _ l hl x hx)
  refine zbQ ?_;intro k hk;obtain⟨_,_,hr⟩:=h.row hk;exact(hr.2.2 x hx).2.1
 ·obtain⟨row,hr⟩:=getSome (l:=m) (k:=k) (by have:=lt_of_get hl; omega);obtain⟨_,_,ho⟩:=h.row hr;rw[abp hf h hr hs] at hl;cases hl;rw[wM,ho.2.1,Rat.mul_one]
 ·rcases hft.ok k s hs with h1 | ⟨h1,h2,h3,h4⟩
  ·exact .inl h1
  ·refine .inr ⟨h1,h2,h3,?_⟩;have hk:k < m.length:=by rw[← hft.len];exact lt_of_get hs
   unfold aT;rw[gX byOmega,List.length_map];exact h4
theorem akD {k:Nat} {row:List Rat} {s:Int×Int} (hr:m[k]? = some row) (hs:(aN g)[k]? = some s):(dh (aT (aN g) m))[k]? = some (if dZ (aT (aN g) m) s=0 then iR row.length else row):=by
 obtain⟨_,_,ho⟩:=h.row hr;unfold dh;rw[List.getElem?_map,abp hf h hr hs,Option.map_some];unfold jW;rw[wM,ho.2.1,Rat.mul_one];by_cases hu:dZ (aT (aN g) m) s=0
 ·rw[if_pos hu,if_pos hu,List.length_map]
 ·rw[if_neg hu,if_neg hu,List.map_map];refine congrArg some ?_;conv=>rhs;rw[← List.map_id row]
  refine List.map_congr_left fun x _=>?_
  show dZ (aT (aN g) m) s*x / dZ (aT (aN g) m) s=x;rw[Rat.div_def,Rat.mul_comm (dZ _ _) x,Rat.mul_assoc,Rat.mul_inv_cancel _ hu,Rat.mul_one]
theorem abq (hI:∀ i∈g.infos,1≤i.actions∧i.actions≤10):AL g (dh (aT (aN g) m)):=by
 have hlen:(dh (aT (aN g) m)).length=m.length:=by unfold dh aT;rw[List.length_map,bY]
 refine⟨by rw[hlen,h.1],fun k i l hi hl=>?_⟩;obtain⟨row,hr⟩:=getSome (l:=m) (k:=k) (by have:=lt_of_get hl; omega);obtain⟨s,hs⟩:=getSome (l:=aN g) (k:=k) (by rw[cO]; exact lt_of_get hi);have ho:=h.2 k i row hi hr;have hi1:=hI i (List.mem_of_getElem? hi);rw[akD hf h hr hs] at hl;cases hl
 split
 ·have:=acJ (n:=row.length) (by have:=ho.1; omega) (by have:=ho.1; omega);rwa [ho.1] at this
 ·exact ho
end
def aaj (m:List (List Rat)) (l:List (Int×Int)):Rat:=(l.map fun s=>(m.getD s.1.toNat []).getD s.2.toNat 0).foldl (· * ·) 1
theorem adK (m:List (List Rat)) (l:List (Int×Int)) (s:Int×Int):aaj m (l ++ [s])=aaj m l*(m.getD s.1.toNat []).getD s.2.toNat 0:=by
 unfold aaj;rw[List.map_append,List.foldl_append];rfl
theorem agG {up:List (Int×Int)} {m:List (List Rat)} (h:CG up m) {s:Int×Int} (h0:0≤s.1) (hs:s.1 < (m.length:Int)):dZ (aT up m) s=dZ (aT up m) (up.getD s.1.toNat (-1,-1))*(m.getD s.1.toNat []).getD s.2.toNat 0:=by
 obtain⟨t,ht⟩:=getSome (l:=up) (k:=s.1.toNat) (by rw[h.len]; omega);have htd:up.getD s.1.toNat (-1,-1)=t:=by rw[List.getD_eq_getElem?_getD,ht];rfl
 rw[htd];have ho:=h.ok _ _ ht;have h1:dZ (aT up m) s=((aT up m).getD s.1.toNat []).getD s.2.toNat 0:=by rw[dZ,if_neg byOmega]
 rw[h1];unfold aT;rw[gX byOmega,htd,xY];congr 1;exact ae0 byOmega byOmega
theorem akE {g:Gm} (hf:bJ g=0) (hp:lX g=0) {q:Nat} {n:Nd} (hn:g.nodes[q]? = some n) (hk:n.kind=2):jl g n.aF (iJ g n.info.toNat)=jl g n.aF q:=by
 obtain⟨hne,_⟩:=gW hf;have hmp:=mQ hne (List.mem_of_getElem? hn) hk;have hi:n.info.toNat < g.infos.length:=byOmega;have hin:n.info=(n.info.toNat:Int):=byOmega;obtain⟨h2,h3,h4⟩:=mX hf hi;obtain⟨hpl,hmem⟩:=h3 q n hn hk hin;have hw:uf g n.aF=true:=by
  unfold lX at hp;have h5:jV g g.aA.toNat=true:=by
   cases e:jV g g.aA.toNat with
   | true=>rfl
   | false=>rw[e] at hp; simp at hp
  unfold jV at h5;have h6:=List.all_eq_true.1 h5 n.aF.toNat (List.mem_range.2 byOmega);rwa [Int.toNat_of_nonneg byOmega] at h6
 unfold uf at hw;have h7:=ug.1 hw n.info.toNat hi hpl.symm;unfold mV at h7;have h8:=of_decide_eq_true (List.all_eq_true.1 h7 _ hmem);rw[Int.toNat_natCast] at h8;rw[h8];rfl
theorem akF {g:Gm} (hf:bJ g=0) {q:Nat} {n:Nd} (hn:g.nodes[q]? = some n) (hk:n.kind=2):0≤n.info∧n.info.toNat < g.infos.length∧(g.infos.getD n.info.toNat default).aF=n.aF:=by
 obtain⟨hne,_⟩:=gW hf;have hmp:=mQ hne (List.mem_of_getElem? hn) hk;have hi:n.info.toNat < g.infos.length:=byOmega;obtain⟨h2,h3,h4⟩:=mX hf hi;exact⟨byOmega,hi,(h3 q n hn hk byOmega).1.symm⟩
theorem afg {g:Gm} {m:List (List Rat)} (hf:bJ g=0) (hp:lX g=0) (hm:CG (aN g) m) (pl:Int):∀ (b c:Nat),c≤b→c < g.nodes.length→dZ (aT (aN g) m) (kE g pl c)=aaj m (jl g pl c)
 | 0,c,hb,hc=>by
  obtain rfl:c=0:=byOmega;rw[pJ (jE hf),qN (jE hf)]; rfl
 | b+1,c,hb,hc=>by
  have hg:=jE hf;obtain⟨p,hpp,h0 | ⟨q,n,rfl,hq,hn,hmem⟩⟩:=hg.par hc
  ·rw[h0.1,pJ hg,qN hg]; rfl
  ·obtain⟨j,hj⟩:=List.getElem?_of_mem hmem;have ih:=afg hf hp hm pl b q byOmega byOmega;rw[yU hg hn hj,wX hg hc hpp hn hq];by_cases hk:n.kind=2∧n.aF=pl
   ·obtain⟨i1,i2,i3⟩:=akF hf hn hk.1;have hml:(aN g).length=m.length:=hm.len;rw[cO] at hml;rw[if_pos hk,nR hg hn hk hj,List.reverse_singleton,adK,agG hm (s:=(n.info,(j:Int))) i1 (by show n.info < _; omega)];have e:(aN g).getD (n.info,(j:Int)).1.toNat (-1,-1)=kE g pl q:=by
     show(aN g).getD n.info.toNat (-1,-1)=_;rw[List.getD_eq_getElem?_getD,qA i2,Option.getD_some,i3];unfold kE;rw[akE hf hp hn hk.1,hk.2]
    rw[e,ih]
   ·rw[if_neg hk,jR hk,List.reverse_nil,List.append_nil,ih]
theorem Bt.deep {g:Gm} (hg:Good g) {C:MC} {V:List View} {pl:Int} {level a b:Nat} {ss:List (List (List Int))} {cs:List Int} (h:Bt C V g.infos g.nodes level ss cs a b):level≤C.levels.length→(∀ c∈cs,(jl g pl c.toNat).length≤level) →
  ∀ (i:Nat) (n:Nd),a≤i→i < b→g.nodes[i]? = some n→(jl g pl i).length≤C.levels.length∧(n.kind=2→(jl g pl i).length < C.levels.length):=by
 induction h with
 | nil level a=>intro _ _ i n h1 h2; omega
 | @fin level a b n0 seen ss cs hn he hr ih =>
  intro hl hR i n h1 h2 hi;by_cases e:i=a
  ·subst e;rw[hn] at hi;cases hi;have h3:=hR (i:Int) aB;rw[Int.toNat_natCast] at h3;have h4:=he.1;exact⟨byOmega,fun hk=>by omega⟩
  ·exact ih hl (fun c hc=>hR c (List.mem_cons_of_mem _ hc)) i n byOmega h2 hi
 | @mid level a m b n0 seen ss cs hn hm hk hr ih1 ih2 =>
  intro hl hR i n h1 h2 hi;have hlt:=hm.1;have h3:=hR (a:Int) aB;rw[Int.toNat_natCast] at h3;by_cases e:i=a
  ·subst e;exact⟨byOmega,fun _=>by omega⟩
  by_cases e2:i < m
  ·refine ih1 byOmega (fun c hc=>?_) i n byOmega e2 hi;have hqc:=hg.span.kids a n0 (Nat.zero_le _) (lt_of_get hn) hn _ hc;obtain⟨d,rfl⟩:∃ d:Nat,c=(d:Int):=⟨c.toNat,byOmega⟩;have hd:d < g.nodes.length:=byOmega;rw[Int.toNat_natCast,wX hg hd (kW hg hd hn hc) hn byOmega,List.length_append,List.length_reverse];obtain⟨j,hj⟩:=List.getElem?_of_mem hc;by_cases hk:n0.kind=2∧n0.aF=pl
   ·rw[nR hg hn hk hj,List.length_singleton];omega
   ·rw[jR hk,List.length_nil];omega
  ·exact ih2 hl (fun c hc=>hR c (List.mem_cons_of_mem _ hc)) i n byOmega h2 hi
theorem agH (L:List Int) {aA most:Int} (zero:Bool) (hp:1≤aA) (hm:1≤most) (hform:bJ (nO L aA most zero)=0) (pl:Int) (i:Nat) (n:Nd) (hn:(nO L aA most zero).nodes[i]? = some n) (hk:n.kind=2):(jl (nO L aA most zero) pl i).length < 5:=by
 obtain⟨C,V,cr,h,_⟩:=aa7 L zero hp hm;have hg:=jE hform;have h1:=h.bt.deep hg (pl:=pl) (Nat.zero_le _) (fun c hc=>by rw[List.mem_singleton.1 hc,show(0:Int).toNat=0 from rfl,qN hg]; exact Nat.le_refl _) i n (Nat.zero_le _) (lt_of_get hn) hn;have h2:=h1.2 hk;have h3:=h.places.len;omega
def Lo (b:Nat) (x:Rat):Prop:=x.num.natAbs≤b∧x.den≤b
theorem afh {n:Int} {d b:Nat} (hd:d≠0) (h1:n.natAbs≤b) (h2:d≤b):Lo b (mkRat n d):=by
 have h:=iG n hd;exact⟨by rw[h.1]; exact Nat.le_trans (Nat.div_le_self _ _) h1,by rw[h.2.1]; exact Nat.le_trans (Nat.div_le_self _ _) h2⟩
theorem Lo.mono {a b:Nat} {x:Rat} (h:Lo a x) (hab:a≤b):Lo b x:=⟨Nat.le_trans h.1 hab,Nat.le_trans h.2 hab⟩
theorem Lo.mul {x y:Rat} {a b:Nat} (hx:Lo a x) (hy:Lo b y):Lo (a*b) (x*y):=by
 rw[Rat.mul_def'];refine afh (Nat.mul_ne_zero x.den_nz y.den_nz) ?_ (Nat.mul_le_mul hx.2 hy.2);rw[Int.natAbs_mul];exact Nat.mul_le_mul hx.1 hy.1
theorem Lo.add {x y:Rat} {a b:Nat} (hx:Lo a x) (hy:Lo b y):Lo (2*(a*b)) (x+y):=by
 rw[Rat.add_def'];have h1:=Nat.mul_le_mul hx.1 hy.2;have h2:=Nat.mul_le_mul hy.1 hx.2;have h3:=Nat.mul_le_mul hx.2 hy.2;have h4:=Nat.mul_comm b a;refine afh (Nat.mul_ne_zero x.den_nz y.den_nz) ?_ byOmega;refine Nat.le_trans (Int.natAbs_add_le _ _) ?_;rw[Int.natAbs_mul,Int.natAbs_mul];show x.num.natAbs*y.den+y.num.natAbs*x.den≤_;omega
theorem Lo.neg {x:Rat} {a:Nat} (hx:Lo a x):Lo a (-x):=by
 unfold Lo at *;rw[Rat.neg_num,Rat.neg_den,Int.natAbs_neg];exact hx
theorem Lo.inv {x:Rat} {a:Nat} (hx:Lo a x) (h0:x≠0):Lo a x⁻¹:=by
 have h:=uJ h0;exact⟨by rw[h.1]; exact hx.2,by rw[h.2.1]; exact hx.1⟩
theorem Lo.rl {x:Rat} {a:Nat} (hx:Lo a x) (ha:a < LB ^ 4):rl x≤4 :=
 Nat.max_le.2 ⟨aS (Nat.lt_of_le_of_lt hx.1 ha),aS (Nat.lt_of_le_of_lt hx.2 ha)⟩
theorem ajS {a:Nat} (h:1≤a):Lo a 1:=⟨h,h⟩
theorem akG {a:Nat} (h:1≤a):Lo a 0:=⟨Nat.zero_le _,h⟩
theorem akH {m:List (List Rat)} {a:Nat} (ha:1≤a) (h:∀ l∈m,∀ x∈l,Lo a x) (i j:Nat):Lo a ((m.getD i []).getD j 0):=by
 rw[List.getD_eq_getElem?_getD];cases e:(m.getD i [])[j]? with
 | none=>exact akG ha
 | some x =>
  refine h (m.getD i []) ?_ x (List.mem_of_getElem? e);rw[List.getD_eq_getElem?_getD] at e ⊢;cases e2:m[i]? with
  | none=>rw[e2] at e; simp at e
  | some l=>exact List.mem_of_getElem? e2
theorem aha {m:List (List Rat)} {a:Nat} (ha:1≤a) (h:∀ l∈m,∀ x∈l,Lo a x):∀ (l:List (Int×Int)) (B:Nat) (acc:Rat),Lo B acc→Lo (B*a ^ l.length) ((l.map fun s=>(m.getD s.1.toNat []).getD s.2.toNat 0).foldl (· * ·) acc)
 | [],B,acc,hB=>by rw[List.length_nil,Nat.pow_zero,Nat.mul_one]; exact hB
 | s :: l,B,acc,hB=>by
  have:=aha ha h l _ _ (hB.mul (akH ha h s.1.toNat s.2.toNat));rw[List.length_cons,Nat.pow_succ,Nat.mul_comm (a ^ l.length) a,← Nat.mul_assoc];exact this
theorem abQ (L:List Int) (a k:Nat):∀ x∈eF (dS L a k).1,k≤10→Lo 30 x:=by
 intro x hx hk;have hl:=iW L a k;have hin:=rV L a k;generalize (dS L a k).1=d at *;have hs:∀ (d:List Int) (b:Int),(∀ x∈d,0≤x∧x≤3)→b≤d.foldl (· + ·) b∧d.foldl (· + ·) b≤b+3*d.length:=by
  intro d;induction d with
  | nil=>intro b _; simp
  | cons y d ih =>
   intro b h;have h1:=ih (b+y) fun x hx=>h x (List.mem_cons_of_mem _ hx)
   have h2:=h y aB;rw[List.foldl_cons,List.length_cons];omega
 have h1:=hs d 0 hin;unfold eF at hx;split at hx
 ·obtain⟨y,hy,rfl⟩:=List.mem_map.1 hx;have:=List.length_pos_of_mem hy;exact afh byOmega ay byOmega
 ·rename_i h0
  obtain⟨y,hy,rfl⟩:=List.mem_map.1 hx;have h2:=hin y hy;have e:d.foldl (· + ·) 0=pW d:=rfl;rw[e] at h1;exact afh byOmega byOmega byOmega
theorem vK (L:List Int) (a:Nat) {I:List Inf} (hI:∀ i∈I,i.actions≤10):∀ k,k≤I.length→∀ l∈(fZ L a I k).1,∀ x∈l,Lo 30 x
 | 0,_,l,h=>by cases h
 | k+1,hk,l,h=>by
  unfold fZ at h;simp only at h;rcases List.mem_append.1 h with h | h
  ·exact vK L a hI k byOmega l h
  ·rw[List.mem_singleton.1 h];intro x hx;obtain⟨i,hi⟩:=getSome (l:=I) (k:=k) byOmega;have:=hI i (List.mem_of_getElem? hi);refine abQ _ _ _ x hx ?_;rw[List.getD_eq_getElem?_getD,hi,Option.getD_some];omega
theorem yt (L:List Int) (a:Nat) {g:Gm} (hI:∀ i∈g.infos,1≤i.actions∧i.actions≤10):∀ l∈yT L a g,∀ x∈l,Lo 30 x :=
 vK L a (fun i hi=>(hI i hi).2) _ (Nat.le_refl _)
section
variable {g:Gm} {m:List (List Rat)} (hf:bJ g=0) (hp:lX g=0) (hd:∀ (pl:Int) (i:Nat) (n:Nd),g.nodes[i]? = some n→n.kind=2→(jl g pl i).length < 5) (hr:AL g m) (hs:∀ l∈m,∀ x∈l,Lo 30 x)
include hf hp hd hr hs
theorem y8 {k:Nat} {s:Int×Int} (h:(aN g)[k]? = some s):Lo (30 ^ 4) (dZ (aT (aN g) m) s):=by
 have hk:k < g.infos.length:=by have:=lt_of_get h;rwa [cO] at this
 rw[qA hk] at h;cases h;obtain⟨n,hn,hkd,_⟩:=kS hf hk;rw[afg hf hp (uq (hr.qR hf)) _ _ (iJ g k) (Nat.le_refl _) (lt_of_get hn)];have h1:=hd (g.infos.getD k default).aF _ n hn hkd;have h2:=aha ay hs (jl g (g.infos.getD k default).aF (iJ g k)) 1 1 (ajS (Nat.le_refl _));refine h2.mono ?_;rw[Nat.one_mul];exact Nat.pow_le_pow_right ay byOmega
theorem abr:∀ l∈aT (aN g) m,∀ x∈l,Lo (30 ^ 5) x:=by
 intro l hl x hx;refine zbQ ?_;intro k hk;have hft:=uq (hr.qR hf);refine zcV ?_;intro hkm;obtain⟨row,hrow⟩:=getSome (l:=m) (k:=k) hkm;obtain⟨s,hs'⟩:=getSome (l:=aN g) (k:=k) (by rw[hft.len]; exact hkm);rw[abp hf hr hrow hs'] at hk;cases hk;obtain⟨y,hy,rfl⟩:=List.mem_map.1 hx;exact(y8 hf hp hd hr hs hs').mul (hs row (List.mem_of_getElem? hrow) y hy)
end
theorem abt (s t:Rat):∀ (l m:List Rat),m.length=l.length→fQ (List.zipWith (fun a b=>a*s+b*t) l m)=fQ l*s+fQ m*t
 | [],[],_=>by show(0:Rat)=0*s+0*t; rw[Rat.zero_mul,Rat.zero_mul,Rat.add_zero]
 | [],_ :: _,h=>by simp at h
 | _ :: _,[],h=>by simp at h
 | a :: l,b :: m,h=>by
  have ih:=abt s t l m (by simpa using h);have sc:∀ (x:Rat) (l:List Rat),fQ (x :: l)=x+fQ l:=fun x l=>by
   have H:∀ (l:List Rat) (a b:Rat),l.foldl (· + ·) (a+b)=a+l.foldl (· + ·) b:=by
    intro l;induction l with
    | nil=>intro a b; rfl
    | cons x l ih=>intro a b; rw[List.foldl_cons,List.foldl_cons,Rat.add_assoc,ih]
   have e:fQ (x :: l)=l.foldl (· + ·) (0+x):=rfl;rw[e,Rat.add_comm,H];rfl
  rw[List.zipWith_cons_cons,sc,sc,sc,ih,Rat.add_mul,Rat.add_mul];simp only[Rat.add_assoc];congr 1;simp only[← Rat.add_assoc];rw[Rat.add_comm (b*t)]
theorem ajT (f:Rat→Rat→Rat) (h0:f 0 0=0) {l m:List Rat} (h:m.length=l.length) (j:Nat):(List.zipWith f l m).getD j 0=f (l.getD j 0) (m.getD j 0):=by
 rw[List.getD_eq_getElem?_getD,List.getD_eq_getElem?_getD,List.getD_eq_getElem?_getD,List.getElem?_zipWith];by_cases hj:j < l.length
 ·obtain⟨x,hx⟩:=getSome hj;obtain⟨y,hy⟩:=getSome (l:=m) (k:=j) byOmega;rw[hx,hy];rfl
 ·rw[List.getElem?_eq_none (l:=l) byOmega,List.getElem?_eq_none (l:=m) byOmega];exact h0.symm
theorem afi {p q:List (List Rat)} (hl:q.length=p.length) (hrow:∀ (k:Nat) (l m:List Rat),p[k]? = some l→q[k]? = some m→m.length=l.length) (s t:Rat) (i j:Nat):((bP p q s t).getD i []).getD j 0=(p.getD i []).getD j 0*s+(q.getD i []).getD j 0*t:=by
 have h0:(fun a b:Rat=>a*s+b*t) 0 0=0:=by show(0:Rat)*s+0*t=0;rw[Rat.zero_mul,Rat.zero_mul,Rat.add_zero]
 have e:∀ {a:List (List Rat)} {r:List Rat},a[i]? = some r→a.getD i []=r:=fun h=>by rw[List.getD_eq_getElem?_getD,h];rfl
 by_cases hi:i < p.length
 ·obtain⟨x,hx⟩:=getSome hi;obtain⟨y,hy⟩:=getSome (l:=q) (k:=i) byOmega;have hm:(bP p q s t)[i]? = some (List.zipWith (fun a b=>a*s+b*t) x y):=by unfold bP;rw[List.getElem?_zipWith,hx,hy]
  rw[e hm,e hx,e hy];exact ajT _ h0 (hrow i x y hx hy) j
 ·have e1:∀ {a:List (List Rat)},a.length≤i→a.getD i [] = []:=fun h=>by rw[List.getD_eq_getElem?_getD,List.getElem?_eq_none h];rfl
  rw[e1 (by unfold bP; rw[List.length_zipWith]; omega),e1 (a:=p) byOmega,e1 (a:=q) byOmega];exact h0.symm
theorem adL {p q:List (List Rat)} (hl:q.length=p.length) (hrow:∀ (k:Nat) (l m:List Rat),p[k]? = some l→q[k]? = some m→m.length=l.length) (s t:Rat) (hst:s+t=1) (c:Int×Int):dZ (bP p q s t) c=dZ p c*s+dZ q c*t:=by
 unfold dZ;split
 ·rw[Rat.one_mul,Rat.one_mul,hst]
 ·exact afi hl hrow s t _ _
theorem oU {p q:List (List Rat)} {s t:Rat} {k:Nat} {x:List Rat} (h:(bP p q s t)[k]? = some x):∃ l m,p[k]? = some l∧q[k]? = some m∧x=List.zipWith (fun a b=>a*s+b*t) l m:=by
 unfold bP at h;rw[List.getElem?_zipWith] at h;cases ha:p[k]? with
 | none=>rw[ha] at h; cases q[k]? <;> simp at h
 | some l =>
  cases hb:q[k]? with
  | none=>rw[ha,hb] at h; simp at h
  | some m =>
   rw[ha,hb] at h;simp only[Option.some.injEq] at h;exact⟨l,m,rfl,rfl,h.symm⟩
theorem Bz.mix {g:Gm} {p q:List (List Rat)} (h1:Bz g p) (h2:Bz g q) {t:Rat} (ht0:0≤t) (ht1:t≤1) (hfit:∀ l∈bP p q (1 - t) t,∀ x∈l,rl x≤1000):Bz g (bP p q (1 - t) t):=by
 have hl:q.length=p.length:=by rw[h1.len,h2.len]
 have hrow:∀ (k:Nat) (l m:List Rat),p[k]? = some l→q[k]? = some m→m.length=l.length:=fun k l m e1 e2=>by
  obtain⟨inf,hi⟩:=getSome (l:=g.infos) (k:=k) (by have:=lt_of_get e1; have:=h1.len; omega);have a1:=h1.acts k l inf e1 hi;have a2:=h2.acts k m inf e2 hi;omega
 have hst:1 - t+t=1:=Rat.sub_add_cancel;have hs0:0≤1 - t:=by
  exact(Rat.le_iff_sub_nonneg t 1).1 ht1
 refine⟨by unfold bP; rw[List.length_zipWith,hl,Nat.min_self,h1.len],fun k x inf hx hi=>?_,fun x hx y hy=>?_,hfit,fun k x s hx hs=>?_,fun k s hs=>?_⟩
 ·obtain⟨l,m,e1,e2,rfl⟩:=oU hx;have a1:=h1.acts k l inf e1 hi;have a2:=hrow k l m e1 e2;rw[List.length_zipWith];omega
 ·obtain⟨k,hk⟩:=List.getElem?_of_mem hx;obtain⟨l,m,e1,e2,rfl⟩:=oU hk;obtain⟨a,ha,b,hb,rfl⟩:=adC hy;have nn:∀ {x:Rat},dF x=false→0≤x:=fun {x} h=>by
   unfold dF at h;exact Rat.num_nonneg.1 (by have:=of_decide_eq_false h; omega)
  have b1:=nn (h1.pos l (List.mem_of_getElem? e1) a ha);have b2:=nn (h2.pos m (List.mem_of_getElem? e2) b hb);exact adl (Rat.add_nonneg (Rat.mul_nonneg b1 hs0) (Rat.mul_nonneg b2 ht0))
 ·obtain⟨l,m,e1,e2,rfl⟩:=oU hx;rw[abt _ _ _ _ (hrow k l m e1 e2),h1.sum k l s e1 hs,h2.sum k m s e2 hs,adL hl hrow _ _ hst]
 ·rcases h1.up k s hs with h | ⟨a1,a2,a3,a4⟩
  ·exact .inl h
  ·refine .inr ⟨a1,a2,a3,?_⟩;have hk:=lt_of_get hs;rw[cO] at hk;obtain⟨l,e1⟩:=getSome (l:=p) (k:=s.1.toNat) (by have:=h1.len; omega);obtain⟨m,e2⟩:=getSome (l:=q) (k:=s.1.toNat) (by have:=h2.len; omega);have hm:(bP p q (1 - t) t)[s.1.toNat]? = some (List.zipWith (fun a b=>a*(1 - t)+b*t) l m):=by unfold bP;rw[List.getElem?_zipWith,e1,e2]
   have a5:=hrow _ l m e1 e2;rw[List.getD_eq_getElem?_getD,e1,Option.getD_some] at a4;rw[List.getD_eq_getElem?_getD,hm,Option.getD_some,List.length_zipWith];omega
theorem wO:∀ {l:List Rat},(∀ x∈l,0≤x)→0≤fQ l∧∀ x∈l,x≤fQ l:=by
 intro l;have key:∀ (l:List Rat) (a:Rat),(∀ x∈l,0≤x)→a≤l.foldl (· + ·) a∧∀ x∈l,a+x≤l.foldl (· + ·) a:=by
  intro l;induction l with
  | nil=>intro a _; exact⟨Rat.le_refl,fun _ h=>by cases h⟩
  | cons y l ih =>
   intro a h;obtain⟨h1,h2⟩:=ih (a+y) fun x hx=>h x (List.mem_cons_of_mem _ hx)
   have hy:=h y aB;have h3:a≤a+y:=by
    have:=Rat.add_le_add_left (c:=a) |>.2 hy
    rwa [Rat.add_zero] at this
   rw[List.foldl_cons];refine⟨Rat.le_trans h3 h1,fun x hx=>?_⟩;rcases List.mem_cons.1 hx with rfl | hx
   ·exact h1
   ·refine Rat.le_trans ?_ (h2 x hx);rw[Rat.add_assoc,Rat.add_comm y x,← Rat.add_assoc];have:=Rat.add_le_add_left (c:=a+x) |>.2 hy
    rwa [Rat.add_zero] at this
 intro h;obtain⟨h1,h2⟩:=key l 0 h;exact⟨h1,fun x hx=>by have:=h2 x hx; rwa [Rat.zero_add] at this⟩
theorem alK {x:Rat} (h:0≤x):0≤x⁻¹:=by
 rcases Rat.le_iff_lt_or_eq.1 h with h | h
 ·exact Rat.le_of_lt (Rat.inv_pos.2 h)
 ·rw[← h,Rat.inv_zero];exact Rat.le_refl
theorem ajU {g:Gm} {M:List (List Rat)} (h:Bz g M):∀ l∈M,∀ x∈l,0≤x:=fun l hl x hx=>by
 have:=h.pos l hl x hx;unfold dF at this;exact Rat.num_nonneg.1 (by have:=of_decide_eq_false this; omega)
theorem ahb {g:Gm} {M:List (List Rat)} (h:Bz g M):∀ k,k≤M.length→dD (aN g) (dh M) k=M.take k
 | 0,_=>rfl
 | k+1,hk=>by
  obtain⟨l,hl⟩:=getSome (l:=M) (k:=k) byOmega;obtain⟨s,hs⟩:=getSome (l:=aN g) (k:=k) (by rw[cO,← h.len]; omega);rw[dD,ahb h k byOmega,take_snoc hl];refine congrArg (fun x=>M.take k ++ [x]) ?_;have e:(aN g).getD k (-1,-1)=s:=by rw[List.getD_eq_getElem?_getD,hs]; rfl
  have e2:(dh M).getD k []=jW l:=by unfold dh; rw[List.getD_eq_getElem?_getD,List.getElem?_map,hl]; rfl
  have e3:dZ (M.take k) s=fQ l:=by
   rw[h.sum k l s hl hs];unfold dZ;by_cases h0:s.1 < 0
   ·rw[if_pos h0,if_pos h0]
   ·rw[if_neg h0,if_neg h0];have:=h.up k s hs;rw[List.getD_eq_getElem?_getD (l:=M.take k),List.getElem?_take,if_pos byOmega,← List.getD_eq_getElem?_getD]
  rw[e,e2,e3];unfold jW;split
  ·rename_i hz
   have hpos:=ajU h l (List.mem_of_getElem? hl);have hle:=(wO hpos).2;rw[hz] at hle ⊢;have e4:l=List.replicate l.length 0:=List.eq_replicate_iff.2 ⟨rfl,fun x hx=>Rat.le_antisymm (hle x hx) (hpos x hx)⟩;have hz2:∀ r:List Rat,(r.map fun x=>(0:Rat)*x)=List.replicate r.length 0:=fun r=>by
    rw[List.eq_replicate_iff];refine⟨aB,fun b hb=>?_⟩;obtain⟨y,_,rfl⟩:=List.mem_map.1 hb;exact Rat.zero_mul y
   rw[hz2];unfold iR;rw[List.length_replicate,← e4]
  ·rename_i hz
   rw[List.map_map];conv=>rhs;rw[← List.map_id l]
   refine List.map_congr_left fun x _=>?_
   show fQ l*(x / fQ l)=x;rw[Rat.div_def,Rat.mul_comm,Rat.mul_assoc,Rat.inv_mul_cancel _ hz,Rat.mul_one]
theorem ain {g:Gm} {M:List (List Rat)} (h:Bz g M):aT (aN g) (dh M)=M:=by
 have e:(dh M).length=M.length:=by unfold dh;rw[List.length_map]
 have:=ahb h M.length (Nat.le_refl _);rw[List.take_of_length_le (Nat.le_refl _)] at this;unfold aT;rw[e];exact this
theorem ajV (s:Rat) (l:List Rat):fQ (l.map (· / s))=fQ l / s:=by
 have e:l.map (· / s)=l.map fun x=>s⁻¹*x:=List.map_congr_left fun x _=>by rw[Rat.div_def,Rat.mul_comm]
 rw[e,wM,Rat.div_def,Rat.mul_comm]
theorem aio {g:Gm} {M:List (List Rat)} (hI:∀ i∈g.infos,1≤i.actions∧i.actions≤10) (h:Bz g M) {B:Nat} (hB:B*B < LB ^ 4) (hx:∀ l∈M,∀ x∈l,Lo B x) (hs:∀ l∈M,Lo B (fQ l)):AL g (dh M):=by
 refine⟨by unfold dh; rw[List.length_map,h.len],fun k i l hi hl=>?_⟩;unfold dh at hl;rw[List.getElem?_map] at hl;obtain⟨r,hr,rfl⟩:=Option.map_eq_some_iff.1 hl;have hrm:=List.mem_of_getElem? hr;have ha:=h.acts k r i hr hi;have hia:=hI i (List.mem_of_getElem? hi);have hpos:=ajU h r hrm;unfold jW;split
 ·have:=acJ (n:=r.length) byOmega byOmega;rwa [ha] at this
 ·rename_i hz
  have hsum:fQ (r.map (· / fQ r))=1:=by rw[ajV,Rat.div_def,Rat.mul_inv_cancel _ hz]
  have hsp:0≤(fQ r)⁻¹:=alK (wO hpos).1;have hnn:∀ x∈r.map (· / fQ r),0≤x:=fun x hx'=>by
   obtain⟨y,hy,rfl⟩:=List.mem_map.1 hx';rw[Rat.div_def];exact Rat.mul_nonneg (hpos y hy) hsp
  refine⟨by rw[List.length_map]; exact ha,hsum,fun x hx'=>⟨?_,hnn x hx',?_⟩⟩
  ·obtain⟨y,hy,rfl⟩:=List.mem_map.1 hx';rw[Rat.div_def];exact((hx r hrm y hy).mul ((hs r hrm).inv hz)).rl hB
  ·have:=(wO hnn).2 x hx';rwa [hsum] at this
structure Ec (g:Gm) (x y:List (List Rat)) (t:Rat):Prop where
 plan:Bz g (bP (aT (aN g) x) (aT (aN g) y) (1 - t) t)
 rows:AL g (dh (bP (aT (aN g) x) (aT (aN g) y) (1 - t) t))
 same:aT (aN g) (dh (bP (aT (aN g) x) (aT (aN g) y) (1 - t) t))=bP (aT (aN g) x) (aT (aN g) y) (1 - t) t
theorem aip {g:Gm} {x y:List (List Rat)} {t:Rat} (hf:bJ g=0) (hp:lX g=0) (hsm:Small g) (hI:∀ i∈g.infos,1≤i.actions∧i.actions≤10) (hd:∀ (pl:Int) (i:Nat) (n:Nd),g.nodes[i]? = some n→n.kind=2→(jl g pl i).length < 5)
  (hx:AL g x) (hxs:∀ l∈x,∀ a∈l,Lo 30 a) (hy:AL g y) (hys:∀ l∈y,∀ a∈l,Lo 30 a) (ht0:0≤t) (ht1:t≤1) (ht:Lo 9 t):Ec g x y t:=by
 have p1:=yj hf hx hsm;have p2:=yj hf hy hsm;have l1:=abr hf hp hd hx hxs;have l2:=abr hf hp hd hy hys;have hst:Lo 18 (1 - t):=by
  rw[Rat.sub_eq_add_neg];exact(ajS (Nat.le_refl 1)).add ht.neg
 have ak1:∀ a b:Rat,Lo (30 ^ 5) a→Lo (30 ^ 5) b→Lo (2*(30 ^ 5*18*(30 ^ 5*9))) (a*(1 - t)+b*t):=fun a b ha hb=>(ha.mul hst).add (hb.mul ht)
 have hM:∀ l∈bP (aT (aN g) x) (aT (aN g) y) (1 - t) t,∀ a∈l,Lo (2*(30 ^ 5*18*(30 ^ 5*9))) a:=by
  intro l hl a ha;refine zbQ ?_;intro k hk;obtain⟨u,v,e1,e2,rfl⟩:=oU hk;obtain⟨b,hb,c,hc,rfl⟩:=adC ha;exact ak1 b c (l1 u (List.mem_of_getElem? e1) b hb) (l2 v (List.mem_of_getElem? e2) c hc)
 have hok:=p1.mix p2 ht0 ht1 fun l hl a ha=>Nat.le_trans ((hM l hl a ha).rl (by decide +kernel)) ay
 have hS:∀ l∈bP (aT (aN g) x) (aT (aN g) y) (1 - t) t,Lo (2*(30 ^ 5*18*(30 ^ 5*9))) (fQ l):=by
  intro l hl;refine zbQ ?_;intro k hk;obtain⟨u,v,e1,e2,rfl⟩:=oU hk;obtain⟨s,hs⟩:=getSome (l:=aN g) (k:=k) (by have:=lt_of_get e1; rw[p1.len] at this; rw[cO]; exact this);have hlen:v.length=u.length:=by
   obtain⟨inf,hi⟩:=getSome (l:=g.infos) (k:=k) (by have:=lt_of_get e1; have:=p1.len; omega);have a1:=p1.acts k u inf e1 hi;have a2:=p2.acts k v inf e2 hi;omega
  rw[abt _ _ _ _ hlen,p1.sum k u s e1 hs,p2.sum k v s e2 hs];exact ak1 _ _ ((y8 hf hp hd hx hxs hs).mono ay) ((y8 hf hp hd hy hys hs).mono ay)
 exact⟨hok,aio hI hok (by decide +kernel) hM hS,ain hok⟩
theorem adM {g:Gm} {x y:List (List Rat)} {t:Rat} {M:List (List Rat)} (hf:bJ g=0) (hp:lX g=0) (hx:AL g x) (hy:AL g y) (ht0:0≤t) (ht1:t≤1) (hrl:rl t≤1024) (hM:bP (aT (aN g) x) (aT (aN g) y) (1 - t) t=M) (hm:AL g (dh M)) :
  ae4 g (x.map (List.map aC)) (y.map (List.map aC)) (aC t)=0∧uy g (x.map (List.map aC)) (y.map (List.map aC)) (aC t)=(dh M).map (List.map aC):=by
 have h0:sF g (x.map (List.map aC)) (y.map (List.map aC)) (aC t)=0:=by
  unfold sF;rw[if_neg (by rw[hx.qR hf]; decide),if_neg (by rw[lF (hy.qR hf)]; decide),if_neg (by rw[acz hrl ht0 ht1]; decide),hp]
 have h1:zZ g (x.map (List.map aC)) (y.map (List.map aC)) (aC t)=dh M:=by
  unfold zZ;rw[ny,ny,nI,hM]
 have h2:kR (dh M).flatten=0:=kT fun a ha=>by
  obtain⟨l,hl,hal⟩:=List.mem_flatten.1 ha;refine zbQ ?_;intro k hk;obtain⟨_,_,ho⟩:=hm.row hk;have:=(ho.2.2 a hal).1;omega
 refine⟨?_,?_⟩
 ·unfold ae4;rw[h0,if_neg ay,h1,h2]
 ·unfold uy;rw[h0,if_neg ay,h1];unfold oD;rw[h2];rfl
theorem abu {p q:List (List Rat)} (hl:q.length=p.length) (hr:∀ (k:Nat) (l m:List Rat),p[k]? = some l→q[k]? = some m→l.length≤10∧m.length=l.length) {s t:Rat} (f:Rat→Rat→Rat) (hf:∀ a b,a*s+b*t=f a b) (M:List (List Rat)) (hMl:M.length=p.length) (hM:∀ (k:Nat) (l m z:List Rat),p[k]? = some l→q[k]? = some m→M[k]? = some z→z.length=l.length∧∀ (j:Nat) (a b:Rat),l[j]? = some a→m[j]? = some b→z[j]? = some (f a b)):bP p q s t=M:=by
 refine List.ext_getElem? fun k=>?_
 unfold bP;rw[List.getElem?_zipWith];by_cases hk:k < p.length
 ·obtain⟨l,hl'⟩:=getSome hk;obtain⟨m,hm⟩:=getSome (l:=q) (k:=k) byOmega;obtain⟨z,hz⟩:=getSome (l:=M) (k:=k) byOmega;rw[hl',hm,hz];obtain⟨h1,h2⟩:=hM k l m z hl' hm hz;have h3:=(hr k l m hl' hm).2;refine congrArg some (List.ext_getElem? fun j=>?_);rw[List.getElem?_zipWith];by_cases hj:j < l.length
  ·obtain⟨a,ha⟩:=getSome hj;obtain⟨b,hb⟩:=getSome (l:=m) (k:=j) byOmega;rw[ha,hb,h2 j a b ha hb];exact congrArg some (hf a b)
  ·rw[List.getElem?_eq_none (l:=l) byOmega,List.getElem?_eq_none (l:=z) byOmega]
 ·rw[List.getElem?_eq_none (l:=p) byOmega,List.getElem?_eq_none (l:=M) byOmega]
theorem agI {p q:List (List Rat)} (hl:q.length=p.length) (hr:∀ (k:Nat) (l m:List Rat),p[k]? = some l→q[k]? = some m→l.length≤10∧m.length=l.length):bP p q (1 - 0) 0=p :=
 abu hl hr (fun a _=>a) (fun a b=>by rw[Rat.mul_zero,Rat.add_zero,show(1:Rat) - 0=1 by decide +kernel,Rat.mul_one]) p rfl fun k l m z h1 _ h3=>by
  rw[h1] at h3; cases h3;exact⟨rfl,fun j a b h _=>h⟩
theorem agJ {p q:List (List Rat)} (hl:q.length=p.length) (hr:∀ (k:Nat) (l m:List Rat),p[k]? = some l→q[k]? = some m→l.length≤10∧m.length=l.length):bP p q (1 - 1) 1=q :=
 abu hl hr (fun _ b=>b) (fun a b=>by rw[show(1:Rat) - 1=0 by decide +kernel,Rat.mul_zero,Rat.zero_add,Rat.mul_one]) q hl fun k l m z h1 h2 h3=>by
  rw[h2] at h3; cases h3;exact⟨(hr k l m h1 h2).2,fun j a b _ h=>h⟩
theorem zV {g:Gm} {m:List (List Rat)} (hI:∀ i∈g.infos,1≤i.actions∧i.actions≤10) (h:AL g m) (hl:m.length≤1000):BI (m.map (List.map aC)) :=
 abn hl fun l hl=>by
  obtain⟨k,hk⟩:=List.getElem?_of_mem hl;obtain⟨i,hi,ho⟩:=h.row hk;have h1:=ho.1;have h2:=hI i (List.mem_of_getElem? hi);exact⟨byOmega,fun a ha=>by have:=(ho.2.2 a ha).1; omega⟩
theorem aak:aC 1=⟨false,[1],[1]⟩:=by
 unfold aC;exact zcM
def knM:List (List Rat):=[[1,0],[0,1],[0,0,1]]
def knR:List (List Rat):=[[1,0],[0,1],[0,0,0]]
def knB:List (List Rat):=[[1,0],[0,1],[mkRat 1 3,mkRat 1 3,mkRat 1 3]]
def knX:List (List Rat):=[[1,0],[1,0],[1,0,0]]
def knY:List (List Rat):=[[0,1],[0,1],[0,0,1]]
def knZ:List (List Rat):=[[mkRat 3 4,mkRat 1 4],[mkRat 3 4,mkRat 1 4],[0,0,1]]
def knW:List (List Rat):=[[1,1],[1,0],[1,0,0]]
def zo:Raw:=⟨false,[],[1]⟩
def on:Raw:=⟨false,[1],[1]⟩
theorem akI:knM.map (List.map aC) = [[on,zo],[zo,on],[zo,zo,on]]:=by unfold knM on zo; simp only[List.map_cons,List.map_nil,pq,aak]
theorem akJ:knX.map (List.map aC) = [[on,zo],[on,zo],[on,zo,zo]]:=by unfold knX on zo; simp only[List.map_cons,List.map_nil,pq,aak]
theorem akK:knY.map (List.map aC) = [[zo,on],[zo,on],[zo,zo,on]]:=by unfold knY on zo; simp only[List.map_cons,List.map_nil,pq,aak]
theorem akL:knW.map (List.map aC) = [[on,on],[on,zo],[on,zo,zo]]:=by unfold knW on zo; simp only[List.map_cons,List.map_nil,pq,aak]
theorem aiq:dX bD (knM.map (List.map aC))=0:=by rw[akI]; decide +kernel
theorem air:dX bD (knX.map (List.map aC))=0:=by rw[akJ]; decide +kernel
theorem ais:dX bD (knY.map (List.map aC))=0:=by rw[akK]; decide +kernel
theorem ait:dX bD (knW.map (List.map aC))=14:=by rw[akL]; decide +kernel
theorem afj:um bD [0,1,2]=0:=by decide +kernel
theorem afk:um bD [0,0,0]=0:=by decide +kernel
theorem afl:um bD [1,1,2]=0:=by decide +kernel
theorem ajW:um bD [0,1,3]=2:=by decide +kernel
theorem ajX:um bD [0,1]=3:=by decide +kernel
theorem wP {g:Gm} {c:List Int} {m:List (List Rat)} (h:um g c=0) (hm:qF g c=m):rW g c=m.map (List.map aC):=by
 unfold rW;rw[if_neg (by rw[h]; decide),hm]
theorem akM:rW bD [0,1,2]=knM.map (List.map aC):=wP afj (by decide +kernel)
theorem akN:rW bD [0,0,0]=knX.map (List.map aC):=wP afk (by decide +kernel)
theorem akO:rW bD [1,1,2]=knY.map (List.map aC):=wP afl (by decide +kernel)
theorem ajY:ofE bD (knM.map (List.map aC))=0:=by
 unfold ofE;rw[if_neg (by rw[aiq]; decide),mY]
theorem ajZ:yg bD (knM.map (List.map aC))=knR.map (List.map aC):=by
 unfold yg;rw[if_neg (by rw[ajY]; decide),ny,lW,show aT [(-1,-1),(-1,-1),(0,1)] knM=knR by decide +kernel]
theorem akP:dh knR=knB:=by decide +kernel
theorem pU {m:List (List Rat)} (h:∀ l∈m,l.length≤3∧∀ x∈l,x=0∨x=1∨x=mkRat 1 3∨x=mkRat 1 4∨x=mkRat 3 4):∀ l∈m,l.length≤3∧∀ x∈l,rl x≤4:=fun l hl=>⟨(h l hl).1,fun x hx=>by
 rcases (h l hl).2 x hx with rfl | rfl | rfl | rfl | rfl
 ·rw[qc]; omega
 ·rw[nT]; omega
 all_goals exact Nat.le_trans (aaw ay (aS (k:=1) (by unfold LB; decide)) (aS (k:=1) (by unfold LB; decide))) ay⟩
theorem aal {m:List (List Rat)} (h:∀ l∈m,l.length≤3∧∀ x∈l,rl x≤4):kR m.flatten=0:=kT fun x hx=>by
 obtain⟨l,hl,hx⟩:=List.mem_flatten.1 hx;have:=(h l hl).2 x hx;omega
theorem yu {m:List (List Rat)} (hm:m.length≤3) (h:∀ l∈m,l.length≤3∧∀ x∈l,rl x≤4):BI (m.map (List.map aC)) :=
 abn byOmega fun l hl=>⟨by have:=(h l hl).1; omega,fun x hx=>by have:=(h l hl).2 x hx; omega⟩
theorem yw {m:List (List Rat)} (h:∀ l∈m,l.length≤3∧∀ x∈l,rl x≤4):BN (m.map (List.map aC)):=by
 intro l hl r hr;obtain⟨l',hl',rfl⟩:=List.mem_map.1 hl;obtain⟨x,hx,rfl⟩:=List.mem_map.1 hr;have h1:=(h l' hl').2 x hx;have h2:=eY x;have h3:=fA x;rw[mM];exact⟨byOmega,by show(dig x.den).length≤4; omega⟩
theorem aam {m:List (List Rat)} (h:∀ l∈m,l.length≤3∧∀ x∈l,rl x≤4):∀ l∈m.map (List.map aC),l.length≤20:=by
 intro l hl;obtain⟨l',hl',rfl⟩:=List.mem_map.1 hl;rw[List.length_map];have:=(h l' hl').1;omega
theorem aan {m:List (List Rat)} (h:∀ l∈m,l.length≤3∧∀ x∈l,rl x≤4):BF (m.map (List.map aC)):=by
 intro l hl;have h1:=aam h l hl;have h2:=yw h l hl;refine⟨byOmega,fun r hr=>?_⟩;have h3:=h2 r hr;obtain⟨l',hl',rfl⟩:=List.mem_map.1 hl;obtain⟨x,_,rfl⟩:=List.mem_map.1 hr;exact⟨rY x,byOmega,byOmega⟩
theorem aao:∀ l∈knM,l.length≤3∧∀ x∈l,rl x≤4:=pU fun l hl=>by
 unfold knM at hl;simp only[List.mem_cons,List.not_mem_nil,or_false] at hl;rcases hl with rfl | rfl | rfl <;> exact⟨ay,fun x hx=>by simp only[List.mem_cons,List.not_mem_nil,or_false] at hx; rcases hx with rfl | rfl | rfl <;> simp⟩
theorem ahc:∀ l∈knR,l.length≤3∧∀ x∈l,rl x≤4:=pU fun l hl=>by
 unfold knR at hl;simp only[List.mem_cons,List.not_mem_nil,or_false] at hl;rcases hl with rfl | rfl | rfl <;> exact⟨ay,fun x hx=>by simp only[List.mem_cons,List.not_mem_nil,or_false] at hx; rcases hx with rfl | rfl | rfl <;> simp⟩
theorem adN:∀ l∈knB,l.length≤3∧∀ x∈l,rl x≤4:=pU fun l hl=>by
 unfold knB at hl;simp only[List.mem_cons,List.not_mem_nil,or_false] at hl;rcases hl with rfl | rfl | rfl <;> exact⟨ay,fun x hx=>by simp only[List.mem_cons,List.not_mem_nil,or_false] at hx; rcases hx with rfl | rfl | rfl <;> simp⟩
theorem adO:∀ l∈knX,l.length≤3∧∀ x∈l,rl x≤4:=pU fun l hl=>by
 unfold knX at hl;simp only[List.mem_cons,List.not_mem_nil,or_false] at hl;rcases hl with rfl | rfl | rfl <;> exact⟨ay,fun x hx=>by simp only[List.mem_cons,List.not_mem_nil,or_false] at hx; rcases hx with rfl | rfl | rfl <;> simp⟩
theorem adP:∀ l∈knY,l.length≤3∧∀ x∈l,rl x≤4:=pU fun l hl=>by
 unfold knY at hl;simp only[List.mem_cons,List.not_mem_nil,or_false] at hl;rcases hl with rfl | rfl | rfl <;> exact⟨ay,fun x hx=>by simp only[List.mem_cons,List.not_mem_nil,or_false] at hx; rcases hx with rfl | rfl | rfl <;> simp⟩
theorem adQ:∀ l∈knZ,l.length≤3∧∀ x∈l,rl x≤4:=pU fun l hl=>by
 unfold knZ at hl;simp only[List.mem_cons,List.not_mem_nil,or_false] at hl;rcases hl with rfl | rfl | rfl <;> exact⟨ay,fun x hx=>by simp only[List.mem_cons,List.not_mem_nil,or_false] at hx; rcases hx with rfl | rfl | rfl <;> simp⟩
theorem akQ:∀ l∈knW,l.length≤3∧∀ x∈l,rl x≤4:=pU fun l hl=>by
 unfold knW at hl;simp only[List.mem_cons,List.not_mem_nil,or_false] at hl;rcases hl with rfl | rfl | rfl <;> exact⟨ay,fun x hx=>by simp only[List.mem_cons,List.not_mem_nil,or_false] at hx; rcases hx with rfl | rfl | rfl <;> simp⟩
theorem aiu:Bz bD knR where
 len:=by decide +kernel
 acts k l inf hl hi:=by
  have h:∀ k:Nat,k < 3→((knR.getD k []).length:Int)=(bD.infos.getD k default).actions:=by decide +kernel
  have hk:k < 3:=lt_of_get hl;have:=h k hk;rw[List.getD_eq_getElem?_getD,List.getD_eq_getElem?_getD,hl,hi] at this;exact this
 pos:=by decide +kernel
 fits l hl x hx:=by have:=(ahc l hl).2 x hx; omega
 sum k l s hl hs:=by
  have h:∀ k:Nat,k < 3→fQ (knR.getD k [])=dZ knR ((aN bD).getD k (-1,-1)):=by decide +kernel
  have hk:k < 3:=lt_of_get hl;have:=h k hk;rw[List.getD_eq_getElem?_getD,List.getD_eq_getElem?_getD,hl,hs] at this;exact this
 up k s hs:=by
  have h:∀ k:Nat,k < 3→((aN bD).getD k (-1,-1)).1 < 0∨(0≤((aN bD).getD k (-1,-1)).1∧((aN bD).getD k (-1,-1)).1 < (k:Int)∧0≤((aN bD).getD k (-1,-1)).2∧((aN bD).getD k (-1,-1)).2 < ((knR.getD ((aN bD).getD k (-1,-1)).1.toNat []).length:Int)):=by decide +kernel
  have hk:k < 3:=by have:=lt_of_get hs;rwa [lW] at this
  have:=h k hk;rw[List.getD_eq_getElem?_getD,hs] at this;exact this
theorem aj0:fJ (aC (mkRat 1 4))=0:=by
 have h:iT (aC (mkRat 1 4))=0:=wG (Nat.le_trans (aaw ay (aS (k:=1) (by unfold LB; decide)) (aS (k:=1) (by unfold LB; decide))) ay);rw[aaU _ h,if_neg];rintro(h | h)
 ·revert h; decide +kernel
 ·revert h; decide +kernel
theorem afm:sF bD (knX.map (List.map aC)) (knY.map (List.map aC)) (aC (mkRat 1 4))=0:=by
 unfold sF;rw[if_neg (by rw[air]; decide),if_neg (by rw[lF ais]; decide),if_neg (by rw[aj0]; decide),mY]
theorem ahd:zZ bD (knX.map (List.map aC)) (knY.map (List.map aC)) (aC (mkRat 1 4))=knZ:=by
 unfold zZ;rw[ny,ny,nI,lW];decide +kernel
theorem akR:ae4 bD (knX.map (List.map aC)) (knY.map (List.map aC)) (aC (mkRat 1 4))=0:=by
 unfold ae4;rw[if_neg (by rw[afm]; decide),ahd,aal adQ]
theorem aiv:uy bD (knX.map (List.map aC)) (knY.map (List.map aC)) (aC (mkRat 1 4))=knZ.map (List.map aC):=by
 unfold uy oD;rw[if_neg (by rw[afm]; decide),ahd,if_neg (by rw[aal adQ]; decide)]
end Go.Proofs.YtnmeejofpkhlkaaGreatDoor
