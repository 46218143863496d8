/- Games that numbers select have perfect recall: plain law. -/
import Derived.Test.YthmklhapjegfdaaGreatDoorP39
import Derived.Sort.CutIn
import Derived.Test.YthmklhapjegfdaaGreatDoorP37
import Derived.Test.YthmklhapjegfdaaGreatDoorP35
set_option linter.all false
set_option maxRecDepth 100000
set_option maxHeartbeats 12800000
namespace Go.Proofs.YthmklhapjegfdaaGreatDoor
open Lib renaming hid → Af
open Go.RowKit
def VD (V:List View):Prop:=∀ (x y:Nat) (v w:View),V[x]? = some v→V[y]? = some w→v.aC=w.aC→v.level=w.level→v.seen=w.seen→x=y
theorem VD.sub {V W:List View} (h:VD V) (hW:∀ (x:Nat) (v:View),W[x]? = some v→V[x]? = some v):VD W:=fun x y v w hx hy=>h x y v w (hW x v hx) (hW y w hy)
theorem VD.push {V:List View} {q:View} (h:VD V) (hq:V.find? (dG q.aC q.level q.seen)=none):VD (V ++ [q]):=by
 have hno:∀ v∈V,¬ (v.aC=q.aC∧v.level=q.level∧v.seen=q.seen):=fun v hv he=>by
  have:=List.find?_eq_none.1 hq v hv;apply this;unfold dG;simp[he.1,he.2.1,he.2.2]
 have cut:∀ (x:Nat) (v:View),(V ++ [q])[x]? = some v→V[x]? = some v∨(x=V.length∧v=q):=fun x v hx=>by
  by_cases hl:x < V.length
  ·rw[List.getElem?_append_left hl] at hx;exact .inl hx
  ·rw[List.getElem?_append_right byOmega] at hx;have e:x - V.length < 1:=aJ hx;have e2:x - V.length=0:=byOmega;rw[e2] at hx;exact .inr ⟨byOmega,by simpa using hx.symm⟩
 intro x y v w hx hy h1 h2 h3;rcases cut x v hx with a1 | ⟨a1,a2⟩ <;> rcases cut y w hy with b1 | ⟨b1,b2⟩
 ·exact h x y v w a1 b1 h1 h2 h3
 ·exact absurd (by rw[← b2]; exact⟨h1,h2,h3⟩) (hno v (List.mem_of_getElem? a1))
 ·exact absurd (by rw[← a2]; exact⟨h1.symm,h2.symm,h3.symm⟩) (hno w (List.mem_of_getElem? b1))
 ·omega
section
variable {C:MC}
theorem aii {aC level:Int} {seen:List Int} {s:MS} (h:VD s.views):VD (jc C aC level seen s).2.views:=by
 unfold jc;cases hf:s.views.find? (dG aC level seen) with
 | some v=>exact h
 | none=>exact VD.push (q:=⟨aC,level,seen,_⟩) h hf
theorem aij {info aC:Int} {s:MS} (h:VD s.views):VD (jC info aC s).views:=by
 unfold jC;split
 ·exact h
 split
 ·exact h
 refine h.sub fun x v hx=>?_
 have hx:s.views.dropLast[x]? = some v:=hx;rw[List.dropLast_eq_take,List.getElem?_take] at hx;split at hx
 ·exact hx
 ·cases hx
theorem aik {p:Place} {level:Int} {seen:List (List Int)} {s:MS} (h:VD s.views):VD (jY C p level seen s).2.2.views:=by
 unfold jY;split
 ·exact h
 ·exact aii h
theorem acE {i:Nat} {s:MS} (h:VD s.views):VD (lZ C i s).views:=by
 obtain⟨a,n,e⟩:=abr C i s;rw[e];exact h
theorem afJ {rec:List (List Int)→MS→Nat×MS} {p:Place} {seen:List (List Int)} (hrec:∀ sn s,VD s.views→VD (rec sn s).2.views):∀ (k:Nat) (s:MS),VD s.views→VD (dh C rec p seen k s).s.views
 | 0,s,h=>h
 | k+1,s,h=>by
  have ih:=afJ (p:=p) (seen:=seen) hrec k s h;have e:(dh C rec p seen (k+1) s).s=(rec (fQ p k seen) (if p.aC < 0 then ((dh C rec p seen k s).weights ++ [1+((dh C rec p seen k s).s.draw C 3).1],((dh C rec p seen k s).s.draw C 3).2) else ((dh C rec p seen k s).weights,(dh C rec p seen k s).s)).2).2:=rfl;rw[e];refine hrec _ _ ?_;split
  ·exact ih
  ·exact ih
theorem ad4:∀ (f level:Nat) (seen:List (List Int)) (s:MS),VD s.views→VD (bM C f level seen s).2.views
 | 0,_,_,s,h=>h
 | f+1,level,seen,s,h=>by
  unfold bM;simp only;split
  ·exact acE h
  split
  ·exact acE (s:=(MS.draw C { s with pending:=s.pending - 1,nodes:=s.nodes ++ [jf] } 8).2) h
  have ho:=aik (C:=C) (p:=C.levels.getD level default) (level:=(level:Int)) (seen:=seen) (s:=(MS.draw C { s with pending:=s.pending - 1,nodes:=s.nodes ++ [jf] } 8).2) h;split
  ·exact acE (aij ho)
  ·exact afJ (C:=C) (fun sn t ht=>ad4 f (level+1) sn t ht) _ _ ho
end
def ad5 (C:MC) (V:List View) (pl:Nat) (s:List Int):Nat→List (Int×Int)
 | 0=>[]
 | l+1=>ad5 C V pl s l++(if (C.levels.getD l default).aC=(pl:Int) then [(((V.find? (dG pl (l:Int) (s.take l))).map View.info).getD 0,s.getD l 0)] else [])
theorem ad6 {C:MC} {V:List View} {pl:Nat} {s t:List Int}:∀ {l:Nat},l≤s.length→ad5 C V pl (s++t) l=ad5 C V pl s l
 | 0,_=>rfl
 | l+1,h=>by
  have e:(s++t).getD l 0=s.getD l 0:=by rw[List.getD_eq_getElem?_getD,List.getElem?_append_left byOmega,← List.getD_eq_getElem?_getD]
  rw[ad5,ad5,ad6 byOmega,List.take_append_of_le_length byOmega,e]
theorem agR {V:List View} (hv:VD V) {x:Nat} {pl l:Int} {s:List Int} {i:Int} (hx:V[x]? = some ⟨pl,l,s,i⟩):V.find? (dG pl l s)=some ⟨pl,l,s,i⟩:=by
 cases hf:V.find? (dG pl l s) with
 | none =>
  have:=List.find?_eq_none.1 hf _ (List.mem_of_getElem? hx);exfalso;apply this;unfold dG;simp
 | some v =>
  have hm:=List.mem_of_find?_eq_some hf;have hs:=List.find?_some hf;unfold dG at hs;simp only[Bool.and_eq_true,decide_eq_true_eq] at hs;obtain⟨y,hy⟩:=List.getElem?_of_mem hm;have e:=hv y x v _ hy hx hs.1.1 hs.1.2 hs.2;subst e;rw[hx] at hy;exact congrArg _ (Option.some.inj hy).symm
theorem afl {p:Place} {i pl:Nat} {seen:List (List Int)} (h:pl < seen.length):(fQ p i seen).getD pl []=seen.getD pl [] ++ [if (pl:Int)=p.aC∨(p.seen.toNat >>> pl) % 2=1 then (i:Int) else -1]:=by
 unfold fQ;rw[List.getD_eq_getElem?_getD,List.getElem?_mapIdx,List.getElem?_eq_getElem h,List.getD_eq_getElem?_getD,List.getElem?_eq_getElem h];rfl
theorem acF {p:Place} {i:Nat} {seen:List (List Int)}:(fQ p i seen).length=seen.length:=by unfold fQ; simp
def Rts (g:Gm) (C:MC) (V:List View) (P pl level:Nat) (ss:List (List (List Int))) (cs:List Int):Prop :=
 ∀ (k:Nat) (seen:List (List Int)) (c:Int),ss[k]? = some seen→cs[k]? = some c→seen.length=P∧(∀ l∈seen,l.length=level)∧kM g pl c.toNat=ad5 C V pl (seen.getD pl []) level
theorem Bt.ways {g:Gm} (hg:Good g) {C:MC} {V:List View} (hv:VD V) {P pl:Nat} (hpl:pl < P) {level a b:Nat} {ss:List (List (List Int))} {cs:List Int} (h:Bt C V g.infos g.nodes level ss cs a b):Rts g C V P pl level ss cs →
  ∀ (i:Nat) (n:Nd),a≤i→i < b→g.nodes[i]? = some n→n.kind=2→∃ l seen,Dj C V g.infos l seen n∧kM g pl i=ad5 C V pl (seen.getD pl []) l:=by
 induction h with
 | nil level a=>intro _ i n h1 h2; omega
 | @fin level a b n0 seen ss cs hn he hr ih =>
  intro hR i n h1 h2 hi hk;by_cases e:i=a
  ·subst e;rw[hn] at hi;cases hi;have:=he.1;omega
  ·exact ih (fun k s c hs hc=>hR (k+1) s c hs hc) i n byOmega h2 hi hk
 | @mid level a m b n0 seen ss cs hn hm hk hr ih1 ih2 =>
  intro hR i n h1 h2 hi hkd;obtain⟨r1,r2,r3⟩:=hR 0 seen a rfl rfl;rw[Int.toNat_natCast] at r3;by_cases e:i=a
  ·subst e;rw[hn] at hi;cases hi;exact⟨level,seen,hm,r3⟩
  by_cases e2:i < m
  ·refine ih1 (fun k s c hs hc=>?_) i n byOmega e2 hi hkd;have hkl:=aJ hc;rw[List.getElem?_map,List.getElem?_range hkl] at hs;cases hs;have hmem:=List.mem_of_getElem? hc;have hqc:=hg.span.kids a n0 (Nat.zero_le _) (aJ hn) hn _ hmem;obtain⟨d,rfl⟩:∃ d:Nat,c=(d:Int):=⟨c.toNat,byOmega⟩;have hd:d < g.nodes.length:=byOmega;have hpd:=lT hg hd hn hmem;rw[Int.toNat_natCast];refine⟨by rw[acF,r1],sQ r2,?_⟩;have hsl:(seen.getD pl []).length=level:=by
    rw[List.getD_eq_getElem?_getD,List.getElem?_eq_getElem byOmega];exact r2 _ (List.getElem_mem _)
   rw[acW hg hd hpd hn byOmega,r3,afl byOmega,ad5,ad6 byOmega,List.take_append_of_le_length byOmega,List.take_of_length_le byOmega];congr 1;obtain⟨_,_,_,_,m5⟩:=hm;rcases m5 with⟨p0,k1,_⟩ | ⟨p0,k1,k2,_,x,k3,_,k5⟩
   ·rw[mP byOmega,if_neg byOmega];rfl
   ·by_cases hp:n0.aC=(pl:Int)
    ·rw[rV hg hn ⟨k1,hp⟩ hc,if_pos byOmega];rw[hp,Int.toNat_natCast] at k5;have e3:(seen.getD pl [] ++ [if (pl:Int)=(C.levels.getD level default).aC∨((C.levels.getD level default).seen.toNat >>> pl) % 2=1 then (k:Int) else -1]).getD level 0=(k:Int):=by
      rw[List.getD_eq_getElem?_getD,List.getElem?_append_right byOmega,hsl,Nat.sub_self,if_pos (.inl byOmega)];rfl
     rw[e3,agR hv k5,k3];rfl
    ·rw[mP byOmega,if_neg byOmega];rfl
  ·exact ih2 (fun k s c hs hc=>hR (k+1) s c hs hc) i n byOmega h2 hi hkd
theorem ail (L:List Int) {aA most:Int} (zero:Bool) (hp:1≤aA) (hm:1≤most):∃ C V,VD V∧Bt C V (oU L aA most zero).infos (oU L aA most zero).nodes 0 [List.replicate aA.toNat []] [(0:Int)] 0 (oU L aA most zero).nodes.length:=by
 refine ZM ?_;intro hl hpl hd hC hJ h1 h2 h3;exact⟨_,_,ad4 (C:=⟨L,(dP L aA (1+cO L 0 5).toNat (bY L 0)).1,aA,most,zero⟩) ((1+cO L 0 5).toNat+1) 0 (List.replicate aA.toNat []) ⟨(dP L aA (1+cO L 0 5).toNat (bY L 0)).2,[],1,[],[]⟩ (fun x y v w h=>by simp at h),h3.bt⟩
theorem afm (L:List Int) {aA most:Int} (zero:Bool) (hp:1≤aA) (hm:1≤most) (hform:bK (oU L aA most zero)=0) (pl:Nat) (hpl:(pl:Int) < aA):vX (oU L aA most zero) pl=true:=by
 obtain⟨C,V,hv,hb⟩:=ail L zero hp hm;generalize hgg:oU L aA most zero=g at *;have hg:=lH hform;have hR:Rts g C V aA.toNat pl 0 [List.replicate aA.toNat []] [(0:Int)]:=fun k s c hs hc=>by
  cases k with
  | succ k=>simp at hs
  | zero =>
   cases hs;cases hc;exact⟨aB,fun l h=>by rw[List.eq_of_mem_replicate h]; rfl,aa4 hg⟩
 have hw:=hb.ways hg hv (P:=aA.toNat) (pl:=pl) byOmega hR;unfold vX;rw[yD];intro i hi hip;obtain⟨h2,h3,h4⟩:=pR hform hi;obtain⟨n0,hn0,k0,i0,p0,_,f0⟩:=lC hform hi;unfold mF;rw[List.all_eq_true];intro x hx;obtain⟨j,n,rfl,hn,hk,hin⟩:=h4 x hx;rw[f0];refine decide_eq_true ?_;rw[Int.toNat_natCast,Int.toNat_natCast];obtain⟨l,s,m1,w1⟩:=hw j n (Nat.zero_le _) (aJ hn) hn hk;obtain⟨l',s',m2,w2⟩:=hw (jd g i) n0 (Nat.zero_le _) (aJ hn0) hn0 k0;rw[w1,w2];have hpn:=(h3 j n hn hk hin).1;rcases m1.2.2.2.2 with⟨_,a,_⟩ | ⟨_,_,_,_,y,a1,_,a2⟩
 ·omega
 rcases m2.2.2.2.2 with⟨_,a,_⟩ | ⟨_,_,_,_,z,b1,_,b2⟩
 ·omega
 have hy:y=i:=byOmega;have hz:z=i:=byOmega;subst hy;subst hz;rw[a2] at b2;rw[hpn,p0,hip,Int.toNat_natCast] at b2;simp only[Option.some.injEq,View.mk.injEq,and_true,true_and] at b2;obtain⟨e1,e2⟩:=b2;rw[e2,show l=l' by omega]
theorem agS (L:List Int) {aA most:Int} (zero:Bool) (hp1:1≤aA) (hp4:aA≤4) (hm1:1≤most) (hm:most≤100):ou (oU L aA most zero)=0:=by
 have hf:=yJ L zero hp1 hp4 hm1 hm;unfold ou;rw[if_pos];unfold lK;rw[List.all_eq_true];intro p hp;have h:=List.mem_range.1 hp;rw[hf.hpl] at h;exact afm L zero hp1 hm1 hf.form p byOmega
theorem uN (l:List Rat):∀ k:Nat,jh (l++List.replicate k 0)=jh l
 | 0=>by simp
 | k+1=>by rw[List.replicate_succ',← List.append_assoc,wR,uN l k,Rat.add_zero]
theorem agT {n a:Nat} (h:a < n):jh (pV n a)=1:=by
 have e:pV n a=(List.replicate a 0 ++ [1])++List.replicate (n - a - 1) 0:=by
  unfold pV;rw[List.set_eq_take_append_cons_drop,List.length_replicate,if_pos h,List.take_replicate,List.drop_replicate,Nat.min_eq_left byOmega,List.append_assoc];congr 2
 rw[e,uN,wR];have:=uN [] a;rw[List.nil_append] at this;rw[this];exact Rat.zero_add 1
theorem agU {n a:Nat} (h:a < n):DC (n:Int) (pV n a):=by
 refine⟨by unfold pV; simp,agT h,fun x hx=>⟨adR x hx,?_⟩⟩;rcases xw x hx with rfl | rfl
 ·exact⟨ay,ay⟩
 ·exact⟨ay,ay⟩
section
variable {g:Gm} {ch:List Int}
def BG (g:Gm) (ch:List Int):Prop:=ch.length=g.infos.length∧∀ (i:Nat) (x:Int) (inf:Inf),ch[i]? = some x→g.infos[i]? = some inf→0≤x∧x < inf.actions
theorem afn (L:List Int) (a:Nat) (hI:∀ i∈g.infos,1≤i.actions):BG g (yX L a g) :=
 ⟨jK _ _ _ _,vW L a hI _ (Nat.le_refl _)⟩
theorem BG.pure (h:BG g ch) (hf:bK g=0):pU g ch=0:=by
 unfold pU;rw[if_neg (by rw[hf]; decide),if_neg (by simpa using h.1),if_neg];intro hb;unfold iV at hb;obtain⟨i,hi,hbad⟩:=List.any_eq_true.1 hb;have hi:=List.mem_range.1 hi;obtain⟨x,hx⟩:=aF hi;obtain⟨inf,fG⟩:=aF (l:=g.infos) (k:=i) (by have:=h.1; omega);have:=h.2 i x inf hx fG;unfold lD at hbad;rw[List.getD_eq_getElem?_getD,List.getD_eq_getElem?_getD,hx,fG] at hbad;simp at hbad;omega
theorem BG.rows (h:BG g ch):Bg g (jH g ch):=by
 refine⟨by unfold jH; rw[List.length_map,List.length_range,h.1],fun k i l hi hl=>?_⟩;unfold jH at hl;have hk:k < ch.length:=by have:=aJ hl;simpa using this
 rw[List.getElem?_map,List.getElem?_range hk] at hl;cases hl;obtain⟨x,hx⟩:=aF hk;have h1:=h.2 k x i hx hi;unfold wF;rw[List.getD_eq_getElem?_getD,List.getD_eq_getElem?_getD,hi,hx,Option.getD_some,Option.getD_some];have h2:=agU (n:=i.actions.toNat) (a:=x.toNat) byOmega;rwa [Int.toNat_of_nonneg byOmega] at h2
theorem BG.out (h:BG g ch) (hf:bK g=0):lM g ch=(jH g ch).map (List.map aH):=by
 unfold lM;rw[if_neg (by rw[h.pure hf]; decide)]
end
theorem agV {n:Nat} (h1:1≤n) (h2:n≤10):DC (n:Int) (iF n):=by
 have key:∀ n:Fin 11,1≤n.val→((iF n.val).length=n.val∧jh (iF n.val)=1∧∀ x∈iF n.val,0≤x∧x≤1):=by decide +kernel
 obtain⟨k1,k2,k3⟩:=key ⟨n,byOmega⟩ h1;exact⟨by exact_mod_cast k1,k2,fun x hx=>⟨acu h1 h2 x hx,(k3 x hx).1,(k3 x hx).2⟩⟩
theorem ain {g:Gm} (hI:∀ i∈g.infos,1≤i.actions∧i.actions≤10):Bg g (nZ g):=by
 refine⟨by unfold nZ; rw[List.length_map],fun k i l hi hl=>?_⟩;unfold nZ at hl;rw[List.getElem?_map,hi] at hl;cases hl;have h1:=hI i (List.mem_of_getElem? hi);have h2:=agV (n:=i.actions.toNat) byOmega byOmega;rwa [Int.toNat_of_nonneg byOmega] at h2
theorem agW {g:Gm} (hf:bK g=0):uK g=(nZ g).map (List.map aH):=by
 unfold uK;rw[if_neg (by rw[hf]; decide)]
theorem aax {g:Gm} {m:List (List Rat)} (hf:bK g=0) (hp:ou g=0) (h:Bg g m):ofE g (m.map (List.map aH))=0:=by
 unfold ofE;rw[if_neg (by rw[h.adI hf]; decide),hp]
theorem aay {g:Gm} {m:List (List Rat)} (hf:bK g=0) (hp:ou g=0) (h:Bg g m):wH g (m.map (List.map aH))=(bD (aS g) m).map (List.map aH):=by
 unfold wH;rw[if_neg (by rw[aax hf hp h]; decide),oZ]
theorem yK {up:List (Int×Int)} {m:List (List Rat)} (p:Rat→Prop) (h0:p 0) (h1:p 1) (hm:∀ l∈m,∀ x∈l,p x) (hmul:∀ a b,p a→p b→p (a*b)):∀ k,∀ row∈dB up m k,∀ x∈row,p x
 | 0,row,hr,_,_=>by cases hr
 | k+1,row,hr,x,hx=>by
  have ih:=yK (up:=up) p h0 h1 hm hmul k;rw[dB] at hr;rcases List.mem_append.1 hr with hr | hr
  ·exact ih row hr x hx
  ·rw[List.mem_singleton.1 hr] at hx;obtain⟨y,hy,rfl⟩:=List.mem_map.1 hx;refine hmul _ _ ?_ ?_
   ·unfold jr;split
    ·exact h1
    ·rw[List.getD_eq_getElem?_getD];cases e:((dB up m k).getD (up.getD k (-1,-1)).1.toNat [])[(up.getD k (-1,-1)).2.toNat]? with
     | none=>exact h0
     | some z =>
      refine ih _ ?_ z (List.mem_of_getElem? e);rw[List.getD_eq_getElem?_getD] at e ⊢;cases e2:(dB up m k)[(up.getD k (-1,-1)).1.toNat]? with
      | none=>rw[e2] at e; simp at e
      | some l=>exact List.mem_of_getElem? e2
   ·rw[List.getD_eq_getElem?_getD] at hy;cases e2:m[k]? with
    | none=>rw[e2] at hy; cases hy
    | some l=>rw[e2] at hy; exact hm l (List.mem_of_getElem? e2) y hy
theorem qO {up:List (Int×Int)} {m:List (List Rat)} {k:Nat} {l row:List Rat} (h:(bD up m)[k]? = some l) (hm:m[k]? = some row):l=row.map fun x=>jr (dB up m k) (up.getD k (-1,-1))*x:=by
 have hk:k < m.length:=aJ hm;have e:(bD up m).getD k []=l:=by rw[List.getD_eq_getElem?_getD,h];rfl
 unfold bD at e;rw[kE hk] at e;have e2:m.getD k []=row:=by rw[List.getD_eq_getElem?_getD,hm];rfl
 rw[← e,e2]
theorem afo {g:Gm} {ch:List Int}:∀ l∈bD (aS g) (jH g ch),∀ x∈l,x=0∨x=1 :=
 yK (fun x=>x=0∨x=1) (.inl rfl) (.inr rfl) (fun l hl x hx=>by
  unfold jH at hl;obtain⟨i,_,rfl⟩:=List.mem_map.1 hl;exact xw x hx) (fun a b ha hb=>by
  rcases ha with rfl | rfl
  ·exact .inl (Rat.zero_mul b)
  ·rw[Rat.one_mul]; exact hb) _
theorem agX {g:Gm} {k:Nat} {l:List Rat} (h:(bD (aS g) (nZ g))[k]? = some l):∀ x∈l,∀ y∈l,x=y:=by
 obtain⟨row,hr⟩:=aF (l:=nZ g) (k:=k) (by have:=aJ h; unfold bD at this; rwa [dw] at this);rw[qO h hr];have hc:∀ x∈row,∀ y∈row,x=y:=by
  unfold nZ at hr;rw[List.getElem?_map] at hr;obtain⟨i,_,rfl⟩:=Option.map_eq_some_iff.1 hr;intro x hx y hy;unfold iF at hx hy;rw[List.eq_of_mem_replicate hx,List.eq_of_mem_replicate hy]
 intro x hx y hy;obtain⟨a,ha,rfl⟩:=List.mem_map.1 hx;obtain⟨b,hb,rfl⟩:=List.mem_map.1 hy;rw[hc a ha b hb]
theorem aaz {g:Gm} {m:List (List Rat)} (h:Bg g m) {k:Nat} {l:List Rat} (hl:(bD (aS g) m)[k]? = some l):∃ inf,g.infos[k]? = some inf∧(l.length:Int)=inf.actions:=by
 have hk:k < m.length:=by have:=aJ hl;unfold bD at this;rwa [dw] at this
 obtain⟨row,hr⟩:=aF hk;obtain⟨inf,hi⟩:=aF (l:=g.infos) (k:=k) (by have:=h.1; omega);refine⟨inf,hi,?_⟩;rw[qO hl hr,List.length_map];exact(h.2 k inf row hi hr).1
theorem abH {g:Gm} {m:List (List Rat)} (hf:bK g=0) (hs:Small g) (h:Bg g m):∀ l∈bD (aS g) m,∀ x∈l,rl x≤1000:=by
 have hst:=h.adI hf;have hft:=acw hst;have hl4:=wG h.limbs;have hml:m.length≤100:=by have:=h.1;have:=hs.infos;omega
 intro l hl x hx;obtain⟨k,hk⟩:=List.getElem?_of_mem hl;have hkm:k < m.length:=by have:=aJ hk;unfold bD at this;rwa [dw] at this
 obtain⟨row,hr⟩:=aF hkm;rw[qO hk hr] at hx;obtain⟨y,hy,rfl⟩:=List.mem_map.1 hx;obtain⟨s,hs'⟩:=aF (l:=aS g) (k:=k) (by rw[hft.len]; exact hkm);have h1:=rY hft hl4 k byOmega s (by have:=hft.ok k s hs'; omega);rw[List.getD_eq_getElem?_getD,hs',Option.getD_some];have h2:=o7 (jr (dB (aS g) m k) s) y;have h3:=hl4 row (List.mem_of_getElem? hr) y hy;omega
open List renaming getElem_toArray → lq1, getElem_cons_zero → lq2, getElem_cons_succ → lq3, setIfInBounds_toArray → lq4, set_cons_zero → lq5, set_cons_succ → lq6
open Go.RowKit Go.Shelf
attribute [local go_sem] Oper.semAt_some
structure Dc (g:Gm) (r:List (List Rat)):Prop where
 len:r.length=g.infos.length
 acts:∀ (k:Nat) (l:List Rat) (inf:Inf),r[k]? = some l→g.infos[k]? = some inf→(l.length:Int)=inf.actions
 pos:∀ l∈r,∀ x∈l,dI x=false
 fits:∀ l∈r,∀ x∈l,rl x≤1000
 sum:∀ (k:Nat) (l:List Rat) (s:Int×Int),r[k]? = some l→(aS g)[k]? = some s→jh l=jr r s
 up:∀ (k:Nat) (s:Int×Int),(aS g)[k]? = some s→s.1 < 0∨(0≤s.1∧s.1 < (k:Int)∧0≤s.2∧s.2 < ((r.getD s.1.toNat []).length:Int))
theorem aaA (w:World) (t1:TypeId) (c1:Array Value) (t2:TypeId) (c2:Array Value) (t3:TypeId) (c3:Array Value) (t4:TypeId) (c4:Array Value):∃ W:World,W=(((w.alloc (.cells c1 t1)).alloc (.cells c2 t2)).alloc (.cells c3 t3)).alloc (.cells c4 t4)∧Row W w.heap.size t1 c1.toList∧Row W (w.heap.size+1) t2 c2.toList∧Row W (w.heap.size+1+1) t3 c3.toList∧Row W (w.heap.size+1+1+1) t4 c4.toList∧Below w.heap.size w W∧W.heap.size=w.heap.size+4:=by
 obtain⟨W,hW,h1,h2,h3,h4,_⟩:=kY w t1 c1 t2 c2 t3 c3;have e:W.heap.size=w.heap.size+3:=by rw[hW];simp
 have h:=Row.new W t4 c4;rw[e] at h;refine⟨W.alloc (.cells c4 t4),by rw[hW],h1.alloc _,h2.alloc _,h3.alloc _,h,h4.alloc byOmega _,by simp[e]⟩
def BInv (F:Ah) (w:World) (r:List (List Rat)) (bo n ob B1:Nat) (k:Nat) (wr:World):Prop :=
 (∃ vs,vs.length=k∧MkO F w bo 110 n B1 vs ((r.take k).map (List.map au)) wr)∧Row wr ob 114 [.slice (some ⟨bo,0,none⟩) n n]
theorem BInv.own {F:Ah} {w:World} {r:List (List Rat)} {bo n ob B1 B:Nat} (hB:w.heap.size≤B):OwnFrom B (fun k W=>BInv F w r bo n ob B1 k W):=by
 rintro k X Y row ⟨⟨vs,hvl,hm⟩,hx⟩ hg hr';have hr:∀ r,row=some r→∃ o:Obj,X.heap[r]? = some o∧o.isCells=false:=fun r e=>(hr' r e).2
 exact⟨⟨vs,hvl,hm.row.kept hg hr,hm.done.kept hg hr,hm.bel.grown hg hm.bel.size (fun k hk=>by have:=(hr' k hk).1; omega),hm.lo,hm.hi,Nat.le_trans hm.size hg.size⟩,hx.kept hg hr⟩
theorem afp {F:Ah} {w W:World} {r:List (List Rat)} {bo n B1 k:Nat} {vs:List Value} (hm:MkO F w bo 110 n B1 vs ((r.take k).map (List.map au)) W) (hvl:vs.length=k) (hkn:k≤n) (hkr:k≤r.length) (s:Int×Int) (hs:s.1 < 0∨(0≤s.1∧s.1 < (k:Int)∧0≤s.2∧s.2 < ((r.getD s.1.toNat []).length:Int))) :
  Calls Tryz.prog 116 #[.slice (some ⟨bo,0,none⟩) n n,.agg #[.int .i64 s.1,.int .i64 s.2]] W (Ret W fun u w'=>NmV w' (GoF F w B1) u (jr r s)):=by
 by_cases h0:s.1 < 0
 ·exact zay
 ·obtain⟨h1,h2,h3,h4⟩:=hs.resolve_left h0;obtain⟨i,hi⟩:∃ i:Nat,s.1=(i:Int):=⟨s.1.toNat,byOmega⟩;obtain⟨j,hj⟩:∃ j:Nat,s.2=(j:Int):=⟨s.2.toNat,byOmega⟩;obtain⟨s1,s2⟩:=s;simp only at hi hj h0 h1 h2 h3 h4;subst hi;subst hj;rw[Int.toNat_natCast] at h4;have hik:i < k:=byOmega;obtain⟨vr,hvr⟩:=aF (l:=vs) (k:=i) byOmega;obtain⟨row,hrow⟩:=aF (l:=r) (k:=i) byOmega;have hrd:r.getD i []=row:=by rw[List.getD_eq_getElem?_getD,hrow];rfl
  rw[hrd] at h4;obtain⟨x,hx⟩:=aF (l:=row) (k:=j) byOmega;have hra:=hm.done.2 i vr (row.map au) hvr (by rw[List.getElem?_map,List.getElem?_take,if_pos hik,hrow]; rfl);exact Ym
theorem Dc.afK {g:Gm} {r:List (List Rat)} (h:Dc g r) (s:Int×Int):rl (jr r s)≤1000:=by
 unfold jr;split
 ·rw[qA];omega
 ·rw[List.getD_eq_getElem?_getD];cases e:(r.getD s.1.toNat [])[s.2.toNat]? with
  | none=>show rl 0≤1000; rw[su]; omega
  | some x =>
   refine h.fits (r.getD s.1.toNat []) ?_ x (List.mem_of_getElem? e);rw[List.getD_eq_getElem?_getD] at e ⊢;cases e2:r[s.1.toNat]? with
   | none=>rw[e2] at e; simp at e
   | some l=>exact List.mem_of_getElem? e2
theorem ad7 (w:World) (F:Ah) (vg vm:Value) (g:Gm) (r:List (List Rat)) (hg:AV w F vg g) (hsm:Small g) (hform:bK g=0) (hpar:ou g=0) (hm:CV w F vm r) (hT:Bl w) (hok:Dc g r) :
  Calls Tryz.prog 56 #[vg,vm] w (Ret w fun v w'=>∃ t,v = .tuple #[t,.int .i64 (lX (iH r).flatten)]∧Ag w' (fun b=>w.heap.size≤b) t (qI (iH r))):=by
 have HG:=Af (hg.keep (G:=fun _=>True) (fun _ _ _=>trivial) (Same.refl _ _)); have HM:=Af (Ag.keep (G:=fun _=>True) hm (fun _ _ _=>trivial) (Same.refl _ _));have HS:=Af hsm; have HT:=Af hT; have HOK:=Af hok;have HPE:=Af (show abC g=0 by unfold abC; rw[if_neg (by rw[hform]; decide)]; exact hpar);have HPO:=Af (show sV g=aS g by
  unfold sV;rw[if_neg (by rw[hform]; decide)];rcases qM g with⟨_,h⟩ | h
  ·exact h
  ·exact absurd hpar h)
 have HA10:=Af (qF hform);have hni:=hsm.infos;obtain⟨n,hn⟩:=named r.length;have hgi:g.infos.length=n:=by rw[hn,hok.len]
 have hmn:(r.map (List.map aH)).length=n:=by rw[List.length_map,hn]
 obtain⟨vn,vi,rfl,⟨A,c,rfl,-,-⟩,⟨Ai,ci,rfl,-,-⟩⟩:=hg;obtain⟨Am,cm,e,-,-⟩:=hm;rw[hmn] at e;subst e;rw[hgi] at HG ⊢;have HN:=Af hn;have HGI:=Af hgi;have hn100:n≤100:=byOmega;clear hsm hT hok hform hpar hn hgi hmn hni;refine(callsIn_wide (n:=9)).1 ?_;refine callsIn_of_wp_marks Tryz.func56 rfl trivial ?_ rfl;refine wpIn_wide.2 ?_;simp only[Tryz.ntmps56,List.size_toArray,List.length_cons,List.length_nil,Nat.reduceAdd,Nat.reduceSub,Array.replicate_succ,Array.replicate_zero,List.push_toArray,List.append_toArray,List.nil_append,List.cons_append];go_upto_region 1 with(fail)
 obtain⟨W,hW,rg,rm,rr,re,hB,hz⟩:=aaA w 25 #[.int .i64 g.aA,.slice A g.nodes.length c,.slice Ai n ci] 28 #[.slice Am n cm] 28 #[.slice none 0 0] 32 #[.int .i64 0];rw[← hW];clear hW;obtain⟨b2,hb2⟩:=named (w.heap.size+1+1);rw[← hb2] at rr re ⊢;have k2:w.heap.size+1 < b2:=byOmega;have k3:b2+1 < W.heap.size:=byOmega;clear hb2 hz;replace HG:=Af (HG.out.on (Below.same' hB _));replace HM:=Af (Ag.on HM.out (Below.same' hB _));replace HT:=Af (HT.out.on hB);refine Z7 ?_;intro x0 x1 x2;go_wp2_with fail
 clear x0 x1 x2;refine(oW W (fun _=>True) _ g HG.out HS.out).mono ?_;rintro e w1 ⟨_,rfl,hb,vp,rfl,hvp⟩;replace HG:=Af (HG.out.on (Below.same' hb _));refine zcf ?_;clear HM;intro HM;replace HT:=Af (HT.out.on hb);replace rg:=rg.below hb rg.lt;replace rm:=rm.below hb rm.lt;replace rr:=rr.below hb rr.lt;replace re:=re.below hb re.lt;replace hB:=hB.trans (hb.mono hB.size);have k4:b2+1 < w1.heap.size:=re.lt;rw[HPE.out];rw[HPO.out] at hvp;have HU:=Af (AP.keep (G:=(fun _=>True)) hvp (fun _ _ _=>trivial) (Same.refl _ _));obtain⟨Au,cu,e⟩:=hvp.open;rw[fH,HGI.out] at e;subst e;clear hvp hb k3;dsimp only;go_upto_region 2 with(fail)
 obtain⟨W2,hW2,ru,hb,hz2⟩:=aO w1 41 #[.slice Au n cu];rw[← hW2];replace HG:=Af (HG.out.on (Below.same' hb _));refine zcf ?_;clear HM;intro HM;replace HT:=Af (HT.out.on hb);replace rg:=rg.below hb rg.lt;replace rm:=rm.below hb rm.lt;replace rr:=rr.below hb rr.lt;replace re:=re.below hb re.lt;replace hB:=hB.trans (hb.mono hB.size);replace HU:=Af (AP.on HU.out (Below.same' hb _));obtain⟨ub,hub⟩:=named w1.heap.size;rw[← hub] at ru ⊢;have k5:b2+1 < ub:=byOmega;have k6:ub < W2.heap.size:=ru.lt;clear hb hz2 hub hW2 k4;have x2:=rg.cell (i:=2) rfl;have y0:=rm.cell (i:=0) rfl;go_upto_region 7 with(at_make; refine dV _ rfl _ _ 114 rfl 110 (.slice none 0 0) 24 Tryz.underlying114 Tryz.infoNumRow rfl n rfl rfl byOmega byOmega ?_; intro w3 hb1 aie hr1; have hz1:=Nat.le_of_eq aie.symm; clear aie)
 obtain⟨W3,hW3,ro,hB1,hz1'⟩:=aO w3 114 #[.slice (some ⟨W2.heap.size,0,none⟩) n n];rw[← hW3];clear hW3;obtain⟨bo,hbo⟩:=named W2.heap.size;obtain⟨ob,hob⟩:=named w3.heap.size;replace hr1:=hr1.below hB1 hr1.lt;have HBW:=Af (hb1.trans (hB1.mono hb1.size));rw[← hbo] at hr1 ro k6 ⊢;rw[← hob] at ro ⊢;have k7:bo < ob:=byOmega;have k8:ob < W3.heap.size:=byOmega;have y1:=aj (aj y0 hb1) hB1;have HBO:=Af hbo;have ko1:W2.heap.size≤bo:=byOmega;clear hb1 hB1 hz1 hz1' hob x2 y0 hbo;go_wp2_with fail
 refine(abz W3 n).mono ?_;rintro e w4 ⟨rfl,hw4⟩;obtain⟨W4,hW4,r4,hB4,hz4⟩:=aO W3 3 #[.int .i64 (n:Int)];rw[← hW4] at hw4;rw[hw4];clear hw4 hW4;obtain⟨lb,hlb⟩:=named W3.heap.size;rw[← hlb] at r4 ⊢;have k9:ob < lb:=byOmega;have k10:lb < W4.heap.size:=byOmega;replace hr1:=hr1.below hB4 hr1.lt;replace ro:=ro.below hB4 ro.lt;replace HBW:=Af (HBW.out.trans (hB4.mono HBW.out.size));clear hB4 hz4 hlb k8 y1;have hinv:BInv (fun _=>True) W2 r bo n ob W4.heap.size 0 W4:=⟨⟨[],rfl,by rw[HBO.out] at hr1 ⊢; exact MkO.begin hr1 HBW.out (Nat.le_refl _) byOmega (Nat.le_refl _)⟩,ro⟩;have HI:=Af hinv;clear hr1 hinv ro;dsimp only;go_wp2_with fail
 refine(wpIn_wide (n:=9)).1 ?_;refine rQ (w0:=W4) (gf:=161) (lb:=#[.pointer (some ⟨lb,0,none⟩)]) byOmega rfl (enters' Tryz.func161 ah ah)
  (aby 8 byOmega lb W2.heap.size n W4 (r4.cell rfl) k10 byOmega) (Below.refl _ _) (by have:=HBO.out; omega) (fun _=>rfl)
  (BInv (fun _=>True) W2 r bo n ob W4.heap.size) (fun _=>False) (BInv.own (by have:=HBO.out; omega)) (fun _ _ _ _ hs _ _=>hs) HI.out
  (fun k=>{ tmps:=#[.agg #[.int .i64 g.aA,.slice A g.nodes.length c,.slice Ai n ci],.slice Am n cm,.pointer (some ⟨w.heap.size,0,none⟩),.pointer (some ⟨w.heap.size+1,0,none⟩),.pointer (some ⟨b2,0,none⟩),.pointer (some ⟨b2+1,0,none⟩),.pointer (some ⟨ub,0,none⟩),.int .i64 0,.pointer (some ⟨ob,0,none⟩),.int .i64 (k:Int),undef,undef,undef,.tuple #[.slice Au n cu,.int .i64 0],.agg #[.int .i64 g.aA,.slice A g.nodes.length c,.slice Ai n ci],.tuple #[.slice Au n cu,.int .i64 0],.slice Au n cu,.int .i64 0,.int .i64 0,.bool false,undef,.slice Am n cm,.int .i64 (n:Int),.pointer (some ⟨w.heap.size,2,none⟩),.slice Ai n ci,.int .i64 (n:Int),.bool false,.slice Am n cm,.int .i64 (n:Int),.slice (some ⟨bo,0,none⟩) n n,.slice Am n cm,.int .i64 (n:Int),.func (.func 161) #[] #[.pointer (some ⟨lb,0,none⟩)],.int .i64 (k:Int),undef,undef,undef,undef,undef,undef,undef,undef,undef,undef,undef,undef,undef,undef,undef,undef,undef,undef,undef,undef,undef,undef,undef,undef,undef,undef,undef,undef,undef,undef,undef,undef,undef,undef,undef,undef,undef,undef,undef,undef,undef,undef,undef,undef,undef,undef,undef,undef,undef,undef,undef,undef,undef,undef,undef],defers:=[] }) ?assign ?body ?done ?stop
 case assign =>
  intro l x W K hK;gi_wp2;exact hK
 case stop=>rintro D W _ h; exact h.elim
 case done =>
  rintro D W hD ⟨⟨vs,hvl,hmk⟩,ho⟩ hK;have hrn:(r.take n)=r:=by rw[HN.out];exact List.take_length
  rw[hrn] at hmk;have o0:=ho.cell (i:=0) rfl;have hlsn:(r.map (List.map au)).length=n:=by rw[List.length_map,HN.out]
  have HR:=Af (show Ag W (fun _=>True) (.slice (some ⟨bo,0,none⟩) n n) (r.map (List.map au)) by have h:=hmk.rows (G:=fun _=>True) (by rw[hvl]; exact Nat.le_refl _) (fun _ _=>trivial) (c:=n) byOmega; rw[hlsn] at h; exact h);have HBW:=Af hmk.bel;have HK:=Af hK;have HL10:=Af (show ∀ l∈r,l.length≤10 from fun l hl=>by
   obtain⟨k,hk⟩:=List.getElem?_of_mem hl;obtain⟨inf,fG⟩:=aF (l:=g.infos) (k:=k) (by have:=aJ hk; have:=HN.out; have:=HGI.out; omega);have:=HOK.out.acts k l inf hk fG;have:=HA10.out inf (List.mem_of_getElem? fG);omega)
  have HF:=Af HOK.out.fits;have HBM:=Af (back_mem (p:=r) fun l hl=>⟨HL10.out l hl,fun x hx=>by have:=HF.out l hl x hx; omega⟩);have HBL:=Af (show(iH r).length=n by unfold iH; rw[List.length_map,HN.out]);have hDl:=(Array.getElem?_eq_some_iff.1 hK).1;clear hmk ho hK hlsn hrn;show Exit.inBlock _ _ .normal _ _;go_wp2_with fail
  refine(adT W (fun _=>True) _ r HR.out (by have:=HN.out; omega) HL10.out (fun l hl x hx=>by have:=HF.out l hl x hx; omega) (fun l hl k=>sW (HL10.out l hl) (fun x hx=>by have:=HF.out l hl x hx; omega) k)).mono ?_;rintro e w5 ⟨u,rfl,hb5,hu⟩;have HU5:=Af (Ag.keep (G:=fun _=>True) hu (fun _ _ _=>trivial) (Same.refl _ _));obtain⟨A5,c5,e,-,-⟩:=hu;rw[List.length_map,HBL.out] at e;subst e;have HB5:=Af hb5;clear hb5 o0;dsimp only;go_wp2_with fail
  refine(pO w5 (fun _=>True) _ (iH r) HU5.out (by rw[HBL.out]; omega) (fun l hl=>by have:=(HBM.out l hl).1; omega) (fun l hl x hx=>by have:=(HBM.out l hl).2 x hx; omega)).mono ?_;rintro e w6 ⟨_,rfl,hb6,t,rfl,ht⟩;have hb56:=HB5.out.trans (hb6.mono HB5.out.size);have hb26:=HBW.out.trans (hb56.mono HBW.out.size);have hk6:w6.heap[D]? = some (.deferred (some [])):=(hb56.block D hDl).trans HK.out;have hbs:=HBW.out.size;have h5s:=HB5.out.size;have hws:=hB.size;have h6s:=hb6.size;have HT6:=Af (Ag.keep (G:=fun b=>W2.heap.size≤b) ht (fun b hb _=>by omega) (Same.refl _ _));have r6:=rr.below hb26 rr.lt;have e6:=re.below hb26 re.lt;obtain⟨At,ct,rfl,-,-⟩:=ht;have q0:=r6.cell (i:=0) rfl;have q1:=e6.cell (i:=0) rfl;have z0:=r6.frozen 0;have z1:=e6.frozen 0;generalize hErr:lX (iH r).flatten=er at *;generalize hOut:qI (iH r)=ol at *;obtain⟨W9,hW9⟩:=named ((w6.setCell ⟨b2,0,none⟩ (.slice At ol.length ct)).setCell ⟨b2+1,0,none⟩ (.int .i64 er));have HW9:=Af hW9;have hDb:D≠b2∧D≠b2+1:=byOmega;have hk9:W9.heap[D]? = some (.deferred (some [])):=by rw[hW9,Below.heap_setCell _ _ _ _ hDb.2,Below.heap_setCell _ _ _ _ hDb.1];exact hk6
  have r9:=r6.set 0 (.slice At ol.length ct);have hw9:Wrote (fun b=>b=b2∨b=b2+1) w6 W9:=by rw[hW9];exact((Wrote.refl _ _).setCell (p:=⟨b2,0,none⟩) (.inl (.inl rfl)) _).setCell (p:=⟨b2+1,0,none⟩) (.inl (.inr rfl)) _
  have t0:W9.cell? ⟨b2,0,none⟩=some (.slice At ol.length ct):=by rw[hW9];exact((r6.set 0 _).other (a:=⟨b2+1,0,none⟩) aB _).cell (i:=0) rfl
  have t1:W9.cell? ⟨b2+1,0,none⟩=some (.int .i64 er):=by rw[hW9];exact((e6.other (a:=⟨b2,0,none⟩) aB _).set 0 _).cell (i:=0) rfl
  have ko2:bo≤W2.heap.size:=by rw[HBO.out];exact Nat.le_refl _
  have HT9:=Af (Ag.on HT6.out (hw9.same fun b hb e=>by have hb:W2.heap.size≤b:=hb; rcases e with e | e <;> omega));have HB9:=Af (Wrote.below (hB.trans (hb26.mono byOmega)) hw9 (fun b hb=>by rcases hb with e | e <;> omega) byOmega);have HK9:=Af hk9;clear hW9 r9 hw9 hk9 hk6 hb56 hb26 r6 e6 HT6 hb6;dsimp only;go_wp2
  rw[← HW9.out];refine⟨aB,.inl ⟨_,_,rfl,run_takeDeferred HK9.out,?_⟩⟩;have c0:=cell_kept t0 (grownBy_putObj' W9 D (.deferred none)) (fun r e=>by cases e; exact⟨_,HK9.out,rfl⟩);have c1:=cell_kept t1 (grownBy_putObj' W9 D (.deferred none)) (fun r e=>by cases e; exact⟨_,HK9.out,rfl⟩);refine⟨.tuple #[.slice At ol.length ct,.int .i64 er],by simp[results,Tryz.results56,go_sem,c0,c1],⟨_,rfl,?_,_,by rw[hErr],?_⟩⟩
  ·exact HB9.out.trans (belowK_b (w:=w) (Nat.le_refl _) W9 D _ _ byOmega HK9.out rfl rfl)
  ·rw[hOut];exact(Ag.kept HT9.out (grownBy_putObj' W9 D _) (fun r e=>by cases e; exact⟨_,HK9.out,rfl⟩)).keep (fun b hb _=>by have hb:W2.heap.size≤b:=hb; omega) (Same.refl _ _)
 case body =>
  rintro l k W ⟨⟨vs,hvl,hmk⟩,ho⟩ hk;have HMK:=Af hmk;have HVL:=Af hvl;have HO:=Af ho;obtain⟨row,hrow⟩:=aF (l:=r) (k:=k) (by rw[← HN.out]; exact hk);obtain⟨inf,fG⟩:=aF (l:=g.infos) (k:=k) (by rw[HGI.out]; exact hk);obtain⟨s,hs⟩:=aF (l:=aS g) (k:=k) (by rw[fH,HGI.out]; exact hk);have HAC:=Af (HOK.out.acts k row inf hrow fG);have HSM:=Af (HOK.out.sum k row s hrow hs);have HUP:=Af (HOK.out.up k s hs);have HRL:=Af (HOK.out.fits row (List.mem_of_getElem? hrow));have HPS:=Af (HOK.out.pos row (List.mem_of_getElem? hrow));have hbel:=hmk.bel;have ako:row.length≤10:=by have:=HAC.out;have:=HA10.out inf (List.mem_of_getElem? fG);omega
  obtain⟨A',c',e,_,hxm⟩:=HM.out;rw[List.length_map,← HN.out] at e;injection e with e1 e2 e3
  subst e1;obtain⟨mb,mo,rfl,_,xH,hcm⟩:=hxm (by rw[List.length_map,← HN.out]; omega);obtain⟨vr,hvr,hra⟩:=hcm k (row.map aH) (by rw[List.getElem?_map,hrow]; rfl);rw[Nat.mul_one] at hvr;have aaB:=AB.keep (G:=Old (fun _=>True) W2.heap.size) hra (fun b hb hl=>⟨hb,hl⟩) (Same.refl _ _);obtain⟨Ar,cr,rfl,-,-⟩:=hra;rw[List.length_map] at hvr aaB;have HRV:=Af aaB;have Bd:=Af hrow;have HVR:=Af hvr;have HSG:=Af hs;have m1:=(hbel.cell (p:=⟨mb,mo+k,none⟩) xH).trans hvr;obtain⟨_,_,e,-,A2,c2,he2,_,hxi⟩:=HG.out;simp only[Value.agg.injEq,Array.mk.injEq,List.cons.injEq,and_true,true_and] at e;obtain⟨-,e⟩:=e;rw[he2,HGI.out] at e;injection e with e1 e2' e3'
  subst e1;obtain⟨bI,oI,rfl,_,hbI,hcI⟩:=hxi (by rw[HGI.out]; omega);have i1:=(hbel.cell (p:=⟨bI,oI+k*2+1,none⟩) hbI).trans (hcI k inf fG).c1;rw[← HAC.out] at i1;have x2:=(hbel.cell (p:=⟨w.heap.size,2,none⟩) rg.lt).trans (rg.cell (i:=2) rfl);have y0:=(hbel.cell (p:=⟨w.heap.size+1,0,none⟩) rm.lt).trans (rm.cell (i:=0) rfl);clear e2 e3 e2' e3' he2 hxm hcm hvr aaB hxi hcI hmk ho hrow fG hs;have aj2:((row.length:Int) != (row.length:Int))=false:=aB;have hkI:(k:Int) < n:=byOmega;gi_wp2_with fail;have hBn:=Below.refl W.heap.size W;refine qP (S:=fun w'=>w'.cell? ⟨w.heap.size+1,0,none⟩=some (.slice (some ⟨mb,mo,none⟩) n cm)∧w'.cell? ⟨mb,mo+k,none⟩=some (.slice Ar row.length cr)∧w'.cell? ⟨w.heap.size,2,none⟩=some (.slice (some ⟨bI,oI,none⟩) n ci)∧w'.cell? ⟨bI,oI+k*2+1,none⟩=some (.int .i64 (row.length:Int))) ah ah (by rintro⟨_,_,hh⟩; exact hh) ⟨y0,m1,x2,i1⟩ (fun hHeld=>?_);refine zaj ?_;intro hb;replace y0:=aj y0 hb;replace m1:=aj m1 hb;replace x2:=aj x2 hb;replace i1:=aj i1 hb;replace hBn:=hBn.trans (hb.mono hBn.size);clear hb;generalize W.drew=wn at *;refine tkm [0,1,2,3,4,5,6,7,8,9,10,11] ?_;refine Yq ?_;clear hHeld;clear y0 m1 x2 i1 aj2;have y0:=(hbel.trans (hBn.mono hbel.size)).cell (p:=⟨w.heap.size+1,0,none⟩) rm.lt |>.trans (rm.cell (i:=0) rfl)
  have m1:=(hbel.trans (hBn.mono hbel.size)).cell (p:=⟨mb,mo+k,none⟩) xH |>.trans HVR.out
  refine Yh ?_;gi_wp2_with fail;clear y0 m1;gi_loopw [51] (fun iv wr=>∃ j:Nat,j≤row.length∧iv = .int .i64 (j:Int)∧Below W.heap.size W wr) (fun iv _=>row.length - (intOf iv).toNat)
  case atStart=>exact⟨0,Nat.zero_le _,rfl,hBn⟩
  case round =>
   clear hBn;obtain⟨j,hj,rfl,hbj⟩:=hrel;obtain⟨wb,rfl⟩:=named wr;have hB2:=hbel.trans (hbj.mono hbel.size);by_cases hjt:j < row.length
   ·obtain⟨x,hx⟩:=aF hjt;have hxf:=HRL.out x (List.mem_of_getElem? hx);have HNG:=Af (show(aH x).neg=false from HPS.out x (List.mem_of_getElem? hx));obtain⟨rb,ro,rc,vn,vd,e,_,_,y0,y1,y2,hn,hd⟩:=AB.at (HRV.out.on (Below.same' hB2 _)) (show(row.map aH)[j]? = some (aH x) by rw[List.getElem?_map,hx]; rfl);injection e with e1 e2 e3
    subst e1;have HXV:=Af (Ak.make (r:=aH x) rfl hn hd);obtain⟨An,cn,rfl,-,-⟩:=hn;obtain⟨Ad,cd,rfl,-,-⟩:=hd;have hjr:(j:Int) < row.length:=byOmega;have HXL:=Af (show(aH x).num.length≤100000∧(aH x).den.length≤100000 by have:=gy x; have:=gB x; rw[nJ]; exact⟨byOmega,by show(dig x.den).length≤_; omega⟩);clear e2 e3 hx;gi_upto_region 14 with(fail)
    obtain⟨W7,hW7,r7,hb7,hz7⟩:=aO wb 83 #[.bool (aH x).neg,.slice An (aH x).num.length cn,.slice Ad (aH x).den.length cd];rw[← hW7];obtain⟨xb,hxb⟩:=named wb.heap.size;replace HXV:=Af (Ak.below HXV.out hb7);have HB7:=Af (hbj.trans (hb7.mono hbj.size));have HT7:=Af (HT.out.on (hB2.trans (hb7.mono hB2.size)));rw[← hxb] at r7 ⊢;clear hW7 hb7 hz7 hxb y0 y1 y2;refine zbl ?_;intro x0 x1 x2;gi_wp2_with fail;refine⟨trivial,(CallsIn.inRound l (callsIn_wide.2 (vO W7 _ _ (aH x) HXV.out (yY x) HXL.out.1 HXL.out.2 HT7.out))).mono ?_⟩;rintro e w8 ⟨_,rfl,hb8,rfl⟩;rw[uH byOmega];replace x0:=aj x0 hb8;rw[HNG.out] at x0;have HB8:=Af (HB7.out.trans (hb8.mono HB7.out.size));clear hb8 x1 x2 r7;dsimp only;gi_wp2_with fail;go_roundw
    case rel=>exact⟨j+1,byOmega,by go_num,HB8.out⟩
    case measure=>simp[intOf]; omega
   ·have hje:j=row.length:=byOmega;subst hje;have y0:=(hB2.cell (p:=⟨w.heap.size+1,0,none⟩) rm.lt).trans (rm.cell (i:=0) rfl);have m1:=(hB2.cell (p:=⟨mb,mo+k,none⟩) xH).trans HVR.out;have HMB:=Af (HMK.out.below hbj);have HOB:=Af (HO.out.below hbj HO.out.lt);have o0:=HOB.out.cell (i:=0) rfl;have HNV:=Af (HRV.out.on (Below.same' hB2 _));have hBe:=hbj;gi_wp2_with fail;refine mg (fun w'=>w'.cell? ⟨w.heap.size+1,0,none⟩=some (.slice (some ⟨mb,mo,none⟩) n cm)∧w'.cell? ⟨mb,mo+k,none⟩=some (.slice Ar row.length cr)∧w'.cell? ⟨ob,0,none⟩=some (.slice (some ⟨bo,0,none⟩) n n)) 8 1 ah ah (by rintro⟨_,_,hh⟩; exact hh) rfl ah ?_;have hHeld:(fun w':World=>w'.cell? ⟨w.heap.size+1,0,none⟩=some (.slice (some ⟨mb,mo,none⟩) n cm)∧w'.cell? ⟨mb,mo+k,none⟩=some (.slice Ar row.length cr)∧w'.cell? ⟨ob,0,none⟩=some (.slice (some ⟨bo,0,none⟩) n n)) wb.drew:=⟨y0,m1,o0⟩;refine Zx ?_;have hb:Below wb.heap.size wb wb.drew:=aK (Below.refl _ wb) 1;replace y0:=aj y0 hb;replace m1:=aj m1 hb;replace o0:=aj o0 hb;replace HNV:=Af (AB.on HNV.out (Below.same' hb _));replace HMB:=Af (HMB.out.below hb);replace HOB:=Af (HOB.out.below hb HOB.out.lt);replace hBe:=hBe.trans (hb.mono hBe.size);clear hb;generalize wb.drew=wn at *;refine tkm [0,1,2,3,4,5] ?_;refine tk2 6 ah rfl fun K hK=>?_
    go_simp;refine(yt wn (Old (fun _=>True) W2.heap.size) _ row HNV.out byOmega (fun x hx=>by have:=HRL.out x hx; omega)).mono ?_;rintro e wn ⟨u,rfl,hb,hu⟩;have hsz:=HMB.out.size;have HRW:=Af (show AB _ (GoF (fun _=>True) W2 W4.heap.size) u (row.map au) from AB.keep hu (fun b hb _=>hb.imp id fun h=>by omega) (Same.refl _ _));obtain⟨Az,cz,e,-,-⟩:=hu;rw[List.length_map] at e;subst e;replace y0:=aj y0 hb;replace m1:=aj m1 hb;replace o0:=aj o0 hb;replace HNV:=Af (AB.on HNV.out (Below.same' hb _));replace HMB:=Af (HMB.out.below hb);replace HOB:=Af (HOB.out.below hb HOB.out.lt);replace hBe:=hBe.trans (hb.mono hBe.size);clear hb;dsimp only;clear hHeld;refine hK.out _ _ ⟨y0,m1,o0⟩ (fun hHeld=>?_);clear hK K;refine Za ?_;refine tkm [7] ?_;refine ZC ?_;clear hHeld;have c0:=HMB.out.row.cell (i:=k) (by have:=pJ (vs:=vs) (n:=n) (by rw[HVL.out]; exact hk); rwa [HVL.out] at this);have fz:=HMB.out.row.frozen k;obtain⟨W9,hW9⟩:=named (wn.setCell ⟨bo,k,none⟩ (.slice Az row.length cz));have hob:=HOB.out.lt;have HM9:=Af (show MkO (fun _=>True) W2 bo 110 n W4.heap.size (vs ++ [.slice Az row.length cz]) ((r.take (k+1)).map (List.map au)) W9 by rw[hW9,take_snoc Bd.out,List.map_append]; exact HMB.out.lay (by rw[HVL.out]; exact hk) HRW.out HVL.out);have HO9:=Af (show Row W9 ob _ _ from hW9▸HOB.out.other (a:=⟨bo,k,none⟩) aG _);have HK9:=Af (show KeepsFrom W4.heap.size W W9 from hW9▸(jJ hBe _).trans ((KeepsOthers.setCell _ _ _).from _));have hWW:=hBe.size;have HB9:=Af (show Below W2.heap.size W W9 from hW9▸(hBe.mono (by have:=hbel.size; omega)).setCell (p:=⟨bo,k,none⟩) ko1 _);have HW9:=Af hW9;have hb29:=HM9.out.bel;clear hW9 HMB HOB HNV hBe hob hWW HRW;go_wp2
    rw[← HW9.out];unfold AZ;refine Yh ?_;clear c0 fz o0 y0 m1 HW9;obtain⟨A',c',e,_,hxu⟩:=HU.out;rw[fH,HGI.out] at e;injection e with e1 e2 e3
    subst e1;obtain⟨pb,po,rfl,_,hpb,hcu⟩:=hxu (by rw[fH,HGI.out]; omega);obtain⟨q0,q1⟩:=hcu k s HSG.out;have p0:=(hb29.cell (p:=⟨pb,po+k*2,none⟩) hpb).trans q0;have p1:=(hb29.cell (p:=⟨pb,po+k*2+1,none⟩) hpb).trans q1;have u0:=(hb29.cell (p:=⟨ub,0,none⟩) ru.lt).trans (ru.cell (i:=0) rfl);have c9:=HM9.out.row.cell (i:=k) (v:=.slice Az row.length cz) (by unfold jB; rw[List.getElem?_append_left (by rw[List.length_append,HVL.out]; simp),List.getElem?_append_right (by rw[HVL.out]; exact Nat.le_refl _),HVL.out,Nat.sub_self]; rfl);have o0:=HO9.out.cell (i:=0) rfl;obtain⟨s1,s2⟩:=s;dsimp only at p0 p1;have HNV:=Af (show AB W9 (GoF (fun _=>True) W2 W4.heap.size) (.slice Az row.length cz) (row.map au) from HM9.out.done.2 k _ _ (by rw[List.getElem?_append_right (by rw[HVL.out]; exact Nat.le_refl _),HVL.out,Nat.sub_self]; rfl) (by rw[List.getElem?_map,List.getElem?_take,if_pos byOmega,Bd.out]; rfl));have HMB:=HM9;have hBe:=Below.refl W9.heap.size W9;clear e2 e3 hxu hcu q0 q1;gi_wp2_with fail;refine qP (S:=fun w'=>w'.cell? ⟨ob,0,none⟩=some (.slice (some ⟨bo,0,none⟩) n n)∧w'.cell? ⟨bo,k,none⟩=some (.slice Az row.length cz)∧w'.cell? ⟨ub,0,none⟩=some (.slice (some ⟨pb,po,none⟩) n cu)∧w'.cell? ⟨pb,po+k*2,none⟩=some (.int .i64 s1)∧w'.cell? ⟨pb,po+k*2+1,none⟩=some (.int .i64 s2)) ah ah (by rintro⟨_,_,hh⟩; exact hh) ⟨o0,c9,u0,p0,p1⟩ (fun hHeld=>?_);have hb:Below W9.heap.size W9 W9.drew:=aK (Below.refl _ W9) 1;refine Yx ?_;clear o0 c9 u0 p0 p1 HNV HMB hBe;intro o0 c9 u0 p0 p1 HNV HMB hBe;clear hb;generalize W9.drew=wn at *;refine tkm [0,1,2,3,5,6,7,8,9] ?_;refine tk2 4 ah rfl fun K hK=>?_
    go_simp;refine(sum_any wn (GoF (fun _=>True) W2 W4.heap.size) _ row HNV.out byOmega (fun x hx=>by have:=HRL.out x hx; omega) (sW ako (fun x hx=>by have:=HRL.out x hx; omega))).mono ?_;rintro e wn ⟨u,rfl,hb,hu⟩;have HSV:=Af (Ak.mono (G:=(fun _=>True)) hu (fun _ _ _=>trivial));obtain⟨A5,c5,B5,d5,rfl,-⟩:=hu.opened;clear hu;refine Yx ?_;clear o0 c9 u0 p0 p1 HNV HMB hBe;intro o0 c9 u0 p0 p1 HNV HMB hBe;clear hb;dsimp only;clear hHeld;refine hK.out _ _ ⟨o0,c9,u0,p0,p1⟩ (fun hHeld=>?_);clear hK K;refine Za ?_;refine tk2 10 ah rfl fun K hK=>?_
    go_simp;refine(afp HMB.out (by rw[List.length_append,HVL.out]; rfl) byOmega (by rw[← HN.out]; omega) (s1,s2) (HUP.out.imp id fun h=>⟨h.1,by have:=h.2.1; omega,h.2.2.1,h.2.2.2⟩)).mono ?_;rintro e wn ⟨u,rfl,hb,hu⟩;have HFV:=Af (Ak.mono (G:=(fun _=>True)) hu (fun _ _ _=>trivial));obtain⟨A6,c6,B6,d6,rfl,-⟩:=hu.opened;clear hu;refine Yx ?_;clear o0 c9 u0 p0 p1 HNV HMB hBe;intro o0 c9 u0 p0 p1 HNV HMB hBe;replace HSV:=Af (Ak.on HSV.out (Below.same' hb _));clear hb;dsimp only;clear hHeld;refine hK.out _ _ ⟨o0,c9,u0,p0,p1⟩ (fun hHeld=>?_);clear hK K;refine Za ?_;refine tk2 11 ah rfl fun K hK=>?_
    go_simp;refine(vJ wn (fun _=>True) _ _ (jh row) (jr r (s1,s2)) HSV.out HFV.out (by rw[HSM.out]; have:=HOK.out.afK (s1,s2); omega) (by have:=HOK.out.afK (s1,s2); omega)).mono ?_;rintro e wn ⟨_,rfl,hb,rfl⟩;rw[show lQ (jh row) (jr r (s1,s2))=0 from(o8 _ _).2 HSM.out];refine Yx ?_;clear o0 c9 u0 p0 p1 HNV HMB hBe;intro o0 c9 u0 p0 p1 HNV HMB hBe;replace HSV:=Af (Ak.on HSV.out (Below.same' hb _));replace HFV:=Af (Ak.on HFV.out (Below.same' hb _));clear hb;dsimp only;clear hHeld;refine hK.out _ _ ⟨o0,c9,u0,p0,p1⟩ (fun hHeld=>?_);clear hK K;refine Za ?_;refine tkm [12] ?_;refine Yq ?_;clear hHeld;refine Yh ?_;have HKF:=Af (HK9.out.trans (jJ hBe _));have HBW2:=Af (HB9.out.trans (hBe.mono (by have:=HM9.out.bel.size; omega)));have AU:=Af (show BInv (fun _=>True) W2 r bo n ob W4.heap.size (k+1) wn from⟨⟨vs ++ [.slice Az row.length cz],by rw[List.length_append,HVL.out]; rfl,HMB.out⟩,HO9.out.below hBe HO9.out.lt⟩);clear o0 c9 u0 p0 p1 hBe HMB HM9;gi_wp2;exact⟨HKF.out,HBW2.out,AU.out⟩
theorem yZ:aH 1=⟨false,[1],[1]⟩:=by
 unfold aH;exact zb9
def knM:List (List Rat):=[[1,0],[0,1],[0,0,1]]
def knR:List (List Rat):=[[1,0],[0,1],[0,0,0]]
def knB:List (List Rat):=[[1,0],[0,1],[mkRat 1 3,mkRat 1 3,mkRat 1 3]]
def knX:List (List Rat):=[[1,0],[1,0],[1,0,0]]
def knY:List (List Rat):=[[0,1],[0,1],[0,0,1]]
def knZ:List (List Rat):=[[mkRat 3 4,mkRat 1 4],[mkRat 3 4,mkRat 1 4],[0,0,1]]
def knW:List (List Rat):=[[1,1],[1,0],[1,0,0]]
def zo:Raw:=⟨false,[],[1]⟩
def on:Raw:=⟨false,[1],[1]⟩
theorem ai6:knM.map (List.map aH) = [[on,zo],[zo,on],[zo,zo,on]]:=by unfold knM on zo; simp only[List.map_cons,List.map_nil,qB,yZ]
theorem ai7:knX.map (List.map aH) = [[on,zo],[on,zo],[on,zo,zo]]:=by unfold knX on zo; simp only[List.map_cons,List.map_nil,qB,yZ]
theorem ai8:knY.map (List.map aH) = [[zo,on],[zo,on],[zo,zo,on]]:=by unfold knY on zo; simp only[List.map_cons,List.map_nil,qB,yZ]
theorem ai9:knW.map (List.map aH) = [[on,on],[on,zo],[on,zo,zo]]:=by unfold knW on zo; simp only[List.map_cons,List.map_nil,qB,yZ]
theorem agY:dM aV (knM.map (List.map aH))=0:=by rw[ai6]; decide +kernel
theorem agZ:dM aV (knX.map (List.map aH))=0:=by rw[ai7]; decide +kernel
theorem ag0:dM aV (knY.map (List.map aH))=0:=by rw[ai8]; decide +kernel
theorem ag1:dM aV (knW.map (List.map aH))=14:=by rw[ai9]; decide +kernel
theorem ad8:pU aV [0,1,2]=0:=by decide +kernel
theorem ad9:pU aV [0,0,0]=0:=by decide +kernel
theorem aea:pU aV [1,1,2]=0:=by decide +kernel
theorem aio:pU aV [0,1,3]=2:=by decide +kernel
theorem aip:pU aV [0,1]=3:=by decide +kernel
theorem uO {g:Gm} {c:List Int} {m:List (List Rat)} (h:pU g c=0) (hm:jH g c=m):lM g c=m.map (List.map aH):=by
 unfold lM;rw[if_neg (by rw[h]; decide),hm]
theorem aja:lM aV [0,1,2]=knM.map (List.map aH):=uO ad8 (by decide +kernel)
theorem ajb:lM aV [0,0,0]=knX.map (List.map aH):=uO ad9 (by decide +kernel)
theorem ajc:lM aV [1,1,2]=knY.map (List.map aH):=uO aea (by decide +kernel)
theorem aiq:ofE aV (knM.map (List.map aH))=0:=by
 unfold ofE;rw[if_neg (by rw[agY]; decide),lF]
theorem air:wH aV (knM.map (List.map aH))=knR.map (List.map aH):=by
 unfold wH;rw[if_neg (by rw[aiq]; decide),oZ,kL,show bD [(-1,-1),(-1,-1),(0,1)] knM=knR by decide +kernel]
theorem ajd:iH knR=knB:=by decide +kernel
theorem oh {m:List (List Rat)} (h:∀ l∈m,l.length≤3∧∀ x∈l,x=0∨x=1∨x=mkRat 1 3∨x=mkRat 1 4∨x=mkRat 3 4):∀ l∈m,l.length≤3∧∀ x∈l,rl x≤4:=fun l hl=>⟨(h l hl).1,fun x hx=>by
 rcases (h l hl).2 x hx with rfl | rfl | rfl | rfl | rfl
 ·rw[su]; omega
 ·rw[qA]; omega
 all_goals exact Nat.le_trans (aaZ ay (aY (k:=1) (by unfold LB; decide)) (aY (k:=1) (by unfold LB; decide))) ay⟩
theorem y8 {m:List (List Rat)} (h:∀ l∈m,l.length≤3∧∀ x∈l,rl x≤4):lX m.flatten=0:=qL fun x hx=>by
 obtain⟨l,hl,hx⟩:=List.mem_flatten.1 hx;have:=(h l hl).2 x hx;omega
theorem wI {m:List (List Rat)} (hm:m.length≤3) (h:∀ l∈m,l.length≤3∧∀ x∈l,rl x≤4):BL (m.map (List.map aH)) :=
 adZ byOmega fun l hl=>⟨by have:=(h l hl).1; omega,fun x hx=>by have:=(h l hl).2 x hx; omega⟩
theorem wJ {m:List (List Rat)} (h:∀ l∈m,l.length≤3∧∀ x∈l,rl x≤4):BO (m.map (List.map aH)):=by
 intro l hl r hr;obtain⟨l',hl',rfl⟩:=List.mem_map.1 hl;obtain⟨x,hx,rfl⟩:=List.mem_map.1 hr;have h1:=(h l' hl').2 x hx;have h2:=gy x;have h3:=gB x;rw[nJ];exact⟨byOmega,by show(dig x.den).length≤4; omega⟩
theorem y9 {m:List (List Rat)} (h:∀ l∈m,l.length≤3∧∀ x∈l,rl x≤4):∀ l∈m.map (List.map aH),l.length≤20:=by
 intro l hl;obtain⟨l',hl',rfl⟩:=List.mem_map.1 hl;rw[List.length_map];have:=(h l' hl').1;omega
theorem zf {m:List (List Rat)} (h:∀ l∈m,l.length≤3∧∀ x∈l,rl x≤4):BD (m.map (List.map aH)):=by
 intro l hl;have h1:=y9 h l hl;have h2:=wJ h l hl;refine⟨byOmega,fun r hr=>?_⟩;have h3:=h2 r hr;obtain⟨l',hl',rfl⟩:=List.mem_map.1 hl;obtain⟨x,_,rfl⟩:=List.mem_map.1 hr;exact⟨yY x,byOmega,byOmega⟩
theorem zh:∀ l∈knM,l.length≤3∧∀ x∈l,rl x≤4:=oh fun l hl=>by
 unfold knM at hl;simp only[List.mem_cons,List.not_mem_nil,or_false] at hl;rcases hl with rfl | rfl | rfl <;> exact⟨ay,fun x hx=>by simp only[List.mem_cons,List.not_mem_nil,or_false] at hx; rcases hx with rfl | rfl | rfl <;> simp⟩
theorem afL:∀ l∈knR,l.length≤3∧∀ x∈l,rl x≤4:=oh fun l hl=>by
 unfold knR at hl;simp only[List.mem_cons,List.not_mem_nil,or_false] at hl;rcases hl with rfl | rfl | rfl <;> exact⟨ay,fun x hx=>by simp only[List.mem_cons,List.not_mem_nil,or_false] at hx; rcases hx with rfl | rfl | rfl <;> simp⟩
theorem acG:∀ l∈knB,l.length≤3∧∀ x∈l,rl x≤4:=oh fun l hl=>by
 unfold knB at hl;simp only[List.mem_cons,List.not_mem_nil,or_false] at hl;rcases hl with rfl | rfl | rfl <;> exact⟨ay,fun x hx=>by simp only[List.mem_cons,List.not_mem_nil,or_false] at hx; rcases hx with rfl | rfl | rfl <;> simp⟩
theorem acH:∀ l∈knX,l.length≤3∧∀ x∈l,rl x≤4:=oh fun l hl=>by
 unfold knX at hl;simp only[List.mem_cons,List.not_mem_nil,or_false] at hl;rcases hl with rfl | rfl | rfl <;> exact⟨ay,fun x hx=>by simp only[List.mem_cons,List.not_mem_nil,or_false] at hx; rcases hx with rfl | rfl | rfl <;> simp⟩
theorem acI:∀ l∈knY,l.length≤3∧∀ x∈l,rl x≤4:=oh fun l hl=>by
 unfold knY at hl;simp only[List.mem_cons,List.not_mem_nil,or_false] at hl;rcases hl with rfl | rfl | rfl <;> exact⟨ay,fun x hx=>by simp only[List.mem_cons,List.not_mem_nil,or_false] at hx; rcases hx with rfl | rfl | rfl <;> simp⟩
theorem acJ:∀ l∈knZ,l.length≤3∧∀ x∈l,rl x≤4:=oh fun l hl=>by
 unfold knZ at hl;simp only[List.mem_cons,List.not_mem_nil,or_false] at hl;rcases hl with rfl | rfl | rfl <;> exact⟨ay,fun x hx=>by simp only[List.mem_cons,List.not_mem_nil,or_false] at hx; rcases hx with rfl | rfl | rfl <;> simp⟩
theorem aje:∀ l∈knW,l.length≤3∧∀ x∈l,rl x≤4:=oh fun l hl=>by
 unfold knW at hl;simp only[List.mem_cons,List.not_mem_nil,or_false] at hl;rcases hl with rfl | rfl | rfl <;> exact⟨ay,fun x hx=>by simp only[List.mem_cons,List.not_mem_nil,or_false] at hx; rcases hx with rfl | rfl | rfl <;> simp⟩
theorem ag2:Dc aV knR where
 len:=by decide +kernel
 acts k l inf hl hi:=by
  have h:∀ k:Nat,k < 3→((knR.getD k []).length:Int)=(aV.infos.getD k default).actions:=by decide +kernel
  have hk:k < 3:=aJ hl;have:=h k hk;rw[List.getD_eq_getElem?_getD,List.getD_eq_getElem?_getD,hl,hi] at this;exact this
 pos:=by decide +kernel
 fits l hl x hx:=by have:=(afL l hl).2 x hx; omega
 sum k l s hl hs:=by
  have h:∀ k:Nat,k < 3→jh (knR.getD k [])=jr knR ((aS aV).getD k (-1,-1)):=by decide +kernel
  have hk:k < 3:=aJ hl;have:=h k hk;rw[List.getD_eq_getElem?_getD,List.getD_eq_getElem?_getD,hl,hs] at this;exact this
 up k s hs:=by
  have h:∀ k:Nat,k < 3→((aS aV).getD k (-1,-1)).1 < 0∨(0≤((aS aV).getD k (-1,-1)).1∧((aS aV).getD k (-1,-1)).1 < (k:Int)∧0≤((aS aV).getD k (-1,-1)).2∧((aS aV).getD k (-1,-1)).2 < ((knR.getD ((aS aV).getD k (-1,-1)).1.toNat []).length:Int)):=by decide +kernel
  have hk:k < 3:=by have:=aJ hs;rwa [kL] at this
  have:=h k hk;rw[List.getD_eq_getElem?_getD,hs] at this;exact this
theorem ais:eH (aH (mkRat 1 4))=0:=by
 have h:iC (aH (mkRat 1 4))=0:=uH (Nat.le_trans (aaZ ay (aY (k:=1) (by unfold LB; decide)) (aY (k:=1) (by unfold LB; decide))) ay);rw[aad _ h,if_neg];rintro(h | h)
 ·revert h; decide +kernel
 ·revert h; decide +kernel
theorem aeb:tX aV (knX.map (List.map aH)) (knY.map (List.map aH)) (aH (mkRat 1 4))=0:=by
 unfold tX;rw[if_neg (by rw[agZ]; decide),if_neg (by rw[lY ag0]; decide),if_neg (by rw[ais]; decide),lF]
theorem afM:aaS aV (knX.map (List.map aH)) (knY.map (List.map aH)) (aH (mkRat 1 4))=knZ:=by
 unfold aaS;rw[oZ,oZ,nR,kL];decide +kernel
theorem ajf:agM aV (knX.map (List.map aH)) (knY.map (List.map aH)) (aH (mkRat 1 4))=0:=by
 unfold agM;rw[if_neg (by rw[aeb]; decide),afM,y8 acJ]
theorem ag3:xG aV (knX.map (List.map aH)) (knY.map (List.map aH)) (aH (mkRat 1 4))=knZ.map (List.map aH):=by
 unfold xG qI;rw[if_neg (by rw[aeb]; decide),afM,if_neg (by rw[y8 acJ]; decide)]
end Go.Proofs.YthmklhapjegfdaaGreatDoor
