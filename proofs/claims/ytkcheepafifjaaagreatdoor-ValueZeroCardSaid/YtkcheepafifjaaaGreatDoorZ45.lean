/- what games and strategies that numbers select are like: in the form in which the walks ask for it. -/
import Derived.Test.YtkcheepafifjaaaGreatDoorZ44
import Derived.Test.YtkcheepafifjaaaGreatDoorZ39
set_option linter.all false
namespace Go.Proofs.YtkcheepafifjaaaGreatDoor
open Go.RowKit
section
variable {C:MC} {V:List View} {cr:List Nat} {g:Gm}
theorem Bl.small (h:Bl C V cr g) (hp4:g.au≤4) (hm:C.most≤100):Small g:=by
 have h1:=h.most;have h2:=h.many;have key:∀ n∈g.nodes,n.next.length≤100∧n.weights.length≤100∧n.pay.length≤100:=fun n hn=>by
  rcases h.node hn with⟨_,_,_,e4,e5,e6,_⟩ | ⟨l,seen,_,_,m3,m4,m5⟩
  ·rw[e4,e5];have:=h.au;exact⟨by simp,by simp,by omega⟩
  ·rw[m4];rcases m5 with⟨_,_,_,_,a4,_⟩ | ⟨_,_,_,a3,_⟩
   ·exact⟨by omega,by omega,by simp⟩
   ·rw[a3]; exact⟨by omega,by simp,by simp⟩
 exact⟨by omega,by omega,fun n hn=>(key n hn).1,fun n hn=>(key n hn).2.1,fun n hn=>(key n hn).2.2⟩
theorem Bl.actions (h:Bl C V cr g):∀ i∈g.infos,1≤i.actions∧i.actions≤3:=by
 intro i hi;obtain⟨x,hx⟩:=List.getElem?_of_mem hi;obtain⟨c,hc⟩:=aB (l:=cr) (k:=x) (by rw[h.len]; exact aC hx);obtain⟨n,n1,n2,n3⟩:=(h.km.has x c hc).resolve_right (by simp);rcases h.node (List.mem_of_getElem? n1) with he | ⟨l,seen,_,m2,m3,_,m5⟩
 ·have:=he.1; omega
 ·rcases m5 with⟨_,a1,_⟩ | ⟨_,_,_,_,y,a4,a5,_⟩
  ·omega
  ·have:y=x:=by omega
   subst this;rw[hx] at a5; cases a5;dsimp only;omega
end
structure Ci (g:Gm) (au:Int) (zero:Bool) (most:Int):Prop where
 form:jd g=0
 small:Small g
 acts:∀ i∈g.infos,1≤i.actions∧i.actions≤10
 hpl:g.au=au
 hmo:(g.nodes.length:Int)≤most
 hz:zero=true→au=2→∀ n∈g.nodes,n.kind=3→∃ x,n.pay = [x,-x]
theorem acI (L:List Int) {au most:Int} (zero:Bool) (hp1:1≤au) (hp4:au≤4) (hm1:1≤most) (hm:most≤100):Ci (yR L au most zero) au zero most:=by
 obtain⟨C,V,cr,h,hz,hmo⟩:=ags L zero hp1 hm1;have hpl:(yR L au most zero).au=au:=rfl;refine⟨h.form (by rw[hpl]; exact hp1) (by rw[hpl]; exact hp4) (by omega),h.small (by rw[hpl]; exact hp4) (by omega),fun i hi=>?_,hpl,by have:=h.most; omega,fun z0 p2 n hn hk=>?_⟩
 ·have:=h.actions i hi; omega
 ·rcases h.node hn with he | ⟨l,seen,_,_,_,_,m5⟩
  ·exact he.2.2.2.2.2.2.2 (by rw[hz]; exact z0) (by rw[h.au,hpl]; exact p2)
  ·rcases m5 with⟨_,a1,_⟩ | ⟨_,a1,_⟩ <;> omega
structure BG (g:Gm) (m:List (List Rat)):Prop where
 rows:BJ g m
 ad6:iO g (m.map (List.map aG))=0
 fit:Fit g m
 fine:AV (m.map (List.map aG))
 len:m.length≤100000
theorem ag9 (x:Rat):U32 (aG x):=⟨fun y hy=>by have:=aJ x.num.natAbs y hy; unfold LB at this; omega,fun y hy=>by have:=aJ x.den y hy; unfold LB at this; omega⟩
theorem BJ.facts {g:Gm} {m:List (List Rat)} (hf:jd g=0) (hs:Small g) (hr:BJ g m):BG g m:=by
 have hl4:=hr.limbs;refine⟨hr,hr.ad6 hf,hr.fit hf,fun l hl=>?_,by have:=hr.1; have:=hs.infos; omega⟩;obtain⟨l',hl',rfl⟩:=List.mem_map.1 hl;obtain⟨k,hk⟩:=List.getElem?_of_mem hl';obtain⟨i,hi⟩:=aB (l:=g.infos) (k:=k) (by have:=aC hk; have:=hr.1; omega);have h1:=(hr.2 k i l' hi hk).1;have h2:=yP hf i (List.mem_of_getElem? hi);refine⟨by rw[List.length_map]; omega,fun r hr'=>?_⟩;have h4:=hl4 _ hl r hr';obtain⟨x,_,rfl⟩:=List.mem_map.1 hr';exact⟨ag9 x,by omega,by omega⟩
theorem abj (L:List Int) (a:Nat) {g:Gm} {au:Int} {zero:Bool} {most:Int} (h:Ci g au zero most):BG g (abb L a g):=(aco L a h.acts).facts h.form h.small
theorem BG.zero {g:Gm} {m:List (List Rat)} (h:BG g m) {most:Int} (hg:Ci g 2 true most):∃ a:Rat,dH g m 0 = [a,-a]∧o7 (dH g m 0)=0∧fitsV (dH g m 0) = [aG a,aG (-a)]∧rl a≤1024∧rl (-a)≤1024:=by
 obtain⟨a,ha⟩:=h.fit.anti hg.hpl (hg.hz rfl rfl) _ 0 (Nat.le_refl _) h.fit.good.pos;have hr:=h.fit.yH h.fit.good.pos;have hn:=hg.small.nodes;rw[ha] at hr;have h1:=hr a (by simp); have h2:=hr (-a) (by simp);have he:o7 (dH g m 0)=0:=kE fun x hx=>by rw[ha] at hx; have:=hr x hx; omega
 exact⟨a,ha,he,by unfold fitsV; rw[he,if_neg (by simp),ha]; rfl,by omega,by omega⟩
theorem AU.wr {K:Ae} {w w':World} (h:AU w) (hw:Wrote K w w') (hK:¬ K 0):AU w':=fun j hj=>bI (h j hj) hw hK
end Go.Proofs.YtkcheepafifjaaaGreatDoor
