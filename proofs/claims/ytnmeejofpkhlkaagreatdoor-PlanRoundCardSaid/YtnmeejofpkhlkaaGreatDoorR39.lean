/- what games and strategies that numbers select are like: in the form in which the walks ask for it. -/
import Derived.Test.YtnmeejofpkhlkaaGreatDoorR29
import Derived.Test.YtnmeejofpkhlkaaGreatDoorR30
import Derived.Sort.CutIn
import Derived.Deep.Cut
set_option linter.all false
namespace Go.Proofs.YtnmeejofpkhlkaaGreatDoor
open Go.RowKit
section
variable {C:MC} {V:List View} {cr:List Nat} {g:Gm}
theorem BF.small (h:BF C V cr g) (hp4:g.aA≤4) (hm:C.most≤100):Small g:=by
 have h1:=h.most;have h2:=h.many;have key:∀ n∈g.nodes,n.next.length≤100∧n.weights.length≤100∧n.pay.length≤100:=fun n hn=>by
  rcases h.node hn with⟨_,_,_,e4,e5,e6,_⟩ | ⟨l,seen,_,_,m3,m4,m5⟩
  ·rw[e4,e5];have:=h.aA;exact⟨aB,aB,byOmega⟩
  ·rw[m4];rcases m5 with⟨_,_,_,_,a4,_⟩ | ⟨_,_,_,a3,_⟩
   ·exact⟨byOmega,byOmega,aB⟩
   ·rw[a3];exact⟨byOmega,aB,aB⟩
 exact⟨byOmega,byOmega,fun n hn=>(key n hn).1,fun n hn=>(key n hn).2.1,fun n hn=>(key n hn).2.2⟩
theorem BF.actions (h:BF C V cr g):∀ i∈g.infos,1≤i.actions∧i.actions≤3:=by
 intro i hi;obtain⟨x,hx⟩:=List.getElem?_of_mem hi;obtain⟨c,hc⟩:=getSome (l:=cr) (k:=x) (by rw[h.len]; exact lt_of_get hx);obtain⟨n,n1,n2,n3⟩:=(h.km.has x c hc).resolve_right aB;rcases h.node (List.mem_of_getElem? n1) with he | ⟨l,seen,_,m2,m3,_,m5⟩
 ·have:=he.1;omega
 ·rcases m5 with⟨_,a1,_⟩ | ⟨_,_,_,_,y,a4,a5,_⟩
  ·omega
  ·have:y=x:=byOmega;subst this;rw[hx] at a5;cases a5;dsimp only;omega
end
structure DW (g:Gm) (aA:Int) (zero:Bool) (most:Int):Prop where
 form:bP g=0
 small:Small g
 acts:∀ i∈g.infos,1≤i.actions∧i.actions≤10
 hpl:g.aA=aA
 hmo:(g.nodes.length:Int)≤most
 hz:zero=true→aA=2→∀ n∈g.nodes,n.kind=3→∃ x,n.pay = [x,-x]
theorem zn (L:List Int) {aA most:Int} (zero:Bool) (hp1:1≤aA) (hp4:aA≤4) (hm1:1≤most) (hm:most≤100):DW (pW L aA most zero) aA zero most:=by
 obtain⟨C,V,cr,h,hz,hmo⟩:=aiV L zero hp1 hm1;have hpl:(pW L aA most zero).aA=aA:=rfl;refine⟨h.form (by rw[hpl]; exact hp1) (by rw[hpl]; exact hp4) byOmega,h.small (by rw[hpl]; exact hp4) byOmega,fun i hi=>?_,hpl,by have:=h.most; omega,fun z0 p2 n hn hk=>?_⟩
 ·have:=h.actions i hi;omega
 ·rcases h.node hn with he | ⟨l,seen,_,_,_,_,m5⟩
  ·exact he.2.2.2.2.2.2.2 (by rw[hz]; exact z0) (by rw[h.aA,hpl]; exact p2)
  ·rcases m5 with⟨_,a1,_⟩ | ⟨_,a1,_⟩ <;> omega
structure DF (g:Gm) (m:List (List Rat)):Prop where
 rows:Bc g m
 yZ:dM g (m.map (List.map aG))=0
 fit:Fit g m
 fine:BG (m.map (List.map aG))
 len:m.length≤100000
theorem zJ (x:Rat):U32 (aG x):=⟨fun y hy=>by have:=aP x.num.natAbs y hy; unfold LB at this; omega,fun y hy=>by have:=aP x.den y hy; unfold LB at this; omega⟩
theorem Bc.facts {g:Gm} {m:List (List Rat)} (hf:bP g=0) (hs:Small g) (hr:Bc g m):DF g m:=by
 have hl4:=hr.limbs;refine⟨hr,hr.yZ hf,hr.fit hf,fun l hl=>?_,by have:=hr.1; have:=hs.infos; omega⟩;obtain⟨l',hl',rfl⟩:=List.mem_map.1 hl;obtain⟨k,hk⟩:=List.getElem?_of_mem hl';obtain⟨i,hi⟩:=getSome (l:=g.infos) (k:=k) (by have:=lt_of_get hk; have:=hr.1; omega);have h1:=(hr.2 k i l' hi hk).1;have h2:=qV hf i (List.mem_of_getElem? hi);refine⟨by rw[List.length_map]; omega,fun r hr'=>?_⟩;have h4:=hl4 _ hl r hr';obtain⟨x,_,rfl⟩:=List.mem_map.1 hr';exact⟨zJ x,byOmega,byOmega⟩
theorem Bz.wr {K:Foot} {w w':World} (h:Bz w) (hw:Wrote K w w') (hK:¬ K 0):Bz w':=fun j hj=>dh (h j hj) hw hK
end Go.Proofs.YtnmeejofpkhlkaaGreatDoor
