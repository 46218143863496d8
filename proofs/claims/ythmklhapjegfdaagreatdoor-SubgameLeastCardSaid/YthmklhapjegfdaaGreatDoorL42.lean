/- package value: what reach holds between two rounds. -/
import Derived.Test.YthmklhapjegfdaaGreatDoorL40
import Derived.Test.YthmklhapjegfdaaGreatDoorL24
set_option linter.all false
namespace Go.Proofs.YthmklhapjegfdaaGreatDoor
open Go.RowKit Go.Shelf
structure CU (W:World) (G:Ac) (cnt:Nd→Bool) (nodes:List Nd) (m:List (List Rat)) (BR:List Value):Prop where
 len:BR.length=nodes.length
 each:∀ (j:Nat) (n:Nd) (v:Value),nodes[j]? = some n→BR[j]? = some v→v = .slice none 0 0∨(cnt n=true∧(∃ b c,v = .slice (some ⟨b,0,none⟩) (oZ m n).length c)∧BN W G v (oZ m n))
theorem CU.start (W:World) (G:Ac) (cnt:Nd→Bool) (nodes:List Nd) (m:List (List Rat)):CU W G cnt nodes m (List.replicate nodes.length (.slice none 0 0)) :=
 ⟨by simp,fun j n v _ hv=>.inl (by rw[List.getElem?_replicate] at hv; split at hv <;> simp_all)⟩
theorem CU.keep {W W':World} {G:Ac} {cnt:Nd→Bool} {nodes:List Nd} {m:List (List Rat)} {BR:List Value} (h:CU W G cnt nodes m BR) (hs:Same G W W'):CU W' G cnt nodes m BR :=
 ⟨h.len,fun j n v hn hv=>(h.each j n v hn hv).imp id fun ⟨h1,h2,h3⟩=>⟨h1,h2,h3.on hs⟩⟩
theorem CU.kept {W W':World} {row:Option Nat} {G:Ac} {cnt:Nd→Bool} {nodes:List Nd} {m:List (List Rat)} {BR:List Value} (h:CU W G cnt nodes m BR) (hg:W.grownBy W' row) (hr:∀ r,row=some r→∃ o:Obj,W.heap[r]? = some o∧o.isCells=false):CU W' G cnt nodes m BR :=
 ⟨h.len,fun j n v hn hv=>(h.each j n v hn hv).imp id fun ⟨h1,h2,h3⟩=>⟨h1,h2,h3.kept hg hr⟩⟩
theorem CU.set {W:World} {G:Ac} {cnt:Nd→Bool} {nodes:List Nd} {m:List (List Rat)} {BR:List Value} (h:CU W G cnt nodes m BR) {j:Nat} {n:Nd} {v:Value} (hn:nodes[j]? = some n) (hc:cnt n=true) (hv:∃ b c,v = .slice (some ⟨b,0,none⟩) (oZ m n).length c) (hm:BN W G v (oZ m n)):CU W G cnt nodes m (BR.set j v):=by
 refine⟨by rw[List.length_set]; exact h.len,fun j' n' v' hn' hv'=>?_⟩;by_cases e:j=j'
 ·subst e;rw[hn] at hn'; cases hn';rw[List.getElem?_set_self (by rw[h.len]; exact aB hn)] at hv';cases hv'
  exact .inr ⟨hc,hv,hm⟩
 ·rw[List.getElem?_set_ne e] at hv';exact h.each j' n' v' hn' hv'
structure CP (w:World) (F:Ac) (g:Gm) (m:List (List Rat)) (cnt:Nd→Bool) (bo bb lb:Nat) (R:Nat) (L:List RV) (o:List Rat) (BR:List Value) (W:World):Prop where
 lmap:L.map RV.r=o.map aC
 ajd:o.length=g.nodes.length
 rls:∀ r∈o,rl r≤1+4*R
 made:Aw W bo 118 (fun b=>(F b∧b < w.heap.size)∨lb < b) L
 aki:Row W bb 110 BR
 brok:CU W (fun b=>(F b∧b < w.heap.size)∨lb < b) cnt g.nodes m BR
def Dw (g:Gm) (m:List (List Rat)) (cnt:Nd→Bool) {N:Nat} (pre:List (Fin N)) (o:List Rat) (BR:List Value):Prop :=
 pre=yP N pre.length→(∀ j,j < pre.length→o[j]? = some (jE cnt g.nodes m j))∧∀ j n,g.nodes[j]? = some n→j < pre.length→cnt n=true→BR[j]?≠some (.slice none 0 0)
section
variable {w:World} {F:Ac} {g:Gm} {m:List (List Rat)} {bp:Nat} {cf:FuncId} {caps:Array Value} {cnt:Nd→Bool} {bo ob bb xb lb R:Nat} {L:List RV} {o:List Rat} {BR:List Value} {W W':World}
theorem CP.below (h:CP w F g m cnt bo bb lb R L o BR W) (hb:Below W.heap.size W W'):CP w F g m cnt bo bb lb R L o BR W' :=
 ⟨h.lmap,h.ajd,h.rls,h.made.below hb,h.aki.below hb h.aki.lt,h.brok.keep (Below.same' hb _)⟩
end
theorem air {N:Nat} {pre:List (Fin N)} {x:Fin N} (h:pre ++ [x]=yP N (pre ++ [x]).length) (hl:pre.length < N):pre=yP N pre.length∧x.1=pre.length:=by
 rw[List.length_append,List.length_singleton,afz hl] at h;have h1:=List.append_inj h (by rw[acS (by omega)]);refine⟨h1.1,?_⟩;have h2:=h1.2;simp only[List.cons.injEq,and_true] at h2;rw[h2]
theorem Dw.next {g:Gm} {m:List (List Rat)} {cnt:Nd→Bool} {N:Nat} {pre:List (Fin N)} {o:List Rat} {BR BR':List Value} {j:Nat} {hj:j < N} {n:Nd} (hri:Dw g m cnt pre o BR) (hlen:pre.length < N)
  (hBR:(BR'=BR∧cnt n=false)∨∃ v,BR'=BR.set j v∧v≠.slice none 0 0∧cnt n=true) (hn:g.nodes[j]? = some n) (hol:o.length=g.nodes.length) (hbl:BR.length=g.nodes.length) (x:Rat)
  (hx:(∀ i,i < j→o[i]? = some (jE cnt g.nodes m i))→(∀ i n',g.nodes[i]? = some n'→i < j→cnt n'=true→BR[i]?≠some (.slice none 0 0))→x=jE cnt g.nodes m j):Dw g m cnt (pre ++ [⟨j,hj⟩]) (o.set j x) BR':=by
 intro hpre;obtain⟨h1,h2⟩:=air hpre hlen;have h2':j=pre.length:=h2;have hr:=hri h1;have hjn:=aB hn;refine⟨fun i hi=>?_,fun i n' hn' hi hc=>?_⟩
 ·rw[List.length_append,List.length_singleton] at hi;by_cases e:i=j
  ·subst e;rw[List.getElem?_set_self (by omega),hx (fun i hi=>hr.1 i (by omega)) (fun i n' hn' hi hc=>hr.2 i n' hn' (by omega) hc)]
  ·rw[List.getElem?_set_ne (fun h=>e h.symm)];exact hr.1 i (by omega)
 ·rw[List.length_append,List.length_singleton] at hi;by_cases e:i=j
  ·subst e;rw[hn] at hn'; cases hn';rcases hBR with⟨_,h3⟩ | ⟨v,rfl,h3,_⟩
   ·rw[hc] at h3; cases h3
   ·rw[List.getElem?_set_self (by omega)];intro h; injection h with h; exact h3 h
  ·rcases hBR with⟨rfl,_⟩ | ⟨v,rfl,_,_⟩
   ·exact hr.2 i n' hn' (by omega) hc
   ·rw[List.getElem?_set_ne (fun h=>e h.symm)];exact hr.2 i n' hn' (by omega) hc
theorem CP.get {w:World} {F:Ac} {g:Gm} {m:List (List Rat)} {cnt:Nd→Bool} {bo bb lb R:Nat} {L:List RV} {o:List Rat} {BR:List Value} {W:World} (h:CP w F g m cnt bo bb lb R L o BR W) {i:Nat} (hi:i < g.nodes.length) :
  ∃ (x:Rat) (A:Option Addr) (c:Nat) (B:Option Addr) (d:Nat),o[i]? = some x∧L[i]? = some ⟨aC x,.slice A (aC x).num.length c,.slice B (aC x).den.length d⟩∧(⟨aC x,.slice A (aC x).num.length c,.slice B (aC x).den.length d⟩:RV).fine W (fun b=>(F b∧b < w.heap.size)∨lb < b)∧rl x≤1+4*R:=by
 obtain⟨x,hx⟩:=au (l:=o) (k:=i) (by rw[h.ajd]; exact hi);have hl:L.length=o.length:=by have:=congrArg List.length h.lmap; simpa using this
 obtain⟨q,hq⟩:=au (l:=L) (k:=i) (by rw[hl,h.ajd]; exact hi);have hr:q.r=aC x:=by
  have:=congrArg (fun l:List Raw=>l[i]?) h.lmap;simp only[List.getElem?_map,hq,hx,Option.map_some,Option.some.injEq] at this;exact this
 have hf:=h.made.fine q (List.mem_of_getElem? hq);obtain⟨r,vn,vd⟩:=q;simp only at hr;subst hr;have hf':(⟨aC x,vn,vd⟩:RV).fine W (fun b=>(F b∧b < w.heap.size)∨lb < b):=hf.keep (fun b hb _=>hb.1) (Same.refl _ _);have h1:=hf'.1; have h2:=hf'.2;obtain⟨A,c,e1,_⟩:=h1;obtain⟨B,d,e2,_⟩:=h2;simp only at e1 e2;subst e1; subst e2;exact⟨x,A,c,B,d,hx,hq,hf',h.rls x (List.mem_of_getElem? hx)⟩
theorem CP.up {w:World} {F:Ac} {g:Gm} {m:List (List Rat)} {cnt:Nd→Bool} {bo bb lb R R':Nat} {L:List RV} {o:List Rat} {BR:List Value} {W:World} (h:CP w F g m cnt bo bb lb R L o BR W) (hR:R≤R'):CP w F g m cnt bo bb lb R' L o BR W :=
 ⟨h.lmap,h.ajd,fun r hr=>by have:=h.rls r hr; omega,h.made,h.aki,h.brok⟩
end Go.Proofs.YthmklhapjegfdaaGreatDoor
