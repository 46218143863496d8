/- package value: what reach holds between two rounds. -/
import Derived.Test.YtkcheepafifjaaaGreatDoorU36
import Derived.Test.YtkcheepafifjaaaGreatDoorU21
set_option linter.all false
namespace Go.Proofs.YtkcheepafifjaaaGreatDoor
open Go.RowKit Go.Shelf
structure Cj (W:World) (G:Ag) (cnt:Nd→Bool) (nodes:List Nd) (m:List (List Rat)) (BR:List Value):Prop where
 len:BR.length=nodes.length
 each:∀ (j:Nat) (n:Nd) (v:Value),nodes[j]? = some n→BR[j]? = some v→v = .slice none 0 0∨(cnt n=true∧(∃ b c,v = .slice (some ⟨b,0,none⟩) (bJ m n).length c)∧Bg W G v (bJ m n))
theorem Cj.start (W:World) (G:Ag) (cnt:Nd→Bool) (nodes:List Nd) (m:List (List Rat)):Cj W G cnt nodes m (List.replicate nodes.length (.slice none 0 0)) :=
 ⟨by simp,fun j n v _ hv=>.inl (by rw[List.getElem?_replicate] at hv; split at hv <;> simp_all)⟩
theorem Cj.keep {W W':World} {G:Ag} {cnt:Nd→Bool} {nodes:List Nd} {m:List (List Rat)} {BR:List Value} (h:Cj W G cnt nodes m BR) (hs:Same G W W'):Cj W' G cnt nodes m BR :=
 ⟨h.len,fun j n v hn hv=>(h.each j n v hn hv).imp id fun ⟨h1,h2,h3⟩=>⟨h1,h2,h3.on hs⟩⟩
theorem Cj.kept {W W':World} {row:Option Nat} {G:Ag} {cnt:Nd→Bool} {nodes:List Nd} {m:List (List Rat)} {BR:List Value} (h:Cj W G cnt nodes m BR) (hg:W.grownBy W' row) (hr:∀ r,row=some r→∃ o:Obj,W.heap[r]? = some o∧o.isCells=false):Cj W' G cnt nodes m BR :=
 ⟨h.len,fun j n v hn hv=>(h.each j n v hn hv).imp id fun ⟨h1,h2,h3⟩=>⟨h1,h2,h3.kept hg hr⟩⟩
theorem Cj.set {W:World} {G:Ag} {cnt:Nd→Bool} {nodes:List Nd} {m:List (List Rat)} {BR:List Value} (h:Cj W G cnt nodes m BR) {j:Nat} {n:Nd} {v:Value} (hn:nodes[j]? = some n) (hc:cnt n=true) (hv:∃ b c,v = .slice (some ⟨b,0,none⟩) (bJ m n).length c) (hm:Bg W G v (bJ m n)):Cj W G cnt nodes m (BR.set j v):=by
 refine⟨by rw[List.length_set]; exact h.len,fun j' n' v' hn' hv'=>?_⟩;by_cases e:j=j'
 ·subst e;rw[hn] at hn'; cases hn';rw[List.getElem?_set_self (by rw[h.len]; exact aG hn)] at hv';cases hv'
  exact .inr ⟨hc,hv,hm⟩
 ·rw[List.getElem?_set_ne e] at hv';exact h.each j' n' v' hn' hv'
structure Bz (w:World) (F:Ag) (g:Gm) (m:List (List Rat)) (cnt:Nd→Bool) (bo bb lb:Nat) (R:Nat) (L:List RV) (o:List Rat) (BR:List Value) (W:World):Prop where
 lmap:L.map RV.r=o.map aj
 abA:o.length=g.nodes.length
 rls:∀ r∈o,rl r≤1+4*R
 made:AB W bo 97 (fun b=>(F b∧b < w.heap.size)∨lb < b) L
 abB:Row W bb 84 BR
 abC:Cj W (fun b=>(F b∧b < w.heap.size)∨lb < b) cnt g.nodes m BR
structure CZ (w:World) (g:Gm) (bp:Nat) (cf:FuncId) (caps:Array Value) (bo ob bb xb lb:Nat) (W:World):Prop where
 afI:Row W w.heap.size 80 [.pointer (some ⟨bp,0,none⟩)]
 ag2:Row W (w.heap.size+1) 86 [.func (.func cf) #[] caps]
 ad6:Row W ob 84 [.slice (some ⟨bo,0,none⟩) g.nodes.length g.nodes.length]
 afJ:Row W xb 93 [.slice (some ⟨bb,0,none⟩) g.nodes.length g.nodes.length]
 bel:Below w.heap.size w W
 top:lb < W.heap.size
def BP (g:Gm) (m:List (List Rat)) (cnt:Nd→Bool) {N:Nat} (pre:List (Fin N)) (o:List Rat) (BR:List Value):Prop :=
 pre=qU N pre.length→(∀ j,j < pre.length→o[j]? = some (dA cnt g.nodes m j))∧∀ j n,g.nodes[j]? = some n→j < pre.length→cnt n=true→BR[j]?≠some (.slice none 0 0)
def RInv (w:World) (F:Ag) (g:Gm) (m:List (List Rat)) (bp:Nat) (cf:FuncId) (caps:Array Value) (cnt:Nd→Bool) (bo ob bb xb lb:Nat) {N:Nat} (pre:List (Fin N)) (W:World):Prop :=
 (∃ L o BR,Bz w F g m cnt bo bb lb pre.length L o BR W∧BP g m cnt pre o BR)∧CZ w g bp cf caps bo ob bb xb lb W
section
variable {w:World} {F:Ag} {g:Gm} {m:List (List Rat)} {bp:Nat} {cf:FuncId} {caps:Array Value} {cnt:Nd→Bool} {bo ob bb xb lb R:Nat} {L:List RV} {o:List Rat} {BR:List Value} {W W':World}
theorem Bz.below (h:Bz w F g m cnt bo bb lb R L o BR W) (hb:Below W.heap.size W W'):Bz w F g m cnt bo bb lb R L o BR W' :=
 ⟨h.lmap,h.abA,h.rls,h.made.below hb,h.abB.below hb h.abB.lt,h.abC.keep (Below.same' hb _)⟩
theorem CZ.below (h:CZ w g bp cf caps bo ob bb xb lb W) (hb:Below W.heap.size W W'):CZ w g bp cf caps bo ob bb xb lb W' :=
 ⟨h.afI.below hb h.afI.lt,h.ag2.below hb h.ag2.lt,h.ad6.below hb h.ad6.lt,h.afJ.below hb h.afJ.lt,h.bel.trans (hb.mono h.bel.size),Nat.lt_of_lt_of_le h.top hb.size⟩
theorem RInv.own {N B:Nat} (hB:w.heap.size≤B):OwnFrom B (fun (pre:List (Fin N)) W=>RInv w F g m bp cf caps cnt bo ob bb xb lb pre W):=by
 intro pre W W' row hs hg hr';have hr:∀ r,row=some r→∃ o:Obj,W.heap[r]? = some o∧o.isCells=false:=fun r e=>(hr' r e).2
 obtain⟨⟨L,o,BR,hd,hright⟩,hx⟩:=hs;exact⟨⟨L,o,BR,⟨hd.lmap,hd.abA,hd.rls,hd.made.kept hg hr,hd.abB.kept hg hr,hd.abC.kept hg hr⟩,hright⟩,
  hx.afI.kept hg hr,hx.ag2.kept hg hr,hx.ad6.kept hg hr,hx.afJ.kept hg hr,hx.bel.grown hg hx.bel.size (fun k hk=>by have:=(hr' k hk).1; omega),Nat.lt_of_lt_of_le hx.top hg.size⟩
theorem Bz.aiD (h:Bz w F g m cnt bo bb lb R L o BR W) (hbb:bo≠bb) (hlb:bo≤lb) (hwb:w.heap.size≤bo) {R':Nat} (hR:R≤R') (k:Nat) (x:Rat) (vn vd:Value) (hq:(⟨aj x,vn,vd⟩:RV).fine W (fun b=>(F b∧b < w.heap.size)∨lb < b)) (hrl:rl x≤1+4*R') :
  ∃ W',W'=(((W.setCell ⟨bo,k*3,none⟩ (.bool (aj x).neg)).setCell ⟨bo,k*3+1,none⟩ vn).setCell ⟨bo,k*3+2,none⟩ vd)∧Bz w F g m cnt bo bb lb R' (L.set k ⟨aj x,vn,vd⟩) (o.set k x) BR W'∧Below w.heap.size W W'∧KeepsOthers W W'∧(∀ c,c≠bo→W'.heap[c]? = W.heap[c]?)∧W'.heap.size=W.heap.size:=by
 have hn:¬ ((F bo∧bo < w.heap.size)∨lb < bo):=by omega
 obtain⟨W',hW',hm,hwB,hwS,hwz,afB⟩:=h.made.set k ⟨aj x,vn,vd⟩ (RV.fine.keep hq (fun b hb _=>⟨hb,fun e=>hn (e▸hb)⟩) (Same.refl _ _));refine⟨W',hW',⟨by rw[List.map_set,List.map_set,h.lmap],by rw[List.length_set]; exact h.abA,fun r hr=>?_,hm,h.abB.of_block (afB bb (fun e=>hbb e.symm)),h.abC.keep (hwS _ hn)⟩,hwB _ _ hwb (Below.refl _ _),?_,afB,hwz⟩
 ·rcases List.mem_or_eq_of_mem_set hr with hr | rfl
  ·have:=h.rls r hr; omega
  ·exact hrl
 ·rw[hW'];exact((KeepsOthers.setCell _ _ _).trans (KeepsOthers.setCell _ _ _)).trans (KeepsOthers.setCell _ _ _)
theorem Bz.setB (h:Bz w F g m cnt bo bb lb R L o BR W) (hbb:bo≠bb) (hlb:bb≤lb) (hwb:w.heap.size≤bb) {j:Nat} {n:Nd} {v:Value} (hn:g.nodes[j]? = some n) (hc:cnt n=true) (hv:∃ b c,v = .slice (some ⟨b,0,none⟩) (bJ m n).length c) (hm:Bg W (fun b=>(F b∧b < w.heap.size)∨lb < b) v (bJ m n)) :
  Bz w F g m cnt bo bb lb R L o (BR.set j v) (W.setCell ⟨bb,j,none⟩ v):=by
 have hnb:¬ ((F bb∧bb < w.heap.size)∨lb < bb):=by omega
 have hs:=Same.setCell (fun b=>(F b∧b < w.heap.size)∨lb < b) W (p:=⟨bb,j,none⟩) hnb v;exact⟨h.lmap,h.abA,h.rls,h.made.on (Below.heap_setCell _ _ _ _ hbb) hs,h.abB.set j v,(h.abC.keep hs).set hn hc hv (hm.on hs)⟩
theorem CZ.blocks (h:CZ w g bp cf caps bo ob bb xb lb W) (hz:W.heap.size≤W'.heap.size) (hc:∀ c,c=w.heap.size∨c=w.heap.size+1∨c=ob∨c=xb→W'.heap[c]? = W.heap[c]?) (hb:Below w.heap.size W W'):CZ w g bp cf caps bo ob bb xb lb W' :=
 ⟨h.afI.of_block (hc _ (.inl rfl)),h.ag2.of_block (hc _ (.inr (.inl rfl))),h.ad6.of_block (hc _ (.inr (.inr (.inl rfl)))),h.afJ.of_block (hc _ (.inr (.inr (.inr rfl)))),h.bel.trans hb,by have:=h.top; omega⟩
end
theorem ag3 {N:Nat} {pre:List (Fin N)} {x:Fin N} (h:pre ++ [x]=qU N (pre ++ [x]).length) (hl:pre.length < N):pre=qU N pre.length∧x.1=pre.length:=by
 rw[List.length_append,List.length_singleton,zC hl] at h;have h1:=List.append_inj h (by rw[vk (by omega)]);refine⟨h1.1,?_⟩;have h2:=h1.2;simp only[List.cons.injEq,and_true] at h2;rw[h2]
theorem BP.next {g:Gm} {m:List (List Rat)} {cnt:Nd→Bool} {N:Nat} {pre:List (Fin N)} {o:List Rat} {BR BR':List Value} {j:Nat} {hj:j < N} {n:Nd} (hri:BP g m cnt pre o BR) (hlen:pre.length < N)
  (hBR:(BR'=BR∧cnt n=false)∨∃ v,BR'=BR.set j v∧v≠.slice none 0 0∧cnt n=true) (hn:g.nodes[j]? = some n) (hol:o.length=g.nodes.length) (hbl:BR.length=g.nodes.length) (x:Rat)
  (hx:(∀ i,i < j→o[i]? = some (dA cnt g.nodes m i))→(∀ i n',g.nodes[i]? = some n'→i < j→cnt n'=true→BR[i]?≠some (.slice none 0 0))→x=dA cnt g.nodes m j):BP g m cnt (pre ++ [⟨j,hj⟩]) (o.set j x) BR':=by
 intro hpre;obtain⟨h1,h2⟩:=ag3 hpre hlen;have h2':j=pre.length:=h2;have hr:=hri h1;have hjn:=aG hn;refine⟨fun i hi=>?_,fun i n' hn' hi hc=>?_⟩
 ·rw[List.length_append,List.length_singleton] at hi;by_cases e:i=j
  ·subst e;rw[List.getElem?_set_self (by omega),hx (fun i hi=>hr.1 i (by omega)) (fun i n' hn' hi hc=>hr.2 i n' hn' (by omega) hc)]
  ·rw[List.getElem?_set_ne (fun h=>e h.symm)];exact hr.1 i (by omega)
 ·rw[List.length_append,List.length_singleton] at hi;by_cases e:i=j
  ·subst e;rw[hn] at hn'; cases hn';rcases hBR with⟨_,h3⟩ | ⟨v,rfl,h3,_⟩
   ·rw[hc] at h3; cases h3
   ·rw[List.getElem?_set_self (by omega)];intro h; injection h with h; exact h3 h
  ·rcases hBR with⟨rfl,_⟩ | ⟨v,rfl,_,_⟩
   ·exact hr.2 i n' hn' (by omega) hc
   ·rw[List.getElem?_set_ne (fun h=>e h.symm)];exact hr.2 i n' hn' (by omega) hc
theorem ahM {BR BR':List Value} {j i:Nat} {c d:Prop} (h:(BR'=BR∧c)∨∃ v,BR'=BR.set j v∧v≠.slice none 0 0∧d) (hi:i≠j):BR'[i]? = BR[i]?:=by
 rcases h with⟨rfl,_⟩ | ⟨v,rfl,_,_⟩
 ·rfl
 ·rw[List.getElem?_set_ne (fun h=>hi h.symm)]
theorem Bz.get {w:World} {F:Ag} {g:Gm} {m:List (List Rat)} {cnt:Nd→Bool} {bo bb lb R:Nat} {L:List RV} {o:List Rat} {BR:List Value} {W:World} (h:Bz w F g m cnt bo bb lb R L o BR W) {i:Nat} (hi:i < g.nodes.length) :
  ∃ (x:Rat) (A:Option Addr) (c:Nat) (B:Option Addr) (d:Nat),o[i]? = some x∧L[i]? = some ⟨aj x,.slice A (aj x).num.length c,.slice B (aj x).den.length d⟩∧(⟨aj x,.slice A (aj x).num.length c,.slice B (aj x).den.length d⟩:RV).fine W (fun b=>(F b∧b < w.heap.size)∨lb < b)∧rl x≤1+4*R:=by
 obtain⟨x,hx⟩:=ay (l:=o) (k:=i) (by rw[h.abA]; exact hi);have hl:L.length=o.length:=by have:=congrArg List.length h.lmap; simpa using this
 obtain⟨q,hq⟩:=ay (l:=L) (k:=i) (by rw[hl,h.abA]; exact hi);have hr:q.r=aj x:=by
  have:=congrArg (fun l:List Raw=>l[i]?) h.lmap;simp only[List.getElem?_map,hq,hx,Option.map_some,Option.some.injEq] at this;exact this
 have hf:=h.made.fine q (List.mem_of_getElem? hq);obtain⟨r,vn,vd⟩:=q;simp only at hr;subst hr;have hf':(⟨aj x,vn,vd⟩:RV).fine W (fun b=>(F b∧b < w.heap.size)∨lb < b):=hf.keep (fun b hb _=>hb.1) (Same.refl _ _);have h1:=hf'.1; have h2:=hf'.2;obtain⟨A,c,e1,_⟩:=h1;obtain⟨B,d,e2,_⟩:=h2;simp only at e1 e2;subst e1; subst e2;exact⟨x,A,c,B,d,hx,hq,hf',h.rls x (List.mem_of_getElem? hx)⟩
theorem Bz.up {w:World} {F:Ag} {g:Gm} {m:List (List Rat)} {cnt:Nd→Bool} {bo bb lb R R':Nat} {L:List RV} {o:List Rat} {BR:List Value} {W:World} (h:Bz w F g m cnt bo bb lb R L o BR W) (hR:R≤R'):Bz w F g m cnt bo bb lb R' L o BR W :=
 ⟨h.lmap,h.abA,fun r hr=>by have:=h.rls r hr; omega,h.made,h.abB,h.abC⟩
end Go.Proofs.YtkcheepafifjaaaGreatDoor
