/- package value: what reach holds between two rounds. -/
import Derived.Test.YtkcheepafifjaaaGreatDoorF33
import Derived.Test.YtkcheepafifjaaaGreatDoorF20
set_option linter.all false
namespace Go.Proofs.YtkcheepafifjaaaGreatDoor
open Go.RowKit Go.Shelf
structure CU (W:World) (G:Ag) (cnt:Nd→Bool) (nodes:List Nd) (m:List (List Rat)) (BR:List Value):Prop where
 len:BR.length=nodes.length
 each:∀ (j:Nat) (n:Nd) (v:Value),nodes[j]? = some n→BR[j]? = some v→v = .slice none 0 0∨(cnt n=true∧(∃ b c,v = .slice (some ⟨b,0,none⟩) (bU m n).length c)∧Bz W G v (bU m n))
theorem CU.start (W:World) (G:Ag) (cnt:Nd→Bool) (nodes:List Nd) (m:List (List Rat)):CU W G cnt nodes m (List.replicate nodes.length (.slice none 0 0)) :=
 ⟨by simp,fun j n v _ hv=>.inl (by rw[List.getElem?_replicate] at hv; split at hv <;> simp_all)⟩
theorem CU.keep {W W':World} {G:Ag} {cnt:Nd→Bool} {nodes:List Nd} {m:List (List Rat)} {BR:List Value} (h:CU W G cnt nodes m BR) (hs:Same G W W'):CU W' G cnt nodes m BR :=
 ⟨h.len,fun j n v hn hv=>(h.each j n v hn hv).imp id fun ⟨h1,h2,h3⟩=>⟨h1,h2,h3.on hs⟩⟩
theorem CU.kept {W W':World} {row:Option Nat} {G:Ag} {cnt:Nd→Bool} {nodes:List Nd} {m:List (List Rat)} {BR:List Value} (h:CU W G cnt nodes m BR) (hg:W.grownBy W' row) (hr:∀ r,row=some r→∃ o:Obj,W.heap[r]? = some o∧o.isCells=false):CU W' G cnt nodes m BR :=
 ⟨h.len,fun j n v hn hv=>(h.each j n v hn hv).imp id fun ⟨h1,h2,h3⟩=>⟨h1,h2,h3.kept hg hr⟩⟩
theorem CU.set {W:World} {G:Ag} {cnt:Nd→Bool} {nodes:List Nd} {m:List (List Rat)} {BR:List Value} (h:CU W G cnt nodes m BR) {j:Nat} {n:Nd} {v:Value} (hn:nodes[j]? = some n) (hc:cnt n=true) (hv:∃ b c,v = .slice (some ⟨b,0,none⟩) (bU m n).length c) (hm:Bz W G v (bU m n)):CU W G cnt nodes m (BR.set j v):=by
 refine⟨by rw[List.length_set]; exact h.len,fun j' n' v' hn' hv'=>?_⟩;by_cases e:j=j'
 ·subst e;rw[hn] at hn'; cases hn';rw[List.getElem?_set_self (by rw[h.len]; exact aF hn)] at hv';cases hv'
  exact .inr ⟨hc,hv,hm⟩
 ·rw[List.getElem?_set_ne e] at hv';exact h.each j' n' v' hn' hv'
structure BK (w:World) (F:Ag) (g:Gm) (m:List (List Rat)) (cnt:Nd→Bool) (bo bb lb:Nat) (R:Nat) (L:List RV) (o:List Rat) (BR:List Value) (W:World):Prop where
 lmap:L.map RV.r=o.map ak
 acD:o.length=g.nodes.length
 rls:∀ r∈o,rl r≤1+4*R
 made:AP W bo 97 (fun b=>(F b∧b < w.heap.size)∨lb < b) L
 acE:Row W bb 84 BR
 acF:CU W (fun b=>(F b∧b < w.heap.size)∨lb < b) cnt g.nodes m BR
structure Dt (w:World) (g:Gm) (bp:Nat) (cf:FuncId) (caps:Array Value) (bo ob bb xb lb:Nat) (W:World):Prop where
 agK:Row W w.heap.size 80 [.pointer (some ⟨bp,0,none⟩)]
 ahX:Row W (w.heap.size+1) 86 [.func (.func cf) #[] caps]
 ae7:Row W ob 84 [.slice (some ⟨bo,0,none⟩) g.nodes.length g.nodes.length]
 agL:Row W xb 93 [.slice (some ⟨bb,0,none⟩) g.nodes.length g.nodes.length]
 bel:Below w.heap.size w W
 top:lb < W.heap.size
def CB (g:Gm) (m:List (List Rat)) (cnt:Nd→Bool) {N:Nat} (pre:List (Fin N)) (o:List Rat) (BR:List Value):Prop :=
 pre=sV N pre.length→(∀ j,j < pre.length→o[j]? = some (bC cnt g.nodes m j))∧∀ j n,g.nodes[j]? = some n→j < pre.length→cnt n=true→BR[j]?≠some (.slice none 0 0)
def RInv (w:World) (F:Ag) (g:Gm) (m:List (List Rat)) (bp:Nat) (cf:FuncId) (caps:Array Value) (cnt:Nd→Bool) (bo ob bb xb lb:Nat) {N:Nat} (pre:List (Fin N)) (W:World):Prop :=
 (∃ L o BR,BK w F g m cnt bo bb lb pre.length L o BR W∧CB g m cnt pre o BR)∧Dt w g bp cf caps bo ob bb xb lb W
section
variable {w:World} {F:Ag} {g:Gm} {m:List (List Rat)} {bp:Nat} {cf:FuncId} {caps:Array Value} {cnt:Nd→Bool} {bo ob bb xb lb R:Nat} {L:List RV} {o:List Rat} {BR:List Value} {W W':World}
theorem BK.below (h:BK w F g m cnt bo bb lb R L o BR W) (hb:Below W.heap.size W W'):BK w F g m cnt bo bb lb R L o BR W' :=
 ⟨h.lmap,h.acD,h.rls,h.made.below hb,h.acE.below hb h.acE.lt,h.acF.keep (Below.same' hb _)⟩
theorem Dt.below (h:Dt w g bp cf caps bo ob bb xb lb W) (hb:Below W.heap.size W W'):Dt w g bp cf caps bo ob bb xb lb W' :=
 ⟨h.agK.below hb h.agK.lt,h.ahX.below hb h.ahX.lt,h.ae7.below hb h.ae7.lt,h.agL.below hb h.agL.lt,h.bel.trans (hb.mono h.bel.size),Nat.lt_of_lt_of_le h.top hb.size⟩
theorem RInv.own {N B:Nat} (hB:w.heap.size≤B):OwnFrom B (fun (pre:List (Fin N)) W=>RInv w F g m bp cf caps cnt bo ob bb xb lb pre W):=by
 intro pre W W' row hs hg hr';have hr:∀ r,row=some r→∃ o:Obj,W.heap[r]? = some o∧o.isCells=false:=fun r e=>(hr' r e).2
 obtain⟨⟨L,o,BR,hd,hright⟩,hx⟩:=hs;exact⟨⟨L,o,BR,⟨hd.lmap,hd.acD,hd.rls,hd.made.kept hg hr,hd.acE.kept hg hr,hd.acF.kept hg hr⟩,hright⟩,
  hx.agK.kept hg hr,hx.ahX.kept hg hr,hx.ae7.kept hg hr,hx.agL.kept hg hr,hx.bel.grown hg hx.bel.size (fun k hk=>by have:=(hr' k hk).1; omega),Nat.lt_of_lt_of_le hx.top hg.size⟩
theorem BK.ajH (h:BK w F g m cnt bo bb lb R L o BR W) (hbb:bo≠bb) (hlb:bo≤lb) (hwb:w.heap.size≤bo) {R':Nat} (hR:R≤R') (k:Nat) (x:Rat) (vn vd:Value) (hq:(⟨ak x,vn,vd⟩:RV).fine W (fun b=>(F b∧b < w.heap.size)∨lb < b)) (hrl:rl x≤1+4*R') :
  ∃ W',W'=(((W.setCell ⟨bo,k*3,none⟩ (.bool (ak x).neg)).setCell ⟨bo,k*3+1,none⟩ vn).setCell ⟨bo,k*3+2,none⟩ vd)∧BK w F g m cnt bo bb lb R' (L.set k ⟨ak x,vn,vd⟩) (o.set k x) BR W'∧Below w.heap.size W W'∧KeepsOthers W W'∧(∀ c,c≠bo→W'.heap[c]? = W.heap[c]?)∧W'.heap.size=W.heap.size:=by
 have hn:¬ ((F bo∧bo < w.heap.size)∨lb < bo):=by omega
 obtain⟨W',hW',hm,hwB,hwS,hwz,agD⟩:=h.made.set k ⟨ak x,vn,vd⟩ (RV.fine.keep hq (fun b hb _=>⟨hb,fun e=>hn (e▸hb)⟩) (Same.refl _ _));refine⟨W',hW',⟨by rw[List.map_set,List.map_set,h.lmap],by rw[List.length_set]; exact h.acD,fun r hr=>?_,hm,h.acE.of_block (agD bb (fun e=>hbb e.symm)),h.acF.keep (hwS _ hn)⟩,hwB _ _ hwb (Below.refl _ _),?_,agD,hwz⟩
 ·rcases List.mem_or_eq_of_mem_set hr with hr | rfl
  ·have:=h.rls r hr; omega
  ·exact hrl
 ·rw[hW'];exact((KeepsOthers.setCell _ _ _).trans (KeepsOthers.setCell _ _ _)).trans (KeepsOthers.setCell _ _ _)
theorem BK.setB (h:BK w F g m cnt bo bb lb R L o BR W) (hbb:bo≠bb) (hlb:bb≤lb) (hwb:w.heap.size≤bb) {j:Nat} {n:Nd} {v:Value} (hn:g.nodes[j]? = some n) (hc:cnt n=true) (hv:∃ b c,v = .slice (some ⟨b,0,none⟩) (bU m n).length c) (hm:Bz W (fun b=>(F b∧b < w.heap.size)∨lb < b) v (bU m n)) :
  BK w F g m cnt bo bb lb R L o (BR.set j v) (W.setCell ⟨bb,j,none⟩ v):=by
 have hnb:¬ ((F bb∧bb < w.heap.size)∨lb < bb):=by omega
 have hs:=Same.setCell (fun b=>(F b∧b < w.heap.size)∨lb < b) W (p:=⟨bb,j,none⟩) hnb v;exact⟨h.lmap,h.acD,h.rls,h.made.on (Below.heap_setCell _ _ _ _ hbb) hs,h.acE.set j v,(h.acF.keep hs).set hn hc hv (hm.on hs)⟩
theorem Dt.blocks (h:Dt w g bp cf caps bo ob bb xb lb W) (hz:W.heap.size≤W'.heap.size) (hc:∀ c,c=w.heap.size∨c=w.heap.size+1∨c=ob∨c=xb→W'.heap[c]? = W.heap[c]?) (hb:Below w.heap.size W W'):Dt w g bp cf caps bo ob bb xb lb W' :=
 ⟨h.agK.of_block (hc _ (.inl rfl)),h.ahX.of_block (hc _ (.inr (.inl rfl))),h.ae7.of_block (hc _ (.inr (.inr (.inl rfl)))),h.agL.of_block (hc _ (.inr (.inr (.inr rfl)))),h.bel.trans hb,by have:=h.top; omega⟩
end
theorem ahY {N:Nat} {pre:List (Fin N)} {x:Fin N} (h:pre ++ [x]=sV N (pre ++ [x]).length) (hl:pre.length < N):pre=sV N pre.length∧x.1=pre.length:=by
 rw[List.length_append,List.length_singleton,aaC hl] at h;have h1:=List.append_inj h (by rw[wO (by omega)]);refine⟨h1.1,?_⟩;have h2:=h1.2;simp only[List.cons.injEq,and_true] at h2;rw[h2]
theorem CB.next {g:Gm} {m:List (List Rat)} {cnt:Nd→Bool} {N:Nat} {pre:List (Fin N)} {o:List Rat} {BR BR':List Value} {j:Nat} {hj:j < N} {n:Nd} (hri:CB g m cnt pre o BR) (hlen:pre.length < N)
  (hBR:(BR'=BR∧cnt n=false)∨∃ v,BR'=BR.set j v∧v≠.slice none 0 0∧cnt n=true) (hn:g.nodes[j]? = some n) (hol:o.length=g.nodes.length) (hbl:BR.length=g.nodes.length) (x:Rat)
  (hx:(∀ i,i < j→o[i]? = some (bC cnt g.nodes m i))→(∀ i n',g.nodes[i]? = some n'→i < j→cnt n'=true→BR[i]?≠some (.slice none 0 0))→x=bC cnt g.nodes m j):CB g m cnt (pre ++ [⟨j,hj⟩]) (o.set j x) BR':=by
 intro hpre;obtain⟨h1,h2⟩:=ahY hpre hlen;have h2':j=pre.length:=h2;have hr:=hri h1;have hjn:=aF hn;refine⟨fun i hi=>?_,fun i n' hn' hi hc=>?_⟩
 ·rw[List.length_append,List.length_singleton] at hi;by_cases e:i=j
  ·subst e;rw[List.getElem?_set_self (by omega),hx (fun i hi=>hr.1 i (by omega)) (fun i n' hn' hi hc=>hr.2 i n' hn' (by omega) hc)]
  ·rw[List.getElem?_set_ne (fun h=>e h.symm)];exact hr.1 i (by omega)
 ·rw[List.length_append,List.length_singleton] at hi;by_cases e:i=j
  ·subst e;rw[hn] at hn'; cases hn';rcases hBR with⟨_,h3⟩ | ⟨v,rfl,h3,_⟩
   ·rw[hc] at h3; cases h3
   ·rw[List.getElem?_set_self (by omega)];intro h; injection h with h; exact h3 h
  ·rcases hBR with⟨rfl,_⟩ | ⟨v,rfl,_,_⟩
   ·exact hr.2 i n' hn' (by omega) hc
   ·rw[List.getElem?_set_ne (fun h=>e h.symm)];exact hr.2 i n' hn' (by omega) hc
theorem aiW {BR BR':List Value} {j i:Nat} {c d:Prop} (h:(BR'=BR∧c)∨∃ v,BR'=BR.set j v∧v≠.slice none 0 0∧d) (hi:i≠j):BR'[i]? = BR[i]?:=by
 rcases h with⟨rfl,_⟩ | ⟨v,rfl,_,_⟩
 ·rfl
 ·rw[List.getElem?_set_ne (fun h=>hi h.symm)]
theorem BK.get {w:World} {F:Ag} {g:Gm} {m:List (List Rat)} {cnt:Nd→Bool} {bo bb lb R:Nat} {L:List RV} {o:List Rat} {BR:List Value} {W:World} (h:BK w F g m cnt bo bb lb R L o BR W) {i:Nat} (hi:i < g.nodes.length) :
  ∃ (x:Rat) (A:Option Addr) (c:Nat) (B:Option Addr) (d:Nat),o[i]? = some x∧L[i]? = some ⟨ak x,.slice A (ak x).num.length c,.slice B (ak x).den.length d⟩∧(⟨ak x,.slice A (ak x).num.length c,.slice B (ak x).den.length d⟩:RV).fine W (fun b=>(F b∧b < w.heap.size)∨lb < b)∧rl x≤1+4*R:=by
 obtain⟨x,hx⟩:=aB (l:=o) (k:=i) (by rw[h.acD]; exact hi);have hl:L.length=o.length:=by have:=congrArg List.length h.lmap; simpa using this
 obtain⟨q,hq⟩:=aB (l:=L) (k:=i) (by rw[hl,h.acD]; exact hi);have hr:q.r=ak x:=by
  have:=congrArg (fun l:List Raw=>l[i]?) h.lmap;simp only[List.getElem?_map,hq,hx,Option.map_some,Option.some.injEq] at this;exact this
 have hf:=h.made.fine q (List.mem_of_getElem? hq);obtain⟨r,vn,vd⟩:=q;simp only at hr;subst hr;have hf':(⟨ak x,vn,vd⟩:RV).fine W (fun b=>(F b∧b < w.heap.size)∨lb < b):=hf.keep (fun b hb _=>hb.1) (Same.refl _ _);have h1:=hf'.1; have h2:=hf'.2;obtain⟨A,c,e1,_⟩:=h1;obtain⟨B,d,e2,_⟩:=h2;simp only at e1 e2;subst e1; subst e2;exact⟨x,A,c,B,d,hx,hq,hf',h.rls x (List.mem_of_getElem? hx)⟩
theorem BK.up {w:World} {F:Ag} {g:Gm} {m:List (List Rat)} {cnt:Nd→Bool} {bo bb lb R R':Nat} {L:List RV} {o:List Rat} {BR:List Value} {W:World} (h:BK w F g m cnt bo bb lb R L o BR W) (hR:R≤R'):BK w F g m cnt bo bb lb R' L o BR W :=
 ⟨h.lmap,h.acD,fun r hr=>by have:=h.rls r hr; omega,h.made,h.acE,h.acF⟩
end Go.Proofs.YtkcheepafifjaaaGreatDoor
