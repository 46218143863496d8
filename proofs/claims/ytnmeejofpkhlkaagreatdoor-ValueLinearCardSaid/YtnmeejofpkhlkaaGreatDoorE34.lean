/- Part of a claim. -/
import Derived.Test.YtnmeejofpkhlkaaGreatDoorE22
import Derived.Test.YtnmeejofpkhlkaaGreatDoorE26
set_option linter.all false
namespace Go.Proofs.YtnmeejofpkhlkaaGreatDoor
open Go renaming Value->F7,World->FW
open Go.Value renaming slice->FQ
open List renaming getElem?_set_ne->Ia,getElem?_set_self->Ib,length_append->Gn,length_set->He,length_singleton->KN,map_set->Jb,mem_of_getElem?->FT
open Nat renaming lt_of_lt_of_le->GZ
open Option.some renaming injEq->Hu
open Same renaming refl->Gh
open Go.RowKit Go.Shelf
variable {F G:FI} {m:List (List Rat)} {o:List Rat} {N R R' bb bo i j lb:Nat}
structure CS (W:FW) (G:FI) (cnt:Nd->Bool) (Fg:List Nd) (m:List (List Rat)) (BR:List F7):Prop where
 len:BR.length=Fg.length
 each:∀ (j:Nat) (n:Nd) (v:F7),Fg[j]? = some n->BR[j]? = some v->v = FQ none 0 0\/(cnt n=true/\(∃ b c,v = FQ (some ⟨b,0,none⟩) (dL m n).length c)/\Bz W G v (dL m n))
theorem CS.start (W:FW) (G:FI) (cnt:Nd->Bool) (Fg:List Nd) (m:List (List Rat)):CS W G cnt Fg m (List.replicate Fg.length (FQ none 0 0)) :=
 ⟨aF,λj n v _ hv=>.inl (by rw[List.getElem?_replicate] at hv; split at hv <;> simp_all)⟩
theorem CS.keep {W W':FW} {cnt:Nd->Bool} {Fg:List Nd} {BR:List F7} (h:CS W G cnt Fg m BR) (hs:Same G W W'):CS W' G cnt Fg m BR :=
 ⟨h.len,λj n v hn hv=>(h.each j n v hn hv).imp id λ⟨h1,h2,h3⟩=>⟨h1,h2,h3.on hs⟩⟩
theorem CS.kept {W W':FW} {row:Option Nat} {cnt:Nd->Bool} {Fg:List Nd} {BR:List F7} (h:CS W G cnt Fg m BR) (hg:W.grownBy W' row) (hr:∀ r,row=some r->∃ o:Obj,W.heap[r]? = some o/\o.isCells=false):CS W' G cnt Fg m BR :=
 ⟨h.len,λj n v hn hv=>(h.each j n v hn hv).imp id λ⟨h1,h2,h3⟩=>⟨h1,h2,h3.kept hg hr⟩⟩
theorem CS.set {W:FW} {cnt:Nd->Bool} {Fg:List Nd} {BR:List F7} (h:CS W G cnt Fg m BR) {n:Nd} {v:F7} (hn:Fg[j]? = some n) (hc:cnt n=true) (hv:∃ b c,v = FQ (some ⟨b,0,none⟩) (dL m n).length c) (hm:Bz W G v (dL m n)):CS W G cnt Fg m (BR.set j v):=by
 refine⟨by rw[He]; exact h.len,λj' n' v' hn' hv'=>?_⟩;by_cases e:j=j'
 ·subst e;rw[hn] at hn';cases hn';rw[Ib (by rw[h.len]; exact FD hn)] at hv';cases hv';exact .inr ⟨hc,hv,hm⟩
 ·rw[Ia e] at hv';exact h.each j' n' v' hn' hv'
structure BM (w:FW) (F:FI) (g:Gm) (m:List (List Rat)) (cnt:Nd->Bool) (bo bb lb:Nat) (R:Nat) (L:List RV) (o:List Rat) (BR:List F7) (W:FW):Prop where
 lmap:L.map RV.r=o.map aB
 afs:o.length=g.Fg.length
 rls:∀ r∈o,rl r<=1+4*R
 made:AB W bo 114 (λb=>(F b/\b < w.heap.size)\/lb < b) L
 aft:Row W bb 96 BR
 afu:CS W (λb=>(F b/\b < w.heap.size)\/lb < b) cnt g.Fg m BR
structure Dz (w:FW) (g:Gm) (bp:Nat) (cf:FuncId) (caps:Array F7) (bo ob bb xb lb:Nat) (W:FW):Prop where
 akK:Row W w.heap.size 92 [.pointer (some ⟨bp,0,none⟩)]
 amq:Row W (w.heap.size+1) 129 [.func (.func cf) #[] caps]
 aiK:Row W ob 96 [FQ (some ⟨bo,0,none⟩) g.Fg.length g.Fg.length]
 akL:Row W xb 97 [FQ (some ⟨bb,0,none⟩) g.Fg.length g.Fg.length]
 bel:Below w.heap.size w W
 top:lb < W.heap.size
def CG (g:Gm) (m:List (List Rat)) (cnt:Nd->Bool) {N:Nat} (pre:List (Fin N)) (o:List Rat) (BR:List F7):Prop :=
 pre=wM N pre.length->(∀ j,j < pre.length->o[j]? = some (dD cnt g.Fg m j))/\∀ j n,g.Fg[j]? = some n->j < pre.length->cnt n=true->BR[j]?≠some (FQ none 0 0)
def RInv (w:FW) (F:FI) (g:Gm) (m:List (List Rat)) (bp:Nat) (cf:FuncId) (caps:Array F7) (cnt:Nd->Bool) (bo ob bb xb lb:Nat) {N:Nat} (pre:List (Fin N)) (W:FW):Prop :=
 (∃ L o BR,BM w F g m cnt bo bb lb pre.length L o BR W/\CG g m cnt pre o BR)/\Dz w g bp cf caps bo ob bb xb lb W
section
variable {w:FW} {F:FI} {g:Gm} {m:List (List Rat)} {bp:Nat} {cf:FuncId} {caps:Array F7} {cnt:Nd->Bool} {bo ob bb xb lb R:Nat} {L:List RV} {o:List Rat} {BR:List F7} {W W':FW}
theorem BM.below (h:BM w F g m cnt bo bb lb R L o BR W) (hb:Below W.heap.size W W'):BM w F g m cnt bo bb lb R L o BR W' :=
 ⟨h.lmap,h.afs,h.rls,h.made.below hb,h.aft.below hb h.aft.lt,h.afu.keep (Below.same' hb _)⟩
theorem Dz.below (h:Dz w g bp cf caps bo ob bb xb lb W) (hb:Below W.heap.size W W'):Dz w g bp cf caps bo ob bb xb lb W' :=
 ⟨h.akK.below hb h.akK.lt,h.amq.below hb h.amq.lt,h.aiK.below hb h.aiK.lt,h.akL.below hb h.akL.lt,h.bel.trans (hb.mono h.bel.size),GZ h.top hb.size⟩
theorem RInv.own {B:Nat} (hB:w.heap.size<=B):OwnFrom B (λ(pre:List (Fin N)) W=>RInv w F g m bp cf caps cnt bo ob bb xb lb pre W):=by
 intro pre W W' row hs hg hr';have hr:∀ r,row=some r->∃ o:Obj,W.heap[r]? = some o/\o.isCells=false:=λr e=>(hr' r e).2
 obtain⟨⟨L,o,BR,hd,hright⟩,hx⟩:=hs;exact⟨⟨L,o,BR,⟨hd.lmap,hd.afs,hd.rls,hd.made.kept hg hr,hd.aft.kept hg hr,hd.afu.kept hg hr⟩,hright⟩,
  hx.akK.kept hg hr,hx.amq.kept hg hr,hx.aiK.kept hg hr,hx.akL.kept hg hr,hx.bel.grown hg hx.bel.size (λk hk=>by have:=(hr' k hk).1; omega),GZ hx.top hg.size⟩
theorem BM.aow (h:BM w F g m cnt bo bb lb R L o BR W) (hbb:bo≠bb) (hlb:bo<=lb) (hwb:w.heap.size<=bo) (hR:R<=R') (k:Nat) (x:Rat) (vn vd:F7) (hq:(⟨aB x,vn,vd⟩:RV).fine W (λb=>(F b/\b < w.heap.size)\/lb < b)) (hrl:rl x<=1+4*R') :
  ∃ W',W'=(((W.setCell ⟨bo,k*3,none⟩ (.bool (aB x).neg)).setCell ⟨bo,k*3+1,none⟩ vn).setCell ⟨bo,k*3+2,none⟩ vd)/\BM w F g m cnt bo bb lb R' (L.set k ⟨aB x,vn,vd⟩) (o.set k x) BR W'/\Below w.heap.size W W'/\KeepsOthers W W'/\(∀ c,c≠bo->W'.heap[c]? = W.heap[c]?)/\W'.heap.size=W.heap.size:=by
 have hn:¬ ((F bo/\bo < w.heap.size)\/lb < bo):=EN;obtain⟨W',hW',hm,hwB,hwS,hwz,al3⟩:=h.made.set k ⟨aB x,vn,vd⟩ (RV.fine.keep hq (λb hb _=>⟨hb,λe=>hn (e▸hb)⟩) (Gh _ _));refine⟨W',hW',⟨by rw[Jb,Jb,h.lmap],by rw[He]; exact h.afs,λr hr=>?_,hm,h.aft.of_block (al3 bb (λe=>hbb e.symm)),h.afu.keep (hwS _ hn)⟩,hwB _ _ hwb (Below.refl _ _),?_,al3,hwz⟩
 ·rcases List.mem_or_eq_of_mem_set hr with hr | rfl
  ·have:=h.rls r hr;omega
  ·exact hrl
 ·rw[hW'];exact((KeepsOthers.setCell _ _ _).trans (KeepsOthers.setCell _ _ _)).trans (KeepsOthers.setCell _ _ _)
theorem BM.setB (h:BM w F g m cnt bo bb lb R L o BR W) (hbb:bo≠bb) (hlb:bb<=lb) (hwb:w.heap.size<=bb) {n:Nd} {v:F7} (hn:g.Fg[j]? = some n) (hc:cnt n=true) (hv:∃ b c,v = FQ (some ⟨b,0,none⟩) (dL m n).length c) (hm:Bz W (λb=>(F b/\b < w.heap.size)\/lb < b) v (dL m n)) :
  BM w F g m cnt bo bb lb R L o (BR.set j v) (W.setCell ⟨bb,j,none⟩ v):=by
 have hnb:¬ ((F bb/\bb < w.heap.size)\/lb < bb):=EN;have hs:=Same.setCell (λb=>(F b/\b < w.heap.size)\/lb < b) W (p:=⟨bb,j,none⟩) hnb v;exact⟨h.lmap,h.afs,h.rls,h.made.on (Below.heap_setCell _ _ _ _ hbb) hs,h.aft.set j v,(h.afu.keep hs).set hn hc hv (hm.on hs)⟩
theorem Dz.blocks (h:Dz w g bp cf caps bo ob bb xb lb W) (hz:W.heap.size<=W'.heap.size) (hc:∀ c,c=w.heap.size\/c=w.heap.size+1\/c=ob\/c=xb->W'.heap[c]? = W.heap[c]?) (hb:Below w.heap.size W W'):Dz w g bp cf caps bo ob bb xb lb W' :=
 ⟨h.akK.of_block (hc _ (.inl rfl)),h.amq.of_block (hc _ (.inr (.inl rfl))),h.aiK.of_block (hc _ (.inr (.inr (.inl rfl)))),h.akL.of_block (hc _ (.inr (.inr (.inr rfl)))),h.bel.trans hb,by have:=h.top; omega⟩
end
theorem amr {pre:List (Fin N)} {x:Fin N} (h:pre ++ [x]=wM N (pre ++ [x]).length) (hl:pre.length < N):pre=wM N pre.length/\x.1=pre.length:=by
 rw[Gn,KN,acN hl] at h;have h1:=List.append_inj h (by rw[aae EN]);refine⟨h1.1,?_⟩;have h2:=h1.2;simp only[List.cons.injEq,and_true] at h2;rw[h2]
theorem CG.next {g:Gm} {cnt:Nd->Bool} {pre:List (Fin N)} {BR BR':List F7} {hj:j < N} {n:Nd} (hri:CG g m cnt pre o BR) (hlen:pre.length < N)
  (hBR:(BR'=BR/\cnt n=false)\/∃ v,BR'=BR.set j v/\v≠FQ none 0 0/\cnt n=true) (hn:g.Fg[j]? = some n) (hol:o.length=g.Fg.length) (hbl:BR.length=g.Fg.length) (x:Rat)
  (hx:(∀ i,i < j->o[i]? = some (dD cnt g.Fg m i))->(∀ i n',g.Fg[i]? = some n'->i < j->cnt n'=true->BR[i]?≠some (FQ none 0 0))->x=dD cnt g.Fg m j):CG g m cnt (pre ++ [⟨j,hj⟩]) (o.set j x) BR':=by
 intro hpre;obtain⟨h1,h2⟩:=amr hpre hlen;have h2':j=pre.length:=h2;have hr:=hri h1;have hjn:=FD hn;refine⟨λi hi=>?_,λi n' hn' hi hc=>?_⟩
 ·rw[Gn,KN] at hi;by_cases e:i=j
  ·subst e;rw[Ib EN,hx (λi hi=>hr.1 i EN) (λi n' hn' hi hc=>hr.2 i n' hn' EN hc)]
  ·rw[Ia (λh=>e h.symm)];exact hr.1 i EN
 ·rw[Gn,KN] at hi;by_cases e:i=j
  ·subst e;rw[hn] at hn';cases hn';rcases hBR with⟨_,h3⟩ | ⟨v,rfl,h3,_⟩
   ·rw[hc] at h3;cases h3
   ·rw[Ib EN];intro h;injection h with h;exact h3 h
  ·rcases hBR with⟨rfl,_⟩ | ⟨v,rfl,_,_⟩
   ·exact hr.2 i n' hn' EN hc
   ·rw[Ia (λh=>e h.symm)];exact hr.2 i n' hn' EN hc
theorem anr {BR BR':List F7} {c d:Prop} (h:(BR'=BR/\c)\/∃ v,BR'=BR.set j v/\v≠FQ none 0 0/\d) (hi:i≠j):BR'[i]? = BR[i]?:=by
 rcases h with⟨rfl,_⟩ | ⟨v,rfl,_,_⟩
 ·rfl
 ·rw[Ia (λh=>hi h.symm)]
theorem BM.get {w:FW} {g:Gm} {cnt:Nd->Bool} {L:List RV} {BR:List F7} {W:FW} (h:BM w F g m cnt bo bb lb R L o BR W) (hi:i < g.Fg.length) :
  ∃ (x:Rat) (A:Option Addr) (c:Nat) (B:Option Addr) (d:Nat),o[i]? = some x/\L[i]? = some ⟨aB x,FQ A (aB x).num.length c,FQ B (aB x).den.length d⟩/\(⟨aB x,FQ A (aB x).num.length c,FQ B (aB x).den.length d⟩:RV).fine W (λb=>(F b/\b < w.heap.size)\/lb < b)/\rl x<=1+4*R:=by
 obtain⟨x,hx⟩:=FC (l:=o) (k:=i) (by rw[h.afs]; exact hi);have hl:L.length=o.length:=by have:=congrArg List.length h.lmap;simpa using this
 obtain⟨q,hq⟩:=FC (l:=L) (k:=i) (by rw[hl,h.afs]; exact hi);have hr:q.r=aB x:=by
  have:=congrArg (λl:List Raw=>l[i]?) h.lmap;simp only[List.getElem?_map,hq,hx,Option.map_some,Hu] at this;exact this
 have hf:=h.made.fine q (FT hq);obtain⟨r,vn,vd⟩:=q;simp only at hr;subst hr;have hf':(⟨aB x,vn,vd⟩:RV).fine W (λb=>(F b/\b < w.heap.size)\/lb < b):=hf.keep (λb hb _=>hb.1) (Gh _ _);have h1:=hf'.1;have h2:=hf'.2;obtain⟨A,c,e1,_⟩:=h1;obtain⟨B,d,e2,_⟩:=h2;simp only at e1 e2;subst e1;subst e2;exact⟨x,A,c,B,d,hx,hq,hf',h.rls x (FT hx)⟩
theorem BM.up {w:FW} {g:Gm} {cnt:Nd->Bool} {L:List RV} {BR:List F7} {W:FW} (h:BM w F g m cnt bo bb lb R L o BR W) (hR:R<=R'):BM w F g m cnt bo bb lb R' L o BR W :=
 ⟨h.lmap,h.afs,λr hr=>by have:=h.rls r hr; omega,h.made,h.aft,h.afu⟩
end Go.Proofs.YtnmeejofpkhlkaaGreatDoor
