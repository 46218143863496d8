/- package value: what the walk of values holds. -/
import Derived.Test.YthmklhapjegfdaaGreatDoorK34
import Derived.Test.YthmklhapjegfdaaGreatDoorK24
set_option linter.all false
set_option maxRecDepth 100000
set_option maxHeartbeats 12800000
namespace Go.Proofs.YthmklhapjegfdaaGreatDoor
open Go.RowKit
structure ValOut (F:Ag) (g:Gm) (m:List (List Rat)) (bb:Nat) (w:World) (BR:List Value) (i:Nat) (v:Value) (BR':List Value) (e:Nat) (w':World):Prop where
 span:Span g.nodes [(i:Int)] i e
 own:BR'[i]? = some v
 nums:BL w' (fun b=>F b∨w.heap.size≤b) v (ahg g m i)
 len:BR'.length=g.nodes.length
 out:∀ j,(j < i∨e≤j)→BR'[j]? = BR[j]?
 inn:∀ j,i≤j→j < e→∃ vj,BR'[j]? = some vj∧BL w' (fun b=>F b∨w.heap.size≤b) vj (ahg g m j)
 row:Row w' bb 110 BR'
 grown:w.grownBy w' (some bb)
structure VBr (F:Ag) (g:Gm) (m:List (List Rat)) (bb pl:Nat) (w:World) (BR:List Value) (i a:Nat) (n:Nd) (chv:Value) (acc:List Rat) (L:List RV) (BRc:List Value) (W:World):Prop where
 grown:w.grownBy W (some bb)
 row:Row W bb 110 BRc
 len:BRc.length=g.nodes.length
 own:BRc[i]? = some (.slice (some ⟨pl,0,none⟩) g.aj.toNat g.aj.toNat)
 out:∀ j,(j < i∨a≤j)→BRc[j]? = BR[j]?
 inn:∀ j,i < j→j < a→∃ vj,BRc[j]? = some vj∧BL W (fun b=>F b∨pl < b) vj (ahg g m j)
 made:AA W pl 118 (fun b=>F b∨pl < b) L
 lmap:L.map RV.r=acc.map aB
 chan:BL W (fun b=>F b∨pl < b) chv (qU m n)
section
variable {F:Ag} {g:Gm} {m:List (List Rat)} {bb pl:Nat} {w:World} {BR:List Value} {i a:Nat} {n:Nd} {chv:Value} {acc:List Rat} {L:List RV} {BRc:List Value} {W W':World}
theorem VBr.below (h:VBr F g m bb pl w BR i a n chv acc L BRc W) (hb:Below W.heap.size W W'):VBr F g m bb pl w BR i a n chv acc L BRc W' :=
 ⟨qG h.grown (grown_below hb (Nat.le_refl _) _),h.row.below hb h.row.lt,h.len,h.own,h.out,fun j h1 h2=>by obtain⟨vj,h3,h4⟩:=h.inn j h1 h2; exact⟨vj,h3,Aw.below h4 hb⟩,h.made.below hb,h.lmap,Aw.below h.chan hb⟩
end
theorem VBr.get {F:Ag} {g:Gm} {m:List (List Rat)} {bb pl:Nat} {w:World} {BR:List Value} {i a:Nat} {n:Nd} {chv:Value} {acc:List Rat} {L:List RV} {BRc:List Value} {W:World} (h:VBr F g m bb pl w BR i a n chv acc L BRc W) {p:Nat} {x:Rat} (hx:acc[p]? = some x) :
  ∃ (A:Option Addr) (c:Nat) (B:Option Addr) (d:Nat),L[p]? = some ⟨aB x,.slice A (aB x).num.length c,.slice B (aB x).den.length d⟩∧(⟨aB x,.slice A (aB x).num.length c,.slice B (aB x).den.length d⟩:RV).fine W (fun b=>F b∨pl < b):=by
 have hl:L.length=acc.length:=by have:=congrArg List.length h.lmap; simpa using this
 obtain⟨q,hq⟩:=ak (l:=L) (k:=p) (by rw[hl]; exact aG hx);have hr:q.r=aB x:=by
  have:=congrArg (fun l:List Raw=>l[p]?) h.lmap;simp only[List.getElem?_map,hq,hx,Option.map_some,Option.some.injEq] at this;exact this
 have hf:=h.made.fine q (List.mem_of_getElem? hq);obtain⟨r,vn,vd⟩:=q;simp only at hr;subst hr;have hf':(⟨aB x,vn,vd⟩:RV).fine W (fun b=>F b∨pl < b):=hf.keep (fun b hb _=>hb.1) (Same.refl _ _);have h1:=hf'.1; have h2:=hf'.2;obtain⟨A,c,e1,_⟩:=h1;obtain⟨B,d,e2,_⟩:=h2;simp only at e1 e2;subst e1; subst e2;exact⟨A,c,B,d,hq,hf'⟩
section
variable {w w':World} {F:Ag} {bp:Nat} {g:Gm} {m:List (List Rat)} {up place:List Int} {vn vi vu vp vm:Value} {pb xb fb bb:Nat} {BR BR':List Value}
end
end Go.Proofs.YthmklhapjegfdaaGreatDoor
