/- append of a whole slice onto an empty one: a copy in new memory. -/
import Derived.Deep.AppendSrc
import Derived.Test.YthmklhapjegfdaaGreatDoorV08
set_option linter.all false
namespace Go.Proofs.YthmklhapjegfdaaGreatDoor
open Go.RowKit
theorem Tryz.infoInfo:(Tryz.prog.info? 59).map (fun i=>(i.zero,i.size,i.bytes))=some (some (.agg #[.int .i64 0,.int .i64 0]),2,16):=ak
structure HeldRows (W:World) (g:Nat) (t:TypeId) (Fd:Ag) (L:List (Value×List Raw)) (S:List Value):Prop where
 row:Row W g t (L.map Prod.fst++S)
 fine:∀ q∈L,Az W Fd q.1 q.2
 out:¬ Fd g
theorem HeldRows.below {W W':World} {g:Nat} {t:TypeId} {Fd:Ag} {L:List (Value×List Raw)} {S:List Value} (h:HeldRows W g t Fd L S) (hb:Below W.heap.size W W'):HeldRows W' g t Fd L S :=
 ⟨h.row.below hb h.row.lt,fun q hq=>Az.on (h.fine q hq) (Below.same' hb _),h.out⟩
theorem HeldRows.cell {W:World} {g:Nat} {t:TypeId} {Fd:Ag} {L:List (Value×List Raw)} {S:List Value} (h:HeldRows W g t Fd L S) {k:Nat} {q:Value×List Raw} (hk:L[k]? = some q):W.cell? ⟨g,k,none⟩=some q.1 :=
 h.row.cell (by rw[List.getElem?_append_left (by rw[List.length_map]; exact aI hk),List.getElem?_map,hk]; rfl)
theorem HeldRows.set {W:World} {g:Nat} {t:TypeId} {Fd:Ag} {L:List (Value×List Raw)} {S:List Value} (h:HeldRows W g t Fd L S) {k:Nat} (hk:k < L.length) {q:Value×List Raw} (hq:Az W Fd q.1 q.2):HeldRows (W.setCell ⟨g,k,none⟩ q.1) g t Fd (L.set k q) S:=by
 refine⟨?_,fun p hp=>?_,h.out⟩
 ·have h3:=h.row.set k q.1;rw[List.set_append_left _ _ (by rw[List.length_map]; exact hk)] at h3;rw[List.map_set];exact h3
 ·have hp':Az W Fd p.1 p.2:=by
   rcases List.mem_or_eq_of_mem_set hp with hp | rfl
   ·exact h.fine p hp
   ·exact hq
  exact Az.on hp' (Same.setCell Fd W (p:=⟨g,k,none⟩) h.out _)
theorem HeldRows.rows {W:World} {g:Nat} {t:TypeId} {Fd F:Ag} {L:List (Value×List Raw)} {S:List Value} (h:HeldRows W g t Fd L S) (hF:∀ b,Fd b→F b) (hg:F g) {c:Nat} (hc:L.length≤c):Ae W F (.slice (some ⟨g,0,none⟩) L.length c) (L.map Prod.snd):=by
 refine⟨_,c,by rw[List.length_map],by rw[List.length_map]; exact hc,fun _=>⟨g,0,rfl,hg,h.row.lt,fun k x hk=>?_⟩⟩;rw[List.getElem?_map] at hk;obtain⟨q,hq,rfl⟩:=Option.map_eq_some_iff.1 hk;exact⟨q.1,by rw[Nat.mul_one,Nat.zero_add]; exact h.cell hq,Az.keep (h.fine q (List.mem_of_getElem? hq)) (fun b hb _=>hF b hb) (Same.refl _ _)⟩
theorem Ah.get {w:World} {F:Ag} {v:Value} {l:List Int} (h:Ah w F v l) {k:Nat} {x:Int} (hk:l[k]? = some x):∃ b o c,v = .slice (some ⟨b,o,none⟩) l.length c∧F b∧b < w.heap.size∧w.cell? ⟨b,o+k,none⟩=some (.int .i64 x):=by
 obtain⟨A,c,rfl,hc,hr⟩:=h;obtain⟨b,o,rfl,hF,hb,hx⟩:=hr (by have:=aI hk; omega);have e:=hx k x hk;unfold iE at e;rw[Nat.mul_one] at e;exact⟨b,o,c,rfl,hF,hb,e⟩
def sQ {α:Type} (R:Nat→List α) (n k:Nat):List (List α):=(List.range n).map fun i=>if i < k then R i else []
theorem aaF {α:Type} (R:Nat→List α) {n k:Nat} (hk:k < n):(sQ R n k).set k (R k)=sQ R n (k+1):=by
 apply List.ext_getElem?
 intro i;unfold sQ;by_cases h:k=i
 ·subst h;rw[List.getElem?_set_self (by simp; exact hk),List.getElem?_map,List.getElem?_range hk,Option.map_some,if_pos byOmega]
 ·rw[List.getElem?_set_ne h,List.getElem?_map,List.getElem?_map];rcases Nat.lt_or_ge i n with h1 | h1
  ·rw[List.getElem?_range h1,Option.map_some,Option.map_some];by_cases h2:i < k
   ·rw[if_pos h2,if_pos byOmega]
   ·rw[if_neg h2,if_neg byOmega]
  ·rw[List.getElem?_eq_none (by simpa using h1)];rfl
theorem afG {α:Type} (R:Nat→List α) (n:Nat):sQ R n n=(List.range n).map R:=by
 unfold sQ;refine List.map_congr_left fun i hi=>?_
 rw[List.mem_range] at hi;rw[if_pos hi]
theorem ad1 {α:Type} (R:Nat→List α) (n:Nat):sQ R n 0=List.replicate n []:=by
 apply List.ext_getElem?
 intro i;unfold sQ;rw[List.getElem?_map,List.getElem?_replicate];rcases Nat.lt_or_ge i n with h1 | h1
 ·rw[List.getElem?_range h1,if_pos h1];rfl
 ·rw[List.getElem?_eq_none (by simpa using h1),if_neg byOmega];rfl
end Go.Proofs.YthmklhapjegfdaaGreatDoor
