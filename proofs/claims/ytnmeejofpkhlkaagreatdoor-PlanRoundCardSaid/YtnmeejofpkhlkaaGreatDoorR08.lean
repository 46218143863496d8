/- Rows of rational numbers of one's own: append of one. -/
import Derived.Test.YtnmeejofpkhlkaaGreatDoorR05
import Derived.Test.YtnmeejofpkhlkaaGreatDoorR06
set_option linter.all false
namespace Go.Proofs.YtnmeejofpkhlkaaGreatDoor
open Go.RowKit
structure RV where
 r:Raw
 vn:Value
 vd:Value
def RV.cells (q:RV):List Value:=[.bool q.r.neg,q.vn,q.vd]
def RV.fine (w:World) (F:Foot) (q:RV):Prop:=Aj w F q.vn q.r.num∧Aj w F q.vd q.r.den
theorem RV.fine.keep {w w':World} {F G:Foot} {q:RV} (h:q.fine w F) (hFG:∀ b,F b→b < w.heap.size→G b) (hs:Same F w w'):q.fine w' G:=⟨h.1.keep hFG hs,h.2.keep hFG hs⟩
theorem RV.fine.below {w w':World} {F:Foot} {q:RV} (h:q.fine w F) (hb:Below w.heap.size w w'):q.fine w' F:=h.keep (fun _ h _=>h) (Below.same' hb F)
theorem Aj.oneCell {w:World} {F:Foot} {v:Value} {l:List Nat} (h:Aj w F v l):v.oneCell'=true:=by
 obtain⟨A,c,rfl,_⟩:=h;rfl
theorem Ak.rv {w:World} {F:Foot} {v:Value} {r:Raw} (h:Ak w F v r):∃ q:RV,q.r=r∧v = .agg q.cells.toArray∧q.fine w F:=by
 obtain⟨vn,vd,rfl,h1,h2⟩:=h;exact⟨⟨r,vn,vd⟩,rfl,rfl,h1,h2⟩
theorem Lies.raws {w:World} {b:Nat} {L:List RV} (h:Lies w b (L.flatMap RV.cells)) {F:Foot} (hb:F b) (hL:∀ q∈L,q.fine w F) {c:Nat} (hc:L.length≤c):RawsAt w F (.slice (some ⟨b,0,none⟩) L.length c) (L.map RV.r):=by
 refine⟨_,c,by rw[List.length_map],by rw[List.length_map]; exact hc,fun _=>⟨b,0,rfl,hb,h.1,fun k x hk=>?_⟩⟩;rw[List.getElem?_map] at hk;obtain⟨q,hq,rfl⟩:=Option.map_eq_some_iff.1 hk;obtain⟨f1,f2⟩:=hL q (List.mem_of_getElem? hq);have g:∀ j v,j < 3→q.cells[j]? = some v→w.cell? ⟨b,0+k*3+j,none⟩=some v:=fun j v hj hv=>by
  rw[Nat.zero_add];exact h.2 _ _ (by rw[mV (f:=RV.cells) (s:=3) (fun _=>rfl) L k j q hq hj]; exact hv)
 exact⟨g 0 _ byOmega rfl,⟨_,g 1 _ byOmega rfl,f1⟩,⟨_,g 2 _ byOmega rfl,f2⟩⟩
theorem agW (L:List RV):(L.flatMap RV.cells).length=L.length*3:=by
 induction L with
 | nil=>rfl
 | cons q L ih=>rw[List.flatMap_cons,List.length_append,ih]; simp[RV.cells]; omega
theorem Tryz.infoNum:(Tryz.prog.info? 114).map (fun i=>(i.zero,i.size,i.bytes))=some (some (.agg #[.bool false,.slice none 0 0,.slice none 0 0]),3,56):=ah
theorem Tryz.infoRat:(Tryz.prog.info? 42).map (fun i=>(i.zero,i.size,i.bytes))=some (some (.agg #[.bool false,.slice none 0 0,.slice none 0 0]),3,56):=ah
theorem adI {w:World} {ops:Array Oper} {rest:List Oper} {o:Oper} {a:Act} {Q:Exit→Act→World→Prop} (hgd:o.guard=none) (s x:Operand) (t et:TypeId) (ht:Tryz.prog.underlying t=some (.slice et))
  (hi0:(Tryz.prog.info? et).map (fun i=>(i.zero,i.size,i.bytes))=some (some (.agg #[.bool false,.slice none 0 0,.slice none 0 0]),3,56))
  (ho:o.op = .call { callee:=.builtin .append,args:=#[s,x],argTypes:=#[t,t] })
  (base:Nat) (v:Value) (L:List RV) (hs:a.eval s=v) (hown:w.ownsRow base et 3 v L.length (L.flatMap RV.cells))
  (B:Nat) (q:RV) (hx:a.eval x = .slice (some ⟨B,0,none⟩) 1 1) (hB:w.heap[B]? = some (.cells q.cells.toArray et (0,0))) (hone:q.vn.oneCell'=true∧q.vd.oneCell'=true) (hlen:L.length≤1000000) (hbase:base≤w.heap.size)
  (h:∀ g cap w',w'.ownsRow base et 3 (.slice (some ⟨g,0,none⟩) (L.length+1) cap) (L ++ [q]).length ((L ++ [q]).flatMap RV.cells)→w.grownBy w' v.ownBlock→(v.ownBlock=some g∨w.heap.size≤g)→g < w'.heap.size →
   wpList Tryz.prog ops Q rest (a.put o.dst (.slice (some ⟨g,0,none⟩) (L.length+1) cap)) w') :
  wpList Tryz.prog ops Q (o :: rest) a w:=by
 obtain⟨i0,hi,hz0,hz1,hz2⟩:=info_parts hi0;refine wpList_append_lies w hgd s x _ ho base _ i0 _ 3 56 ht hi hz0 hz1 hz2 rfl byOmega v L.length _ hs hown ⟨B,0,none⟩ 1 1 q.cells hx rfl (World.news_of_block hB) ?_ byOmega (by unfold maxLen; omega) byOmega hbase w.heap.size rfl ?_
 ·intro u hu;simp only[RV.cells,List.mem_cons,List.not_mem_nil,or_false] at hu;rcases hu with rfl | rfl | rfl
  ·rfl
  ·exact hone.1
  ·exact hone.2
 ·intro g cap w' h1 h2 h3 h4;refine h g cap w' ?_ h2 (h3.imp id fun e=>by omega) h4;have e1:(L ++ [q]).length=L.length+1:=aB;have e2:(L ++ [q]).flatMap RV.cells=L.flatMap RV.cells++q.cells:=by simp[List.flatMap_append]
  rw[e1,e2];exact h1
theorem agX {w:World} {base:Nat} {t:TypeId} {v:Value} {L:List RV} (h:w.ownsRow base t 3 v L.length (L.flatMap RV.cells)) {F:Foot} (hF:∀ b,v.ownBlock=some b→F b) (hL:∀ q∈L,q.fine w F):RawsAt w F v (L.map RV.r):=by
 rcases h.2 with⟨rfl,h0⟩ | ⟨g,cap,cur,rfl,hb,hg,hnc,_,hsz,htake⟩
 ·have:L = []:=List.eq_nil_of_length_eq_zero h0;subst this;exact Yv
 ·refine Lies.raws ⟨(Array.getElem?_eq_some_iff.1 hg).1,fun i u hi=>?_⟩ (hF g rfl) hL hnc;rw[← htake,List.getElem?_take] at hi;split at hi
  ·simp[World.cell?,hg];simpa using hi
  ·cases hi
def Apart (F:Foot) (v:Value):Foot:=fun b=>F b∧v.ownBlock≠some b
structure Bf (w:World) (base:Nat) (et:TypeId) (F:Foot) (v:Value) (L:List RV):Prop where
 row:w.ownsRow base et 3 v L.length (L.flatMap RV.cells)
 fine:∀ q∈L,q.fine w (Apart F v)
theorem Bf.nil (w:World) (base:Nat) (et:TypeId) (F:Foot):Bf w base et F (.slice none 0 0) []:=⟨World.ownsRow_nil _ _ _ _,fun q h=>by cases h⟩
theorem Bf.below {w w':World} {base:Nat} {et:TypeId} {F:Foot} {v:Value} {L:List RV} (h:Bf w base et F v L) (hb:Below w.heap.size w w'):Bf w' base et F v L:=by
 refine⟨⟨h.row.1,?_⟩,fun q hq=>(h.fine q hq).below hb⟩;rcases h.row.2 with hn | ⟨g,cap,cur,rfl,hg,hc,r⟩
 ·exact .inl hn
 ·exact .inr ⟨g,cap,cur,rfl,hg,by rw[hb.block g (Array.getElem?_eq_some_iff.1 hc).1]; exact hc,r⟩
theorem Bf.raws {w:World} {base:Nat} {et:TypeId} {F G:Foot} {v:Value} {L:List RV} (h:Bf w base et F v L) (hF:∀ b,F b→G b) (hG:∀ b,base≤b→G b):RawsAt w G v (L.map RV.r) :=
 agX h.row (fun b hb=>hG b (h.row.lt b hb).1) fun q hq=>(h.fine q hq).keep (fun b hb _=>hF b hb.1) (Same.refl _ _)
theorem su {w W:World} {F:Foot} {ops:Array Oper} {rest:List Oper} {o:Oper} {a:Act} {Q:Exit→Act→World→Prop} (hgd:o.guard=none) (s x:Operand) (t et:TypeId) (ht:Tryz.prog.underlying t=some (.slice et))
  (hi0:(Tryz.prog.info? et).map (fun i=>(i.zero,i.size,i.bytes))=some (some (.agg #[.bool false,.slice none 0 0,.slice none 0 0]),3,56))
  (ho:o.op = .call { callee:=.builtin .append,args:=#[s,x],argTypes:=#[t,t] })
  (base:Nat) (hbase:base≤W.heap.size) (v:Value) (L:List RV) (hs:a.eval s=v) (q:RV) (hlen:L.length≤1000000)
  (hx:a.eval x = .slice (some ⟨w.heap.size,0,none⟩) 1 1) (hown:Bf w base et F v L) (hq:q.fine w (Apart F v)) (hbel:Below base W w)
  (h:∀ g cap w',Bf w' base et F (.slice (some ⟨g,0,none⟩) (L.length+1) cap) (L ++ [q])→Below base W w'→w.heap.size < w'.heap.size →
   wpList Tryz.prog ops Q rest (a.put o.dst (.slice (some ⟨g,0,none⟩) (L.length+1) cap)) w') :
  wpList Tryz.prog ops Q (o :: rest) a (w.alloc (.cells #[.bool q.r.neg,q.vn,q.vd] et)):=by
 have hz:=hbel.size;refine adI hgd s x t et ht hi0 ho base v L hs (hown.row.alloc _) w.heap.size q hx (heap_alloc_new _ _) ⟨hq.1.oneCell,hq.2.oneCell⟩ hlen aF ?_;intro g cap w' h1 h2 h3 h4;have h5:=h2.size;simp only[World.size_alloc] at h5 h3;have hsame:Same (Apart F v) w w':=⟨byOmega,fun b hb hl=>(h2.block b aF (fun e=>hb.2 e.symm)).trans (Below.heap_alloc _ _ _ hl)⟩;refine h g cap w' ⟨h1,fun p hp=>?_⟩ ((hbel.alloc byOmega _).grown h2 aF (fun k hk=>(hown.row.lt k hk).1)) byOmega;have hp':p.fine w (Apart F v):=by
  rcases List.mem_append.1 hp with hp | hp
  ·exact hown.fine p hp
  ·rw[List.mem_singleton.1 hp];exact hq
 refine hp'.keep (fun b hb hl=>⟨hb.1,fun e=>?_⟩) hsame;have e:some g=some b:=e;cases e
 rcases h3 with h3 | h3
 ·exact hb.2 h3
 ·omega
def qo (l:List Int):Int:=l.foldl (· + ·) 0
theorem agY (l:List Int) (x:Int):qo (l ++ [x])=qo l+x:=by unfold qo; rw[List.foldl_append]; rfl
def agk (m:List (List Rat)) (n:Nd):List Rat:=if n.kind=2 then m.getD n.info.toNat [] else n.weights.map fun x:Int=>(x:Rat) / ((qo n.weights:Int):Rat)
structure Fit (g:Gm) (m:List (List Rat)):Prop where
 good:Good g
 nodes:dG g.aA g.infos.length g.nodes=0
 aA:1≤g.aA∧g.aA≤4
 rows:m.length=g.infos.length
 chan:∀ n∈g.nodes,n.kind≠3→(agk m n).length=n.next.length∧∀ x∈agk m n,rl x≤4
structure Knd (α:Type) where
 n:Nat
 cells:α→List Value
 fine:World→Foot→α→Prop
 len:∀ q,(cells q).length=n
 pos:0 < n
 one:∀ {w:World} {F:Foot} {q:α},fine w F q→∀ u∈cells q,u.oneCell'=true
 keep:∀ {w w':World} {F G:Foot} {q:α},fine w F q→(∀ b,F b→b < w.heap.size→G b)→Same F w w'→fine w' G q
structure OwnSl {α:Type} (K:Knd α) (w:World) (base:Nat) (et:TypeId) (F:Foot) (v:Value) (L:List α):Prop where
 row:w.ownsRow base et K.n v L.length (L.flatMap K.cells)
 fine:∀ q∈L,K.fine w (Apart F v) q
section
variable {α:Type} {K:Knd α}
theorem OwnSl.nil (K:Knd α) (w:World) (base:Nat) (et:TypeId) (F:Foot):OwnSl K w base et F (.slice none 0 0) []:=⟨World.ownsRow_nil _ _ _ _,fun q h=>by cases h⟩
theorem OwnSl.below {w w':World} {base:Nat} {et:TypeId} {F:Foot} {v:Value} {L:List α} (h:OwnSl K w base et F v L) (hb:Below w.heap.size w w'):OwnSl K w' base et F v L:=by
 refine⟨⟨h.row.1,?_⟩,fun q hq=>K.keep (h.fine q hq) (fun _ h _=>h) (Below.same' hb _)⟩;rcases h.row.2 with hn | ⟨g,cap,cur,rfl,hg,hc,r⟩
 ·exact .inl hn
 ·exact .inr ⟨g,cap,cur,rfl,hg,by rw[hb.block g (Array.getElem?_eq_some_iff.1 hc).1]; exact hc,r⟩
theorem OwnSl.at {w:World} {base:Nat} {et:TypeId} {F:Foot} {v:Value} {L:List α} (h:OwnSl K w base et F v L) :
  (v = .slice none 0 0∧L = [])∨∃ g cap,v = .slice (some ⟨g,0,none⟩) L.length cap∧base≤g∧g < w.heap.size∧L.length≤cap∧(∀ q∈L,K.fine w F q)∧∀ k q,L[k]? = some q→∀ j u,(K.cells q)[j]? = some u→w.cell? ⟨g,0+k*K.n+j,none⟩=some u:=by
 rcases h.row.2 with⟨rfl,h0⟩ | ⟨g,cap,cur,rfl,hb,hg,hnc,_,hsz,htake⟩
 ·exact .inl ⟨rfl,List.eq_nil_of_length_eq_zero h0⟩
 ·refine .inr ⟨g,cap,rfl,hb,(Array.getElem?_eq_some_iff.1 hg).1,hnc,fun q hq=>K.keep (h.fine q hq) (fun b hb _=>hb.1) (Same.refl _ _),fun k q hk j u hu=>?_⟩;have hj:j < K.n:=by rw[← K.len q];exact lt_of_get hu
  have e:=mV (f:=K.cells) (s:=K.n) K.len L k j q hk hj;rw[hu,← htake,List.getElem?_take] at e;rw[Nat.zero_add];split at e
  ·simp[World.cell?,hg];simpa using e
  ·cases e
theorem afh {w W:World} {F:Foot} {ops:Array Oper} {rest:List Oper} {o:Oper} {a:Act} {Q:Exit→Act→World→Prop} (hgd:o.guard=none) (s x:Operand) (t et:TypeId) (bytes:Nat) (z:Value) (ht:Tryz.prog.underlying t=some (.slice et))
  (hi0:(Tryz.prog.info? et).map (fun i=>(i.zero,i.size,i.bytes))=some (some z,K.n,bytes)) (hzc:z.cells.size=K.n) (hby:bytes≤1000)
  (ho:o.op = .call { callee:=.builtin .append,args:=#[s,x],argTypes:=#[t,t] })
  (base:Nat) (hbase:base≤W.heap.size) (v:Value) (L:List α) (hs:a.eval s=v) (q:α) (c:Array Value) (hc:c=(K.cells q).toArray) (hlen:L.length≤1000000)
  (hx:a.eval x = .slice (some ⟨w.heap.size,0,none⟩) 1 1) (hown:OwnSl K w base et F v L) (hq:K.fine w (Apart F v) q) (hbel:Below base W w)
  (h:∀ g cap w',OwnSl K w' base et F (.slice (some ⟨g,0,none⟩) (L.length+1) cap) (L ++ [q])→Below base W w'→w.heap.size < w'.heap.size→Same (fun b=>v.ownBlock≠some b) w w' →
   wpList Tryz.prog ops Q rest (a.put o.dst (.slice (some ⟨g,0,none⟩) (L.length+1) cap)) w') :
  wpList Tryz.prog ops Q (o :: rest) a (w.alloc (.cells c et)):=by
 subst hc;have hz:=hbel.size;refine zbw ?_;intro hm i0 hi hz0 hz1 hz2;refine wpList_append_lies (w.alloc (.cells (K.cells q).toArray et)) hgd s x t ho base et i0 z K.n bytes ht hi hz0 hz1 hz2 hzc K.pos v L.length _ hs (hown.row.alloc _) ⟨w.heap.size,0,none⟩ 1 1 (K.cells q) hx (by rw[Nat.one_mul]; exact K.len q) (World.news_of_block (heap_alloc_new _ _)) (K.one hq) byOmega (by unfold maxLen; omega) byOmega aF (w.alloc (.cells (K.cells q).toArray et)).heap.size rfl ?_;intro g cap w' h1 h2 h3 h4;have h5:=h2.size;simp only[World.size_alloc] at h5 h3;refine Ya ?_;intro hsame e1 e2 afi p hp;have hp':K.fine w (Apart F v) p:=by
  rcases List.mem_append.1 hp with hp | hp
  ·exact hown.fine p hp
  ·rw[List.mem_singleton.1 hp];exact hq
 refine K.keep hp' (fun b hb hl=>⟨hb.1,fun e=>?_⟩) hsame;have e:some g=some b:=e;cases e
 rcases h3 with h3 | h3
 ·exact hb.2 h3
 ·omega
theorem kJ {w W:World} {F:Foot} {ops:Array Oper} {o:Oper} {a:Act} {K':Act→World→Prop} {Q:Exit→Act→World→Prop} {E:Prop} (hgd:o.guard=none) (s x:Operand) (t et:TypeId) (bytes:Nat) (z:Value) (ht:Tryz.prog.underlying t=some (.slice et))
  (hi0:(Tryz.prog.info? et).map (fun i=>(i.zero,i.size,i.bytes))=some (some z,K.n,bytes)) (hzc:z.cells.size=K.n) (hby:bytes≤1000)
  (ho:o.op = .call { callee:=.builtin .append,args:=#[s,x],argTypes:=#[t,t] })
  (base:Nat) (hbase:base≤W.heap.size) (v:Value) (L:List α) (hs:a.eval s=v) (q:α) (c:Array Value) (hc:c=(K.cells q).toArray) (hlen:L.length≤1000000)
  (hx:a.eval x = .slice (some ⟨w.heap.size,0,none⟩) 1 1) (hown:OwnSl K w base et F v L) (hq:K.fine w (Apart F v) q) (hbel:Below base W w)
  (h:∀ g cap w',OwnSl K w' base et F (.slice (some ⟨g,0,none⟩) (L.length+1) cap) (L ++ [q])→Below base W w'→w.heap.size < w'.heap.size→Same (fun b=>v.ownBlock≠some b) w w' →
   K' (a.put o.dst (.slice (some ⟨g,0,none⟩) (L.length+1) cap)) w') :
  if Region.wanted o (yielded ops a.tmps)=true then Oper.wp Tryz.prog o a (w.alloc (.cells c et)) K' Q else E:=by
 subst hc;have hz:=hbel.size;refine zbw ?_;intro hm i0 hi hz0 hz1 hz2;refine step_append_lies (w.alloc (.cells (K.cells q).toArray et)) hgd s x t ho base et i0 z K.n bytes ht hi hz0 hz1 hz2 hzc K.pos v L.length _ hs (hown.row.alloc _) ⟨w.heap.size,0,none⟩ 1 1 (K.cells q) hx (by rw[Nat.one_mul]; exact K.len q) (World.news_of_block (heap_alloc_new _ _)) (K.one hq) byOmega (by unfold maxLen; omega) byOmega aF (w.alloc (.cells (K.cells q).toArray et)).heap.size rfl ?_;intro g cap w' h1 h2 h3 h4;have h5:=h2.size;simp only[World.size_alloc] at h5 h3;refine Ya ?_;intro hsame e1 e2 afi p hp;have hp':K.fine w (Apart F v) p:=by
  rcases List.mem_append.1 hp with hp | hp
  ·exact hown.fine p hp
  ·rw[List.mem_singleton.1 hp];exact hq
 refine K.keep hp' (fun b hb hl=>⟨hb.1,fun e=>?_⟩) hsame;have e:some g=some b:=e;cases e
 rcases h3 with h3 | h3
 ·exact hb.2 h3
 ·omega
end
def yP:Knd (Value×List Raw) where
 n:=1
 cells q:=[q.1]
 fine w F q:=RawsAt w F q.1 q.2
 len _:=rfl
 pos:=ay
 one h u hu:=by
  obtain⟨A,c,hv,_⟩:=h;rw[List.mem_singleton.1 hu,hv];rfl
 keep h hFG hs:=h.keep hFG hs
theorem OwnSl.rows {w:World} {base:Nat} {et:TypeId} {F G:Foot} {v:Value} {L:List (Value×List Raw)} (h:OwnSl yP w base et F v L) (hF:∀ b,F b→G b) (hG:∀ b,base≤b→G b):RawRowsAt w G v (L.map Prod.snd):=by
 rcases h.at with⟨rfl,rfl⟩ | ⟨g,cap,rfl,hb,hg,hcap,hf,hx⟩
 ·exact RawRowsAt.nil _ _
 ·refine⟨_,cap,by rw[List.length_map],by rw[List.length_map]; exact hcap,fun _=>⟨g,0,rfl,hG g hb,hg,fun k x hk=>?_⟩⟩;rw[List.getElem?_map] at hk;obtain⟨q,hq,rfl⟩:=Option.map_eq_some_iff.1 hk;exact⟨q.1,hx k q hq 0 q.1 rfl,RawsAt.keep (hf q (List.mem_of_getElem? hq)) (fun b hb _=>hF b hb) (Same.refl _ _)⟩
def ratK:Knd RV where
 n:=3
 cells q:=q.cells
 fine w F q:=q.fine w F
 len _:=rfl
 pos:=ay
 one h u hu:=by
  simp only[RV.cells,List.mem_cons,List.not_mem_nil,or_false] at hu;rcases hu with rfl | rfl | rfl
  ·rfl
  ·exact h.1.oneCell
  ·exact h.2.oneCell
 keep h hFG hs:=h.keep hFG hs
theorem OwnSl.raws {w:World} {base:Nat} {et:TypeId} {F G:Foot} {v:Value} {L:List RV} (h:OwnSl ratK w base et F v L) (hF:∀ b,F b→G b) (hG:∀ b,base≤b→G b):RawsAt w G v (L.map RV.r):=by
 rcases h.at with⟨rfl,rfl⟩ | ⟨g,cap,rfl,hb,hg,hcap,hf,hx⟩
 ·exact RawsAt.nil _ _
 ·refine⟨_,cap,by rw[List.length_map],by rw[List.length_map]; exact hcap,fun _=>⟨g,0,rfl,hG g hb,hg,fun k x hk=>?_⟩⟩;rw[List.getElem?_map] at hk;obtain⟨q,hq,rfl⟩:=Option.map_eq_some_iff.1 hk;have h3:=(hf q (List.mem_of_getElem? hq)).keep (G:=G) (fun b hb _=>hF b hb) (Same.refl _ _);exact⟨hx k q hq 0 _ rfl,⟨_,hx k q hq 1 _ rfl,h3.1⟩,⟨_,hx k q hq 2 _ rfl,h3.2⟩⟩
theorem OwnSl.same {α:Type} {K:Knd α} {w w':World} {base:Nat} {et:TypeId} {F:Foot} {v:Value} {L:List α} (h:OwnSl K w base et F v L) (hs:Same (fun b=>F b∨base≤b) w w'):OwnSl K w' base et F v L:=by
 refine⟨⟨h.row.1,?_⟩,fun q hq=>K.keep (h.fine q hq) (fun _ h _=>h) ⟨hs.size,fun b hb hl=>hs.2 b (.inl hb.1) hl⟩⟩;rcases h.row.2 with hn | ⟨g,cap,cur,rfl,hg,hc,r⟩
 ·exact .inl hn
 ·exact .inr ⟨g,cap,cur,rfl,hg,by rw[hs.2 g (.inr hg) (Array.getElem?_eq_some_iff.1 hc).1]; exact hc,r⟩
def DoneRows (w:World) (F:Foot) (vs:List Value) (ls:List (List Raw)):Prop:=vs.length=ls.length∧∀ (i:Nat) (v:Value) (l:List Raw),vs[i]? = some v→ls[i]? = some l→RawsAt w F v l
section
variable {w w':World} {F G:Foot} {vs:List Value} {ls:List (List Raw)} {v:Value} {l:List Raw}
theorem DoneRows.nil (w:World) (F:Foot):DoneRows w F [] []:=⟨rfl,fun i v l h=>by simp at h⟩
theorem DoneRows.keep (h:DoneRows w F vs ls) (hFG:∀ b,F b→b < w.heap.size→G b) (hs:Same F w w'):DoneRows w' G vs ls:=⟨h.1,fun i v l hv hl=>(h.2 i v l hv hl).keep hFG hs⟩
theorem DoneRows.snoc (h:DoneRows w F vs ls) (hv:RawsAt w F v l):DoneRows w F (vs ++ [v]) (ls ++ [l]):=by
 refine⟨by simp[h.1],fun i u m hu hm=>?_⟩;rcases Nat.lt_trichotomy i vs.length with hi | hi | hi
 ·rw[List.getElem?_append_left hi] at hu;rw[List.getElem?_append_left (by rw[← h.1]; exact hi)] at hm;exact h.2 i u m hu hm
 ·subst hi;rw[List.getElem?_append_right (Nat.le_refl _),Nat.sub_self] at hu;rw[List.getElem?_append_right (by rw[h.1]; exact Nat.le_refl _),h.1,Nat.sub_self] at hm;cases hu;cases hm;exact hv
 ·rw[List.getElem?_eq_none aF] at hu;cases hu
theorem DoneRows.rows (h:DoneRows w F vs ls) {b:Nat} {t:TypeId} (hr:Row w b t vs) (hb:G b) (hFG:∀ b,F b→G b) {c:Nat} (hc:ls.length≤c):RawRowsAt w G (.slice (some ⟨b,0,none⟩) ls.length c) ls:=by
 refine⟨_,c,rfl,hc,fun _=>⟨b,0,rfl,hb,hr.lt,fun k x hk=>?_⟩⟩;obtain⟨u,hu⟩:=getSome (l:=vs) (k:=k) (by rw[h.1]; exact lt_of_get hk);exact⟨u,by rw[show 0+k*1=k by omega]; exact hr.cell hu,(h.2 k u x hu hk).keep (fun b hb _=>hFG b hb) (Same.refl _ _)⟩
end
def restN (vs:List Value) (n:Nat):List Value:=vs++List.replicate (n - vs.length) (.slice none 0 0)
theorem restN_get {vs:List Value} {n:Nat} (h:vs.length < n):(restN vs n)[vs.length]? = some (.slice none 0 0):=by
 unfold restN;rw[List.getElem?_append_right (Nat.le_refl _),Nat.sub_self,List.getElem?_replicate,if_pos byOmega]
theorem restN_set {vs:List Value} {n:Nat} (h:vs.length < n) (v:Value):(restN vs n).set vs.length v=restN (vs ++ [v]) n:=by
 unfold restN;rw[List.set_append_right _ _ (Nat.le_refl _),Nat.sub_self,List.append_assoc];congr 1;obtain⟨k,hk⟩:∃ k,n - vs.length=k+1:=⟨n - vs.length - 1,byOmega⟩;rw[hk,List.replicate_succ,List.set_cons_zero,List.length_append,List.length_singleton,show n - (vs.length+1)=k by omega];rfl
def nowN (vs:List Value) (u:Value) (n:Nat):List Value:=restN (vs ++ [u]) n
theorem nowN_get {vs:List Value} {u:Value} {n:Nat}:(nowN vs u n)[vs.length]? = some u:=by
 unfold nowN restN;rw[List.append_assoc,List.getElem?_append_right (Nat.le_refl _),Nat.sub_self];rfl
theorem nowN_set {vs:List Value} {u:Value} {n:Nat} (v:Value):(nowN vs u n).set vs.length v=nowN vs v n:=by
 unfold nowN restN;rw[List.append_assoc,List.append_assoc,List.set_append_right _ _ (Nat.le_refl _),Nat.sub_self,List.length_append,List.length_append];rfl
theorem nowN_nil {vs:List Value} {n:Nat} (h:vs.length < n):nowN vs (.slice none 0 0) n=restN vs n:=by
 have:=restN_set h (.slice none 0 0);unfold nowN;rw[← this];exact List.ext_getElem? fun i=>by
  rw[List.getElem?_set];split
  ·rename_i e
   subst e;rw[restN_get h];have:=lt_of_get (restN_get h);simp[this]
  ·rfl
theorem restN_nil (n:Nat):restN [] n=List.replicate n (.slice none 0 0):=by unfold restN; simp
theorem restN_full {vs:List Value} {n:Nat} (h:n≤vs.length):restN vs n=vs:=by unfold restN; rw[Nat.sub_eq_zero_of_le h]; simp
def GoF (F:Foot) (w:World) (B1:Nat):Foot:=fun b=>(F b∧b < w.heap.size)∨B1≤b
def GdF (F:Foot) (w:World) (B1 B2:Nat):Foot:=fun b=>(F b∧b < w.heap.size)∨(B1≤b∧b < B2)
structure MkO (F:Foot) (w:World) (bo:Nat) (t:TypeId) (n B1:Nat) (vs:List Value) (ls:List (List Raw)) (wr:World):Prop where
 row:Row wr bo t (restN vs n)
 done:DoneRows wr (GoF F w B1) vs ls
 bel:Below w.heap.size w wr
 lo:w.heap.size≤bo
 hi:bo < B1
 size:B1≤wr.heap.size
structure Mk (F:Foot) (w:World) (bo:Nat) (t et:TypeId) (n B1 B2:Nat) (vs:List Value) (ls:List (List Raw)) (u v:Value) (L:List RV) (wr:World):Prop where
 row:Row wr bo t (nowN vs u n)
 own:OwnSl ratK wr B2 et (GoF F w B1) v L
 done:DoneRows wr (GdF F w B1 B2) vs ls
 bel:Below w.heap.size w wr
 lo:w.heap.size≤bo
 hi:bo < B1
 mid:B1≤B2
 size:B2≤wr.heap.size
section
variable {F:Foot} {w:World} {bo:Nat} {t et:TypeId} {n B1 B2:Nat} {vs:List Value} {ls:List (List Raw)} {u v:Value} {L:List RV} {wr w':World}
theorem MkO.begin (hr:Row wr bo t (List.replicate n (.slice none 0 0))) (hb:Below w.heap.size w wr) (h:w.heap.size≤bo) (h1:bo < B1) (h2:B1≤wr.heap.size):MkO F w bo t n B1 [] [] wr :=
 ⟨by rw[restN_nil]; exact hr,DoneRows.nil _ _,hb,h,h1,h2⟩
theorem MkO.start (h:MkO F w bo t n B1 vs ls wr) (hn:vs.length < n) (et:TypeId):Mk F w bo t et n B1 wr.heap.size vs ls (.slice none 0 0) (.slice none 0 0) [] wr :=
 ⟨by rw[nowN_nil hn]; exact h.row,OwnSl.nil _ _ _ _ _,h.done.keep (fun b hb hl=>hb.elim .inl fun h=>.inr ⟨h,hl⟩) (Same.refl _ _),h.bel,h.lo,h.hi,h.size,Nat.le_refl _⟩
theorem Mk.below (h:Mk F w bo t et n B1 B2 vs ls u v L wr) (hb:Below wr.heap.size wr w'):Mk F w bo t et n B1 B2 vs ls u v L w' :=
 ⟨h.row.below hb h.row.lt,h.own.below hb,h.done.keep (fun _ h _=>h) (Below.same' hb _),h.bel.trans (hb.mono h.bel.size),h.lo,h.hi,h.mid,Nat.le_trans h.size hb.size⟩
theorem MkO.below (h:MkO F w bo t n B1 vs ls wr) (hb:Below wr.heap.size wr w'):MkO F w bo t n B1 vs ls w' :=
 ⟨h.row.below hb h.row.lt,h.done.keep (fun _ h _=>h) (Below.same' hb _),h.bel.trans (hb.mono h.bel.size),h.lo,h.hi,Nat.le_trans h.size hb.size⟩
theorem Mk.cell (h:Mk F w bo t et n B1 B2 vs ls u v L wr) {k:Nat} (hk:vs.length=k):wr.cell? ⟨bo,k,none⟩=some u:=h.row.cell (by rw[← hk]; exact nowN_get)
theorem Mk.frozen (h:Mk F w bo t et n B1 B2 vs ls u v L wr) (k:Nat):wr.frozen? ⟨bo,k,none⟩=false:=h.row.frozen k
theorem Mk.grow {v':Value} {L':List RV} (h:Mk F w bo t et n B1 B2 vs ls u v L wr) (ho:OwnSl ratK w' B2 et (GoF F w B1) v' L') (hs:Same (fun b=>v.ownBlock≠some b) wr w') (hb:Below B2 wr w'):Mk F w bo t et n B1 B2 vs ls u v' L' w':=by
 have hlt:=fun b (e:v.ownBlock=some b)=>(h.own.row.lt b e).1
 have h1:=h.lo;have h2:=h.hi;have h3:=h.mid;refine⟨h.row.of_block (hs.2 bo (fun e=>by have:=hlt bo e; omega) h.row.lt),ho,h.done.keep (fun _ h _=>h) (hs.mono fun b hb e=>?_),h.bel.trans (hb.mono byOmega),h.lo,h.hi,h.mid,Nat.le_trans h.size hs.size⟩;have:=hlt b e;rcases hb with hb | hb <;> omega
theorem Mk.put (h:Mk F w bo t et n B1 B2 vs ls u v L wr) {k:Nat} (hk:vs.length=k):Mk F w bo t et n B1 B2 vs ls v v L (wr.setCell ⟨bo,k,none⟩ v):=by
 subst hk;have h1:=h.lo;have h2:=h.hi;have h3:=h.mid;have hS:∀ (G:Foot),(∀ b,G b→b≠bo)→Same G wr (wr.setCell ⟨bo,vs.length,none⟩ v):=fun G hG=>Same.setCell G wr (p:=⟨bo,vs.length,none⟩) (fun h=>hG bo h rfl) _
 refine⟨?_,h.own.same (hS _ fun b hb=>?_),h.done.keep (fun _ h _=>h) (hS _ fun b hb=>?_),h.bel.setCell (p:=⟨bo,vs.length,none⟩) h.lo _,h.lo,h.hi,h.mid,by simpa using h.size⟩
 ·have:=h.row.set vs.length v;rwa [nowN_set] at this
 ·rcases hb with(hb | hb) | hb <;> omega
 ·rcases hb with hb | hb <;> omega
theorem Mk.next (h:Mk F w bo t et n B1 B2 vs ls u u L wr):MkO F w bo t n B1 (vs ++ [u]) (ls ++ [L.map RV.r]) wr:=by
 have h3:=h.mid;exact⟨h.row,(h.done.keep (fun b hb _=>hb.elim .inl fun h=>.inr h.1) (Same.refl _ _)).snoc (h.own.raws (fun _ hb=>hb) (fun b hb=>.inr byOmega)),h.bel,h.lo,h.hi,Nat.le_trans h.mid h.size⟩
theorem MkO.rows (h:MkO F w bo t n B1 vs ls wr) (hn:n≤vs.length) {G:Foot} (hG:∀ b,(F b∧b < w.heap.size)∨w.heap.size≤b→G b) {c:Nat} (hc:ls.length≤c):RawRowsAt wr G (.slice (some ⟨bo,0,none⟩) ls.length c) ls:=by
 have h1:=h.lo;have h2:=h.hi;have hr:=h.row;rw[restN_full hn] at hr;exact h.done.rows hr (hG _ (.inr h.lo)) (fun b hb=>hG b (hb.elim .inl fun h=>.inr byOmega)) hc
end
end Go.Proofs.YtnmeejofpkhlkaaGreatDoor
