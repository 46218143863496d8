/- Rows of rational numbers of one's own: append of one. -/
import Derived.Test.YthmklhapjegfdaaGreatDoorL03
import Derived.Test.YthmklhapjegfdaaGreatDoorL04
set_option linter.all false
namespace Go.Proofs.YthmklhapjegfdaaGreatDoor
open Go.RowKit
structure RV where
 r:Raw
 vn:Value
 vd:Value
def RV.cells (q:RV):List Value:=[.bool q.r.neg,q.vn,q.vd]
def RV.fine (w:World) (F:Ac) (q:RV):Prop:=Ah w F q.vn q.r.num∧Ah w F q.vd q.r.den
theorem RV.fine.keep {w w':World} {F G:Ac} {q:RV} (h:q.fine w F) (hFG:∀ b,F b→b < w.heap.size→G b) (hs:Same F w w'):q.fine w' G:=⟨h.1.keep hFG hs,h.2.keep hFG hs⟩
theorem RV.fine.below {w w':World} {F:Ac} {q:RV} (h:q.fine w F) (hb:Below w.heap.size w w'):q.fine w' F:=h.keep (fun _ h _=>h) (Below.same' hb F)
theorem Ah.oneCell {w:World} {F:Ac} {v:Value} {l:List Nat} (h:Ah w F v l):v.oneCell'=true:=by
 obtain⟨A,c,rfl,_⟩:=h; rfl
theorem AQ.rv {w:World} {F:Ac} {v:Value} {r:Raw} (h:AQ w F v r):∃ q:RV,q.r=r∧v = .agg q.cells.toArray∧q.fine w F:=by
 obtain⟨vn,vd,rfl,h1,h2⟩:=h;exact⟨⟨r,vn,vd⟩,rfl,rfl,h1,h2⟩
theorem Lies.adg {w:World} {b:Nat} {L:List RV} (h:Lies w b (L.flatMap RV.cells)) {F:Ac} (hb:F b) (hL:∀ q∈L,q.fine w F) {c:Nat} (hc:L.length≤c):Aj w F (.slice (some ⟨b,0,none⟩) L.length c) (L.map RV.r):=by
 refine⟨_,c,by rw[List.length_map],by rw[List.length_map]; exact hc,fun _=>⟨b,0,rfl,hb,h.1,fun k x hk=>?_⟩⟩;rw[List.getElem?_map] at hk;obtain⟨q,hq,rfl⟩:=Option.map_eq_some_iff.1 hk;obtain⟨f1,f2⟩:=hL q (List.mem_of_getElem? hq);have g:∀ j v,j < 3→q.cells[j]? = some v→w.cell? ⟨b,0+k*3+j,none⟩=some v:=fun j v hj hv=>by
  rw[Nat.zero_add]; exact h.2 _ _ (by rw[nC (f:=RV.cells) (s:=3) (fun _=>rfl) L k j q hq hj]; exact hv)
 exact⟨g 0 _ (by omega) rfl,⟨_,g 1 _ (by omega) rfl,f1⟩,⟨_,g 2 _ (by omega) rfl,f2⟩⟩
theorem agi (L:List RV):(L.flatMap RV.cells).length=L.length*3:=by
 induction L with
 | nil=>rfl
 | cons q L ih=>rw[List.flatMap_cons,List.length_append,ih]; simp[RV.cells]; omega
theorem Tryz.infoNum:(Tryz.prog.info? 118).map (fun i=>(i.zero,i.size,i.bytes))=some (some (.agg #[.bool false,.slice none 0 0,.slice none 0 0]),3,56):=by kernel_rfl
theorem Tryz.infoRat:(Tryz.prog.info? 83).map (fun i=>(i.zero,i.size,i.bytes))=some (some (.agg #[.bool false,.slice none 0 0,.slice none 0 0]),3,56):=by kernel_rfl
theorem adh {w:World} {ops:Array Oper} {rest:List Oper} {o:Oper} {a:Act} {Q:Exit→Act→World→Prop} (hgd:o.guard=none) (s x:Operand) (t et:TypeId) (ht:Tryz.prog.underlying t=some (.slice et))
  (hi0:(Tryz.prog.info? et).map (fun i=>(i.zero,i.size,i.bytes))=some (some (.agg #[.bool false,.slice none 0 0,.slice none 0 0]),3,56))
  (ho:o.op = .call { callee:=.builtin .append,args:=#[s,x],argTypes:=#[t,t] })
  (base:Nat) (v:Value) (L:List RV) (hs:a.eval s=v) (hown:w.ownsRow base et 3 v L.length (L.flatMap RV.cells))
  (B:Nat) (q:RV) (hx:a.eval x = .slice (some ⟨B,0,none⟩) 1 1) (hB:w.heap[B]? = some (.cells q.cells.toArray et (0,0))) (hone:q.vn.oneCell'=true∧q.vd.oneCell'=true) (hlen:L.length≤1000000) (hbase:base≤w.heap.size)
  (h:∀ g cap w',w'.ownsRow base et 3 (.slice (some ⟨g,0,none⟩) (L.length+1) cap) (L ++ [q]).length ((L ++ [q]).flatMap RV.cells)→w.grownBy w' v.ownBlock→(v.ownBlock=some g∨w.heap.size≤g)→g < w'.heap.size →
   wpList Tryz.prog ops Q rest (a.put o.dst (.slice (some ⟨g,0,none⟩) (L.length+1) cap)) w') :
  wpList Tryz.prog ops Q (o :: rest) a w:=by
 obtain⟨i0,hi,hz0,hz1,hz2⟩:=info_parts hi0;refine wpList_append_lies w hgd s x _ ho base _ i0 _ 3 56 ht hi hz0 hz1 hz2 rfl (by omega) v L.length _ hs hown ⟨B,0,none⟩ 1 1 q.cells hx rfl (World.news_of_block hB) ?_ (by omega) (by unfold maxLen; omega) (by omega) hbase w.heap.size rfl ?_
 ·intro u hu;simp only[RV.cells,List.mem_cons,List.not_mem_nil,or_false] at hu;rcases hu with rfl | rfl | rfl
  ·rfl
  ·exact hone.1
  ·exact hone.2
 ·intro g cap w' h1 h2 h3 h4;refine h g cap w' ?_ h2 (h3.imp id fun e=>by omega) h4;have e1:(L ++ [q]).length=L.length+1:=by simp
  have e2:(L ++ [q]).flatMap RV.cells=L.flatMap RV.cells++q.cells:=by simp[List.flatMap_append]
  rw[e1,e2];exact h1
theorem agj {w:World} {base:Nat} {t:TypeId} {v:Value} {L:List RV} (h:w.ownsRow base t 3 v L.length (L.flatMap RV.cells)) {F:Ac} (hF:∀ b,v.ownBlock=some b→F b) (hL:∀ q∈L,q.fine w F):Aj w F v (L.map RV.r):=by
 rcases h.2 with⟨rfl,h0⟩ | ⟨g,cap,cur,rfl,hb,hg,hnc,_,hsz,htake⟩
 ·have:L = []:=List.eq_nil_of_length_eq_zero h0;subst this;exact⟨none,0,rfl,Nat.le_refl _,fun h=>absurd h (by simp)⟩
 ·refine Lies.adg ⟨(Array.getElem?_eq_some_iff.1 hg).1,fun i u hi=>?_⟩ (hF g rfl) hL hnc;rw[← htake,List.getElem?_take] at hi;split at hi
  ·simp[World.cell?,hg]; simpa using hi
  ·cases hi
def Apart (F:Ac) (v:Value):Ac:=fun b=>F b∧v.ownBlock≠some b
structure Ba (w:World) (base:Nat) (et:TypeId) (F:Ac) (v:Value) (L:List RV):Prop where
 row:w.ownsRow base et 3 v L.length (L.flatMap RV.cells)
 fine:∀ q∈L,q.fine w (Apart F v)
theorem Ba.nil (w:World) (base:Nat) (et:TypeId) (F:Ac):Ba w base et F (.slice none 0 0) []:=⟨World.ownsRow_nil _ _ _ _,fun q h=>by cases h⟩
theorem Ba.below {w w':World} {base:Nat} {et:TypeId} {F:Ac} {v:Value} {L:List RV} (h:Ba w base et F v L) (hb:Below w.heap.size w w'):Ba w' base et F v L:=by
 refine⟨⟨h.row.1,?_⟩,fun q hq=>(h.fine q hq).below hb⟩;rcases h.row.2 with hn | ⟨g,cap,cur,rfl,hg,hc,r⟩
 ·exact .inl hn
 ·exact .inr ⟨g,cap,cur,rfl,hg,by rw[hb.block g (Array.getElem?_eq_some_iff.1 hc).1]; exact hc,r⟩
theorem Ba.adg {w:World} {base:Nat} {et:TypeId} {F G:Ac} {v:Value} {L:List RV} (h:Ba w base et F v L) (hF:∀ b,F b→G b) (hG:∀ b,base≤b→G b):Aj w G v (L.map RV.r) :=
 agj h.row (fun b hb=>hG b (h.row.lt b hb).1) fun q hq=>(h.fine q hq).keep (fun b hb _=>hF b hb.1) (Same.refl _ _)
theorem yc {w W:World} {F:Ac} {ops:Array Oper} {rest:List Oper} {o:Oper} {a:Act} {Q:Exit→Act→World→Prop} (hgd:o.guard=none) (s x:Operand) (t et:TypeId) (ht:Tryz.prog.underlying t=some (.slice et))
  (hi0:(Tryz.prog.info? et).map (fun i=>(i.zero,i.size,i.bytes))=some (some (.agg #[.bool false,.slice none 0 0,.slice none 0 0]),3,56))
  (ho:o.op = .call { callee:=.builtin .append,args:=#[s,x],argTypes:=#[t,t] })
  (base:Nat) (hbase:base≤W.heap.size) (v:Value) (L:List RV) (hs:a.eval s=v) (q:RV) (hlen:L.length≤1000000)
  (hx:a.eval x = .slice (some ⟨w.heap.size,0,none⟩) 1 1) (hown:Ba w base et F v L) (hq:q.fine w (Apart F v)) (hbel:Below base W w)
  (h:∀ g cap w',Ba w' base et F (.slice (some ⟨g,0,none⟩) (L.length+1) cap) (L ++ [q])→Below base W w'→w.heap.size < w'.heap.size →
   wpList Tryz.prog ops Q rest (a.put o.dst (.slice (some ⟨g,0,none⟩) (L.length+1) cap)) w') :
  wpList Tryz.prog ops Q (o :: rest) a (w.alloc (.cells #[.bool q.r.neg,q.vn,q.vd] et)):=by
 have hz:=hbel.size;refine adh hgd s x t et ht hi0 ho base v L hs (hown.row.alloc _) w.heap.size q hx (heap_alloc_new _ _) ⟨hq.1.oneCell,hq.2.oneCell⟩ hlen (by simp; omega) ?_;intro g cap w' h1 h2 h3 h4;have h5:=h2.size;simp only[World.size_alloc] at h5 h3;have hsame:Same (Apart F v) w w':=⟨by omega,fun b hb hl=>(h2.block b (by simp; omega) (fun e=>hb.2 e.symm)).trans (Below.heap_alloc _ _ _ hl)⟩;refine h g cap w' ⟨h1,fun p hp=>?_⟩ ((hbel.alloc (by omega) _).grown h2 (by simp; omega) (fun k hk=>(hown.row.lt k hk).1)) (by omega);have hp':p.fine w (Apart F v):=by
  rcases List.mem_append.1 hp with hp | hp
  ·exact hown.fine p hp
  ·rw[List.mem_singleton.1 hp]; exact hq
 refine hp'.keep (fun b hb hl=>⟨hb.1,fun e=>?_⟩) hsame;have e:some g=some b:=e;cases e
 rcases h3 with h3 | h3
 ·exact hb.2 h3
 ·omega
structure Knd (α:Type) where
 n:Nat
 cells:α→List Value
 fine:World→Ac→α→Prop
 len:∀ q,(cells q).length=n
 pos:0 < n
 one:∀ {w:World} {F:Ac} {q:α},fine w F q→∀ u∈cells q,u.oneCell'=true
 keep:∀ {w w':World} {F G:Ac} {q:α},fine w F q→(∀ b,F b→b < w.heap.size→G b)→Same F w w'→fine w' G q
structure Ak {α:Type} (K:Knd α) (w:World) (base:Nat) (et:TypeId) (F:Ac) (v:Value) (L:List α):Prop where
 row:w.ownsRow base et K.n v L.length (L.flatMap K.cells)
 fine:∀ q∈L,K.fine w (Apart F v) q
section
variable {α:Type} {K:Knd α}
theorem Ak.nil (K:Knd α) (w:World) (base:Nat) (et:TypeId) (F:Ac):Ak K w base et F (.slice none 0 0) []:=⟨World.ownsRow_nil _ _ _ _,fun q h=>by cases h⟩
theorem Ak.below {w w':World} {base:Nat} {et:TypeId} {F:Ac} {v:Value} {L:List α} (h:Ak K w base et F v L) (hb:Below w.heap.size w w'):Ak K w' base et F v L:=by
 refine⟨⟨h.row.1,?_⟩,fun q hq=>K.keep (h.fine q hq) (fun _ h _=>h) (Below.same' hb _)⟩;rcases h.row.2 with hn | ⟨g,cap,cur,rfl,hg,hc,r⟩
 ·exact .inl hn
 ·exact .inr ⟨g,cap,cur,rfl,hg,by rw[hb.block g (Array.getElem?_eq_some_iff.1 hc).1]; exact hc,r⟩
theorem Ak.at {w:World} {base:Nat} {et:TypeId} {F:Ac} {v:Value} {L:List α} (h:Ak K w base et F v L) :
  (v = .slice none 0 0∧L = [])∨∃ g cap,v = .slice (some ⟨g,0,none⟩) L.length cap∧base≤g∧g < w.heap.size∧L.length≤cap∧(∀ q∈L,K.fine w F q)∧∀ k q,L[k]? = some q→∀ j u,(K.cells q)[j]? = some u→w.cell? ⟨g,0+k*K.n+j,none⟩=some u:=by
 rcases h.row.2 with⟨rfl,h0⟩ | ⟨g,cap,cur,rfl,hb,hg,hnc,_,hsz,htake⟩
 ·exact .inl ⟨rfl,List.eq_nil_of_length_eq_zero h0⟩
 ·refine .inr ⟨g,cap,rfl,hb,(Array.getElem?_eq_some_iff.1 hg).1,hnc,fun q hq=>K.keep (h.fine q hq) (fun b hb _=>hb.1) (Same.refl _ _),fun k q hk j u hu=>?_⟩;have hj:j < K.n:=by rw[← K.len q]; exact aB hu
  have e:=nC (f:=K.cells) (s:=K.n) K.len L k j q hk hj;rw[hu,← htake,List.getElem?_take] at e;rw[Nat.zero_add];split at e
  ·simp[World.cell?,hg]; simpa using e
  ·cases e
end
def akp:Knd (Value×List Raw) where
 n:=1
 cells q:=[q.1]
 fine w F q:=Aj w F q.1 q.2
 len _:=rfl
 pos:=by decide
 one h u hu:=by
  obtain⟨A,c,hv,_⟩:=h;rw[List.mem_singleton.1 hu,hv]; rfl
 keep h hFG hs:=h.keep hFG hs
theorem Ak.rows {w:World} {base:Nat} {et:TypeId} {F G:Ac} {v:Value} {L:List (Value×List Raw)} (h:Ak akp w base et F v L) (hF:∀ b,F b→G b) (hG:∀ b,base≤b→G b):Af w G v (L.map Prod.snd):=by
 rcases h.at with⟨rfl,rfl⟩ | ⟨g,cap,rfl,hb,hg,hcap,hf,hx⟩
 ·exact Af.nil _ _
 ·refine⟨_,cap,by rw[List.length_map],by rw[List.length_map]; exact hcap,fun _=>⟨g,0,rfl,hG g hb,hg,fun k x hk=>?_⟩⟩;rw[List.getElem?_map] at hk;obtain⟨q,hq,rfl⟩:=Option.map_eq_some_iff.1 hk;exact⟨q.1,hx k q hq 0 q.1 rfl,Aj.keep (hf q (List.mem_of_getElem? hq)) (fun b hb _=>hF b hb) (Same.refl _ _)⟩
def ratK:Knd RV where
 n:=3
 cells q:=q.cells
 fine w F q:=q.fine w F
 len _:=rfl
 pos:=by decide
 one h u hu:=by
  simp only[RV.cells,List.mem_cons,List.not_mem_nil,or_false] at hu;rcases hu with rfl | rfl | rfl
  ·rfl
  ·exact h.1.oneCell
  ·exact h.2.oneCell
 keep h hFG hs:=h.keep hFG hs
theorem Ak.adg {w:World} {base:Nat} {et:TypeId} {F G:Ac} {v:Value} {L:List RV} (h:Ak ratK w base et F v L) (hF:∀ b,F b→G b) (hG:∀ b,base≤b→G b):Aj w G v (L.map RV.r):=by
 rcases h.at with⟨rfl,rfl⟩ | ⟨g,cap,rfl,hb,hg,hcap,hf,hx⟩
 ·exact Aj.nil _ _
 ·refine⟨_,cap,by rw[List.length_map],by rw[List.length_map]; exact hcap,fun _=>⟨g,0,rfl,hG g hb,hg,fun k x hk=>?_⟩⟩;rw[List.getElem?_map] at hk;obtain⟨q,hq,rfl⟩:=Option.map_eq_some_iff.1 hk;have h3:=(hf q (List.mem_of_getElem? hq)).keep (G:=G) (fun b hb _=>hF b hb) (Same.refl _ _);exact⟨hx k q hq 0 _ rfl,⟨_,hx k q hq 1 _ rfl,h3.1⟩,⟨_,hx k q hq 2 _ rfl,h3.2⟩⟩
theorem Ak.same {α:Type} {K:Knd α} {w w':World} {base:Nat} {et:TypeId} {F:Ac} {v:Value} {L:List α} (h:Ak K w base et F v L) (hs:Same (fun b=>F b∨base≤b) w w'):Ak K w' base et F v L:=by
 refine⟨⟨h.row.1,?_⟩,fun q hq=>K.keep (h.fine q hq) (fun _ h _=>h) ⟨hs.size,fun b hb hl=>hs.2 b (.inl hb.1) hl⟩⟩;rcases h.row.2 with hn | ⟨g,cap,cur,rfl,hg,hc,r⟩
 ·exact .inl hn
 ·exact .inr ⟨g,cap,cur,rfl,hg,by rw[hs.2 g (.inr hg) (Array.getElem?_eq_some_iff.1 hc).1]; exact hc,r⟩
def EG (w:World) (F:Ac) (b o:Nat) (x:Int×Raw):Prop:=w.cell? ⟨b,o,none⟩=some (.int .i64 x.1)∧Di w F b (o+1) x.2
def Bl (w:World) (F:Ac) (v:Value) (l:List (Int×Raw)):Prop:=BI 4 EG w F v l
theorem Bl.keep {w w':World} {F G:Ac} {v:Value} {l:List (Int×Raw)} (h:Bl w F v l) (hFG:∀ b,F b→b < w.heap.size→G b) (hs:Same F w w'):Bl w' G v l :=
 BI.keep h hFG hs.size fun _ _ _ _ hb hl hx=>⟨by rw[hs.cell hb hl]; exact hx.1,hx.2.keep hFG hs hb hl⟩
theorem Bl.on {w w':World} {F:Ac} {v:Value} {l:List (Int×Raw)} (h:Bl w F v l) (hs:Same F w w'):Bl w' F v l:=h.keep (fun _ h _=>h) hs
theorem Bl.nil (w:World) (F:Ac):Bl w F (.slice none 0 0) []:=⟨none,0,rfl,Nat.le_refl _,fun h=>absurd h (by simp)⟩
theorem Bl.at {w:World} {F:Ac} {v:Value} {l:List (Int×Raw)} (h:Bl w F v l) {k:Nat} {r:Int×Raw} (hk:l[k]? = some r):∃ b o c vn vd,v = .slice (some ⟨b,o,none⟩) l.length c∧F b∧b < w.heap.size∧w.cell? ⟨b,o+k*4,none⟩=some (.int .i64 r.1)∧w.cell? ⟨b,o+k*4+1,none⟩=some (.bool r.2.neg)∧w.cell? ⟨b,o+k*4+1+1,none⟩=some vn∧w.cell? ⟨b,o+k*4+1+2,none⟩=some vd∧Ah w F vn r.2.num∧Ah w F vd r.2.den:=by
 obtain⟨A,c,rfl,hc,hr⟩:=h;obtain⟨b,o,rfl,hF,hb,hcell⟩:=hr (by have:=aB hk; omega);obtain⟨e,e0,⟨vn,e1,i1⟩,⟨vd,e2,i2⟩⟩:=hcell k r hk;exact⟨b,o,c,vn,vd,rfl,hF,hb,e,e0,e1,e2,i1,i2⟩
end Go.Proofs.YthmklhapjegfdaaGreatDoor
