/- Rows of rational numbers of one's own: append of one. -/
import Derived.Test.YthmklhapjegfdaaGreatDoorV05
import Derived.Test.YthmklhapjegfdaaGreatDoorV06
set_option linter.all false
namespace Go.Proofs.YthmklhapjegfdaaGreatDoor
open Go.RowKit
structure RV where
 r:Raw
 vn:Value
 vd:Value
def RV.cells (q:RV):List Value:=[.bool q.r.neg,q.vn,q.vd]
def RV.fine (w:World) (F:Ag) (q:RV):Prop:=Ak w F q.vn q.r.num∧Ak w F q.vd q.r.den
theorem RV.fine.keep {w w':World} {F G:Ag} {q:RV} (h:q.fine w F) (hFG:∀ b,F b→b < w.heap.size→G b) (hs:Same F w w'):q.fine w' G:=⟨h.1.keep hFG hs,h.2.keep hFG hs⟩
theorem RV.fine.below {w w':World} {F:Ag} {q:RV} (h:q.fine w F) (hb:Below w.heap.size w w'):q.fine w' F:=h.keep (fun _ h _=>h) (Below.same' hb F)
theorem Ak.oneCell {w:World} {F:Ag} {v:Value} {l:List Nat} (h:Ak w F v l):v.oneCell'=true:=by
 obtain⟨A,c,rfl,_⟩:=h;rfl
theorem AL.rv {w:World} {F:Ag} {v:Value} {r:Raw} (h:AL w F v r):∃ q:RV,q.r=r∧v = .agg q.cells.toArray∧q.fine w F:=by
 obtain⟨vn,vd,rfl,h1,h2⟩:=h;exact⟨⟨r,vn,vd⟩,rfl,rfl,h1,h2⟩
theorem Lies.aaC {w:World} {b:Nat} {L:List RV} (h:Lies w b (L.flatMap RV.cells)) {F:Ag} (hb:F b) (hL:∀ q∈L,q.fine w F) {c:Nat} (hc:L.length≤c):Az w F (.slice (some ⟨b,0,none⟩) L.length c) (L.map RV.r):=by
 refine⟨_,c,by rw[List.length_map],by rw[List.length_map]; exact hc,fun _=>⟨b,0,rfl,hb,h.1,fun k x hk=>?_⟩⟩;rw[List.getElem?_map] at hk;obtain⟨q,hq,rfl⟩:=Option.map_eq_some_iff.1 hk;obtain⟨f1,f2⟩:=hL q (List.mem_of_getElem? hq);have g:∀ j v,j < 3→q.cells[j]? = some v→w.cell? ⟨b,0+k*3+j,none⟩=some v:=fun j v hj hv=>by
  rw[Nat.zero_add];exact h.2 _ _ (by rw[oJ (f:=RV.cells) (s:=3) (fun _=>rfl) L k j q hq hj]; exact hv)
 exact⟨g 0 _ byOmega rfl,⟨_,g 1 _ byOmega rfl,f1⟩,⟨_,g 2 _ byOmega rfl,f2⟩⟩
theorem ahw (L:List RV):(L.flatMap RV.cells).length=L.length*3:=by
 induction L with
 | nil=>rfl
 | cons q L ih=>rw[List.flatMap_cons,List.length_append,ih]; simp[RV.cells]; omega
theorem Tryz.infoNum:(Tryz.prog.info? 118).map (fun i=>(i.zero,i.size,i.bytes))=some (some (.agg #[.bool false,.slice none 0 0,.slice none 0 0]),3,56):=ak
theorem Tryz.infoRat:(Tryz.prog.info? 83).map (fun i=>(i.zero,i.size,i.bytes))=some (some (.agg #[.bool false,.slice none 0 0,.slice none 0 0]),3,56):=ak
theorem adX {w:World} {ops:Array Oper} {rest:List Oper} {o:Oper} {a:Act} {Q:Exit→Act→World→Prop} (hgd:o.guard=none) (s x:Operand) (t et:TypeId) (ht:Tryz.prog.underlying t=some (.slice et))
  (hi0:(Tryz.prog.info? et).map (fun i=>(i.zero,i.size,i.bytes))=some (some (.agg #[.bool false,.slice none 0 0,.slice none 0 0]),3,56))
  (ho:o.op = .call { callee:=.builtin .append,args:=#[s,x],argTypes:=#[t,t] })
  (base:Nat) (v:Value) (L:List RV) (hs:a.eval s=v) (hown:w.ownsRow base et 3 v L.length (L.flatMap RV.cells))
  (B:Nat) (q:RV) (hx:a.eval x = .slice (some ⟨B,0,none⟩) 1 1) (hB:w.heap[B]? = some (.cells q.cells.toArray et (0,0))) (hone:q.vn.oneCell'=true∧q.vd.oneCell'=true) (hlen:L.length≤1000000) (hbase:base≤w.heap.size)
  (h:∀ g cap w',w'.ownsRow base et 3 (.slice (some ⟨g,0,none⟩) (L.length+1) cap) (L ++ [q]).length ((L ++ [q]).flatMap RV.cells)→w.grownBy w' v.ownBlock→(v.ownBlock=some g∨w.heap.size≤g)→g < w'.heap.size →
   wpList Tryz.prog ops Q rest (a.put o.dst (.slice (some ⟨g,0,none⟩) (L.length+1) cap)) w') :
  wpList Tryz.prog ops Q (o :: rest) a w:=by
 obtain⟨i0,hi,hz0,hz1,hz2⟩:=info_parts hi0;refine wpList_append_lies w hgd s x _ ho base _ i0 _ 3 56 ht hi hz0 hz1 hz2 rfl byOmega v L.length _ hs hown ⟨B,0,none⟩ 1 1 q.cells hx rfl (World.news_of_block hB) ?_ byOmega (by unfold maxLen; omega) byOmega hbase w.heap.size rfl ?_
 ·intro u hu;simp only[RV.cells,List.mem_cons,List.not_mem_nil,or_false] at hu;rcases hu with rfl | rfl | rfl
  ·rfl
  ·exact hone.1
  ·exact hone.2
 ·intro g cap w' h1 h2 h3 h4;refine h g cap w' ?_ h2 (h3.imp id fun e=>by omega) h4;have e1:(L ++ [q]).length=L.length+1:=ay;have e2:(L ++ [q]).flatMap RV.cells=L.flatMap RV.cells++q.cells:=by simp[List.flatMap_append]
  rw[e1,e2];exact h1
theorem ahx {w:World} {base:Nat} {t:TypeId} {v:Value} {L:List RV} (h:w.ownsRow base t 3 v L.length (L.flatMap RV.cells)) {F:Ag} (hF:∀ b,v.ownBlock=some b→F b) (hL:∀ q∈L,q.fine w F):Az w F v (L.map RV.r):=by
 rcases h.2 with⟨rfl,h0⟩ | ⟨g,cap,cur,rfl,hb,hg,hnc,_,hsz,htake⟩
 ·exact zb1
 ·refine Lies.aaC ⟨(Array.getElem?_eq_some_iff.1 hg).1,fun i u hi=>?_⟩ (hF g rfl) hL hnc;rw[← htake,List.getElem?_take] at hi;split at hi
  ·simp[World.cell?,hg];simpa using hi
  ·cases hi
def Apart (F:Ag) (v:Value):Ag:=fun b=>F b∧v.ownBlock≠some b
structure Ba (w:World) (base:Nat) (et:TypeId) (F:Ag) (v:Value) (L:List RV):Prop where
 row:w.ownsRow base et 3 v L.length (L.flatMap RV.cells)
 fine:∀ q∈L,q.fine w (Apart F v)
theorem Ba.nil (w:World) (base:Nat) (et:TypeId) (F:Ag):Ba w base et F (.slice none 0 0) []:=⟨World.ownsRow_nil _ _ _ _,fun q h=>by cases h⟩
theorem Ba.below {w w':World} {base:Nat} {et:TypeId} {F:Ag} {v:Value} {L:List RV} (h:Ba w base et F v L) (hb:Below w.heap.size w w'):Ba w' base et F v L:=by
 refine⟨⟨h.row.1,?_⟩,fun q hq=>(h.fine q hq).below hb⟩;rcases h.row.2 with hn | ⟨g,cap,cur,rfl,hg,hc,r⟩
 ·exact .inl hn
 ·exact .inr ⟨g,cap,cur,rfl,hg,by rw[hb.block g (Array.getElem?_eq_some_iff.1 hc).1]; exact hc,r⟩
theorem Ba.aaC {w:World} {base:Nat} {et:TypeId} {F G:Ag} {v:Value} {L:List RV} (h:Ba w base et F v L) (hF:∀ b,F b→G b) (hG:∀ b,base≤b→G b):Az w G v (L.map RV.r) :=
 ahx h.row (fun b hb=>hG b (h.row.lt b hb).1) fun q hq=>(h.fine q hq).keep (fun b hb _=>hF b hb.1) (Same.refl _ _)
theorem pR {w W:World} {F:Ag} {ops:Array Oper} {rest:List Oper} {o:Oper} {a:Act} {Q:Exit→Act→World→Prop} (hgd:o.guard=none) (s x:Operand) (t et:TypeId) (ht:Tryz.prog.underlying t=some (.slice et))
  (hi0:(Tryz.prog.info? et).map (fun i=>(i.zero,i.size,i.bytes))=some (some (.agg #[.bool false,.slice none 0 0,.slice none 0 0]),3,56))
  (ho:o.op = .call { callee:=.builtin .append,args:=#[s,x],argTypes:=#[t,t] })
  (base:Nat) (hbase:base≤W.heap.size) (v:Value) (L:List RV) (hs:a.eval s=v) (q:RV) (hlen:L.length≤1000000)
  (hx:a.eval x = .slice (some ⟨w.heap.size,0,none⟩) 1 1) (hown:Ba w base et F v L) (hq:q.fine w (Apart F v)) (hbel:Below base W w)
  (h:∀ g cap w',Ba w' base et F (.slice (some ⟨g,0,none⟩) (L.length+1) cap) (L ++ [q])→Below base W w'→w.heap.size < w'.heap.size →
   wpList Tryz.prog ops Q rest (a.put o.dst (.slice (some ⟨g,0,none⟩) (L.length+1) cap)) w') :
  wpList Tryz.prog ops Q (o :: rest) a (w.alloc (.cells #[.bool q.r.neg,q.vn,q.vd] et)):=by
 have hz:=hbel.size;refine adX hgd s x t et ht hi0 ho base v L hs (hown.row.alloc _) w.heap.size q hx (heap_alloc_new _ _) ⟨hq.1.oneCell,hq.2.oneCell⟩ hlen aB ?_;intro g cap w' h1 h2 h3 h4;have h5:=h2.size;simp only[World.size_alloc] at h5 h3;have hsame:Same (Apart F v) w w':=⟨byOmega,fun b hb hl=>(h2.block b aB (fun e=>hb.2 e.symm)).trans (Below.heap_alloc _ _ _ hl)⟩;refine h g cap w' ⟨h1,fun p hp=>?_⟩ ((hbel.alloc byOmega _).grown h2 aB (fun k hk=>(hown.row.lt k hk).1)) byOmega;have hp':p.fine w (Apart F v):=by
  rcases List.mem_append.1 hp with hp | hp
  ·exact hown.fine p hp
  ·rw[List.mem_singleton.1 hp];exact hq
 refine hp'.keep (fun b hb hl=>⟨hb.1,fun e=>?_⟩) hsame;have e:some g=some b:=e;cases e
 rcases h3 with h3 | h3
 ·exact hb.2 h3
 ·omega
def lU (l:List Int):Int:=l.foldl (· + ·) 0
theorem abZ (l:List Int) (x:Int):lU (l ++ [x])=lU l+x:=by unfold lU; rw[List.foldl_append]; rfl
def iK (m:List (List Rat)) (n:Nd):List Rat:=if n.kind=2 then m.getD n.info.toNat [] else n.weights.map fun x:Int=>(x:Rat) / ((lU n.weights:Int):Rat)
def alS (cnt:Nd→Bool) (nodes:List Nd) (m:List (List Rat)) (l:List Rat) (c:Nat):Rat :=
 match upTo nodes c c with
 | some (i,k)=>match nodes[i]? with
  | some n=>if cnt n then l.getD i 0*(iK m n).getD k 0 else l.getD i 0
  | none=>1
 | none=>1
def wZ (acc:List Rat) (b:Rat) (x:List Rat):List Rat:=List.zipWith (fun a y=>a+b*y) acc x
def jP (look:Nat→List Rat) (acc:List Rat) (l:List (Rat×Int)):List Rat:=l.foldl (fun acc bc=>wZ acc bc.1 (look bc.2.toNat)) acc
def valOf (au:Nat) (m:List (List Rat)) (n:Nd) (look:Nat→List Rat):List Rat :=
 if n.kind=3 then n.pay.map (fun x:Int=>(x:Rat)) else jP look (List.replicate au 0) ((iK m n).zip n.next)
def aaD (g:Gm) (m:List (List Rat)):Nat→List (List Rat)
 | 0=>[]
 | j+1=>(match g.nodes[g.nodes.length - 1 - j]? with
  | some n=>valOf g.au.toNat m n (fun c=>(aaD g m j).getD (c - (g.nodes.length - j)) [])
  | none=>[]) :: aaD g m j
def fV (g:Gm) (m:List (List Rat)) (i:Nat):List Rat:=(aaD g m (g.nodes.length - i)).headD []
theorem yw (g:Gm) (m:List (List Rat)):∀ (j i:Nat),j≤g.nodes.length→g.nodes.length - j≤i→i < g.nodes.length→(aaD g m j)[i - (g.nodes.length - j)]? = some (fV g m i)
 | 0,i,_,h1,h2=>absurd h2 byOmega
 | j+1,i,hj,h1,h2=>by
  by_cases e:i=g.nodes.length - (j+1)
  ·have e1:i - (g.nodes.length - (j+1))=0:=byOmega;have e2:g.nodes.length - i=j+1:=byOmega;rw[e1]; unfold fV; rw[e2]; unfold aaD; rfl
  ·have e1:i - (g.nodes.length - (j+1))=(i - (g.nodes.length - j))+1:=byOmega;rw[e1]; unfold aaD;rw[List.getElem?_cons_succ];exact yw g m j i byOmega byOmega h2
theorem yZ {look look':Nat→List Rat}:∀ {l:List (Rat×Int)} {acc:List Rat},(∀ bc∈l,look bc.2.toNat=look' bc.2.toNat)→jP look acc l=jP look' acc l
 | [],_,_=>rfl
 | bc :: l,acc,h=>by
  have h1:=h bc (List.mem_cons_self);have h2:=yZ (look:=look) (look':=look') (l:=l) (acc:=wZ acc bc.1 (look bc.2.toNat)) (fun b hb=>h b (List.mem_cons_of_mem _ hb));show jP look (wZ acc bc.1 (look bc.2.toNat)) l=jP look' (wZ acc bc.1 (look' bc.2.toNat)) l;rw[h2,h1]
theorem afA (look:Nat→List Rat) (acc:List Rat) (l:List (Rat×Int)) (bc:Rat×Int):jP look acc (l ++ [bc])=wZ (jP look acc l) bc.1 (look bc.2.toNat):=by unfold jP; rw[List.foldl_append]; rfl
theorem qU {g:Gm} (hg:Good g) (m:List (List Rat)) {i:Nat} {n:Nd} (hn:g.nodes[i]? = some n):fV g m i=valOf g.au.toNat m n (fV g m):=by
 have hl:=aI hn;have h1:=yw g m (g.nodes.length - i) i byOmega byOmega hl;obtain⟨j,hj⟩:∃ j,g.nodes.length - i=j+1:=⟨g.nodes.length - i - 1,byOmega⟩;have e0:i - (g.nodes.length - (g.nodes.length - i))=0:=byOmega;rw[e0,hj] at h1;unfold aaD at h1;have e1:g.nodes.length - 1 - j=i:=byOmega;rw[e1,hn,List.getElem?_cons_zero,Option.some.injEq] at h1;rw[← h1];show valOf _ m n _=valOf _ m n _;unfold valOf;by_cases hk:n.kind=3
 ·rw[if_pos hk,if_pos hk]
 ·rw[if_neg hk,if_neg hk];refine yZ fun bc hbc=>?_
  have hm:bc.2∈n.next:=(List.of_mem_zip (a:=bc.1) (b:=bc.2) hbc).2;have:=hg.span.kids i n (Nat.zero_le _) hl hn bc.2 hm;have h3:=yw g m j bc.2.toNat byOmega byOmega byOmega;rw[List.getD_eq_getElem?_getD,h3];rfl
structure Fit (g:Gm) (m:List (List Rat)):Prop where
 good:Good g
 nodes:cO g.au g.infos.length g.nodes=0
 au:1≤g.au∧g.au≤4
 rows:m.length=g.infos.length
 chan:∀ n∈g.nodes,n.kind≠3→(iK m n).length=n.next.length∧∀ x∈iK m n,rl x≤4
theorem adY {acc:List Rat} {b:Rat} {x:List Rat} {p:Nat} (h:acc.length=p) (h2:x.length=p):(wZ acc b x).length=p:=by unfold wZ; rw[List.length_zipWith]; omega
theorem nU {look:Nat→List Rat} {p:Nat}:∀ {l:List (Rat×Int)} {acc:List Rat},acc.length=p→(∀ bc∈l,(look bc.2.toNat).length=p)→(jP look acc l).length=p
 | [],_,h,_=>h
 | bc :: l,acc,h,hl=>nU (l:=l) (acc:=wZ acc bc.1 (look bc.2.toNat)) (adY h (hl bc (List.mem_cons_self))) (fun b hb=>hl b (List.mem_cons_of_mem _ hb))
theorem zS {au:Int} {ni:Nat} {nodes:List Nd} (h:cO au ni nodes=0) {n:Nd} (hn:n∈nodes) (hk:n.kind=3):(n.pay.length:Int)=au∧(∀ x∈n.pay,-1000000≤x∧x≤1000000)∧n.next = []:=by
 have h1:=iC h n hn;unfold aU at h1;rw[if_neg byOmega,if_neg byOmega,if_pos hk] at h1;unfold ig at h1;split at h1
 ·omega
 ·rename_i h2
  split at h1
  ·omega
  ·rename_i h3
   refine⟨byOmega,fun x hx=>?_,List.eq_nil_of_length_eq_zero byOmega⟩;have h4:outside (-1000000) 1000000 n.pay=false:=by simpa using h3
   unfold outside at h4;have:=List.any_eq_false.1 h4 x hx;simp at this;omega
theorem Fit.mO {g:Gm} {m:List (List Rat)} (h:Fit g m):∀ (f i:Nat),g.nodes.length - i≤f→i < g.nodes.length→(fV g m i).length=g.au.toNat
 | 0,i,h1,h2=>absurd h2 byOmega
 | f+1,i,h1,h2=>by
  obtain⟨n,hn⟩:=aC (l:=g.nodes) (k:=i) h2;have hmem:=List.mem_of_getElem? hn;rw[qU h.good m hn];unfold valOf;by_cases hk:n.kind=3
  ·rw[if_pos hk,List.length_map];have:=(zS h.nodes hmem hk).1;omega
  ·rw[if_neg hk];refine nU ay fun bc hbc=>?_
   have hm:bc.2∈n.next:=(List.of_mem_zip (a:=bc.1) (b:=bc.2) hbc).2;have:=h.good.span.kids i n (Nat.zero_le _) h2 hn bc.2 hm;exact Fit.mO h f _ byOmega byOmega
theorem akb {acc x:List Rat} {b:Rat} {A B:Nat} (h1:∀ y∈acc,rl y≤A) (h2:∀ y∈x,rl y≤B) (hb:rl b≤4):∀ y∈wZ acc b x,rl y≤A+B+5:=by
 intro y hy;unfold wZ at hy;obtain⟨k,hk⟩:=List.getElem?_of_mem hy;rw[List.getElem?_zipWith] at hk;cases ha:acc[k]? with
 | none=>rw[ha] at hk; simp at hk
 | some u =>
  cases hx:x[k]? with
  | none=>rw[ha,hx] at hk; simp at hk
  | some v =>
   rw[ha,hx] at hk;simp at hk;subst hk;have e1:=h1 u (List.mem_of_getElem? ha);have e2:=h2 v (List.mem_of_getElem? hx);have e3:=acI u (b*v);have e4:=afi b v;omega
theorem aiW {x:Int} (h:-1000000≤x∧x≤1000000):rl (x:Rat)≤1:=by
 rw[afj];have:(dig x.natAbs).length≤1:=bg (by unfold LB; omega);omega
theorem Fit.akc {g:Gm} {m:List (List Rat)} (h:Fit g m) {cs:List Int} {a b:Nat} (hs:Span g.nodes cs a b):∀ (bs acc:List Rat) (A:Nat),(∀ x∈bs,rl x≤4)→(∀ x∈acc,rl x≤A)→∀ x∈jP (fV g m) acc (bs.zip cs),rl x≤A+7*(b - a):=by
 induction hs with
 | nil a =>
  intro bs acc A _ ha x hx;rw[List.zip_nil_right] at hx;have:=ha x hx;omega
 | @cons a k b n cs hn h1 h2 ih1 ih2 =>
  intro bs acc A hb ha x hx;have l1:=h1.le;have l2:=h2.le;cases bs with
  | nil =>
   have:=ha x (by simpa [jP] using hx);omega
  | cons c bs =>
   rw[List.zip_cons_cons] at hx;have hmem:=List.mem_of_getElem? hn;have hv:∀ y∈fV g m a,rl y≤2+7*(k - a - 1):=by
    rw[qU h.good m hn];unfold valOf;by_cases hk:n.kind=3
    ·rw[if_pos hk];intro y hy;obtain⟨z,hz,rfl⟩:=List.mem_map.1 hy;have:=aiW ((zS h.nodes hmem hk).2.1 z hz);omega
    ·rw[if_neg hk];intro y hy;have:=ih1 _ _ 1 (h.chan n hmem hk).2 (fun z hz=>by rw[List.eq_of_mem_replicate hz,wQ]; omega) y hy;omega
   have hacc:=akb (b:=c) ha hv (hb c (List.mem_cons_self));have:=ih2 bs _ _ (fun y hy=>hb y (List.mem_cons_of_mem _ hy)) hacc x hx;omega
theorem uV {α β:Type}:∀ (l:List α) (r:List β) (k:Nat),(l.zip r).take k=(l.take k).zip r
 | [],r,k=>by simp
 | x :: l,[],k=>by simp
 | x :: l,y :: r,0=>by simp
 | x :: l,y :: r,k+1=>by rw[List.zip_cons_cons,List.take_succ_cons,List.take_succ_cons,List.zip_cons_cons,uV]
theorem Fit.agN {g:Gm} {m:List (List Rat)} (h:Fit g m) {i:Nat} {n:Nd} (hn:g.nodes[i]? = some n) (hk:n.kind≠3) (k:Nat) :
  ∀ x∈jP (fV g m) (List.replicate g.au.toNat 0) (((iK m n).zip n.next).take k),rl x≤1+7*g.nodes.length:=by
 intro x hx;have hl:=aI hn;obtain⟨e,hs,he⟩:=h.good.span.sub1 i n (Nat.zero_le _) hl hn;rw[uV] at hx;have:=h.akc hs _ _ 1 (fun y hy=>(h.chan n (List.mem_of_getElem? hn) hk).2 y (List.mem_of_mem_take hy)) (fun z hz=>by rw[List.eq_of_mem_replicate hz,wQ]; omega) x hx;omega
theorem Fit.aiX {g:Gm} {m:List (List Rat)} (h:Fit g m) {i:Nat} (hi:i < g.nodes.length):∀ x∈fV g m i,rl x≤1+7*g.nodes.length:=by
 intro x hx;obtain⟨n,hn⟩:=aC (l:=g.nodes) (k:=i) hi;have hmem:=List.mem_of_getElem? hn;rw[qU h.good m hn] at hx;unfold valOf at hx;by_cases hk:n.kind=3
 ·rw[if_pos hk] at hx;obtain⟨z,hz,rfl⟩:=List.mem_map.1 hx;have:=aiW ((zS h.nodes hmem hk).2.1 z hz);omega
 ·rw[if_neg hk] at hx;have:=h.agN hn hk ((iK m n).zip n.next).length x (by rw[List.take_of_length_le (Nat.le_refl _)]; exact hx);exact this
structure Knd (α:Type) where
 n:Nat
 cells:α→List Value
 fine:World→Ag→α→Prop
 len:∀ q,(cells q).length=n
 pos:0 < n
 one:∀ {w:World} {F:Ag} {q:α},fine w F q→∀ u∈cells q,u.oneCell'=true
 keep:∀ {w w':World} {F G:Ag} {q:α},fine w F q→(∀ b,F b→b < w.heap.size→G b)→Same F w w'→fine w' G q
structure AA {α:Type} (K:Knd α) (w:World) (base:Nat) (et:TypeId) (F:Ag) (v:Value) (L:List α):Prop where
 row:w.ownsRow base et K.n v L.length (L.flatMap K.cells)
 fine:∀ q∈L,K.fine w (Apart F v) q
section
variable {α:Type} {K:Knd α}
theorem AA.nil (K:Knd α) (w:World) (base:Nat) (et:TypeId) (F:Ag):AA K w base et F (.slice none 0 0) []:=⟨World.ownsRow_nil _ _ _ _,fun q h=>by cases h⟩
theorem AA.below {w w':World} {base:Nat} {et:TypeId} {F:Ag} {v:Value} {L:List α} (h:AA K w base et F v L) (hb:Below w.heap.size w w'):AA K w' base et F v L:=by
 refine⟨⟨h.row.1,?_⟩,fun q hq=>K.keep (h.fine q hq) (fun _ h _=>h) (Below.same' hb _)⟩;rcases h.row.2 with hn | ⟨g,cap,cur,rfl,hg,hc,r⟩
 ·exact .inl hn
 ·exact .inr ⟨g,cap,cur,rfl,hg,by rw[hb.block g (Array.getElem?_eq_some_iff.1 hc).1]; exact hc,r⟩
theorem AA.at {w:World} {base:Nat} {et:TypeId} {F:Ag} {v:Value} {L:List α} (h:AA K w base et F v L) :
  (v = .slice none 0 0∧L = [])∨∃ g cap,v = .slice (some ⟨g,0,none⟩) L.length cap∧base≤g∧g < w.heap.size∧L.length≤cap∧(∀ q∈L,K.fine w F q)∧∀ k q,L[k]? = some q→∀ j u,(K.cells q)[j]? = some u→w.cell? ⟨g,0+k*K.n+j,none⟩=some u:=by
 rcases h.row.2 with⟨rfl,h0⟩ | ⟨g,cap,cur,rfl,hb,hg,hnc,_,hsz,htake⟩
 ·exact .inl ⟨rfl,List.eq_nil_of_length_eq_zero h0⟩
 ·refine .inr ⟨g,cap,rfl,hb,(Array.getElem?_eq_some_iff.1 hg).1,hnc,fun q hq=>K.keep (h.fine q hq) (fun b hb _=>hb.1) (Same.refl _ _),fun k q hk j u hu=>?_⟩;have hj:j < K.n:=by rw[← K.len q];exact aI hu
  have e:=oJ (f:=K.cells) (s:=K.n) K.len L k j q hk hj;rw[hu,← htake,List.getElem?_take] at e;rw[Nat.zero_add];split at e
  ·simp[World.cell?,hg];simpa using e
  ·cases e
theorem afB {w W:World} {F:Ag} {ops:Array Oper} {rest:List Oper} {o:Oper} {a:Act} {Q:Exit→Act→World→Prop} (hgd:o.guard=none) (s x:Operand) (t et:TypeId) (bytes:Nat) (z:Value) (ht:Tryz.prog.underlying t=some (.slice et))
  (hi0:(Tryz.prog.info? et).map (fun i=>(i.zero,i.size,i.bytes))=some (some z,K.n,bytes)) (hzc:z.cells.size=K.n) (hby:bytes≤1000)
  (ho:o.op = .call { callee:=.builtin .append,args:=#[s,x],argTypes:=#[t,t] })
  (base:Nat) (hbase:base≤W.heap.size) (v:Value) (L:List α) (hs:a.eval s=v) (q:α) (c:Array Value) (hc:c=(K.cells q).toArray) (hlen:L.length≤1000000)
  (hx:a.eval x = .slice (some ⟨w.heap.size,0,none⟩) 1 1) (hown:AA K w base et F v L) (hq:K.fine w (Apart F v) q) (hbel:Below base W w)
  (h:∀ g cap w',AA K w' base et F (.slice (some ⟨g,0,none⟩) (L.length+1) cap) (L ++ [q])→Below base W w'→w.heap.size < w'.heap.size→Same (fun b=>v.ownBlock≠some b) w w' →
   wpList Tryz.prog ops Q rest (a.put o.dst (.slice (some ⟨g,0,none⟩) (L.length+1) cap)) w') :
  wpList Tryz.prog ops Q (o :: rest) a (w.alloc (.cells c et)):=by
 subst hc;have hz:=hbel.size;refine zb6 ?_;intro hm i0 hi hz0 hz1 hz2;refine wpList_append_lies (w.alloc (.cells (K.cells q).toArray et)) hgd s x t ho base et i0 z K.n bytes ht hi hz0 hz1 hz2 hzc K.pos v L.length _ hs (hown.row.alloc _) ⟨w.heap.size,0,none⟩ 1 1 (K.cells q) hx (by rw[Nat.one_mul]; exact K.len q) (World.news_of_block (heap_alloc_new _ _)) (K.one hq) byOmega (by unfold maxLen; omega) byOmega aB (w.alloc (.cells (K.cells q).toArray et)).heap.size rfl ?_;intro g cap w' h1 h2 h3 h4;have h5:=h2.size;simp only[World.size_alloc] at h5 h3;refine Yl ?_;intro hsame e1 e2 afC p hp;have hp':K.fine w (Apart F v) p:=by
  rcases List.mem_append.1 hp with hp | hp
  ·exact hown.fine p hp
  ·rw[List.mem_singleton.1 hp];exact hq
 refine K.keep hp' (fun b hb hl=>⟨hb.1,fun e=>?_⟩) hsame;have e:some g=some b:=e;cases e
 rcases h3 with h3 | h3
 ·exact hb.2 h3
 ·omega
theorem y7 {w W:World} {F:Ag} {ops:Array Oper} {o:Oper} {a:Act} {K':Act→World→Prop} {Q:Exit→Act→World→Prop} {E:Prop} (hgd:o.guard=none) (s x:Operand) (t et:TypeId) (bytes:Nat) (z:Value) (ht:Tryz.prog.underlying t=some (.slice et))
  (hi0:(Tryz.prog.info? et).map (fun i=>(i.zero,i.size,i.bytes))=some (some z,K.n,bytes)) (hzc:z.cells.size=K.n) (hby:bytes≤1000)
  (ho:o.op = .call { callee:=.builtin .append,args:=#[s,x],argTypes:=#[t,t] })
  (base:Nat) (hbase:base≤W.heap.size) (v:Value) (L:List α) (hs:a.eval s=v) (q:α) (c:Array Value) (hc:c=(K.cells q).toArray) (hlen:L.length≤1000000)
  (hx:a.eval x = .slice (some ⟨w.heap.size,0,none⟩) 1 1) (hown:AA K w base et F v L) (hq:K.fine w (Apart F v) q) (hbel:Below base W w)
  (h:∀ g cap w',AA K w' base et F (.slice (some ⟨g,0,none⟩) (L.length+1) cap) (L ++ [q])→Below base W w'→w.heap.size < w'.heap.size→Same (fun b=>v.ownBlock≠some b) w w' →
   K' (a.put o.dst (.slice (some ⟨g,0,none⟩) (L.length+1) cap)) w') :
  if Region.wanted o (yielded ops a.tmps)=true then Oper.wp Tryz.prog o a (w.alloc (.cells c et)) K' Q else E:=by
 subst hc;have hz:=hbel.size;refine zb6 ?_;intro hm i0 hi hz0 hz1 hz2;refine step_append_lies (w.alloc (.cells (K.cells q).toArray et)) hgd s x t ho base et i0 z K.n bytes ht hi hz0 hz1 hz2 hzc K.pos v L.length _ hs (hown.row.alloc _) ⟨w.heap.size,0,none⟩ 1 1 (K.cells q) hx (by rw[Nat.one_mul]; exact K.len q) (World.news_of_block (heap_alloc_new _ _)) (K.one hq) byOmega (by unfold maxLen; omega) byOmega aB (w.alloc (.cells (K.cells q).toArray et)).heap.size rfl ?_;intro g cap w' h1 h2 h3 h4;have h5:=h2.size;simp only[World.size_alloc] at h5 h3;refine Yl ?_;intro hsame e1 e2 afC p hp;have hp':K.fine w (Apart F v) p:=by
  rcases List.mem_append.1 hp with hp | hp
  ·exact hown.fine p hp
  ·rw[List.mem_singleton.1 hp];exact hq
 refine K.keep hp' (fun b hb hl=>⟨hb.1,fun e=>?_⟩) hsame;have e:some g=some b:=e;cases e
 rcases h3 with h3 | h3
 ·exact hb.2 h3
 ·omega
end
def y8:Knd (Value×List Raw) where
 n:=1
 cells q:=[q.1]
 fine w F q:=Az w F q.1 q.2
 len _:=rfl
 pos:=aA
 one h u hu:=by
  obtain⟨A,c,hv,_⟩:=h;rw[List.mem_singleton.1 hu,hv];rfl
 keep h hFG hs:=h.keep hFG hs
theorem AA.rows {w:World} {base:Nat} {et:TypeId} {F G:Ag} {v:Value} {L:List (Value×List Raw)} (h:AA y8 w base et F v L) (hF:∀ b,F b→G b) (hG:∀ b,base≤b→G b):Ae w G v (L.map Prod.snd):=by
 rcases h.at with⟨rfl,rfl⟩ | ⟨g,cap,rfl,hb,hg,hcap,hf,hx⟩
 ·exact Ae.nil _ _
 ·refine⟨_,cap,by rw[List.length_map],by rw[List.length_map]; exact hcap,fun _=>⟨g,0,rfl,hG g hb,hg,fun k x hk=>?_⟩⟩;rw[List.getElem?_map] at hk;obtain⟨q,hq,rfl⟩:=Option.map_eq_some_iff.1 hk;exact⟨q.1,hx k q hq 0 q.1 rfl,Az.keep (hf q (List.mem_of_getElem? hq)) (fun b hb _=>hF b hb) (Same.refl _ _)⟩
def akd:Knd RV where
 n:=3
 cells q:=q.cells
 fine w F q:=q.fine w F
 len _:=rfl
 pos:=aA
 one h u hu:=by
  simp only[RV.cells,List.mem_cons,List.not_mem_nil,or_false] at hu;rcases hu with rfl | rfl | rfl
  ·rfl
  ·exact h.1.oneCell
  ·exact h.2.oneCell
 keep h hFG hs:=h.keep hFG hs
theorem AA.aaC {w:World} {base:Nat} {et:TypeId} {F G:Ag} {v:Value} {L:List RV} (h:AA akd w base et F v L) (hF:∀ b,F b→G b) (hG:∀ b,base≤b→G b):Az w G v (L.map RV.r):=by
 rcases h.at with⟨rfl,rfl⟩ | ⟨g,cap,rfl,hb,hg,hcap,hf,hx⟩
 ·exact Az.nil _ _
 ·refine⟨_,cap,by rw[List.length_map],by rw[List.length_map]; exact hcap,fun _=>⟨g,0,rfl,hG g hb,hg,fun k x hk=>?_⟩⟩;rw[List.getElem?_map] at hk;obtain⟨q,hq,rfl⟩:=Option.map_eq_some_iff.1 hk;have h3:=(hf q (List.mem_of_getElem? hq)).keep (G:=G) (fun b hb _=>hF b hb) (Same.refl _ _);exact⟨hx k q hq 0 _ rfl,⟨_,hx k q hq 1 _ rfl,h3.1⟩,⟨_,hx k q hq 2 _ rfl,h3.2⟩⟩
theorem AA.same {α:Type} {K:Knd α} {w w':World} {base:Nat} {et:TypeId} {F:Ag} {v:Value} {L:List α} (h:AA K w base et F v L) (hs:Same (fun b=>F b∨base≤b) w w'):AA K w' base et F v L:=by
 refine⟨⟨h.row.1,?_⟩,fun q hq=>K.keep (h.fine q hq) (fun _ h _=>h) ⟨hs.size,fun b hb hl=>hs.2 b (.inl hb.1) hl⟩⟩;rcases h.row.2 with hn | ⟨g,cap,cur,rfl,hg,hc,r⟩
 ·exact .inl hn
 ·exact .inr ⟨g,cap,cur,rfl,hg,by rw[hs.2 g (.inr hg) (Array.getElem?_eq_some_iff.1 hc).1]; exact hc,r⟩
end Go.Proofs.YthmklhapjegfdaaGreatDoor
