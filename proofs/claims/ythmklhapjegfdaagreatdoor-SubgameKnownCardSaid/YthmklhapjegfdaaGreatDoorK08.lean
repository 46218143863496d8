/- append of a whole slice onto an empty one: a copy in new memory. -/
import Derived.Deep.AppendSrc
import Derived.Test.YthmklhapjegfdaaGreatDoorK06
set_option linter.all false
namespace Go.Proofs.YthmklhapjegfdaaGreatDoor
open Go.RowKit
theorem abw {P:Program} (w:World) (t ty e:TypeId) (i:TypeInfo) (z:Value) (ht:P.underlying t=some (.slice e)) (hi:P.info? e=some i) (hz:i.zero=some z) (hby:i.bytes≤1000)
  (B:Nat) (A:Option Addr) (m c:Nat) (news:List Value) (hl:news.length=m*i.size) (hsrc:0 < m→∃ ad,A=some ad∧∀ j u,news[j]? = some u→w.cell? (ad.add j)=some u) (h1:∀ u∈news,u.oneCell'=true) (hm:m≤1000000) :
  ∃ A' cap w',(Builtin.append_ #[t,t] ty #[.slice (some ⟨B,0,none⟩) 0 0,.slice A m c]).run P w = .ok (.slice A' m cap) w'∧Below w.heap.size w w'∧m≤cap∧(0 < m→A'=some ⟨w.heap.size,0,none⟩∧Lies w' w.heap.size news):=by
 by_cases h0:0 < m
 ·obtain⟨ad,rfl,hnews⟩:=hsrc h0;have hs:Src P i.size t (.slice (some ad) m c) m news w:=Src.ofSlice w ht ad m c news hl hnews h1;have hfit:Builtin.nextslicecap (0+m) 0*i.bytes≤281474976710656:=by
   have:Builtin.nextslicecap (0+m) 0=m:=by unfold Builtin.nextslicecap; rw[if_pos (by omega)]; omega
   rw[this];have:=Nat.mul_le_mul hm hby;omega
  have hr:=run_append_grow_src (P:=P) w t t ty e i z ht hi hz (some ⟨B,0,none⟩) 0 0 [] (by simp[Builtin.firstCells,go_sem]) (.slice (some ad) m c) m news hs (by omega) (by omega) hfit;have hcap:=grownCap_ge w (0+m) 0 e;rw[Nat.zero_add] at hr hcap;refine⟨_,_,_,hr,?_,hcap,fun _=>⟨rfl,?_,?_⟩⟩
  ·exact(Below.refl w.heap.size w).drew.alloc (Nat.le_refl _) _
  ·simp
  ·intro j u hj;refine(Row.new w.drew e (([]++news).toArray++Builtin.zeroCells z.cells (grownCap w m 0 e - m))).cell (i:=j) (v:=u) ?_;have hlt:=aG hj;simp[List.getElem?_append_left hlt,hj]
 ·obtain rfl:m=0:=by omega
  have hnil:news = []:=List.eq_nil_of_length_eq_zero (by simpa using hl);subst hnil;have hs:Src P i.size t (.slice A 0 c) 0 [] w:=by
   cases A with
   | none=>exact Src.ofNil w ht c
   | some ad=>exact Src.ofSlice w ht ad 0 c [] (by simp) (by simp) (by simp)
  have hr:=run_append_room_src (P:=P) w t t ty e i ht hi B 0 0 0 (.slice A 0 c) 0 [] hs (by omega) (by simp) (by simp);exact⟨_,_,_,hr,Below.refl _ _,Nat.le_refl _,fun h=>absurd h (by omega)⟩
theorem aak {P:Program} {w:World} {o:Oper} {a:Act} {K:Act→World→Prop} {Q:Exit→Act→World→Prop} (s x:Operand) (t e:TypeId) (i:TypeInfo) (z:Value) (ho:o.op = .call { callee:=.builtin .append,args:=#[s,x],argTypes:=#[t,t] })
  (ht:P.underlying t=some (.slice e)) (hi:P.info? e=some i) (hz:i.zero=some z) (hby:i.bytes≤1000)
  (B:Nat) (A:Option Addr) (m c:Nat) (news:List Value) (hs:a.eval s = .slice (some ⟨B,0,none⟩) 0 0) (hx:a.eval x = .slice A m c)
  (hl:news.length=m*i.size) (hsrc:0 < m→∃ ad,A=some ad∧∀ j u,news[j]? = some u→w.cell? (ad.add j)=some u) (h1:∀ u∈news,u.oneCell'=true) (hm:m≤1000000)
  (h:∀ A' cap w',Below w.heap.size w w'→m≤cap→(0 < m→A'=some ⟨w.heap.size,0,none⟩∧Lies w' w.heap.size news)→K (a.put o.dst (.slice A' m cap)) w'):o.wp P a w K Q:=by
 obtain⟨A',cap,w',hr,h2,h3,h4⟩:=abw (P:=P) w t o.type e i z ht hi hz hby B A m c news hl hsrc h1 hm;unfold Oper.wp execOp;simp only[ho,resolve,invoke,builtin,Sem.run_bind,Sem.run_pure,Result.andThen_ok,List.map_toArray,List.map_cons,List.map_nil,hs,hx,hr];exact h A' cap w' h2 h3 h4
theorem Tryz.infoInfo:(Tryz.prog.info? 59).map (fun i=>(i.zero,i.size,i.bytes))=some (some (.agg #[.int .i64 0,.int .i64 0]),2,16):=by kernel_rfl
theorem Aw.rvs {w:World} {F:Ag} {v:Value} {l:List Raw} (h:Aw w F v l):∃ L:List RV,L.map RV.r=l∧(∀ q∈L,q.fine w F)∧∃ (A:Option Addr) (c:Nat),v = .slice A l.length c∧l.length≤c ∧
  (0 < l.length→∃ ad,A=some ad∧∀ j u,(L.flatMap RV.cells)[j]? = some u→w.cell? (ad.add j)=some u):=by
 obtain⟨A,c,rfl,hc,hr⟩:=h;by_cases h0:0 < l.length
 ·obtain⟨b,o,rfl,hF,hb,hx⟩:=hr h0;have hL:∀ k x,l[k]? = some x→∃ q:RV,q.r=x∧q.fine w F∧∀ i u,q.cells[i]? = some u→w.cell? ⟨b,o+k*3+i,none⟩=some u:=fun k x hk=>by
   obtain⟨e0,⟨vn,e1,i1⟩,⟨vd,e2,i2⟩⟩:=hx k x hk;refine⟨⟨x,vn,vd⟩,rfl,⟨i1,i2⟩,fun i u hu=>?_⟩;match i,hu with
   | 0,hu=>cases hu; exact e0
   | 1,hu=>cases hu; exact e1
   | 2,hu=>cases hu; exact e2
  have hT:∀ n,n≤l.length→∃ L:List RV,L.length=n∧L.map RV.r=l.take n∧∀ k q,L[k]? = some q→q.fine w F∧∀ i u,q.cells[i]? = some u→w.cell? ⟨b,o+k*3+i,none⟩=some u:=by
   intro n;induction n with
   | zero=>intro _; exact⟨[],rfl,rfl,fun k q hk=>by simp at hk⟩
   | succ n ih =>
    intro hn;obtain⟨L,h1,h2,h3⟩:=ih (by omega);obtain⟨x,hx'⟩:=ak (l:=l) (k:=n) (by omega);obtain⟨q,q1,q2,q3⟩:=hL n x hx';refine⟨L ++ [q],by rw[List.length_append,h1]; rfl,by rw[List.map_append,h2,take_snoc hx',List.map_cons,List.map_nil,q1],fun k p hk=>?_⟩;rcases Nat.lt_or_ge k n with hlt | hge
    ·rw[List.getElem?_append_left (by omega)] at hk; exact h3 k p hk
    ·have hkn:k=n:=by have:=aG hk; rw[List.length_append,h1] at this; simp at this; omega
     subst hkn;rw[List.getElem?_append_right (by omega),h1,Nat.sub_self] at hk;cases hk; exact⟨q2,q3⟩
  obtain⟨L,h1,h2,h3⟩:=hT l.length (Nat.le_refl _);rw[List.take_of_length_le (Nat.le_refl _)] at h2;refine⟨L,h2,fun q hq=>by obtain⟨k,hk⟩:=List.getElem?_of_mem hq; exact(h3 k q hk).1,_,c,rfl,hc,fun _=>⟨_,rfl,fun j u hu=>?_⟩⟩;have hj:=aG hu;rw[vP] at hj;have hk:j / 3 < L.length:=by omega
  obtain⟨q,hq⟩:=ak hk;have e:j=j / 3*3+j % 3:=by omega
  rw[e,lJ (f:=RV.cells) (s:=3) (fun _=>rfl) L (j / 3) (j % 3) q hq (Nat.mod_lt _ (by omega))] at hu;have h4:=(h3 _ _ hq).2 _ _ hu;rw[Addr.add_lit,e,← Nat.add_assoc];exact h4
 ·have hnil:l = []:=List.eq_nil_of_length_eq_zero (by omega);subst hnil;exact⟨[],rfl,(fun q hq=>by cases hq),A,c,rfl,hc,(fun h=>absurd h (by simp))⟩
theorem sH {w:World} {F:Ag} {o:Oper} {a:Act} {K:Act→World→Prop} {Q:Exit→Act→World→Prop} (s x:Operand) (ho:o.op = .call { callee:=.builtin .append,args:=#[s,x],argTypes:=#[64,64] })
  (B:Nat) (v:Value) (l:List Raw) (hs:a.eval s = .slice (some ⟨B,0,none⟩) 0 0) (hx:a.eval x=v) (hv:Aw w F v l) (hm:l.length≤1000000)
  (h:∀ A' cap w',Below w.heap.size w w'→Aw w' (fun b=>(F b∧b < w.heap.size)∨w.heap.size≤b) (.slice A' l.length cap) l→K (a.put o.dst (.slice A' l.length cap)) w'):o.wp Tryz.prog a w K Q:=by
 obtain⟨i0,hi,hz0,hz1,hz2⟩:=info_parts Tryz.infoRat;obtain⟨L,hL,hf,A,c,rfl,hc,hr⟩:=hv.rvs;have hll:L.length=l.length:=by rw[← hL,List.length_map]
 refine aak s x 64 83 i0 _ ho Tryz.underlying64 hi hz0 (by omega) B A l.length c (L.flatMap RV.cells) hs hx (by rw[hz1,vP,hll]) hr ?_ hm ?_
 ·intro u hu;obtain⟨q,hq,hu⟩:=List.mem_flatMap.1 hu;have h1:=hf q hq;simp only[RV.cells,List.mem_cons,List.not_mem_nil,or_false] at hu;rcases hu with rfl | rfl | rfl
  ·rfl
  ·exact h1.1.oneCell
  ·exact h1.2.oneCell
 ·intro A' cap w' hb hcap hl;refine h A' cap w' hb ?_;by_cases h0:0 < l.length
  ·obtain⟨rfl,h1⟩:=hl h0;have h2:=Lies.abv (F:=fun b=>(F b∧b < w.heap.size)∨w.heap.size≤b) (c:=cap) h1 (.inr (Nat.le_refl _)) (fun q hq=>(hf q hq).keep (fun b hb hl=>.inl ⟨hb,hl⟩) (Below.same' hb F)) (by omega);rw[hL,hll] at h2;exact h2
  ·have hnil:l = []:=List.eq_nil_of_length_eq_zero (by omega);subst hnil;exact⟨A',cap,rfl,Nat.zero_le _,fun h=>absurd h (by simp)⟩
theorem abx {w:World} {F:Ag} {ops:Array Oper} {rest:List Oper} {o:Oper} {a:Act} {Q:Exit→Act→World→Prop} (hgd:o.guard=none) (s x:Operand) (ho:o.op = .call { callee:=.builtin .append,args:=#[s,x],argTypes:=#[64,64] })
  (B:Nat) (v:Value) (l:List Raw) (hs:a.eval s = .slice (some ⟨B,0,none⟩) 0 0) (hx:a.eval x=v) (hv:Aw w F v l) (hm:l.length≤1000000)
  (h:∀ A' cap w',Below w.heap.size w w'→Aw w' (fun b=>(F b∧b < w.heap.size)∨w.heap.size≤b) (.slice A' l.length cap) l→wpList Tryz.prog ops Q rest (a.put o.dst (.slice A' l.length cap)) w') :
  wpList Tryz.prog ops Q (o :: rest) a w:=by
 refine wpList_plain hgd fun K hK=>?_
 exact sH s x ho B v l hs hx hv hm (fun A' cap w' hb hi=>hK _ _ (h A' cap w' hb hi))
structure HeldRows (W:World) (g:Nat) (t:TypeId) (Fd:Ag) (L:List (Value×List Raw)) (S:List Value):Prop where
 row:Row W g t (L.map Prod.fst++S)
 fine:∀ q∈L,Aw W Fd q.1 q.2
 out:¬ Fd g
theorem HeldRows.below {W W':World} {g:Nat} {t:TypeId} {Fd:Ag} {L:List (Value×List Raw)} {S:List Value} (h:HeldRows W g t Fd L S) (hb:Below W.heap.size W W'):HeldRows W' g t Fd L S :=
 ⟨h.row.below hb h.row.lt,fun q hq=>Aw.on (h.fine q hq) (Below.same' hb _),h.out⟩
theorem HeldRows.cell {W:World} {g:Nat} {t:TypeId} {Fd:Ag} {L:List (Value×List Raw)} {S:List Value} (h:HeldRows W g t Fd L S) {k:Nat} {q:Value×List Raw} (hk:L[k]? = some q):W.cell? ⟨g,k,none⟩=some q.1 :=
 h.row.cell (by rw[List.getElem?_append_left (by rw[List.length_map]; exact aG hk),List.getElem?_map,hk]; rfl)
theorem HeldRows.set {W:World} {g:Nat} {t:TypeId} {Fd:Ag} {L:List (Value×List Raw)} {S:List Value} (h:HeldRows W g t Fd L S) {k:Nat} (hk:k < L.length) {q:Value×List Raw} (hq:Aw W Fd q.1 q.2):HeldRows (W.setCell ⟨g,k,none⟩ q.1) g t Fd (L.set k q) S:=by
 refine⟨?_,fun p hp=>?_,h.out⟩
 ·have h3:=h.row.set k q.1;rw[List.set_append_left _ _ (by rw[List.length_map]; exact hk)] at h3;rw[List.map_set];exact h3
 ·have hp':Aw W Fd p.1 p.2:=by
   rcases List.mem_or_eq_of_mem_set hp with hp | rfl
   ·exact h.fine p hp
   ·exact hq
  exact Aw.on hp' (Same.setCell Fd W (p:=⟨g,k,none⟩) h.out _)
theorem HeldRows.rows {W:World} {g:Nat} {t:TypeId} {Fd F:Ag} {L:List (Value×List Raw)} {S:List Value} (h:HeldRows W g t Fd L S) (hF:∀ b,Fd b→F b) (hg:F g) {c:Nat} (hc:L.length≤c):Ae W F (.slice (some ⟨g,0,none⟩) L.length c) (L.map Prod.snd):=by
 refine⟨_,c,by rw[List.length_map],by rw[List.length_map]; exact hc,fun _=>⟨g,0,rfl,hg,h.row.lt,fun k x hk=>?_⟩⟩;rw[List.getElem?_map] at hk;obtain⟨q,hq,rfl⟩:=Option.map_eq_some_iff.1 hk;exact⟨q.1,by rw[Nat.mul_one,Nat.zero_add]; exact h.cell hq,Aw.keep (h.fine q (List.mem_of_getElem? hq)) (fun b hb _=>hF b hb) (Same.refl _ _)⟩
theorem Bg.agI {w:World} {base:Nat} {et:TypeId} {F:Ag} {v:Value} {L:List (Value×List Raw)} (h:Bg wO w base et F v L) (h0:0 < L.length):∃ g cap S,v = .slice (some ⟨g,0,none⟩) L.length cap∧L.length≤cap∧base≤g∧HeldRows w g et (fun b=>F b∧b≠g) L S:=by
 have hf:=h.fine;rcases h.row.2 with⟨rfl,h1⟩ | ⟨g,cap,cur,rfl,hb,hg,hnc,_,hsz,htake⟩
 ·omega
 ·refine⟨g,cap,cur.toList.drop (L.length*wO.n),rfl,hnc,hb,⟨?_,fun q hq=>Aw.keep (hf q hq) (fun b hb _=>⟨hb.1,fun e=>hb.2 (by subst e; rfl)⟩) (Same.refl _ _),fun h=>h.2 rfl⟩⟩;have e:L.map Prod.fst=L.flatMap wO.cells:=by
   clear htake hsz hnc hg hf h h0;induction L with
   | nil=>rfl
   | cons q L ih=>rw[List.map_cons,List.flatMap_cons,ih]; rfl
  show w.heap[g]? = _;rw[e,← htake,List.take_append_drop];exact hg
theorem Ak.get {w:World} {F:Ag} {v:Value} {l:List Int} (h:Ak w F v l) {k:Nat} {x:Int} (hk:l[k]? = some x):∃ b o c,v = .slice (some ⟨b,o,none⟩) l.length c∧F b∧b < w.heap.size∧w.cell? ⟨b,o+k,none⟩=some (.int .i64 x):=by
 obtain⟨A,c,rfl,hc,hr⟩:=h;obtain⟨b,o,rfl,hF,hb,hx⟩:=hr (by have:=aG hk; omega);have e:=hx k x hk;unfold fF at e;rw[Nat.mul_one] at e;exact⟨b,o,c,rfl,hF,hb,e⟩
def qO {α:Type} (R:Nat→List α) (n k:Nat):List (List α):=(List.range n).map fun i=>if i < k then R i else []
theorem yX {α:Type} (R:Nat→List α) {n k:Nat} (hk:k < n):(qO R n k).set k (R k)=qO R n (k+1):=by
 apply List.ext_getElem?
 intro i;unfold qO;by_cases h:k=i
 ·subst h;rw[List.getElem?_set_self (by simp; exact hk),List.getElem?_map,List.getElem?_range hk,Option.map_some,if_pos (by omega)]
 ·rw[List.getElem?_set_ne h,List.getElem?_map,List.getElem?_map];rcases Nat.lt_or_ge i n with h1 | h1
  ·rw[List.getElem?_range h1,Option.map_some,Option.map_some];by_cases h2:i < k
   ·rw[if_pos h2,if_pos (by omega)]
   ·rw[if_neg h2,if_neg (by omega)]
  ·rw[List.getElem?_eq_none (by simpa using h1)]; rfl
theorem adT {α:Type} (R:Nat→List α) (n:Nat):qO R n n=(List.range n).map R:=by
 unfold qO;refine List.map_congr_left fun i hi=>?_
 rw[List.mem_range] at hi;rw[if_pos hi]
theorem acB {α:Type} (R:Nat→List α) (n:Nat):qO R n 0=List.replicate n []:=by
 apply List.ext_getElem?
 intro i;unfold qO;rw[List.getElem?_map,List.getElem?_replicate];rcases Nat.lt_or_ge i n with h1 | h1
 ·rw[List.getElem?_range h1,if_pos h1]; rfl
 ·rw[List.getElem?_eq_none (by simpa using h1),if_neg (by omega)]; rfl
end Go.Proofs.YthmklhapjegfdaaGreatDoor
