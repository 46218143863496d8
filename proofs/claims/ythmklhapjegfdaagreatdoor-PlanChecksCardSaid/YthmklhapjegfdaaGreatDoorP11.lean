/- append of a whole slice onto an empty one: a copy in new memory. -/
import Derived.Test.YthmklhapjegfdaaGreatDoorP05
import Derived.Deep.AppendSrc
set_option linter.all false
namespace Go.Proofs.YthmklhapjegfdaaGreatDoor
open Go.RowKit
theorem abu {P:Program} (w:World) (t ty e:TypeId) (i:TypeInfo) (z:Value) (ht:P.underlying t=some (.slice e)) (hi:P.info? e=some i) (hz:i.zero=some z) (hby:i.bytes≤1000)
  (B:Nat) (A:Option Addr) (m c:Nat) (news:List Value) (hl:news.length=m*i.size) (hsrc:0 < m→∃ ad,A=some ad∧∀ j u,news[j]? = some u→w.cell? (ad.add j)=some u) (h1:∀ u∈news,u.oneCell'=true) (hm:m≤1000000) :
  ∃ A' cap w',(Builtin.append_ #[t,t] ty #[.slice (some ⟨B,0,none⟩) 0 0,.slice A m c]).run P w = .ok (.slice A' m cap) w'∧Below w.heap.size w w'∧m≤cap∧(0 < m→A'=some ⟨w.heap.size,0,none⟩∧Lies w' w.heap.size news):=by
 by_cases h0:0 < m
 ·obtain⟨ad,rfl,hnews⟩:=hsrc h0;have hs:Src P i.size t (.slice (some ad) m c) m news w:=Src.ofSlice w ht ad m c news hl hnews h1;have hfit:Builtin.nextslicecap (0+m) 0*i.bytes≤281474976710656:=by
   have:Builtin.nextslicecap (0+m) 0=m:=by unfold Builtin.nextslicecap; rw[if_pos byOmega]; omega
   rw[this];have:=Nat.mul_le_mul hm hby;omega
  have hr:=run_append_grow_src (P:=P) w t t ty e i z ht hi hz (some ⟨B,0,none⟩) 0 0 [] (by simp[Builtin.firstCells,go_sem]) (.slice (some ad) m c) m news hs byOmega byOmega hfit;have hcap:=grownCap_ge w (0+m) 0 e;rw[Nat.zero_add] at hr hcap;refine⟨_,_,_,hr,?_,hcap,fun _=>⟨rfl,?_,?_⟩⟩
  ·exact(Below.refl w.heap.size w).drew.alloc (Nat.le_refl _) _
  ·simp
  ·intro j u hj;refine(Row.new w.drew e (([]++news).toArray++Builtin.zeroCells z.cells (grownCap w m 0 e - m))).cell (i:=j) (v:=u) ?_;have hlt:=aK hj;simp[List.getElem?_append_left hlt,hj]
 ·obtain rfl:m=0:=byOmega;have hnil:news = []:=List.eq_nil_of_length_eq_zero (by simpa using hl);subst hnil;have hs:Src P i.size t (.slice A 0 c) 0 [] w:=by
   cases A with
   | none=>exact Src.ofNil w ht c
   | some ad=>exact Src.ofSlice w ht ad 0 c [] ay ay ay
  have hr:=run_append_room_src (P:=P) w t t ty e i ht hi B 0 0 0 (.slice A 0 c) 0 [] hs byOmega ay ay;exact⟨_,_,_,hr,Below.refl _ _,Nat.le_refl _,fun h=>absurd h byOmega⟩
theorem tH {P:Program} {w:World} {o:Oper} {a:Act} {K:Act→World→Prop} {Q:Exit→Act→World→Prop} (s x:Operand) (t e:TypeId) (i:TypeInfo) (z:Value) (ho:o.op = .call { callee:=.builtin .append,args:=#[s,x],argTypes:=#[t,t] })
  (ht:P.underlying t=some (.slice e)) (hi:P.info? e=some i) (hz:i.zero=some z) (hby:i.bytes≤1000)
  (B:Nat) (A:Option Addr) (m c:Nat) (news:List Value) (hs:a.eval s = .slice (some ⟨B,0,none⟩) 0 0) (hx:a.eval x = .slice A m c)
  (hl:news.length=m*i.size) (hsrc:0 < m→∃ ad,A=some ad∧∀ j u,news[j]? = some u→w.cell? (ad.add j)=some u) (h1:∀ u∈news,u.oneCell'=true) (hm:m≤1000000)
  (h:∀ A' cap w',Below w.heap.size w w'→m≤cap→(0 < m→A'=some ⟨w.heap.size,0,none⟩∧Lies w' w.heap.size news)→K (a.put o.dst (.slice A' m cap)) w'):o.wp P a w K Q:=by
 obtain⟨A',cap,w',hr,h2,h3,h4⟩:=abu (P:=P) w t o.type e i z ht hi hz hby B A m c news hl hsrc h1 hm;unfold Oper.wp execOp;simp only[ho,resolve,invoke,builtin,Sem.run_bind,Sem.run_pure,Result.andThen_ok,List.map_toArray,List.map_cons,List.map_nil,hs,hx,hr];exact h A' cap w' h2 h3 h4
theorem oH {w:World} {F:Ah} {o:Oper} {a:Act} {K:Act→World→Prop} {Q:Exit→Act→World→Prop} (s x:Operand) (ho:o.op = .call { callee:=.builtin .append,args:=#[s,x],argTypes:=#[26,26] })
  (B:Nat) (v:Value) (l:List Int) (hs:a.eval s = .slice (some ⟨B,0,none⟩) 0 0) (hx:a.eval x=v) (hv:AA w F v l) (hm:l.length≤1000000)
  (h:∀ A' cap w',Below w.heap.size w w'→AA w' (fun b=>w.heap.size≤b∧b < w'.heap.size) (.slice A' l.length cap) l→K (a.put o.dst (.slice A' l.length cap)) w'):o.wp Tryz.prog a w K Q:=by
 obtain⟨i0,hi,hz0,hz1,hz2⟩:=info_parts Tryz.infoInt;obtain⟨A,c,rfl,hc,hr⟩:=hv;refine tH s x 26 3 i0 _ ho Tryz.underlying26 hi hz0 byOmega B A l.length c (l.map (Value.int .i64)) hs hx (by rw[hz1]; simp) ?_ (by simp[Value.oneCell']) hm ?_
 ·intro h0;obtain⟨b,off,rfl,_,_,hx⟩:=hr h0;refine⟨_,rfl,fun j u hj=>?_⟩;rw[List.getElem?_map] at hj;obtain⟨y,hy,rfl⟩:=Option.map_eq_some_iff.1 hj;have:=hx j y hy;unfold jF at this;rw[Nat.mul_one] at this;rw[Addr.add_lit];exact this
 ·intro A' cap w' hb hcap hl;refine h A' cap w' hb ⟨A',cap,rfl,hcap,fun h0=>?_⟩;obtain⟨rfl,hlies⟩:=hl h0;exact⟨w.heap.size,0,rfl,⟨Nat.le_refl _,hlies.1⟩,hlies.1,fun k y hk=>by unfold jF; rw[Nat.mul_one,Nat.zero_add]; exact hlies.2 _ _ (by simp[hk])⟩
theorem Tryz.infoInfo:(Tryz.prog.info? 59).map (fun i=>(i.zero,i.size,i.bytes))=some (some (.agg #[.int .i64 0,.int .i64 0]),2,16):=aj
theorem mP {w:World} {F:Ah} {o:Oper} {a:Act} {K:Act→World→Prop} {Q:Exit→Act→World→Prop} (s x:Operand) (ho:o.op = .call { callee:=.builtin .append,args:=#[s,x],argTypes:=#[23,23] })
  (B:Nat) (v:Value) (l:List Inf) (hs:a.eval s = .slice (some ⟨B,0,none⟩) 0 0) (hx:a.eval x=v) (hv:AU w F v l) (hm:l.length≤1000000)
  (h:∀ A' cap w',Below w.heap.size w w'→AU w' (fun b=>w.heap.size≤b∧b < w'.heap.size) (.slice A' l.length cap) l→K (a.put o.dst (.slice A' l.length cap)) w'):o.wp Tryz.prog a w K Q:=by
 obtain⟨i0,hi,hz0,hz1,hz2⟩:=info_parts Tryz.infoInfo;obtain⟨A,c,rfl,hc,hr⟩:=hv;have hlen:(l.flatMap jB).length=l.length*2:=by
  clear hr hc hm h hx;induction l with
  | nil=>rfl
  | cons y l ih=>rw[List.flatMap_cons,List.length_append,ih]; simp[jB]; omega
 refine tH s x 23 59 i0 _ ho Tryz.underlying23 hi hz0 byOmega B A l.length c (l.flatMap jB) hs hx (by rw[hz1]; exact hlen) ?_ ?_ hm ?_
 ·intro h0;obtain⟨b,off,rfl,_,_,hx⟩:=hr h0;refine⟨_,rfl,fun j u hj=>?_⟩;have hjl:=aK hj;obtain⟨y,hy⟩:=aC (l:=l) (k:=j / 2) byOmega;have hc:=hx _ y hy;have he:j=j / 2*2+j % 2:=byOmega;rw[he,kE (f:=jB) (s:=2) (fun _=>rfl) l _ _ y hy byOmega] at hj;have hm2:j % 2=0∨j % 2=1:=byOmega;rcases hm2 with hm2 | hm2
  ·rw[hm2] at hj he;simp[jB] at hj;subst hj;have:=hc.c0;rw[Addr.add_lit,show off+j=off+j / 2*2 by omega];exact this
  ·rw[hm2] at hj he;simp[jB] at hj;subst hj;have:=hc.c1;rw[Addr.add_lit,show off+j=off+j / 2*2+1 by omega];exact this
 ·intro u hu;rw[List.mem_flatMap] at hu;obtain⟨y,_,hy⟩:=hu;simp[jB] at hy;rcases hy with rfl | rfl <;> rfl
 ·intro A' cap w' hb hcap hl;refine h A' cap w' hb ⟨A',cap,rfl,hcap,fun h0=>?_⟩;obtain⟨rfl,hlies⟩:=hl h0;obtain⟨A2,c2,e2,_,hr2⟩:=hlies.infos (L:=l) (F:=fun b=>w.heap.size≤b∧b < w'.heap.size) ⟨Nat.le_refl _,hlies.1⟩ (c:=cap) hcap;injection e2 with e2a e2b e2c
  subst e2a;exact hr2 h0
end Go.Proofs.YthmklhapjegfdaaGreatDoor
