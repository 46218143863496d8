/- slices.Clone at ints: a copy in new memory that may be written; maps.Clone at map[int]int -/
import Derived.Test.YthmklhapjegfdaaGreatDoorV11
import Derived.WalkSpells
import Derived.Shelf.SlMaps.Clone
set_option linter.all false
set_option maxRecDepth 100000
set_option maxHeartbeats 12800000
namespace Go.Proofs.YthmklhapjegfdaaGreatDoor
open Go.RowKit
theorem ad4 {P:Program} (w:World) (t ty e:TypeId) (i:TypeInfo) (z:Value) (ht:P.underlying t=some (.slice e)) (hi:P.info? e=some i) (hz:i.zero=some z) (hby:i.bytes≤1000)
  (B:Nat) (A:Option Addr) (m c:Nat) (news:List Value) (hl:news.length=m*i.size) (hsrc:0 < m→∃ ad,A=some ad∧∀ j u,news[j]? = some u→w.cell? (ad.add j)=some u) (h1:∀ u∈news,u.oneCell'=true) (hm:m≤1000000) :
  ∃ A' cap w',(Builtin.append_ #[t,t] ty #[.slice (some ⟨B,0,none⟩) 0 0,.slice A m c]).run P w = .ok (.slice A' m cap) w'∧Below w.heap.size w w'∧m≤cap∧(0 < m→A'=some ⟨w.heap.size,0,none⟩∧∃ rest,Row w' w.heap.size e (news++rest)):=by
 by_cases h0:0 < m
 ·obtain⟨ad,rfl,hnews⟩:=hsrc h0;have hs:Src P i.size t (.slice (some ad) m c) m news w:=Src.ofSlice w ht ad m c news hl hnews h1;have hfit:Builtin.nextslicecap (0+m) 0*i.bytes≤281474976710656:=by
   have:Builtin.nextslicecap (0+m) 0=m:=by unfold Builtin.nextslicecap;rw[if_pos byOmega];omega
   rw[this];have:=Nat.mul_le_mul hm hby;omega
  have hr:=run_append_grow_src (P:=P) w t t ty e i z ht hi hz (some ⟨B,0,none⟩) 0 0 [] (by simp[Builtin.firstCells,go_sem]) (.slice (some ad) m c) m news hs byOmega byOmega hfit;have hcap:=grownCap_ge w (0+m) 0 e;rw[Nat.zero_add] at hr hcap;refine⟨_,_,_,hr,?_,hcap,fun _=>⟨rfl,(Builtin.zeroCells z.cells (grownCap w m 0 e - m)).toList,?_⟩⟩
  ·exact(Below.refl w.heap.size w).drew.alloc (Nat.le_refl _) _
  ·have:=Row.new w.drew e (([]++news).toArray++Builtin.zeroCells z.cells (grownCap w m 0 e - m));rw[Array.toList_append,List.nil_append] at this;exact this
 ·obtain rfl:m=0:=byOmega;have hnil:news = []:=List.eq_nil_of_length_eq_zero (by simpa using hl);subst hnil;have hs:Src P i.size t (.slice A 0 c) 0 [] w:=by
   cases A with
   | none=>exact Src.ofNil w ht c
   | some ad=>exact Src.ofSlice w ht ad 0 c [] ay ay ay
  have hr:=run_append_room_src (P:=P) w t t ty e i ht hi B 0 0 0 (.slice A 0 c) 0 [] hs byOmega ay ay;exact⟨_,_,_,hr,Below.refl _ _,Nat.le_refl _,fun h=>absurd h byOmega⟩
def DV (B:Nat) (l:List Int) (v:Value) (w':World):Prop :=
 ∃ A c,v = .slice A l.length c∧l.length≤c∧(0 < l.length→∃ b rest,A=some ⟨b,0,none⟩∧B≤b∧Row w' b 3 (l.map (Value.int .i64)++rest))
theorem abq {w:World} {F:Ag} {ops:Array Oper} {rest:List Oper} {o:Oper} {a:Act} {Q:Exit→Act→World→Prop} (hgd:o.guard=none) (s x:Operand) (ho:o.op = .call { callee:=.builtin .append,args:=#[s,x],argTypes:=#[26,26] })
  (B:Nat) (v:Value) (l:List Int) (hs:a.eval s = .slice (some ⟨B,0,none⟩) 0 0) (hx:a.eval x=v) (hv:Ah w F v l) (hm:l.length≤1000000)
  (h:∀ u w',Below w.heap.size w w'→DV w.heap.size l u w'→wpList Tryz.prog ops Q rest (a.put o.dst u) w') :
  wpList Tryz.prog ops Q (o :: rest) a w:=by
 refine wpList_plain hgd fun K hK=>?_
 obtain⟨i0,hi,hz0,hz1,hz2⟩:=info_parts Tryz.infoInt;obtain⟨A,c,rfl,hc,hr⟩:=hv;obtain⟨A',cap,w',hrun,h2,h3,h4⟩:=ad4 (P:=Tryz.prog) w 26 o.type 3 i0 _ Tryz.underlying26 hi hz0 byOmega B A l.length c (l.map (Value.int .i64)) (by rw[hz1]; simp) (by
  intro h0;obtain⟨b,off,rfl,_,_,hx⟩:=hr h0;refine⟨_,rfl,fun j u hj=>?_⟩;rw[List.getElem?_map] at hj;obtain⟨y,hy,rfl⟩:=Option.map_eq_some_iff.1 hj;have:=hx j y hy;unfold iE at this;rw[Nat.mul_one] at this;rw[Addr.add_lit];exact this) (by simp[Value.oneCell']) hm
 exact Y0
theorem clone_any (w:World) (F:Ag) (v:Value) (l:List Int) (hv:Ah w F v l) (hl:l.length≤1000000) :
  Calls Tryz.prog 142 #[v] w (Ret w (DV w.heap.size l)):=by
 have HV:=Lib.hid hv;obtain⟨A,c,rfl,hc,hr⟩:=hv;have hq:=fun w=>Lib.run_eql_slice_nil (P:=Tryz.prog) w 26 3 A l.length c 0 0 Tryz.underlying26
 cases A with
 | none =>
  obtain rfl:l = []:=by
   rcases Nat.eq_zero_or_pos l.length with h | h
   ·exact List.eq_nil_of_length_eq_zero h
   ·obtain⟨b,off,hh,_⟩:=hr h;cases hh
  clear hr HV;have hq:=fun w=>Lib.run_eql_slice_nil (P:=Tryz.prog) w 26 3 none 0 c 0 0 Tryz.underlying26
  show Calls Tryz.prog 142 #[.slice none 0 c] w _;go_in;go_wp2
  go_ret;exact⟨_,rfl,Below.refl _ _,none,0,rfl,ay,fun h=>absurd h ay⟩
 | some ad =>
  clear hr;go_in;go_wp2_with (at_builtin; refine abq (F:=F) rfl _ _ rfl w.heap.size _ l rfl rfl (HV.out.on (Same.alloc _ _ _)) hl ?_; intro u w3 hb3 hi3)
  go_ret;refine⟨_,rfl,((Below.refl _ w).alloc (Nat.le_refl _) _).trans (hb3.mono ay),?_⟩;obtain⟨A,c,rfl,hc',hr⟩:=hi3;refine⟨A,c,rfl,hc',fun h0=>?_⟩;obtain⟨b,rest,rfl,hb,hrow⟩:=hr h0;exact⟨b,rest,rfl,by simp at hb; omega,hrow⟩
end Go.Proofs.YthmklhapjegfdaaGreatDoor
