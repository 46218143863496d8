/- Copies of numbers: append onto nothing; long.Copy, slices.Clone. -/
import Derived.Test.YtnmeejofpkhlkaaGreatDoorR06
import Derived.Deep.AppendSrc
import Derived.WalkSpells
set_option linter.all false
set_option maxRecDepth 100000
set_option maxHeartbeats 12800000
namespace Go.Proofs.YtnmeejofpkhlkaaGreatDoor
open Go.RowKit
theorem uI (w:World) (F:Foot) (t ty:TypeId) (ht:Tryz.prog.underlying t=some (.slice 103)) (base:Option Addr) (hbase:∀ a,base=some a→∃ b,a=⟨b,0,none⟩) (v:Value) (l:List Nat) (hv:Aj w F v l) (hm:l.length≤1000000) :
  ∃ A' cap w',(Builtin.append_ #[t,t] ty #[.slice base 0 0,v]).run Tryz.prog w = .ok (.slice A' l.length cap) w'∧Below w.heap.size w w'∧l.length≤cap∧(0 < l.length→A'=some ⟨w.heap.size,0,none⟩∧∃ rest,Row w' w.heap.size 103 (aT l++rest)):=by
 obtain⟨i,hi,hz,hs1,hby⟩:=info_parts Tryz.infoU32;obtain⟨A,c,rfl,hc,hr⟩:=hv;by_cases h0:0 < l.length
 ·obtain⟨b,off,rfl,_,_,hx⟩:=hr h0;have hs:Src Tryz.prog i.size t (.slice (some ⟨b,off,none⟩) l.length c) l.length (aT l) w:=by
   refine Src.ofSlice w ht _ _ c (aT l) (by rw[hs1]; simp) (fun j u hj=>?_) (by simp[Value.oneCell']);rw[List.getElem?_map] at hj;obtain⟨y,hy,rfl⟩:=Option.map_eq_some_iff.1 hj;have:=hx j y hy;unfold dB at this;exact zco
  have hfit:Builtin.nextslicecap (0+l.length) 0*i.bytes≤281474976710656:=by
   have:Builtin.nextslicecap (0+l.length) 0=l.length:=by unfold Builtin.nextslicecap;rw[if_pos byOmega];omega
   rw[this,hby];omega
  have hold:(Builtin.firstCells i.size 0 (.slice base 0 0)).run Tryz.prog w.drew = .ok ([]:List Value).toArray w.drew:=by
   cases base with
   | none=>exact run_firstCells_none w.drew i.size 0 0 0
   | some a=>obtain⟨b',rfl⟩:=hbase a rfl; simp[Builtin.firstCells,go_sem]
  have hrun:=run_append_grow_src (P:=Tryz.prog) w t t ty _ i _ ht hi hz base 0 0 [] hold _ _ _ hs byOmega byOmega hfit;have hcap:=grownCap_ge w (0+l.length) 0 103;rw[Nat.zero_add] at hrun hcap;refine⟨_,_,_,hrun,(Below.refl w.heap.size w).drew.alloc (Nat.le_refl _) _,hcap,fun _=>⟨rfl,(Builtin.zeroCells (Value.int .u32 0).cells (grownCap w l.length 0 103 - l.length)).toList,?_⟩⟩;have:=Row.new w.drew 103 (([]++aT l).toArray++Builtin.zeroCells (Value.int .u32 0).cells (grownCap w l.length 0 103 - l.length));rw[Array.toList_append,List.nil_append] at this;exact this
 ·have hl:l = []:=List.eq_nil_of_length_eq_zero byOmega;subst hl;have hs:Src Tryz.prog i.size t (.slice A 0 c) 0 [] w:=by
   cases A with
   | none=>exact Src.ofNil w ht c
   | some ad=>exact Src.ofSlice w ht ad 0 c [] aB aB aB
  cases base with
  | none =>
   refine⟨none,0,w,?_,Below.refl _ _,Nat.le_refl _,fun h=>absurd h aB⟩;have hlen:([]:List Nat).length=0:=rfl;rw[hlen];simp[Builtin.append_,run_underlying ht,sizeOf,typeInfo,hi,hs.len,hs.cells]
  | some a =>
   obtain⟨b',rfl⟩:=hbase a rfl;have hrun:=run_append_room_src (P:=Tryz.prog) w t t ty _ i ht hi b' 0 0 0 _ 0 [] hs byOmega aB aB;exact⟨_,_,_,hrun,Below.refl _ _,Nat.le_refl _,fun h=>absurd h aB⟩
def Bg (B:Nat) (l:List Nat) (v:Value) (w':World):Prop :=
 ∃ A c,v = .slice A l.length c∧l.length≤c∧(0 < l.length→∃ b rest,A=some ⟨b,0,none⟩∧B≤b∧Row w' b 103 (aT l++rest))
theorem Bg.limbs {B:Nat} {l:List Nat} {v:Value} {w':World} (h:Bg B l v w'):Aj w' (fun b=>B≤b) v l:=by
 obtain⟨A,c,rfl,hc,hr⟩:=h;refine⟨A,c,rfl,hc,fun h0=>?_⟩;obtain⟨b,rest,rfl,hb,hrow⟩:=hr h0;refine⟨b,0,rfl,hb,hrow.lt,fun k y hk=>?_⟩;unfold dB;rw[Nat.mul_one,Nat.zero_add];refine hrow.cell ?_;rw[List.getElem?_append_left (by simpa using lt_of_get hk)];simp[hk]
theorem uJ {w:World} {F:Foot} {ops:Array Oper} {rest:List Oper} {o:Oper} {a:Act} {Q:Exit→Act→World→Prop} (hgd:o.guard=none) (s x:Operand) (t:TypeId) (ht:Tryz.prog.underlying t=some (.slice 103)) (ho:o.op = .call { callee:=.builtin .append,args:=#[s,x],argTypes:=#[t,t] })
  (base:Option Addr) (hbase:∀ a,base=some a→∃ b,a=⟨b,0,none⟩) (v:Value) (l:List Nat) (hs:a.eval s = .slice base 0 0) (hx:a.eval x=v) (hv:Aj w F v l) (hm:l.length≤1000000)
  (h:∀ u w',Below w.heap.size w w'→Bg w.heap.size l u w'→wpList Tryz.prog ops Q rest (a.put o.dst u) w') :
  wpList Tryz.prog ops Q (o :: rest) a w:=by
 refine wpList_plain hgd fun K hK=>?_
 obtain⟨A',cap,w',hrun,h2,h3,h4⟩:=uI w F t o.type ht base hbase v l hv hm;refine zbd ?_;refine hK _ _ (h _ w' h2 ⟨A',cap,rfl,h3,fun h0=>?_⟩);obtain⟨e,rest,hrow⟩:=h4 h0;exact⟨_,rest,e,Nat.le_refl _,hrow⟩
theorem abJ (w:World) (F:Foot) (v:Value) (n:Nat) (hv:Ah w F v n) (hl:(dig n).length≤1000000) :
  Calls Tryz.prog 187 #[v] w (Ret w fun u w'=>Ah w' (fun b=>w.heap.size≤b) u n):=by
 have HV:=Lib.hid hv;clear hv;go_in;go_wp2_with (at_builtin; refine uJ (F:=F) rfl _ _ 40 Tryz.underlying40 rfl none (fun _ h=>by cases h) v (dig n) rfl rfl HV.out hl ?_; intro u w3 hb3 hi3)
 go_ret;exact⟨_,rfl,hb3,hi3.limbs⟩
theorem uX (w:World) (F:Foot) (v:Value) (n:Nat) (hv:Ah w F v n) (hl:(dig n).length≤1000000) :
  Calls Tryz.prog 131 #[v] w (Ret w fun u w'=>Ah w' (fun b=>w.heap.size≤b) u n):=by
 have HV:=Lib.hid hv;obtain⟨A,c,rfl,hc,hr⟩:=hv;have hq:=fun w=>Lib.run_eql_slice_nil (P:=Tryz.prog) w 39 103 A (dig n).length c 0 0 Tryz.underlying39
 cases A with
 | none =>
  have hn:n=0:=by
   rcases Nat.eq_zero_or_pos n with h | h
   ·exact h
   ·obtain⟨b,off,hh,_⟩:=hr (bG.2 byOmega);cases hh
  have e:(dig n).length=0:=by rw[hn,bD];rfl
  rw[e] at hq ⊢;have H0:=Lib.hid hn;clear hr HV e hn;go_in;go_wp2
  go_ret;exact⟨_,rfl,Below.refl _ _,by rw[H0.out]; exact Ah.zero _ _ _ _⟩
 | some ad =>
  clear hr;go_in;go_wp2_with (at_builtin; refine uJ (F:=F) rfl _ _ 39 Tryz.underlying39 rfl (some ⟨w.heap.size,0,none⟩) (fun _ h=>⟨_,(Option.some.inj h).symm⟩) _ (dig n) rfl rfl (Aj.on HV.out (Same.alloc _ _ _)) hl ?_; intro u w3 hb3 hi3)
  go_ret;refine⟨_,rfl,((Below.refl _ w).alloc (Nat.le_refl _) _).trans (hb3.mono aB),?_⟩;exact Aj.keep hi3.limbs (fun b hb _=>by simp at hb; omega) (Same.refl _ _)
end Go.Proofs.YtnmeejofpkhlkaaGreatDoor
