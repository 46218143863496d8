/- Memory of natural numbers: slices of limbs. -/
import Derived.Test.YtnmeejofpkhlkaaGreatDoorR04
import Derived.Deep.AppendLies
set_option linter.all false
set_option maxRecDepth 100000
set_option maxHeartbeats 12800000
namespace Go.Proofs.YtnmeejofpkhlkaaGreatDoor
open Lib renaming hid → Ag
open Go.RowKit
def dB (w:World) (_:Foot) (b o:Nat) (x:Nat):Prop:=w.cell? ⟨b,o,none⟩=some (.int .u32 (x:Int))
def Aj (w:World) (F:Foot) (v:Value) (l:List Nat):Prop:=BN 1 dB w F v l
def Ah (w:World) (F:Foot) (v:Value) (n:Nat):Prop:=Aj w F v (dig n)
def Ext (F:Foot) (n:Nat):Foot:=fun b=>F b∨n≤b
theorem Aj.keep {w w':World} {F G:Foot} {v:Value} {l:List Nat} (h:Aj w F v l) (hFG:∀ b,F b→b < w.heap.size→G b) (hs:Same F w w'):Aj w' G v l :=
 BN.keep h hFG hs.size fun b o x _ hb hl hx=>by unfold dB at *; rw[hs.cell hb hl]; exact hx
theorem Aj.on {w w':World} {F:Foot} {v:Value} {l:List Nat} (h:Aj w F v l) (hs:Same F w w'):Aj w' F v l:=h.keep (fun _ h _=>h) hs
theorem Ah.keep {w w':World} {F G:Foot} {v:Value} {n:Nat} (h:Ah w F v n) (hFG:∀ b,F b→b < w.heap.size→G b) (hs:Same F w w'):Ah w' G v n:=Aj.keep h hFG hs
theorem Ah.on {w w':World} {F:Foot} {v:Value} {n:Nat} (h:Ah w F v n) (hs:Same F w w'):Ah w' F v n:=h.keep (fun _ h _=>h) hs
theorem Ah.below {w w':World} {F:Foot} {v:Value} {n:Nat} (h:Ah w F v n) (hb:Below w.heap.size w w'):Ah w' F v n:=h.on (Below.same' hb F)
theorem Ah.mono {w:World} {F G:Foot} {v:Value} {n:Nat} (h:Ah w F v n) (hFG:∀ b,F b→b < w.heap.size→G b):Ah w G v n:=h.keep hFG (Same.refl _ _)
theorem Ah.ext {w w':World} {F:Foot} {v:Value} {n m:Nat} (h:Ah w F v n) (hb:Below w.heap.size w w'):Ah w' (Ext F m) v n:=h.keep (fun _ h _=>.inl h) (Below.same' hb F)
theorem Ah.zero (w:World) (F:Foot) (A:Option Addr) (c:Nat):Ah w F (.slice A 0 c) 0:=by
 unfold Ah;rw[bD];exact⟨A,c,rfl,Nat.zero_le _,fun h=>absurd h aB⟩
abbrev aT (l:List Nat):List Value:=l.map fun x:Nat=>.int .u32 (x:Int)
theorem Row.limbs {w:World} {b:Nat} {t:TypeId} {l:List Nat} (h:Row w b t (aT l)) {F:Foot} (hF:F b) {n c:Nat} (hn:n≤l.length) (hc:n≤c):Aj w F (.slice (some ⟨b,0,none⟩) n c) (l.take n):=by
 have hl:(l.take n).length=n:=by rw[List.length_take];omega
 refine⟨some ⟨b,0,none⟩,c,by rw[hl],byOmega,fun _=>⟨b,0,rfl,hF,h.lt,fun k x hk=>?_⟩⟩;unfold dB;rw[Nat.mul_one,Nat.zero_add];refine h.cell ?_;have hk2:=lt_of_get hk;rw[List.getElem?_take_of_lt byOmega] at hk;simp[hk]
theorem aZ (l:List Nat) (k v:Nat):(aT l).set k (.int .u32 (v:Int))=aT (l.set k v):=by
 unfold aT;rw[List.map_set]
theorem aY {l:List Nat} {k x:Nat} (h:l[k]? = some x):(aT l)[k]? = some (.int .u32 (x:Int)):=by simp[aT,h]
theorem fD (n:Nat):aT (List.replicate n 0)=List.replicate n (.int .u32 0):=by simp[aT]
theorem Tryz.infoU32:(Tryz.prog.info? 103).map (fun i=>(i.zero,i.size,i.bytes))=some (some (.int .u32 0),1,4):=ah
theorem adE {w:World} {ops:Array Oper} {rest:List Oper} {o:Oper} {a:Act} {Q:Exit→Act→World→Prop} (hgd:o.guard=none) (s x:Operand) (t:TypeId) (ht:Tryz.prog.underlying t=some (.slice 103))
  (ho:o.op = .call { callee:=.builtin .append,args:=#[s,x],argTypes:=#[t,t] })
  (base:Nat) (v:Value) (l:List Nat) (hs:a.eval s=v) (hown:w.ownsRow base 103 1 v l.length (aT l))
  (B:Nat) (y:Nat) (hx:a.eval x = .slice (some ⟨B,0,none⟩) 1 1) (hB:w.heap[B]? = some (.cells #[.int .u32 (y:Int)] 103 (0,0))) (hlen:l.length≤1000000) (hbase:base≤w.heap.size)
  (h:∀ g cap w',w'.ownsRow base 103 1 (.slice (some ⟨g,0,none⟩) (l.length+1) cap) (l ++ [y]).length (aT (l ++ [y]))→w.grownBy w' v.ownBlock→(v.ownBlock=some g∨w.heap.size≤g)→g < w'.heap.size →
   wpList Tryz.prog ops Q rest (a.put o.dst (.slice (some ⟨g,0,none⟩) (l.length+1) cap)) w') :
  wpList Tryz.prog ops Q (o :: rest) a w:=by
 obtain⟨i0,hi,hz0,hz1,hz2⟩:=info_parts Tryz.infoU32;refine wpList_append_lies w hgd s x _ ho base _ i0 _ 1 4 ht hi hz0 hz1 hz2 rfl byOmega v l.length _ hs hown ⟨B,0,none⟩ 1 1 [.int .u32 (y:Int)] hx rfl (World.news_of_block hB) (by simp[Value.oneCell']) byOmega (by unfold maxLen; omega) byOmega hbase w.heap.size rfl ?_;intro g cap w' h1 h2 h3 h4;exact h g cap w' (by simpa [aT] using h1) h2 (h3.imp id fun e=>by omega) h4
theorem dW {w W:World} {ops:Array Oper} {rest:List Oper} {o:Oper} {a:Act} {Q:Exit→Act→World→Prop} (hgd:o.guard=none) (s x:Operand) (t:TypeId) (ht:Tryz.prog.underlying t=some (.slice 103))
  (ho:o.op = .call { callee:=.builtin .append,args:=#[s,x],argTypes:=#[t,t] })
  (base:Nat) (hbase:base≤W.heap.size) (v:Value) (l:List Nat) (hs:a.eval s=v) (yi:Int) (y:Nat) (hy:yi=(y:Int)) (hlen:l.length≤1000000)
  (hx:a.eval x = .slice (some ⟨w.heap.size,0,none⟩) 1 1) (hown:w.ownsRow base 103 1 v l.length (aT l)) (hbel:Below base W w)
  (h:∀ g cap w',w'.ownsRow base 103 1 (.slice (some ⟨g,0,none⟩) (l.length+1) cap) (l ++ [y]).length (aT (l ++ [y]))→Below base W w'→w.heap.size < w'.heap.size→w.grownBy w' v.ownBlock →
   wpList Tryz.prog ops Q rest (a.put o.dst (.slice (some ⟨g,0,none⟩) (l.length+1) cap)) w') :
  wpList Tryz.prog ops Q (o :: rest) a (w.alloc (.cells #[.int .u32 yi] 103)):=by
 subst hy;have hz:=hbel.size;refine adE hgd s x t ht ho base v l hs (hown.alloc _) w.heap.size y hx (heap_alloc_new _ _) hlen aF ?_;intro g cap w' h1 h2 h3 h4;have h5:=h2.size;simp only[World.size_alloc] at h5;refine h g cap w' h1 ((hbel.alloc byOmega _).grown h2 aF (fun k hk=>(hown.lt k hk).1)) byOmega ?_;exact⟨h2.os,h2.tape,h2.output,byOmega,fun k hk hne=>(h2.block k aF hne).trans (Below.heap_alloc _ _ _ hk)⟩
theorem aa9 {w:World} {ops:Array Oper} {rest:List Oper} {o:Oper} {a:Act} {Q:Exit→Act→World→Prop}
  (hg:o.guard=none) (l c:Operand) (t:TypeId) (hop:o.op=Op.makeSlice t l c) (ht:Tryz.prog.underlying t=some (.slice 103))
  (n:Nat) (ci:Int) (hci:ci=(n:Int)) (hl:a.eval l = .int .i64 0) (hc:a.eval c = .int .i64 ci) (hn:n≤1000000)
  (hK:∀ w1,Below w.heap.size w w1→w1.ownsRow w.heap.size 103 1 (.slice (some ⟨w.heap.size,0,none⟩) 0 n) 0 [] →
   wpList Tryz.prog ops Q rest (a.put o.dst (.slice (some ⟨w.heap.size,0,none⟩) 0 n)) w1) :
  wpList Tryz.prog ops Q (o :: rest) a w:=by
 subst hci;refine wpList_plain hg fun K hK'=>?_
 obtain⟨i0,hi,hz0,hz1,hz2⟩:=info_parts Tryz.infoU32;obtain⟨w1,hrun,hown,hgr⟩:=run_make_own (P:=Tryz.prog) w w.heap.size t 103 i0 _ 1 ht hi hz0 hz1 .i64 .i64 n (by rw[hz2]; omega) (by unfold maxLen; omega) (Nat.le_refl _);unfold Oper.wp;simp[execOp,hop,hl,hc,hrun,Result.andThen];exact hK' _ _ (hK _ ((Below.refl _ w).grown hgr (Nat.le_refl _) (fun k hk=>by cases hk)) hown)
theorem jG {w:World} {base:Nat} {t:TypeId} {v:Value} {l:List Nat} (h:w.ownsRow base t 1 v l.length (aT l)) {F:Foot} (hF:∀ b,v.ownBlock=some b→F b):Aj w F v l:=by
 rcases h.2 with⟨rfl,h0⟩ | ⟨g,cap,cur,rfl,hb,hg,hnc,_,hsz,htake⟩
 ·have:l = []:=List.eq_nil_of_length_eq_zero h0;subst this;exact Yv
 ·refine⟨_,cap,rfl,hnc,fun _=>⟨g,0,rfl,hF g rfl,(Array.getElem?_eq_some_iff.1 hg).1,fun k x hk=>?_⟩⟩;unfold dB;rw[Nat.mul_one,Nat.zero_add];have hi:(aT l)[k]? = some (.int .u32 (x:Int)):=aY hk;rw[← htake,List.getElem?_take] at hi;split at hi
  ·simp[World.cell?,hg];simpa using hi
  ·cases hi
def sliceLen (v:Value):Nat:=match v with | .slice _ n _=>n | _=>0
theorem rV {l:List Nat} {k x:Nat} (h:l[k]? = some x):dP l (k+1)=if x=0 then dP l k else k+1:=by
 rw[dP];rw[h];simp
theorem Aj.trim {w:World} {F:Foot} {A:Option Addr} {n c:Nat} {l:List Nat} (hn:l.length=n) (h:Aj w F (.slice A n c) l) (hl:Limbs l):Ah w F (.slice A (dP l n) c) (aH l):=by
 subst hn;obtain⟨A',c',he,hc,hN⟩:=h;injection he with h1 h2 h3;subst h1;subst h3
 have e:=adr hl;have hle:=abt l l.length;have hlen:(dig (aH l)).length=dP l l.length:=by rw[← e,List.length_take];omega
 refine⟨A,c,by rw[hlen],byOmega,fun h0=>?_⟩;obtain⟨b,o,rfl,hF,hb,hx⟩:=hN byOmega;refine⟨b,o,rfl,hF,hb,fun k x hk=>hx k x ?_⟩;rw[← e] at hk;have hk2:=lt_of_get hk;rw[List.length_take] at hk2;rwa [List.getElem?_take_of_lt byOmega] at hk
theorem oh (w:World) (F:Foot) (A:Option Addr) (n c:Nat) (l:List Nat) (hn:l.length=n) (hv:Aj w F (.slice A n c) l) (hl:n≤1000000) :
  Calls Tryz.prog 161 #[.slice A n c] w fun e w'=>e = .returned (.slice A (dP l n) c)∧w=w':=by
 subst hn;obtain⟨A',c',he,hc,hN⟩:=hv;injection he with h1 h2 h3;subst h1;subst h3
 have HN:=Ag hN;clear hN h2;go_in;go_wp2
 go_loop [0] (fun a=>∃ k:Nat,k≤l.length∧a = .slice A k c∧dP l k=dP l l.length) (fun a=>sliceLen a)
 case atStart=>exact⟨l.length,Nat.le_refl _,rfl,rfl⟩
 case round =>
  obtain⟨k,hk,rfl,ht⟩:=hrel;have HT:=Ag ht;clear ht;rcases Nat.eq_zero_or_pos k with h0 | h0
  ·exact zbK
  ·obtain⟨j,rfl⟩:∃ j,k=j+1:=⟨k - 1,byOmega⟩;obtain⟨b,o,rfl,_,hb,hx⟩:=HN.out byOmega;obtain⟨x,hx'⟩:=getSome (l:=l) (k:=j) byOmega;have ex:=hx j x hx';unfold dB at ex;rw[Nat.mul_one] at ex;have HS:=Ag (rV hx');clear hx hx';by_cases hz:x=0
   ·subst hz;go_wp2
    go_round
    case rel=>exact⟨j,byOmega,rfl,by rw[← HT.out,HS.out,if_pos rfl]⟩
    case measure=>simp[sliceLen]
   ·exact YS
theorem uf (w:World) (F:Foot) (A:Option Addr) (n c:Nat) (l:List Nat) (hn:l.length=n) (hv:Aj w F (.slice A n c) l) (hl:n≤1000000) :
  Calls Tryz.prog 210 #[.slice A n c] w fun e w'=>e = .returned (.slice A (dP l n) c)∧w=w':=by
 subst hn;obtain⟨A',c',he,hc,hN⟩:=hv;injection he with h1 h2 h3;subst h1;subst h3
 have HN:=Ag hN;clear hN h2;go_in;go_wp2
 go_loop [0] (fun a=>∃ k:Nat,k≤l.length∧a = .slice A k c∧dP l k=dP l l.length) (fun a=>sliceLen a)
 case atStart=>exact⟨l.length,Nat.le_refl _,rfl,rfl⟩
 case round =>
  obtain⟨k,hk,rfl,ht⟩:=hrel;have HT:=Ag ht;clear ht;rcases Nat.eq_zero_or_pos k with h0 | h0
  ·exact zbK
  ·obtain⟨j,rfl⟩:∃ j,k=j+1:=⟨k - 1,byOmega⟩;obtain⟨b,o,rfl,_,hb,hx⟩:=HN.out byOmega;obtain⟨x,hx'⟩:=getSome (l:=l) (k:=j) byOmega;have ex:=hx j x hx';unfold dB at ex;rw[Nat.mul_one] at ex;have HS:=Ag (rV hx');clear hx hx';by_cases hz:x=0
   ·subst hz;go_wp2
    go_round
    case rel=>exact⟨j,byOmega,rfl,by rw[← HT.out,HS.out,if_pos rfl]⟩
    case measure=>simp[sliceLen]
   ·exact YS
theorem kH (w:World) (F:Foot) (A:Option Addr) (n c:Nat) (l:List Nat) (hn:l.length=n) (hv:Aj w F (.slice A n c) l) (hl:n≤1000000) :
  Calls Tryz.prog 110 #[.slice A n c] w fun e w'=>e = .returned (.slice A (dP l n) c)∧w=w':=by
 subst hn;obtain⟨A',c',he,hc,hN⟩:=hv;injection he with h1 h2 h3;subst h1;subst h3
 have HN:=Ag hN;clear hN h2;go_in;go_wp2
 go_loop [0] (fun a=>∃ k:Nat,k≤l.length∧a = .slice A k c∧dP l k=dP l l.length) (fun a=>sliceLen a)
 case atStart=>exact⟨l.length,Nat.le_refl _,rfl,rfl⟩
 case round =>
  obtain⟨k,hk,rfl,ht⟩:=hrel;have HT:=Ag ht;clear ht;rcases Nat.eq_zero_or_pos k with h0 | h0
  ·exact zbK
  ·obtain⟨j,rfl⟩:∃ j,k=j+1:=⟨k - 1,byOmega⟩;obtain⟨b,o,rfl,_,hb,hx⟩:=HN.out byOmega;obtain⟨x,hx'⟩:=getSome (l:=l) (k:=j) byOmega;have ex:=hx j x hx';unfold dB at ex;rw[Nat.mul_one] at ex;have HS:=Ag (rV hx');clear hx hx';by_cases hz:x=0
   ·subst hz;go_wp2
    go_round
    case rel=>exact⟨j,byOmega,rfl,by rw[← HT.out,HS.out,if_pos rfl]⟩
    case measure=>simp[sliceLen]
   ·exact YS
theorem jZ (w:World) (F:Foot) (v:Value) (n:Nat) (hv:Ah w F v n) (hl:(dig n).length≤1000000) :
  Calls Tryz.prog 160 #[v] w fun e w'=>e = .returned (.bool (decide (n=1)))∧w=w':=by
 obtain⟨A,c,rfl,hc,hN⟩:=hv;have HN:=Ag hN;clear hN;by_cases h1:(dig n).length=1
 ·obtain⟨b,o,rfl,_,hb,hx⟩:=HN.out byOmega;obtain⟨x,hx'⟩:=getSome (l:=dig n) (k:=0) byOmega;have ex:=hx 0 x hx';unfold dB at ex;simp only[Nat.zero_mul,Nat.add_zero] at ex;have HD:=Ag (show decide (n=1)=decide (x=1) by
   rw[decide_eq_decide,← zT];obtain⟨y,hy⟩:=List.length_eq_one_iff.1 h1;rw[hy] at hx' ⊢;simp at hx';simp[hx'])
  rw[h1];clear hx hx' hc;by_cases h2:x=1
  ·subst h2;go_in;go_wp2
   go_ret;exact⟨by rw[HD.out]; rfl,rfl⟩
  ·exact zbg
 ·exact zak
theorem lW (w:World) (F:Foot) (v:Value) (n:Nat) (hv:Ah w F v n) (hl:(dig n).length≤1000000) :
  Calls Tryz.prog 156 #[v] w fun e w'=>e = .returned (.bool (decide (n=1)))∧w=w':=by
 obtain⟨A,c,rfl,hc,hN⟩:=hv;have HN:=Ag hN;clear hN;by_cases h1:(dig n).length=1
 ·obtain⟨b,o,rfl,_,hb,hx⟩:=HN.out byOmega;obtain⟨x,hx'⟩:=getSome (l:=dig n) (k:=0) byOmega;have ex:=hx 0 x hx';unfold dB at ex;simp only[Nat.zero_mul,Nat.add_zero] at ex;have HD:=Ag (show decide (n=1)=decide (x=1) by
   rw[decide_eq_decide,← zT];obtain⟨y,hy⟩:=List.length_eq_one_iff.1 h1;rw[hy] at hx' ⊢;simp at hx';simp[hx'])
  rw[h1];clear hx hx' hc;by_cases h2:x=1
  ·subst h2;go_in;go_wp2
   go_ret;exact⟨by rw[HD.out]; rfl,rfl⟩
  ·exact zbg
 ·exact zak
theorem aak (w:World) (F:Foot) (v:Value) (n:Nat) (hv:Ah w F v n) (hl:(dig n).length≤2) :
  Calls Tryz.prog 172 #[v] w fun e w'=>e = .returned (.int .u64 (n:Int))∧w=w':=by
 obtain⟨A,c,rfl,hc,hN⟩:=hv;have HN:=Ag hN;clear hN;go_in;go_wp2
 go_loop [3,4] (fun m i=>∃ k:Nat,k≤(dig n).length∧i = .int .i64 ((k:Int) - 1)∧m = .int .u64 (aH ((dig n).drop k):Int)) (fun _ i=>(intOf i+1).toNat)
 case atStart=>exact⟨(dig n).length,Nat.le_refl _,rfl,by rw[List.drop_length]; rfl⟩
 case round =>
  obtain⟨k,hk,rfl,rfl⟩:=hrel;rcases Nat.eq_zero_or_pos k with h0 | h0
  ·exact zaH
  ·obtain⟨j,rfl⟩:∃ j,k=j+1:=⟨k - 1,byOmega⟩;obtain⟨b,o,rfl,_,hb,hx⟩:=HN.out byOmega;obtain⟨x,hx'⟩:=getSome (l:=dig n) (k:=j) byOmega;have ex:=hx j x hx';unfold dB at ex;rw[Nat.mul_one] at ex;have HS:=Ag (show aH ((dig n).drop j)=x+LB*aH ((dig n).drop (j+1)) by rw[bM,aN hx']);have hxl:x < 1000000000:=(aP n).get hx';have hm:aH ((dig n).drop (j+1)) < 1000000000:=by
    exact zau
   clear hx hx';generalize aH ((dig n).drop (j+1))=m at *;refine Z9 ?_;go_wp2
   go_round
   case rel=>exact⟨j,byOmega,by go_num,by rw[HS.out]; simp; omega⟩
   case measure=>simp[intOf]
theorem oq (w:World) (F:Foot) (v:Value) (n:Nat) (hv:Ah w F v n) (hl:(dig n).length≤2) :
  Calls Tryz.prog 155 #[v] w fun e w'=>e = .returned (.int .u64 (n:Int))∧w=w':=by
 obtain⟨A,c,rfl,hc,hN⟩:=hv;have HN:=Ag hN;clear hN;go_in;go_wp2
 go_loop [3,4] (fun m i=>∃ k:Nat,k≤(dig n).length∧i = .int .i64 ((k:Int) - 1)∧m = .int .u64 (aH ((dig n).drop k):Int)) (fun _ i=>(intOf i+1).toNat)
 case atStart=>exact⟨(dig n).length,Nat.le_refl _,rfl,by rw[List.drop_length]; rfl⟩
 case round =>
  obtain⟨k,hk,rfl,rfl⟩:=hrel;rcases Nat.eq_zero_or_pos k with h0 | h0
  ·exact zaH
  ·obtain⟨j,rfl⟩:∃ j,k=j+1:=⟨k - 1,byOmega⟩;obtain⟨b,o,rfl,_,hb,hx⟩:=HN.out byOmega;obtain⟨x,hx'⟩:=getSome (l:=dig n) (k:=j) byOmega;have ex:=hx j x hx';unfold dB at ex;rw[Nat.mul_one] at ex;have HS:=Ag (show aH ((dig n).drop j)=x+LB*aH ((dig n).drop (j+1)) by rw[bM,aN hx']);have hxl:x < 1000000000:=(aP n).get hx';have hm:aH ((dig n).drop (j+1)) < 1000000000:=by
    exact zau
   clear hx hx';generalize aH ((dig n).drop (j+1))=m at *;refine Z9 ?_;go_wp2
   go_round
   case rel=>exact⟨j,byOmega,by go_num,by rw[HS.out]; simp; omega⟩
   case measure=>simp[intOf]
theorem qQ (w:World) (n:Nat) (hn:n < 18446744073709551616) :
  Calls Tryz.prog 128 #[.int .u64 (n:Int)] w (Ret w fun v w'=>Ah w' (fun b=>w.heap.size≤b) v n):=by
 go_in;go_wp2
 go_loopw [0,3] (fun u v wr=>∃ (m:Nat) (l:List Nat),u = .int .u64 (m:Int)∧m≤n∧l++dig m=dig n∧wr.ownsRow w.heap.size 103 1 v l.length (aT l)∧Below w.heap.size w wr) (fun u _ _=>(intOf u).toNat)
 case atStart=>exact⟨n,[],rfl,Nat.le_refl _,rfl,World.ownsRow_nil _ _ _ _,Below.refl _ _⟩
 case round =>
  obtain⟨m,l,rfl,hm,hd,hown,hbel⟩:=hrel;have HD:=Ag hd;have HO:=Ag hown;have hll:l.length≤1000000:=by
   exact zcn
  clear hd hown;rcases Nat.eq_zero_or_pos m with h0 | h0
  ·exact Yz
  ·have HD2:=Ag (show l ++ [m % 1000000000]++dig (m / 1000000000)=dig n by rw[← HD.out,kU (by omega:m≠0)]; simp);go_wp2_with (at_builtin; refine dW rfl _ _ 39 Tryz.underlying39 rfl w.heap.size (Nat.le_refl _) _ l rfl _ (m % 1000000000) byOmega hll rfl HO.out hbel ?_; intro g cap w' hown' fQ hlt' lg; have HO':=Ag hown'; clear hown' lg)
   go_roundw
   case rel=>exact⟨m / 1000000000,l ++ [m % 1000000000],by go_num,byOmega,HD2.out,by simpa using HO'.out,fQ⟩
   case measure=>simp[intOf]; omega
theorem acy (w:World) (n:Nat) (hn:n < 18446744073709551616) :
  Calls Tryz.prog 180 #[.int .u64 (n:Int)] w (Ret w fun v w'=>Ah w' (fun b=>w.heap.size≤b) v n):=by
 go_in;go_wp2
 go_loopw [0,3] (fun u v wr=>∃ (m:Nat) (l:List Nat),u = .int .u64 (m:Int)∧m≤n∧l++dig m=dig n∧wr.ownsRow w.heap.size 103 1 v l.length (aT l)∧Below w.heap.size w wr) (fun u _ _=>(intOf u).toNat)
 case atStart=>exact⟨n,[],rfl,Nat.le_refl _,rfl,World.ownsRow_nil _ _ _ _,Below.refl _ _⟩
 case round =>
  obtain⟨m,l,rfl,hm,hd,hown,hbel⟩:=hrel;have HD:=Ag hd;have HO:=Ag hown;have hll:l.length≤1000000:=by
   exact zcn
  clear hd hown;rcases Nat.eq_zero_or_pos m with h0 | h0
  ·exact Yz
  ·have HD2:=Ag (show l ++ [m % 1000000000]++dig (m / 1000000000)=dig n by rw[← HD.out,kU (by omega:m≠0)]; simp);go_wp2_with (at_builtin; refine dW rfl _ _ 40 Tryz.underlying40 rfl w.heap.size (Nat.le_refl _) _ l rfl _ (m % 1000000000) byOmega hll rfl HO.out hbel ?_; intro g cap w' hown' fQ hlt' lg; have HO':=Ag hown'; clear hown' lg)
   go_roundw
   case rel=>exact⟨m / 1000000000,l ++ [m % 1000000000],by go_num,byOmega,HD2.out,by simpa using HO'.out,fQ⟩
   case measure=>simp[intOf]; omega
theorem acz (w:World) (x:Int):Calls Tryz.prog 188 #[.int .i64 x] w fun e w'=>e = .returned (.bool false)∧w'=w:=by
 have h:(x != x)=false:=aB;exact zat
theorem yM (w:World) (x y:Nat):Calls Tryz.prog 158 #[.int .i64 (x:Int),.int .i64 (y:Int)] w fun e w'=>e = .returned (.int .i64 (bZ x y))∧w'=w:=by
 rcases Nat.lt_trichotomy x y with h | h | h
 ·have HO:=Ag (show bZ x y = -1 by unfold bZ; rw[if_pos h]);exact YN
 ·have HO:=Ag (show bZ x y=0 by unfold bZ; rw[if_neg byOmega,if_pos h]);have h1:x≤y:=byOmega;have h2:y≤x:=byOmega;clear h;exact YN
 ·have HO:=Ag (show bZ x y=1 by unfold bZ; rw[if_neg byOmega,if_neg byOmega]);exact YN
theorem uT (w:World) (x:Int):Calls Tryz.prog 189 #[.int .u32 x] w fun e w'=>e = .returned (.bool false)∧w'=w:=by
 have h:(x != x)=false:=aB;exact zat
theorem rW (w:World) (x y:Nat):Calls Tryz.prog 159 #[.int .u32 (x:Int),.int .u32 (y:Int)] w fun e w'=>e = .returned (.int .i64 (bZ x y))∧w'=w:=by
 rcases Nat.lt_trichotomy x y with h | h | h
 ·have HO:=Ag (show bZ x y = -1 by unfold bZ; rw[if_pos h]);exact YP
 ·have HO:=Ag (show bZ x y=0 by unfold bZ; rw[if_neg byOmega,if_pos h]);have h1:x≤y:=byOmega;have h2:y≤x:=byOmega;clear h;exact YP
 ·have HO:=Ag (show bZ x y=1 by unfold bZ; rw[if_neg byOmega,if_neg byOmega]);exact YP
theorem adF {P:Program} {f:FuncId} {args:Array Value} {w:World} {a n:Nat} {v:Value}
  (h:Calls P f args (w.drewN (a+n)) fun e w'=>e = .returned v∧w'=w.drewN (a+n)) :
  Calls P f args (w.drewN (a+n)) fun e w''=>e = .returned v∧∃ m,w''=w.drewN (a+m) :=
 h.mono fun _ _ ⟨he,hm⟩=>⟨he,n,hm⟩
theorem iy {a b:Nat} (h:a < b):bZ a b = -1:=by unfold bZ; rw[if_pos h]
theorem acA (a:Nat):bZ a a=0:=by unfold bZ; simp
theorem lq {a b:Nat} (h:b < a):bZ a b=1:=by unfold bZ; rw[if_neg byOmega,if_neg byOmega]
theorem jd (w:World) (F:Foot) (va vb:Value) (a b:Nat) (ha:Ah w F va a) (hb:Ah w F vb b) (hla:(dig a).length≤1000000) (hlb:(dig b).length≤1000000) :
  Calls Tryz.prog 120 #[va,vb] w fun e w'=>e = .returned (.int .i64 (bZ a b))∧∃ n,w'=w.drewN n:=by
 obtain⟨A,c,rfl,hc,hNa⟩:=ha;obtain⟨B,d,rfl,hd,hNb⟩:=hb;have HA:=Ag hNa;have HB:=Ag hNb;clear hNa hNb;by_cases hlen:(dig a).length=(dig b).length
 ·have HL:=Ag hlen;rw[← hlen] at hd hlb ⊢;clear hlen;go_in;go_wp2
  go_loopw [5] (fun i wr=>∃ (k q:Nat),k≤(dig a).length∧i = .int .i64 ((k:Int) - 1)∧(dig a).drop k=(dig b).drop k∧wr=w.drewN q) (fun i _=>(intOf i+1).toNat)
  case atStart=>exact⟨(dig a).length,0,Nat.le_refl _,rfl,by rw[List.drop_length,HL.out,List.drop_length],rfl⟩
  case round =>
   obtain⟨k,q,hk,rfl,hdr,rfl⟩:=hrel;have HD:=Ag hdr;clear hdr;rcases Nat.eq_zero_or_pos k with h0 | h0
   ·subst h0;have HE:=Ag (show bZ a b=0 by
     have:=HD.out; rw[List.drop_zero,List.drop_zero] at this;rw[tN this]; exact acA b)
    exact zct
   ·obtain⟨j,rfl⟩:∃ j,k=j+1:=⟨k - 1,byOmega⟩;obtain⟨b1,o1,rfl,_,hb1,hx⟩:=HA.out byOmega;have HL2:=HL.out;obtain⟨b2,o2,rfl,_,hb2,hy⟩:=HB.out byOmega;refine zbi ?_;intro x hx' y hy' ex ey;unfold dB at ex ey;rw[Nat.mul_one] at ex ey;refine zck ?_;clear hx hx' hy hy' HL2;intro hxl hyl HX HY;rcases Nat.lt_trichotomy x y with h | h | h
    ·have HE:=Ag (iy (jl HL.out HD.out HX.out HY.out h));have hne:((x:Int) != (y:Int))=true:=aF;have HO:=Ag (show bZ x y=bZ a b by rw[HE.out]; first | exact iy h | exact lq h);go_wp2
     go_quiet (fail)
     go_wp2
     go_quiet ((go_at_call 159; exact adF (rW _ _ _)))
     exact zbp
    ·subst h;have HE:=Ag (qH HD.out HX.out HY.out);have hne:((x:Int) != (x:Int))=false:=aB;go_wp2
     go_quiet (fail)
     go_wp2
     go_roundw
     case rel=>exact⟨j,_,byOmega,by go_num,HE.out,rfl⟩
     case measure=>simp[intOf]
    ·have HE:=Ag (lq (jl HL.out.symm HD.out.symm HY.out HX.out h));have hne:((x:Int) != (y:Int))=true:=aF;have HO:=Ag (show bZ x y=bZ a b by rw[HE.out]; first | exact iy h | exact lq h);go_wp2
     go_quiet (fail)
     go_wp2
     go_quiet ((go_at_call 159; exact adF (rW _ _ _)))
     exact zbp
 ·have hne:(((dig a).length:Int) != ((dig b).length:Int))=true:=aF;rcases Nat.lt_or_gt_of_ne hlen with h | h
  ·have HE:=Ag (iy (lS h));have HE2:=Ag (iy h);clear hlen;go_in;go_wp2_with (go_at_call 158; ((with_reducible refine(yM _ _ _).mono ?_); rintro e w' ⟨rfl,rfl⟩))
   exact Yw
  ·have HE:=Ag (lq (lS h));have HE2:=Ag (lq h);have hnlt:decide ((dig a).length < (dig b).length)=false:=decide_eq_false byOmega;clear hlen;go_in;go_wp2_with (go_at_call 158; ((with_reducible refine(yM _ _ _).mono ?_); rintro e w' ⟨rfl,rfl⟩))
   exact Yw
theorem wF (w:World) (F:Foot) (va vb:Value) (a b:Nat) (ha:Ah w F va a) (hb:Ah w F vb b) (hla:(dig a).length≤1000000) (hlb:(dig b).length≤1000000) :
  Calls Tryz.prog 182 #[va,vb] w fun e w'=>e = .returned (.int .i64 (bZ a b))∧∃ n,w'=w.drewN n:=by
 obtain⟨A,c,rfl,hc,hNa⟩:=ha;obtain⟨B,d,rfl,hd,hNb⟩:=hb;have HA:=Ag hNa;have HB:=Ag hNb;clear hNa hNb;by_cases hlen:(dig a).length=(dig b).length
 ·have HL:=Ag hlen;rw[← hlen] at hd hlb ⊢;clear hlen;go_in;go_wp2
  go_loopw [5] (fun i wr=>∃ (k q:Nat),k≤(dig a).length∧i = .int .i64 ((k:Int) - 1)∧(dig a).drop k=(dig b).drop k∧wr=w.drewN q) (fun i _=>(intOf i+1).toNat)
  case atStart=>exact⟨(dig a).length,0,Nat.le_refl _,rfl,by rw[List.drop_length,HL.out,List.drop_length],rfl⟩
  case round =>
   obtain⟨k,q,hk,rfl,hdr,rfl⟩:=hrel;have HD:=Ag hdr;clear hdr;rcases Nat.eq_zero_or_pos k with h0 | h0
   ·subst h0;have HE:=Ag (show bZ a b=0 by
     have:=HD.out; rw[List.drop_zero,List.drop_zero] at this;rw[tN this]; exact acA b)
    exact zct
   ·obtain⟨j,rfl⟩:∃ j,k=j+1:=⟨k - 1,byOmega⟩;obtain⟨b1,o1,rfl,_,hb1,hx⟩:=HA.out byOmega;have HL2:=HL.out;obtain⟨b2,o2,rfl,_,hb2,hy⟩:=HB.out byOmega;refine zbi ?_;intro x hx' y hy' ex ey;unfold dB at ex ey;rw[Nat.mul_one] at ex ey;refine zck ?_;clear hx hx' hy hy' HL2;intro hxl hyl HX HY;rcases Nat.lt_trichotomy x y with h | h | h
    ·have HE:=Ag (iy (jl HL.out HD.out HX.out HY.out h));skip;go_wp2
     go_quiet (fail)
     skip
     exact YO
    ·subst h;have HE:=Ag (qH HD.out HX.out HY.out);skip;go_wp2
     go_quiet (fail)
     go_wp2
     go_quiet (fail)
     go_wp2
     go_roundw
     case rel=>exact⟨j,_,byOmega,by go_num,HE.out,rfl⟩
     case measure=>simp[intOf]
    ·have HE:=Ag (lq (jl HL.out.symm HD.out.symm HY.out HX.out h));skip;go_wp2
     go_quiet (fail)
     go_wp2
     go_quiet (fail)
     exact YO
 ·have hne:(((dig a).length:Int) != ((dig b).length:Int))=true:=aF;rcases Nat.lt_or_gt_of_ne hlen with h | h
  ·have HE:=Ag (iy (lS h));have HE2:=Ag (iy h);clear hlen;go_in;go_wp2
   exact Yw
  ·exact zaP
theorem afa (w:World) (F:Foot) (va vb:Value) (a b:Nat) (ha:Ah w F va a) (hb:Ah w F vb b) (hla:(dig a).length≤1000000) (hlb:(dig b).length≤1000000) :
  Calls Tryz.prog 55 #[va,vb] w fun e w'=>e = .returned (.int .i64 (bZ a b))∧∃ n,w'=w.drewN n:=by
 obtain⟨A,c,rfl,hc,hNa⟩:=ha;obtain⟨B,d,rfl,hd,hNb⟩:=hb;have HA:=Ag hNa;have HB:=Ag hNb;clear hNa hNb;by_cases hlen:(dig a).length=(dig b).length
 ·have HL:=Ag hlen;rw[← hlen] at hd hlb ⊢;clear hlen;go_in;go_wp2
  go_loopw [5] (fun i wr=>∃ (k q:Nat),k≤(dig a).length∧i = .int .i64 ((k:Int) - 1)∧(dig a).drop k=(dig b).drop k∧wr=w.drewN q) (fun i _=>(intOf i+1).toNat)
  case atStart=>exact⟨(dig a).length,0,Nat.le_refl _,rfl,by rw[List.drop_length,HL.out,List.drop_length],rfl⟩
  case round =>
   obtain⟨k,q,hk,rfl,hdr,rfl⟩:=hrel;have HD:=Ag hdr;clear hdr;rcases Nat.eq_zero_or_pos k with h0 | h0
   ·subst h0;have HE:=Ag (show bZ a b=0 by
     have:=HD.out; rw[List.drop_zero,List.drop_zero] at this;rw[tN this]; exact acA b)
    exact zct
   ·obtain⟨j,rfl⟩:∃ j,k=j+1:=⟨k - 1,byOmega⟩;obtain⟨b1,o1,rfl,_,hb1,hx⟩:=HA.out byOmega;have HL2:=HL.out;obtain⟨b2,o2,rfl,_,hb2,hy⟩:=HB.out byOmega;refine zbi ?_;intro x hx' y hy' ex ey;unfold dB at ex ey;rw[Nat.mul_one] at ex ey;refine zck ?_;clear hx hx' hy hy' HL2;intro hxl hyl HX HY;rcases Nat.lt_trichotomy x y with h | h | h
    ·have HE:=Ag (iy (jl HL.out HD.out HX.out HY.out h));skip;go_wp2
     go_quiet (fail)
     skip
     exact YO
    ·subst h;have HE:=Ag (qH HD.out HX.out HY.out);skip;go_wp2
     go_quiet (fail)
     go_wp2
     go_quiet (fail)
     go_wp2
     go_roundw
     case rel=>exact⟨j,_,byOmega,by go_num,HE.out,rfl⟩
     case measure=>simp[intOf]
    ·have HE:=Ag (lq (jl HL.out.symm HD.out.symm HY.out HX.out h));skip;go_wp2
     go_quiet (fail)
     go_wp2
     go_quiet (fail)
     exact YO
 ·have hne:(((dig a).length:Int) != ((dig b).length:Int))=true:=aF;rcases Nat.lt_or_gt_of_ne hlen with h | h
  ·have HE:=Ag (iy (lS h));have HE2:=Ag (iy h);clear hlen;go_in;go_wp2
   exact Yw
  ·exact zaP
structure Raw where
 neg:Bool
 num:List Nat
 den:List Nat
 deriving Inhabited,DecidableEq
def Ak (w:World) (F:Foot) (v:Value) (r:Raw):Prop:=∃ vn vd,v = .agg #[.bool r.neg,vn,vd]∧Aj w F vn r.num∧Aj w F vd r.den
theorem Ak.keep {w w':World} {F G:Foot} {v:Value} {r:Raw} (h:Ak w F v r) (hFG:∀ b,F b→b < w.heap.size→G b) (hs:Same F w w'):Ak w' G v r:=by
 obtain⟨vn,vd,rfl,h1,h2⟩:=h;exact⟨vn,vd,rfl,h1.keep hFG hs,h2.keep hFG hs⟩
theorem Ak.on {w w':World} {F:Foot} {v:Value} {r:Raw} (h:Ak w F v r) (hs:Same F w w'):Ak w' F v r:=h.keep (fun _ h _=>h) hs
theorem Ak.below {w w':World} {F:Foot} {v:Value} {r:Raw} (h:Ak w F v r) (hb:Below w.heap.size w w'):Ak w' F v r:=h.on (Below.same' hb F)
theorem Ak.mono {w:World} {F G:Foot} {v:Value} {r:Raw} (h:Ak w F v r) (hFG:∀ b,F b→b < w.heap.size→G b):Ak w G v r:=h.keep hFG (Same.refl _ _)
def Dw (w:World) (F:Foot) (b o:Nat) (r:Raw):Prop:=w.cell? ⟨b,o,none⟩=some (.bool r.neg)∧xJ Aj w F b (o+1) r.num∧xJ Aj w F b (o+2) r.den
theorem uH {w w':World} {F G:Foot} {b o:Nat} {l:List Nat} (h:xJ Aj w F b o l) (hFG:∀ b,F b→b < w.heap.size→G b) (hs:Same F w w') (hb:F b) (hl:b < w.heap.size):xJ Aj w' G b o l:=by
 exact zaX
theorem Dw.keep {w w':World} {F G:Foot} {b o:Nat} {r:Raw} (h:Dw w F b o r) (hFG:∀ b,F b→b < w.heap.size→G b) (hs:Same F w w') (hb:F b) (hl:b < w.heap.size):Dw w' G b o r :=
 ⟨by rw[hs.cell hb hl]; exact h.1,uH h.2.1 hFG hs hb hl,uH h.2.2 hFG hs hb hl⟩
def RawsAt (w:World) (F:Foot) (v:Value) (l:List Raw):Prop:=BN 3 Dw w F v l
theorem RawsAt.keep {w w':World} {F G:Foot} {v:Value} {l:List Raw} (h:RawsAt w F v l) (hFG:∀ b,F b→b < w.heap.size→G b) (hs:Same F w w'):RawsAt w' G v l :=
 BN.keep h hFG hs.size fun _ _ _ _ hb hl hx=>hx.keep hFG hs hb hl
theorem RawsAt.on {w w':World} {F:Foot} {v:Value} {l:List Raw} (h:RawsAt w F v l) (hs:Same F w w'):RawsAt w' F v l:=h.keep (fun _ h _=>h) hs
theorem RawsAt.nil (w:World) (F:Foot):RawsAt w F (.slice none 0 0) []:=⟨none,0,rfl,Nat.le_refl _,fun h=>absurd h aB⟩
def RawRowsAt (w:World) (F:Foot) (v:Value) (l:List (List Raw)):Prop:=BN 1 (xJ RawsAt) w F v l
theorem acB {w w':World} {F G:Foot} {b o:Nat} {l:List Raw} (h:xJ RawsAt w F b o l) (hFG:∀ b,F b→b < w.heap.size→G b) (hs:Same F w w') (hb:F b) (hl:b < w.heap.size):xJ RawsAt w' G b o l:=by
 exact zaX
theorem RawRowsAt.keep {w w':World} {F G:Foot} {v:Value} {l:List (List Raw)} (h:RawRowsAt w F v l) (hFG:∀ b,F b→b < w.heap.size→G b) (hs:Same F w w'):RawRowsAt w' G v l :=
 BN.keep h hFG hs.size fun _ _ _ _ hb hl hx=>acB hx hFG hs hb hl
theorem RawRowsAt.on {w w':World} {F:Foot} {v:Value} {l:List (List Raw)} (h:RawRowsAt w F v l) (hs:Same F w w'):RawRowsAt w' F v l:=h.keep (fun _ h _=>h) hs
theorem RawRowsAt.nil (w:World) (F:Foot):RawRowsAt w F (.slice none 0 0) []:=⟨none,0,rfl,Nat.le_refl _,fun h=>absurd h aB⟩
def aG (x:Rat):Raw:=⟨dF x,dig x.num.natAbs,dig x.den⟩
def au (x:Rat):Raw:=⟨dF x,dig x.num.natAbs,if x.den=1 then [] else dig x.den⟩
abbrev RtV (w:World) (F:Foot) (v:Value) (x:Rat):Prop:=Ak w F v (aG x)
abbrev NmV (w:World) (F:Foot) (v:Value) (x:Rat):Prop:=Ak w F v (au x)
abbrev CX (w:World) (F:Foot) (v:Value) (l:List Rat):Prop:=RawsAt w F v (l.map aG)
abbrev DY (w:World) (F:Foot) (v:Value) (l:List Rat):Prop:=RawsAt w F v (l.map au)
abbrev Df (w:World) (F:Foot) (v:Value) (l:List (List Rat)):Prop:=RawRowsAt w F v (l.map (List.map aG))
theorem abD {x y:Rat} (h:aG x=aG y):x=y:=by
 simp only[aG,Raw.mk.injEq] at h;exact ajD (tN h.2.1) (tN h.2.2) h.1
theorem aal:∀ {l m:List Rat},l.map aG=m.map aG→l=m
 | [],[],_=>rfl
 | [],_ :: _,h=>by simp at h
 | _ :: _,[],h=>by simp at h
 | x :: l,y :: m,h=>by
  simp only[List.map_cons,List.cons.injEq] at h;rw[abD h.1,aal h.2]
theorem Ak.make {w:World} {F:Foot} {neg:Bool} {vn vd:Value} {r:Raw} (hn:neg=r.neg) (h1:Aj w F vn r.num) (h2:Aj w F vd r.den):Ak w F (.agg #[.bool neg,vn,vd]) r:=⟨vn,vd,by rw[hn],h1,h2⟩
theorem NmV.make {w:World} {F:Foot} {neg:Bool} {vn vd:Value} {x:Rat} (hn:neg=dF x) (h1:Ah w F vn x.num.natAbs) (h2:Aj w F vd (if x.den=1 then [] else dig x.den)):NmV w F (.agg #[.bool neg,vn,vd]) x:=⟨vn,vd,by rw[hn]; rfl,h1,h2⟩
theorem iF (w:World) (F:Foot) (A:Option Addr) (c:Nat):Aj w F (.slice A 0 c) []:=⟨A,c,rfl,Nat.zero_le _,fun h=>absurd h aB⟩
theorem NmV.zero (w:World) (F:Foot) (A B:Option Addr) (c d:Nat):NmV w F (.agg #[.bool false,.slice A 0 c,.slice B 0 d]) 0 :=
 NmV.make rfl (Ah.zero w F A c) (by rw[if_pos (show(0:Rat).den=1 from rfl)]; exact iF w F B d)
theorem aO (w:World) (t:TypeId) (c:Array Value):∃ W:World,W=w.alloc (.cells c t)∧Row W w.heap.size t c.toList∧Below w.heap.size w W∧w.heap.size+1=W.heap.size :=
 ⟨_,rfl,Row.new w t c,(Below.refl _ _).alloc (Nat.le_refl _) _,aB⟩
theorem alloc2 (w:World) (t:TypeId) (c:Array Value) (t':TypeId) (c':Array Value):∃ W:World,W=(w.alloc (.cells c t)).alloc (.cells c' t')∧Row W w.heap.size t c.toList∧Row W (w.heap.size+1) t' c'.toList∧Below w.heap.size w W∧w.heap.size+1 < W.heap.size:=by
 have h:=Row.new (w.alloc (.cells c t)) t' c';exact⟨_,rfl,(Row.new w t c).alloc _,by simpa using h,((Below.refl _ _).alloc (Nat.le_refl _) _).alloc aB _,aB⟩
theorem lC (w:World) (t:TypeId) (c:Array Value) (t':TypeId) (c':Array Value) (t'':TypeId) (c'':Array Value):∃ W:World,W=((w.alloc (.cells c t)).alloc (.cells c' t')).alloc (.cells c'' t'')∧Row W w.heap.size t c.toList∧Row W (w.heap.size+1) t' c'.toList∧Row W (w.heap.size+2) t'' c''.toList∧Below w.heap.size w W∧w.heap.size+2 < W.heap.size:=by
 obtain⟨W,hW,h1,h2,h3,_⟩:=alloc2 w t c t' c';have h:=Row.new W t'' c'';have e:W.heap.size=w.heap.size+2:=by rw[hW];simp
 refine⟨_,rfl,?_,?_,?_,?_,aB⟩
 ·rw[← hW];exact h1.alloc _
 ·rw[← hW];exact h2.alloc _
 ·rw[← hW];rw[← e];exact h
 ·rw[← hW];exact h3.alloc byOmega _
def Old (F:Foot) (n:Nat):Foot:=fun b=>F b∧b < n
theorem Ah.old {w:World} {F:Foot} {v:Value} {n:Nat} (h:Ah w F v n):Ah w (Old F w.heap.size) v n:=h.mono fun _ hb hl=>⟨hb,hl⟩
theorem Aj.old {w:World} {F:Foot} {v:Value} {n:List Nat} (h:Aj w F v n):Aj w (Old F w.heap.size) v n:=h.keep (fun _ hb hl=>⟨hb,hl⟩) (Same.refl _ _)
theorem Ak.old {w:World} {F:Foot} {v:Value} {r:Raw} (h:Ak w F v r):Ak w (Old F w.heap.size) v r:=h.mono fun _ hb hl=>⟨hb,hl⟩
def gQ (num den:List Nat):Int:=if fZ num≠0 then fZ num else if fZ den≠0 then fZ den else if den.length=0 then 6 else 0
def iT (r:Raw):Int:=if gQ r.num r.den≠0 then gQ r.num r.den else if (r.num.length=0∧r.neg=true)∨Nat.gcd (aH r.num) (aH r.den)≠1 then 3 else 0
theorem yN {num den:List Nat} (h:gQ num den=0):num=dig (aH num)∧den=dig (aH den)∧aH den≠0∧num.length≤1024∧den.length≤1024:=by
 unfold gQ at h;by_cases h1:fZ num=0
 ·rw[if_neg (by simpa using h1)] at h;by_cases h2:fZ den=0
  ·rw[if_neg (by simpa using h2)] at h;by_cases h3:den.length=0
   ·rw[if_pos h3] at h;omega
   ·have k1:=aby h1;have k2:=aby h2;refine⟨k1.1,k2.1,fun e=>h3 ?_,k1.2,k2.2⟩;rw[k2.1,e,bD];rfl
  ·rw[if_pos h2] at h;exact absurd h h2
 ·rw[if_pos h1] at h;exact absurd h h1
theorem abE {r:Raw} (h:iT r=0):(∃ x:Rat,r=aG x)∧r.num.length≤1024∧r.den.length≤1024:=by
 unfold iT at h;by_cases h1:gQ r.num r.den=0
 ·rw[if_neg (by simpa using h1)] at h;by_cases h2:(r.num.length=0∧r.neg=true)∨Nat.gcd (aH r.num) (aH r.den)≠1
  ·rw[if_pos h2] at h;omega
  ·obtain⟨k1,k2,k3,k4,k5⟩:=yN h1;refine⟨⟨mkRat (sgI r.neg (aH r.num)) (aH r.den),?_⟩,k4,k5⟩;have hg:Nat.gcd (aH r.num) (aH r.den)=1:=by
    rcases Nat.decEq (Nat.gcd (aH r.num) (aH r.den)) 1 with h | h
    ·exact absurd (.inr h) h2
    ·exact h
   have hp:=lT (neg:=r.neg) k3 hg;unfold aG;rw[hp.1,hp.2,jX _ k3,← k1,← k2];obtain⟨neg,num,den⟩:=r;by_cases h0:aH num=0
   ·have hn:num.length=0:=by
     have:num=dig (aH num):=k1;rw[this,h0,bD];rfl
    cases neg
    ·simp only[h0,zX];rfl
    ·exact absurd (.inl ⟨hn,rfl⟩) h2
   ·simp only;rw[tX h0]
 ·rw[if_pos h1] at h;exact absurd h h1
theorem lX (x:Rat):(aG x).num=dig x.num.natAbs:=rfl
theorem abG (x:Rat):(aG x).den=dig x.den:=rfl
theorem xM (x:Rat):(aG x).neg=dF x:=rfl
def iO:List Int→Int
 | []=>0
 | e :: l=>if e≠0 then e else iO l
theorem uU:∀ {l:List Int} {k:Nat} {e:Int},iO (l.take k)=0→l[k]? = some e→e≠0→iO l=e
 | [],k,e,_,h,_=>by simp at h
 | y :: l,0,e,_,h,h0=>by
  simp at h; subst h;unfold iO; rw[if_pos h0]
 | y :: l,k+1,e,ht,h,h0=>by
  rw[List.take_succ_cons] at ht;unfold iO at ht ⊢;by_cases hy:y≠0
  ·rw[if_pos hy] at ht; exact absurd ht hy
  ·rw[if_neg hy] at ht ⊢;exact uU ht (by simpa using h) h0
theorem rX:∀ {l:List Int} {k:Nat},iO (l.take k)=0→l[k]? = some 0→iO (l.take (k+1))=0
 | [],k,_,h=>by simp at h
 | y :: l,0,_,h=>by
  simp at h; subst h;simp[iO]
 | y :: l,k+1,ht,h=>by
  rw[List.take_succ_cons] at ht ⊢;unfold iO at ht ⊢;by_cases hy:y≠0
  ·rw[if_pos hy] at ht; exact absurd ht hy
  ·rw[if_neg hy] at ht ⊢;exact rX ht (by simpa using h)
theorem xO:∀ {l:List Int},iO l=0→∀ e∈l,e=0
 | [],_,e,he=>by cases he
 | y :: l,h,e,he=>by
  unfold iO at h;by_cases hy:y≠0
  ·rw[if_pos hy] at h; exact absurd h hy
  ·rw[if_neg hy] at h;rcases List.mem_cons.1 he with rfl | he
   ·exact Decidable.not_not.1 hy
   ·exact xO h e he
def rY (r:Raw):Rat:=mkRat (sgI r.neg (aH r.num)) (aH r.den)
theorem oJ (x:Rat):rY (aG x)=x:=by
 unfold rY aG;rw[aW,aW];exact rO x
def fG (r:Raw):Int:=if iT r≠0 then iT r else if r.neg=true∨0 < mQ (rY r) 1 then 2 else 0
theorem xP {r:Raw} (h:fG r=0):∃ x:Rat,r=aG x∧rl x≤1024∧dF x=false:=by
 unfold fG at h;by_cases h1:iT r=0
 ·rw[if_neg (by simpa using h1)] at h;obtain⟨⟨x,rfl⟩,h2,h3⟩:=abE h1;refine⟨x,rfl,by unfold rl; exact Nat.max_le.2 ⟨h2,h3⟩,?_⟩;by_cases h4:(aG x).neg=true∨0 < mQ (rY (aG x)) 1
  ·rw[if_pos h4] at h;omega
  ·cases hn:dF x
   ·rfl
   ·exact absurd (.inl hn) h4
 ·rw[if_pos h1] at h;exact absurd h h1
def mJ (l:List Raw):Int:=iO (l.map fG)
theorem uV:∀ {l:List Raw},mJ l=0→∃ xs:List Rat,l=xs.map aG∧∀ x∈xs,rl x≤1024
 | [],_=>⟨[],rfl,fun _ h=>by cases h⟩
 | r :: l,h=>by
  unfold mJ at h;rw[List.map_cons] at h;unfold iO at h;by_cases hy:fG r≠0
  ·rw[if_pos hy] at h; exact absurd h hy
  ·rw[if_neg hy] at h;obtain⟨x,hx,hl,_⟩:=xP (Decidable.not_not.1 hy);obtain⟨xs,hxs,hls⟩:=uV (l:=l) h;refine⟨x :: xs,by rw[List.map_cons,← hx,← hxs],fun y hy=>?_⟩;rcases List.mem_cons.1 hy with rfl | hy
   ·exact hl
   ·exact hls y hy
def jD (xs:List Rat):Rat:=xs.foldl (· + ·) 0
theorem agT (xs:List Rat) (x:Rat):jD (xs ++ [x])=jD xs+x:=by unfold jD; rw[List.foldl_append]; rfl
def nR (a:Int) (l:List Raw):Int:=if (l.length:Int)≠a then 3 else if mJ l≠0 then mJ l else if mQ (jD (l.map rY)) 1≠0 then 14 else 0
def lD (acts:List Int) (m:List (List Raw)):Int:=if m.length≠acts.length then 3 else iO (List.zipWith nR acts m)
theorem aam (xs:List Rat):(xs.map aG).map rY=xs:=by
 rw[List.map_map];conv=>rhs;rw[← List.map_id xs]
 exact List.map_congr_left fun x _=>oJ x
theorem acC:∀ (xs:List Rat),(∀ x∈xs,rl x≤1024)→rl (jD xs)≤1+1025*xs.length:=by
 intro xs h;suffices H:∀ (ys:List Rat) (a:Rat),(∀ x∈ys,rl x≤1024)→rl (ys.foldl (· + ·) a)≤rl a+1025*ys.length by
  have:=H xs 0 h;rw[vY] at this;exact this
 intro ys;induction ys with
 | nil=>intro a _; simp
 | cons y ys ih =>
  intro a hys;have h1:=ih (a+y) (fun x hx=>hys x (List.mem_cons_of_mem _ hx));have h2:=aci a y;have h3:=hys y (List.mem_cons_self);rw[List.foldl_cons,List.length_cons];omega
end Go.Proofs.YtnmeejofpkhlkaaGreatDoor
