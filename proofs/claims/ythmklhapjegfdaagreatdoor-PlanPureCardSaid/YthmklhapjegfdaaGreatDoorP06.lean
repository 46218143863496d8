/- Memory of natural numbers: slices of limbs. -/
import Derived.Test.YthmklhapjegfdaaGreatDoorP04
import Derived.Deep.AppendLies
set_option linter.all false
set_option maxRecDepth 100000
set_option maxHeartbeats 12800000
namespace Go.Proofs.YthmklhapjegfdaaGreatDoor
open Lib renaming hid → Af
open Go.RowKit
def dX (w:World) (_:Ah) (b o:Nat) (x:Nat):Prop:=w.cell? ⟨b,o,none⟩=some (.int .u32 (x:Int))
def AA (w:World) (F:Ah) (v:Value) (l:List Nat):Prop:=BN 1 dX w F v l
def Aj (w:World) (F:Ah) (v:Value) (n:Nat):Prop:=AA w F v (dig n)
def Ext (F:Ah) (n:Nat):Ah:=fun b=>F b∨n≤b
theorem AA.keep {w w':World} {F G:Ah} {v:Value} {l:List Nat} (h:AA w F v l) (hFG:∀ b,F b→b < w.heap.size→G b) (hs:Same F w w'):AA w' G v l :=
 BN.keep h hFG hs.size fun b o x _ hb hl hx=>by unfold dX at *; rw[hs.cell hb hl]; exact hx
theorem AA.on {w w':World} {F:Ah} {v:Value} {l:List Nat} (h:AA w F v l) (hs:Same F w w'):AA w' F v l:=h.keep (fun _ h _=>h) hs
theorem Aj.keep {w w':World} {F G:Ah} {v:Value} {n:Nat} (h:Aj w F v n) (hFG:∀ b,F b→b < w.heap.size→G b) (hs:Same F w w'):Aj w' G v n:=AA.keep h hFG hs
theorem Aj.on {w w':World} {F:Ah} {v:Value} {n:Nat} (h:Aj w F v n) (hs:Same F w w'):Aj w' F v n:=h.keep (fun _ h _=>h) hs
theorem Aj.below {w w':World} {F:Ah} {v:Value} {n:Nat} (h:Aj w F v n) (hb:Below w.heap.size w w'):Aj w' F v n:=h.on (Below.same' hb F)
theorem Aj.mono {w:World} {F G:Ah} {v:Value} {n:Nat} (h:Aj w F v n) (hFG:∀ b,F b→b < w.heap.size→G b):Aj w G v n:=h.keep hFG (Same.refl _ _)
theorem Aj.ext {w w':World} {F:Ah} {v:Value} {n m:Nat} (h:Aj w F v n) (hb:Below w.heap.size w w'):Aj w' (Ext F m) v n:=h.keep (fun _ h _=>.inl h) (Below.same' hb F)
theorem Aj.zero (w:World) (F:Ah) (A:Option Addr) (c:Nat):Aj w F (.slice A 0 c) 0:=by
 unfold Aj;rw[bF];exact⟨A,c,rfl,Nat.zero_le _,fun h=>absurd h aB⟩
abbrev aZ (l:List Nat):List Value:=l.map fun x:Nat=>.int .u32 (x:Int)
theorem Row.limbs {w:World} {b:Nat} {t:TypeId} {l:List Nat} (h:Row w b t (aZ l)) {F:Ah} (hF:F b) {n c:Nat} (hn:n≤l.length) (hc:n≤c):AA w F (.slice (some ⟨b,0,none⟩) n c) (l.take n):=by
 have hl:(l.take n).length=n:=by rw[List.length_take];omega
 refine⟨some ⟨b,0,none⟩,c,by rw[hl],byOmega,fun _=>⟨b,0,rfl,hF,h.lt,fun k x hk=>?_⟩⟩;unfold dX;rw[Nat.mul_one,Nat.zero_add];refine h.cell ?_;have hk2:=aJ hk;rw[List.getElem?_take_of_lt byOmega] at hk;simp[hk]
theorem bf (l:List Nat) (k v:Nat):(aZ l).set k (.int .u32 (v:Int))=aZ (l.set k v):=by
 unfold aZ;rw[List.map_set]
theorem aX {l:List Nat} {k x:Nat} (h:l[k]? = some x):(aZ l)[k]? = some (.int .u32 (x:Int)):=by simp[aZ,h]
theorem fZ (n:Nat):aZ (List.replicate n 0)=List.replicate n (.int .u32 0):=by simp[aZ]
theorem Tryz.infoU32:(Tryz.prog.info? 166).map (fun i=>(i.zero,i.size,i.bytes))=some (some (.int .u32 0),1,4):=ah
theorem acX {w:World} {ops:Array Oper} {rest:List Oper} {o:Oper} {a:Act} {Q:Exit→Act→World→Prop} (hgd:o.guard=none) (s x:Operand) (t:TypeId) (ht:Tryz.prog.underlying t=some (.slice 166))
  (ho:o.op = .call { callee:=.builtin .append,args:=#[s,x],argTypes:=#[t,t] })
  (base:Nat) (v:Value) (l:List Nat) (hs:a.eval s=v) (hown:w.ownsRow base 166 1 v l.length (aZ l))
  (B:Nat) (y:Nat) (hx:a.eval x = .slice (some ⟨B,0,none⟩) 1 1) (hB:w.heap[B]? = some (.cells #[.int .u32 (y:Int)] 166 (0,0))) (hlen:l.length≤1000000) (hbase:base≤w.heap.size)
  (h:∀ g cap w',w'.ownsRow base 166 1 (.slice (some ⟨g,0,none⟩) (l.length+1) cap) (l ++ [y]).length (aZ (l ++ [y]))→w.grownBy w' v.ownBlock→(v.ownBlock=some g∨w.heap.size≤g)→g < w'.heap.size →
   wpList Tryz.prog ops Q rest (a.put o.dst (.slice (some ⟨g,0,none⟩) (l.length+1) cap)) w') :
  wpList Tryz.prog ops Q (o :: rest) a w:=by
 obtain⟨i0,hi,hz0,hz1,hz2⟩:=info_parts Tryz.infoU32;refine wpList_append_lies w hgd s x _ ho base _ i0 _ 1 4 ht hi hz0 hz1 hz2 rfl byOmega v l.length _ hs hown ⟨B,0,none⟩ 1 1 [.int .u32 (y:Int)] hx rfl (World.news_of_block hB) (by simp[Value.oneCell']) byOmega (by unfold maxLen; omega) byOmega hbase w.heap.size rfl ?_;intro g cap w' h1 h2 h3 h4;exact h g cap w' (by simpa [aZ] using h1) h2 (h3.imp id fun e=>by omega) h4
theorem gX {w W:World} {ops:Array Oper} {rest:List Oper} {o:Oper} {a:Act} {Q:Exit→Act→World→Prop} (hgd:o.guard=none) (s x:Operand) (t:TypeId) (ht:Tryz.prog.underlying t=some (.slice 166))
  (ho:o.op = .call { callee:=.builtin .append,args:=#[s,x],argTypes:=#[t,t] })
  (base:Nat) (hbase:base≤W.heap.size) (v:Value) (l:List Nat) (hs:a.eval s=v) (yi:Int) (y:Nat) (hy:yi=(y:Int)) (hlen:l.length≤1000000)
  (hx:a.eval x = .slice (some ⟨w.heap.size,0,none⟩) 1 1) (hown:w.ownsRow base 166 1 v l.length (aZ l)) (hbel:Below base W w)
  (h:∀ g cap w',w'.ownsRow base 166 1 (.slice (some ⟨g,0,none⟩) (l.length+1) cap) (l ++ [y]).length (aZ (l ++ [y]))→Below base W w'→w.heap.size < w'.heap.size→w.grownBy w' v.ownBlock →
   wpList Tryz.prog ops Q rest (a.put o.dst (.slice (some ⟨g,0,none⟩) (l.length+1) cap)) w') :
  wpList Tryz.prog ops Q (o :: rest) a (w.alloc (.cells #[.int .u32 yi] 166)):=by
 subst hy;have hz:=hbel.size;refine acX hgd s x t ht ho base v l hs (hown.alloc _) w.heap.size y hx (heap_alloc_new _ _) hlen aG ?_;intro g cap w' h1 h2 h3 h4;have h5:=h2.size;simp only[World.size_alloc] at h5;refine h g cap w' h1 ((hbel.alloc byOmega _).grown h2 aG (fun k hk=>(hown.lt k hk).1)) byOmega ?_;exact⟨h2.os,h2.tape,h2.output,byOmega,fun k hk hne=>(h2.block k aG hne).trans (Below.heap_alloc _ _ _ hk)⟩
theorem aaG {w:World} {ops:Array Oper} {rest:List Oper} {o:Oper} {a:Act} {Q:Exit→Act→World→Prop}
  (hg:o.guard=none) (l c:Operand) (t:TypeId) (hop:o.op=Op.makeSlice t l c) (ht:Tryz.prog.underlying t=some (.slice 166))
  (n:Nat) (ci:Int) (hci:ci=(n:Int)) (hl:a.eval l = .int .i64 0) (hc:a.eval c = .int .i64 ci) (hn:n≤1000000)
  (hK:∀ w1,Below w.heap.size w w1→w1.ownsRow w.heap.size 166 1 (.slice (some ⟨w.heap.size,0,none⟩) 0 n) 0 [] →
   wpList Tryz.prog ops Q rest (a.put o.dst (.slice (some ⟨w.heap.size,0,none⟩) 0 n)) w1) :
  wpList Tryz.prog ops Q (o :: rest) a w:=by
 subst hci;refine wpList_plain hg fun K hK'=>?_
 obtain⟨i0,hi,hz0,hz1,hz2⟩:=info_parts Tryz.infoU32;obtain⟨w1,hrun,hown,hgr⟩:=run_make_own (P:=Tryz.prog) w w.heap.size t 166 i0 _ 1 ht hi hz0 hz1 .i64 .i64 n (by rw[hz2]; omega) (by unfold maxLen; omega) (Nat.le_refl _);unfold Oper.wp;simp[execOp,hop,hl,hc,hrun,Result.andThen];exact hK' _ _ (hK _ ((Below.refl _ w).grown hgr (Nat.le_refl _) (fun k hk=>by cases hk)) hown)
theorem nP {w:World} {base:Nat} {t:TypeId} {v:Value} {l:List Nat} (h:w.ownsRow base t 1 v l.length (aZ l)) {F:Ah} (hF:∀ b,v.ownBlock=some b→F b):AA w F v l:=by
 rcases h.2 with⟨rfl,h0⟩ | ⟨g,cap,cur,rfl,hb,hg,hnc,_,hsz,htake⟩
 ·have:l = []:=List.eq_nil_of_length_eq_zero h0;subst this;exact Yu
 ·refine⟨_,cap,rfl,hnc,fun _=>⟨g,0,rfl,hF g rfl,(Array.getElem?_eq_some_iff.1 hg).1,fun k x hk=>?_⟩⟩;unfold dX;rw[Nat.mul_one,Nat.zero_add];have hi:(aZ l)[k]? = some (.int .u32 (x:Int)):=aX hk;rw[← htake,List.getElem?_take] at hi;split at hi
  ·simp[World.cell?,hg];simpa using hi
  ·cases hi
def sliceLen (v:Value):Nat:=match v with | .slice _ n _=>n | _=>0
theorem xY {l:List Nat} {k x:Nat} (h:l[k]? = some x):iI l (k+1)=if x=0 then iI l k else k+1:=by
 rw[iI];rw[h];simp
theorem AA.trim {w:World} {F:Ah} {A:Option Addr} {n c:Nat} {l:List Nat} (hn:l.length=n) (h:AA w F (.slice A n c) l) (hl:Limbs l):Aj w F (.slice A (iI l n) c) (aI l):=by
 subst hn;obtain⟨A',c',he,hc,hN⟩:=h;injection he with h1 h2 h3;subst h1;subst h3
 have e:=ag5 hl;have hle:=afO l l.length;have hlen:(dig (aI l)).length=iI l l.length:=by rw[← e,List.length_take];omega
 refine⟨A,c,by rw[hlen],byOmega,fun h0=>?_⟩;obtain⟨b,o,rfl,hF,hb,hx⟩:=hN byOmega;refine⟨b,o,rfl,hF,hb,fun k x hk=>hx k x ?_⟩;rw[← e] at hk;have hk2:=aJ hk;rw[List.length_take] at hk2;rwa [List.getElem?_take_of_lt byOmega] at hk
theorem nH (w:World) (F:Ah) (A:Option Addr) (n c:Nat) (l:List Nat) (hn:l.length=n) (hv:AA w F (.slice A n c) l) (hl:n≤1000000) :
  Calls Tryz.prog 197 #[.slice A n c] w fun e w'=>e = .returned (.slice A (iI l n) c)∧w=w':=by
 subst hn;obtain⟨A',c',he,hc,hN⟩:=hv;injection he with h1 h2 h3;subst h1;subst h3
 have HN:=Af hN;clear hN h2;go_in;go_wp2
 go_loop [0] (fun a=>∃ k:Nat,k≤l.length∧a = .slice A k c∧iI l k=iI l l.length) (fun a=>sliceLen a)
 case atStart=>exact⟨l.length,Nat.le_refl _,rfl,rfl⟩
 case round =>
  obtain⟨k,hk,rfl,ht⟩:=hrel;have HT:=Af ht;clear ht;rcases Nat.eq_zero_or_pos k with h0 | h0
  ·subst h0;go_wp2
   go_ret;exact⟨by rw[← HT.out]; rfl,rfl⟩
  ·obtain⟨j,rfl⟩:∃ j,k=j+1:=⟨k - 1,byOmega⟩;obtain⟨b,o,rfl,_,hb,hx⟩:=HN.out byOmega;obtain⟨x,hx'⟩:=aF (l:=l) (k:=j) byOmega;have ex:=hx j x hx';unfold dX at ex;rw[Nat.mul_one] at ex;have HS:=Af (xY hx');clear hx hx';by_cases hz:x=0
   ·subst hz;go_wp2
    go_round
    case rel=>exact⟨j,byOmega,rfl,by rw[← HT.out,HS.out,if_pos rfl]⟩
    case measure=>simp[sliceLen]
   ·exact zbb
theorem sH (w:World) (F:Ah) (A:Option Addr) (n c:Nat) (l:List Nat) (hn:l.length=n) (hv:AA w F (.slice A n c) l) (hl:n≤1000000) :
  Calls Tryz.prog 241 #[.slice A n c] w fun e w'=>e = .returned (.slice A (iI l n) c)∧w=w':=by
 subst hn;obtain⟨A',c',he,hc,hN⟩:=hv;injection he with h1 h2 h3;subst h1;subst h3
 have HN:=Af hN;clear hN h2;go_in;go_wp2
 go_loop [0] (fun a=>∃ k:Nat,k≤l.length∧a = .slice A k c∧iI l k=iI l l.length) (fun a=>sliceLen a)
 case atStart=>exact⟨l.length,Nat.le_refl _,rfl,rfl⟩
 case round =>
  obtain⟨k,hk,rfl,ht⟩:=hrel;have HT:=Af ht;clear ht;rcases Nat.eq_zero_or_pos k with h0 | h0
  ·subst h0;go_wp2
   go_ret;exact⟨by rw[← HT.out]; rfl,rfl⟩
  ·obtain⟨j,rfl⟩:∃ j,k=j+1:=⟨k - 1,byOmega⟩;obtain⟨b,o,rfl,_,hb,hx⟩:=HN.out byOmega;obtain⟨x,hx'⟩:=aF (l:=l) (k:=j) byOmega;have ex:=hx j x hx';unfold dX at ex;rw[Nat.mul_one] at ex;have HS:=Af (xY hx');clear hx hx';by_cases hz:x=0
   ·subst hz;go_wp2
    go_round
    case rel=>exact⟨j,byOmega,rfl,by rw[← HT.out,HS.out,if_pos rfl]⟩
    case measure=>simp[sliceLen]
   ·exact zbb
theorem jM (w:World) (F:Ah) (v:Value) (n:Nat) (hv:Aj w F v n) (hl:(dig n).length≤1000000) :
  Calls Tryz.prog 185 #[v] w fun e w'=>e = .returned (.bool (decide (n=1)))∧w=w':=by
 obtain⟨A,c,rfl,hc,hN⟩:=hv;have HN:=Af hN;clear hN;by_cases h1:(dig n).length=1
 ·obtain⟨b,o,rfl,_,hb,hx⟩:=HN.out byOmega;obtain⟨x,hx'⟩:=aF (l:=dig n) (k:=0) byOmega;have ex:=hx 0 x hx';unfold dX at ex;simp only[Nat.zero_mul,Nat.add_zero] at ex;have HD:=Af (show decide (n=1)=decide (x=1) by
   rw[decide_eq_decide,← zl];obtain⟨y,hy⟩:=List.length_eq_one_iff.1 h1;rw[hy] at hx' ⊢;simp at hx';simp[hx'])
  rw[h1];clear hx hx' hc;by_cases h2:x=1
  ·subst h2;go_in;go_wp2
   go_ret;exact⟨by rw[HD.out]; rfl,rfl⟩
  ·exact za6
 ·exact zac
theorem kX (w:World) (F:Ah) (v:Value) (n:Nat) (hv:Aj w F v n) (hl:(dig n).length≤1000000) :
  Calls Tryz.prog 193 #[v] w fun e w'=>e = .returned (.bool (decide (n=1)))∧w=w':=by
 obtain⟨A,c,rfl,hc,hN⟩:=hv;have HN:=Af hN;clear hN;by_cases h1:(dig n).length=1
 ·obtain⟨b,o,rfl,_,hb,hx⟩:=HN.out byOmega;obtain⟨x,hx'⟩:=aF (l:=dig n) (k:=0) byOmega;have ex:=hx 0 x hx';unfold dX at ex;simp only[Nat.zero_mul,Nat.add_zero] at ex;have HD:=Af (show decide (n=1)=decide (x=1) by
   rw[decide_eq_decide,← zl];obtain⟨y,hy⟩:=List.length_eq_one_iff.1 h1;rw[hy] at hx' ⊢;simp at hx';simp[hx'])
  rw[h1];clear hx hx' hc;by_cases h2:x=1
  ·subst h2;go_in;go_wp2
   go_ret;exact⟨by rw[HD.out]; rfl,rfl⟩
  ·exact za6
 ·exact zac
theorem zJ (w:World) (F:Ah) (v:Value) (n:Nat) (hv:Aj w F v n) (hl:(dig n).length≤2) :
  Calls Tryz.prog 214 #[v] w fun e w'=>e = .returned (.int .u64 (n:Int))∧w=w':=by
 obtain⟨A,c,rfl,hc,hN⟩:=hv;have HN:=Af hN;clear hN;go_in;go_wp2
 go_loop [3,4] (fun m i=>∃ k:Nat,k≤(dig n).length∧i = .int .i64 ((k:Int) - 1)∧m = .int .u64 (aI ((dig n).drop k):Int)) (fun _ i=>(intOf i+1).toNat)
 case atStart=>exact⟨(dig n).length,Nat.le_refl _,rfl,by rw[List.drop_length]; rfl⟩
 case round =>
  obtain⟨k,hk,rfl,rfl⟩:=hrel;rcases Nat.eq_zero_or_pos k with h0 | h0
  ·exact zaA
  ·obtain⟨j,rfl⟩:∃ j,k=j+1:=⟨k - 1,byOmega⟩;obtain⟨b,o,rfl,_,hb,hx⟩:=HN.out byOmega;obtain⟨x,hx'⟩:=aF (l:=dig n) (k:=j) byOmega;have ex:=hx j x hx';unfold dX at ex;rw[Nat.mul_one] at ex;have HS:=Af (show aI ((dig n).drop j)=x+LB*aI ((dig n).drop (j+1)) by rw[bQ,aP hx']);have hxl:x < 1000000000:=(aT n).get hx';have hm:aI ((dig n).drop (j+1)) < 1000000000:=by
    exact zaq
   clear hx hx';generalize aI ((dig n).drop (j+1))=m at *;refine Yl ?_;go_wp2
   go_round
   case rel=>exact⟨j,byOmega,by go_num,by rw[HS.out]; simp; omega⟩
   case measure=>simp[intOf]
theorem nI (w:World) (F:Ah) (v:Value) (n:Nat) (hv:Aj w F v n) (hl:(dig n).length≤2) :
  Calls Tryz.prog 192 #[v] w fun e w'=>e = .returned (.int .u64 (n:Int))∧w=w':=by
 obtain⟨A,c,rfl,hc,hN⟩:=hv;have HN:=Af hN;clear hN;go_in;go_wp2
 go_loop [3,4] (fun m i=>∃ k:Nat,k≤(dig n).length∧i = .int .i64 ((k:Int) - 1)∧m = .int .u64 (aI ((dig n).drop k):Int)) (fun _ i=>(intOf i+1).toNat)
 case atStart=>exact⟨(dig n).length,Nat.le_refl _,rfl,by rw[List.drop_length]; rfl⟩
 case round =>
  obtain⟨k,hk,rfl,rfl⟩:=hrel;rcases Nat.eq_zero_or_pos k with h0 | h0
  ·exact zaA
  ·obtain⟨j,rfl⟩:∃ j,k=j+1:=⟨k - 1,byOmega⟩;obtain⟨b,o,rfl,_,hb,hx⟩:=HN.out byOmega;obtain⟨x,hx'⟩:=aF (l:=dig n) (k:=j) byOmega;have ex:=hx j x hx';unfold dX at ex;rw[Nat.mul_one] at ex;have HS:=Af (show aI ((dig n).drop j)=x+LB*aI ((dig n).drop (j+1)) by rw[bQ,aP hx']);have hxl:x < 1000000000:=(aT n).get hx';have hm:aI ((dig n).drop (j+1)) < 1000000000:=by
    exact zaq
   clear hx hx';generalize aI ((dig n).drop (j+1))=m at *;refine Yl ?_;go_wp2
   go_round
   case rel=>exact⟨j,byOmega,by go_num,by rw[HS.out]; simp; omega⟩
   case measure=>simp[intOf]
theorem qx (w:World) (n:Nat) (hn:n < 18446744073709551616) :
  Calls Tryz.prog 133 #[.int .u64 (n:Int)] w (Ret w fun v w'=>Aj w' (fun b=>w.heap.size≤b) v n):=by
 go_in;go_wp2
 go_loopw [0,3] (fun u v wr=>∃ (m:Nat) (l:List Nat),u = .int .u64 (m:Int)∧m≤n∧l++dig m=dig n∧wr.ownsRow w.heap.size 166 1 v l.length (aZ l)∧Below w.heap.size w wr) (fun u _ _=>(intOf u).toNat)
 case atStart=>exact⟨n,[],rfl,Nat.le_refl _,rfl,World.ownsRow_nil _ _ _ _,Below.refl _ _⟩
 case round =>
  obtain⟨m,l,rfl,hm,hd,hown,hbel⟩:=hrel;have HD:=Af hd;have HO:=Af hown;have hll:l.length≤1000000:=by
   exact zcc
  clear hd hown;rcases Nat.eq_zero_or_pos m with h0 | h0
  ·exact Yw
  ·have HD2:=Af (show l ++ [m % 1000000000]++dig (m / 1000000000)=dig n by rw[← HD.out,kF (by omega:m≠0)]; simp);go_wp2_with (at_builtin; refine gX rfl _ _ 80 Tryz.underlying80 rfl w.heap.size (Nat.le_refl _) _ l rfl _ (m % 1000000000) byOmega hll rfl HO.out hbel ?_; intro g cap w' hown' iY hlt' pq; have HO':=Af hown'; clear hown' pq)
   go_roundw
   case rel=>exact⟨m / 1000000000,l ++ [m % 1000000000],by go_num,byOmega,HD2.out,by simpa using HO'.out,iY⟩
   case measure=>simp[intOf]; omega
theorem abV (w:World) (n:Nat) (hn:n < 18446744073709551616) :
  Calls Tryz.prog 216 #[.int .u64 (n:Int)] w (Ret w fun v w'=>Aj w' (fun b=>w.heap.size≤b) v n):=by
 go_in;go_wp2
 go_loopw [0,3] (fun u v wr=>∃ (m:Nat) (l:List Nat),u = .int .u64 (m:Int)∧m≤n∧l++dig m=dig n∧wr.ownsRow w.heap.size 166 1 v l.length (aZ l)∧Below w.heap.size w wr) (fun u _ _=>(intOf u).toNat)
 case atStart=>exact⟨n,[],rfl,Nat.le_refl _,rfl,World.ownsRow_nil _ _ _ _,Below.refl _ _⟩
 case round =>
  obtain⟨m,l,rfl,hm,hd,hown,hbel⟩:=hrel;have HD:=Af hd;have HO:=Af hown;have hll:l.length≤1000000:=by
   exact zcc
  clear hd hown;rcases Nat.eq_zero_or_pos m with h0 | h0
  ·exact Yw
  ·have HD2:=Af (show l ++ [m % 1000000000]++dig (m / 1000000000)=dig n by rw[← HD.out,kF (by omega:m≠0)]; simp);go_wp2_with (at_builtin; refine gX rfl _ _ 81 Tryz.underlying81 rfl w.heap.size (Nat.le_refl _) _ l rfl _ (m % 1000000000) byOmega hll rfl HO.out hbel ?_; intro g cap w' hown' iY hlt' pq; have HO':=Af hown'; clear hown' pq)
   go_roundw
   case rel=>exact⟨m / 1000000000,l ++ [m % 1000000000],by go_num,byOmega,HD2.out,by simpa using HO'.out,iY⟩
   case measure=>simp[intOf]; omega
theorem abW (w:World) (x:Int):Calls Tryz.prog 224 #[.int .i64 x] w fun e w'=>e = .returned (.bool false)∧w'=w:=by
 have h:(x != x)=false:=aB;exact zam
theorem xZ (w:World) (x y:Nat):Calls Tryz.prog 195 #[.int .i64 (x:Int),.int .i64 (y:Int)] w fun e w'=>e = .returned (.int .i64 (dD x y))∧w'=w:=by
 rcases Nat.lt_trichotomy x y with h | h | h
 ·have HO:=Af (show dD x y = -1 by unfold dD; rw[if_pos h]);exact YL
 ·have HO:=Af (show dD x y=0 by unfold dD; rw[if_neg byOmega,if_pos h]);have h1:x≤y:=byOmega;have h2:y≤x:=byOmega;clear h;exact YL
 ·have HO:=Af (show dD x y=1 by unfold dD; rw[if_neg byOmega,if_neg byOmega]);exact YL
theorem uf (w:World) (x:Int):Calls Tryz.prog 225 #[.int .u32 x] w fun e w'=>e = .returned (.bool false)∧w'=w:=by
 have h:(x != x)=false:=aB;exact zam
theorem qZ (w:World) (x y:Nat):Calls Tryz.prog 196 #[.int .u32 (x:Int),.int .u32 (y:Int)] w fun e w'=>e = .returned (.int .i64 (dD x y))∧w'=w:=by
 rcases Nat.lt_trichotomy x y with h | h | h
 ·have HO:=Af (show dD x y = -1 by unfold dD; rw[if_pos h]);exact YM
 ·have HO:=Af (show dD x y=0 by unfold dD; rw[if_neg byOmega,if_pos h]);have h1:x≤y:=byOmega;have h2:y≤x:=byOmega;clear h;exact YM
 ·have HO:=Af (show dD x y=1 by unfold dD; rw[if_neg byOmega,if_neg byOmega]);exact YM
theorem acY {P:Program} {f:FuncId} {args:Array Value} {w:World} {a n:Nat} {v:Value}
  (h:Calls P f args (w.drewN (a+n)) fun e w'=>e = .returned v∧w'=w.drewN (a+n)) :
  Calls P f args (w.drewN (a+n)) fun e w''=>e = .returned v∧∃ m,w''=w.drewN (a+m) :=
 h.mono fun _ _ ⟨he,hm⟩=>⟨he,n,hm⟩
theorem iZ {a b:Nat} (h:a < b):dD a b = -1:=by unfold dD; rw[if_pos h]
theorem aft (a:Nat):dD a a=0:=by unfold dD; simp
theorem oK {a b:Nat} (h:b < a):dD a b=1:=by unfold dD; rw[if_neg byOmega,if_neg byOmega]
theorem iL (w:World) (F:Ah) (va vb:Value) (a b:Nat) (ha:Aj w F va a) (hb:Aj w F vb b) (hla:(dig a).length≤1000000) (hlb:(dig b).length≤1000000) :
  Calls Tryz.prog 165 #[va,vb] w fun e w'=>e = .returned (.int .i64 (dD a b))∧∃ n,w'=w.drewN n:=by
 obtain⟨A,c,rfl,hc,hNa⟩:=ha;obtain⟨B,d,rfl,hd,hNb⟩:=hb;have HA:=Af hNa;have HB:=Af hNb;clear hNa hNb;by_cases hlen:(dig a).length=(dig b).length
 ·have HL:=Af hlen;rw[← hlen] at hd hlb ⊢;clear hlen;go_in;go_wp2
  go_loopw [5] (fun i wr=>∃ (k q:Nat),k≤(dig a).length∧i = .int .i64 ((k:Int) - 1)∧(dig a).drop k=(dig b).drop k∧wr=w.drewN q) (fun i _=>(intOf i+1).toNat)
  case atStart=>exact⟨(dig a).length,0,Nat.le_refl _,rfl,by rw[List.drop_length,HL.out,List.drop_length],rfl⟩
  case round =>
   obtain⟨k,q,hk,rfl,hdr,rfl⟩:=hrel;have HD:=Af hdr;clear hdr;rcases Nat.eq_zero_or_pos k with h0 | h0
   ·subst h0;have HE:=Af (show dD a b=0 by
     have:=HD.out; rw[List.drop_zero,List.drop_zero] at this;rw[uS this]; exact aft b)
    go_wp2
    go_ret;exact⟨by rw[HE.out]; rfl,q,rfl⟩
   ·obtain⟨j,rfl⟩:∃ j,k=j+1:=⟨k - 1,byOmega⟩;obtain⟨b1,o1,rfl,_,hb1,hx⟩:=HA.out byOmega;have HL2:=HL.out;obtain⟨b2,o2,rfl,_,hb2,hy⟩:=HB.out byOmega;obtain⟨x,hx'⟩:=aF (l:=dig a) (k:=j) byOmega;obtain⟨y,hy'⟩:=aF (l:=dig b) (k:=j) byOmega;have ex:=hx j x hx';have ey:=hy j y hy';unfold dX at ex ey;rw[Nat.mul_one] at ex ey;have hxl:x < 1000000000:=(aT a).get hx';have hyl:y < 1000000000:=(aT b).get hy';have HX:=Af hx';have HY:=Af hy';clear hx hx' hy hy' HL2;refine Yl ?_;rcases Nat.lt_trichotomy x y with h | h | h
    ·have HE:=Af (iZ (lG HL.out HD.out HX.out HY.out h));have hne:((x:Int) != (y:Int))=true:=aG;have HO:=Af (show dD x y=dD a b by rw[HE.out]; first | exact iZ h | exact oK h);go_wp2
     go_quiet (fail)
     go_wp2
     go_quiet ((go_at_call 196; exact acY (qZ _ _ _)))
     exact zbf
    ·subst h;have HE:=Af (uT HD.out HX.out HY.out);have hne:((x:Int) != (x:Int))=false:=aB;go_wp2
     go_quiet (fail)
     go_wp2
     go_roundw
     case rel=>exact⟨j,_,byOmega,by go_num,HE.out,rfl⟩
     case measure=>simp[intOf]
    ·have HE:=Af (oK (lG HL.out.symm HD.out.symm HY.out HX.out h));have hne:((x:Int) != (y:Int))=true:=aG;have HO:=Af (show dD x y=dD a b by rw[HE.out]; first | exact iZ h | exact oK h);go_wp2
     go_quiet (fail)
     go_wp2
     go_quiet ((go_at_call 196; exact acY (qZ _ _ _)))
     exact zbf
 ·have hne:(((dig a).length:Int) != ((dig b).length:Int))=true:=aG;rcases Nat.lt_or_gt_of_ne hlen with h | h
  ·have HE:=Af (iZ (pX h));have HE2:=Af (iZ h);clear hlen;go_in;go_wp2_with (go_at_call 195; ((with_reducible refine(xZ _ _ _).mono ?_); rintro e w' ⟨rfl,rfl⟩))
   exact zae
  ·have HE:=Af (oK (pX h));have HE2:=Af (oK h);have hnlt:decide ((dig a).length < (dig b).length)=false:=decide_eq_false byOmega;clear hlen;go_in;go_wp2_with (go_at_call 195; ((with_reducible refine(xZ _ _ _).mono ?_); rintro e w' ⟨rfl,rfl⟩))
   exact zae
theorem vw (w:World) (F:Ah) (va vb:Value) (a b:Nat) (ha:Aj w F va a) (hb:Aj w F vb b) (hla:(dig a).length≤1000000) (hlb:(dig b).length≤1000000) :
  Calls Tryz.prog 218 #[va,vb] w fun e w'=>e = .returned (.int .i64 (dD a b))∧∃ n,w'=w.drewN n:=by
 obtain⟨A,c,rfl,hc,hNa⟩:=ha;obtain⟨B,d,rfl,hd,hNb⟩:=hb;have HA:=Af hNa;have HB:=Af hNb;clear hNa hNb;by_cases hlen:(dig a).length=(dig b).length
 ·have HL:=Af hlen;rw[← hlen] at hd hlb ⊢;clear hlen;go_in;go_wp2
  go_loopw [5] (fun i wr=>∃ (k q:Nat),k≤(dig a).length∧i = .int .i64 ((k:Int) - 1)∧(dig a).drop k=(dig b).drop k∧wr=w.drewN q) (fun i _=>(intOf i+1).toNat)
  case atStart=>exact⟨(dig a).length,0,Nat.le_refl _,rfl,by rw[List.drop_length,HL.out,List.drop_length],rfl⟩
  case round =>
   obtain⟨k,q,hk,rfl,hdr,rfl⟩:=hrel;have HD:=Af hdr;clear hdr;rcases Nat.eq_zero_or_pos k with h0 | h0
   ·subst h0;have HE:=Af (show dD a b=0 by
     have:=HD.out; rw[List.drop_zero,List.drop_zero] at this;rw[uS this]; exact aft b)
    go_wp2
    go_ret;exact⟨by rw[HE.out]; rfl,q,rfl⟩
   ·obtain⟨j,rfl⟩:∃ j,k=j+1:=⟨k - 1,byOmega⟩;obtain⟨b1,o1,rfl,_,hb1,hx⟩:=HA.out byOmega;have HL2:=HL.out;obtain⟨b2,o2,rfl,_,hb2,hy⟩:=HB.out byOmega;obtain⟨x,hx'⟩:=aF (l:=dig a) (k:=j) byOmega;obtain⟨y,hy'⟩:=aF (l:=dig b) (k:=j) byOmega;have ex:=hx j x hx';have ey:=hy j y hy';unfold dX at ex ey;rw[Nat.mul_one] at ex ey;have hxl:x < 1000000000:=(aT a).get hx';have hyl:y < 1000000000:=(aT b).get hy';have HX:=Af hx';have HY:=Af hy';clear hx hx' hy hy' HL2;refine Yl ?_;rcases Nat.lt_trichotomy x y with h | h | h
    ·have HE:=Af (iZ (lG HL.out HD.out HX.out HY.out h));skip;go_wp2
     go_quiet (fail)
     skip
     exact zbZ
    ·subst h;have HE:=Af (uT HD.out HX.out HY.out);skip;go_wp2
     go_quiet (fail)
     go_wp2
     go_quiet (fail)
     go_wp2
     go_roundw
     case rel=>exact⟨j,_,byOmega,by go_num,HE.out,rfl⟩
     case measure=>simp[intOf]
    ·have HE:=Af (oK (lG HL.out.symm HD.out.symm HY.out HX.out h));skip;go_wp2
     go_quiet (fail)
     go_wp2
     go_quiet (fail)
     exact zbZ
 ·have hne:(((dig a).length:Int) != ((dig b).length:Int))=true:=aG;rcases Nat.lt_or_gt_of_ne hlen with h | h
  ·have HE:=Af (iZ (pX h));have HE2:=Af (iZ h);clear hlen;go_in;go_wp2
   exact zae
  ·have HE:=Af (oK (pX h));have HE2:=Af (oK h);have hnlt:decide ((dig a).length < (dig b).length)=false:=decide_eq_false byOmega;clear hlen;go_in;go_wp2
   exact zae
structure Raw where
 neg:Bool
 num:List Nat
 den:List Nat
 deriving Inhabited,DecidableEq
def Ak (w:World) (F:Ah) (v:Value) (r:Raw):Prop:=∃ vn vd,v = .agg #[.bool r.neg,vn,vd]∧AA w F vn r.num∧AA w F vd r.den
theorem Ak.keep {w w':World} {F G:Ah} {v:Value} {r:Raw} (h:Ak w F v r) (hFG:∀ b,F b→b < w.heap.size→G b) (hs:Same F w w'):Ak w' G v r:=by
 obtain⟨vn,vd,rfl,h1,h2⟩:=h;exact⟨vn,vd,rfl,h1.keep hFG hs,h2.keep hFG hs⟩
theorem Ak.on {w w':World} {F:Ah} {v:Value} {r:Raw} (h:Ak w F v r) (hs:Same F w w'):Ak w' F v r:=h.keep (fun _ h _=>h) hs
theorem Ak.below {w w':World} {F:Ah} {v:Value} {r:Raw} (h:Ak w F v r) (hb:Below w.heap.size w w'):Ak w' F v r:=h.on (Below.same' hb F)
theorem Ak.mono {w:World} {F G:Ah} {v:Value} {r:Raw} (h:Ak w F v r) (hFG:∀ b,F b→b < w.heap.size→G b):Ak w G v r:=h.keep hFG (Same.refl _ _)
def Dp (w:World) (F:Ah) (b o:Nat) (r:Raw):Prop:=w.cell? ⟨b,o,none⟩=some (.bool r.neg)∧wM AA w F b (o+1) r.num∧wM AA w F b (o+2) r.den
theorem tH {w w':World} {F G:Ah} {b o:Nat} {l:List Nat} (h:wM AA w F b o l) (hFG:∀ b,F b→b < w.heap.size→G b) (hs:Same F w w') (hb:F b) (hl:b < w.heap.size):wM AA w' G b o l:=by
 exact zaP
theorem Dp.keep {w w':World} {F G:Ah} {b o:Nat} {r:Raw} (h:Dp w F b o r) (hFG:∀ b,F b→b < w.heap.size→G b) (hs:Same F w w') (hb:F b) (hl:b < w.heap.size):Dp w' G b o r :=
 ⟨by rw[hs.cell hb hl]; exact h.1,tH h.2.1 hFG hs hb hl,tH h.2.2 hFG hs hb hl⟩
def AB (w:World) (F:Ah) (v:Value) (l:List Raw):Prop:=BN 3 Dp w F v l
theorem AB.keep {w w':World} {F G:Ah} {v:Value} {l:List Raw} (h:AB w F v l) (hFG:∀ b,F b→b < w.heap.size→G b) (hs:Same F w w'):AB w' G v l :=
 BN.keep h hFG hs.size fun _ _ _ _ hb hl hx=>hx.keep hFG hs hb hl
theorem AB.on {w w':World} {F:Ah} {v:Value} {l:List Raw} (h:AB w F v l) (hs:Same F w w'):AB w' F v l:=h.keep (fun _ h _=>h) hs
theorem AB.nil (w:World) (F:Ah):AB w F (.slice none 0 0) []:=⟨none,0,rfl,Nat.le_refl _,fun h=>absurd h aB⟩
def Ag (w:World) (F:Ah) (v:Value) (l:List (List Raw)):Prop:=BN 1 (wM AB) w F v l
theorem abX {w w':World} {F G:Ah} {b o:Nat} {l:List Raw} (h:wM AB w F b o l) (hFG:∀ b,F b→b < w.heap.size→G b) (hs:Same F w w') (hb:F b) (hl:b < w.heap.size):wM AB w' G b o l:=by
 exact zaP
theorem Ag.keep {w w':World} {F G:Ah} {v:Value} {l:List (List Raw)} (h:Ag w F v l) (hFG:∀ b,F b→b < w.heap.size→G b) (hs:Same F w w'):Ag w' G v l :=
 BN.keep h hFG hs.size fun _ _ _ _ hb hl hx=>abX hx hFG hs hb hl
theorem Ag.on {w w':World} {F:Ah} {v:Value} {l:List (List Raw)} (h:Ag w F v l) (hs:Same F w w'):Ag w' F v l:=h.keep (fun _ h _=>h) hs
theorem Ag.nil (w:World) (F:Ah):Ag w F (.slice none 0 0) []:=⟨none,0,rfl,Nat.le_refl _,fun h=>absurd h aB⟩
def aH (x:Rat):Raw:=⟨dI x,dig x.num.natAbs,dig x.den⟩
def au (x:Rat):Raw:=⟨dI x,dig x.num.natAbs,if x.den=1 then [] else dig x.den⟩
abbrev RtV (w:World) (F:Ah) (v:Value) (x:Rat):Prop:=Ak w F v (aH x)
abbrev NmV (w:World) (F:Ah) (v:Value) (x:Rat):Prop:=Ak w F v (au x)
abbrev DU (w:World) (F:Ah) (v:Value) (l:List Rat):Prop:=AB w F v (l.map aH)
abbrev DV (w:World) (F:Ah) (v:Value) (l:List Rat):Prop:=AB w F v (l.map au)
abbrev CV (w:World) (F:Ah) (v:Value) (l:List (List Rat)):Prop:=Ag w F v (l.map (List.map aH))
theorem aa5 {x y:Rat} (h:aH x=aH y):x=y:=by
 simp only[aH,Raw.mk.injEq] at h;exact aiz (uS h.2.1) (uS h.2.2) h.1
theorem ug:∀ {l m:List Rat},l.map aH=m.map aH→l=m
 | [],[],_=>rfl
 | [],_ :: _,h=>by simp at h
 | _ :: _,[],h=>by simp at h
 | x :: l,y :: m,h=>by
  simp only[List.map_cons,List.cons.injEq] at h;rw[aa5 h.1,ug h.2]
theorem Ak.make {w:World} {F:Ah} {neg:Bool} {vn vd:Value} {r:Raw} (hn:neg=r.neg) (h1:AA w F vn r.num) (h2:AA w F vd r.den):Ak w F (.agg #[.bool neg,vn,vd]) r:=⟨vn,vd,by rw[hn],h1,h2⟩
theorem NmV.make {w:World} {F:Ah} {neg:Bool} {vn vd:Value} {x:Rat} (hn:neg=dI x) (h1:Aj w F vn x.num.natAbs) (h2:AA w F vd (if x.den=1 then [] else dig x.den)):NmV w F (.agg #[.bool neg,vn,vd]) x:=⟨vn,vd,by rw[hn]; rfl,h1,h2⟩
theorem jy (w:World) (F:Ah) (A:Option Addr) (c:Nat):AA w F (.slice A 0 c) []:=⟨A,c,rfl,Nat.zero_le _,fun h=>absurd h aB⟩
theorem NmV.zero (w:World) (F:Ah) (A B:Option Addr) (c d:Nat):NmV w F (.agg #[.bool false,.slice A 0 c,.slice B 0 d]) 0 :=
 NmV.make rfl (Aj.zero w F A c) (by rw[if_pos (show(0:Rat).den=1 from rfl)]; exact jy w F B d)
theorem aO (w:World) (t:TypeId) (c:Array Value):∃ W:World,W=w.alloc (.cells c t)∧Row W w.heap.size t c.toList∧Below w.heap.size w W∧w.heap.size+1=W.heap.size :=
 ⟨_,rfl,Row.new w t c,(Below.refl _ _).alloc (Nat.le_refl _) _,aB⟩
theorem alloc2 (w:World) (t:TypeId) (c:Array Value) (t':TypeId) (c':Array Value):∃ W:World,W=(w.alloc (.cells c t)).alloc (.cells c' t')∧Row W w.heap.size t c.toList∧Row W (w.heap.size+1) t' c'.toList∧Below w.heap.size w W∧w.heap.size+1 < W.heap.size:=by
 have h:=Row.new (w.alloc (.cells c t)) t' c';exact⟨_,rfl,(Row.new w t c).alloc _,by simpa using h,((Below.refl _ _).alloc (Nat.le_refl _) _).alloc aB _,aB⟩
theorem kY (w:World) (t:TypeId) (c:Array Value) (t':TypeId) (c':Array Value) (t'':TypeId) (c'':Array Value):∃ W:World,W=((w.alloc (.cells c t)).alloc (.cells c' t')).alloc (.cells c'' t'')∧Row W w.heap.size t c.toList∧Row W (w.heap.size+1) t' c'.toList∧Row W (w.heap.size+2) t'' c''.toList∧Below w.heap.size w W∧w.heap.size+2 < W.heap.size:=by
 obtain⟨W,hW,h1,h2,h3,_⟩:=alloc2 w t c t' c';have h:=Row.new W t'' c'';have e:W.heap.size=w.heap.size+2:=by rw[hW];simp
 refine⟨_,rfl,?_,?_,?_,?_,aB⟩
 ·rw[← hW];exact h1.alloc _
 ·rw[← hW];exact h2.alloc _
 ·rw[← hW];rw[← e];exact h
 ·rw[← hW];exact h3.alloc byOmega _
def Old (F:Ah) (n:Nat):Ah:=fun b=>F b∧b < n
theorem Aj.old {w:World} {F:Ah} {v:Value} {n:Nat} (h:Aj w F v n):Aj w (Old F w.heap.size) v n:=h.mono fun _ hb hl=>⟨hb,hl⟩
theorem AA.old {w:World} {F:Ah} {v:Value} {n:List Nat} (h:AA w F v n):AA w (Old F w.heap.size) v n:=h.keep (fun _ hb hl=>⟨hb,hl⟩) (Same.refl _ _)
theorem Ak.old {w:World} {F:Ah} {v:Value} {r:Raw} (h:Ak w F v r):Ak w (Old F w.heap.size) v r:=h.mono fun _ hb hl=>⟨hb,hl⟩
def fP (num den:List Nat):Int:=if fD num≠0 then fD num else if fD den≠0 then fD den else if den.length=0 then 6 else 0
def iC (r:Raw):Int:=if fP r.num r.den≠0 then fP r.num r.den else if (r.num.length=0∧r.neg=true)∨Nat.gcd (aI r.num) (aI r.den)≠1 then 3 else 0
theorem x9 {num den:List Nat} (h:fP num den=0):num=dig (aI num)∧den=dig (aI den)∧aI den≠0∧num.length≤1024∧den.length≤1024:=by
 unfold fP at h;by_cases h1:fD num=0
 ·rw[if_neg (by simpa using h1)] at h;by_cases h2:fD den=0
  ·rw[if_neg (by simpa using h2)] at h;by_cases h3:den.length=0
   ·rw[if_pos h3] at h;omega
   ·have k1:=aa0 h1;have k2:=aa0 h2;refine⟨k1.1,k2.1,fun e=>h3 ?_,k1.2,k2.2⟩;rw[k2.1,e,bF];rfl
  ·rw[if_pos h2] at h;exact absurd h h2
 ·rw[if_pos h1] at h;exact absurd h h1
theorem aa6 {r:Raw} (h:iC r=0):(∃ x:Rat,r=aH x)∧r.num.length≤1024∧r.den.length≤1024:=by
 unfold iC at h;by_cases h1:fP r.num r.den=0
 ·rw[if_neg (by simpa using h1)] at h;by_cases h2:(r.num.length=0∧r.neg=true)∨Nat.gcd (aI r.num) (aI r.den)≠1
  ·rw[if_pos h2] at h;omega
  ·obtain⟨k1,k2,k3,k4,k5⟩:=x9 h1;refine⟨⟨mkRat (sgI r.neg (aI r.num)) (aI r.den),?_⟩,k4,k5⟩;have hg:Nat.gcd (aI r.num) (aI r.den)=1:=by
    rcases Nat.decEq (Nat.gcd (aI r.num) (aI r.den)) 1 with h | h
    ·exact absurd (.inr h) h2
    ·exact h
   have hp:=kU (neg:=r.neg) k3 hg;unfold aH;rw[hp.1,hp.2,kT _ k3,← k1,← k2];obtain⟨neg,num,den⟩:=r;by_cases h0:aI num=0
   ·have hn:num.length=0:=by
     have:num=dig (aI num):=k1;rw[this,h0,bF];rfl
    cases neg
    ·simp only[h0,zx];rfl
    ·exact absurd (.inl ⟨hn,rfl⟩) h2
   ·simp only;rw[uX h0]
 ·rw[if_pos h1] at h;exact absurd h h1
theorem nJ (x:Rat):(aH x).num=dig x.num.natAbs:=rfl
theorem aa7 (x:Rat):(aH x).den=dig x.den:=rfl
theorem aa8 (x:Rat):(aH x).neg=dI x:=rfl
def ig:List Int→Int
 | []=>0
 | e :: l=>if e≠0 then e else ig l
theorem uh:∀ {l:List Int} {k:Nat} {e:Int},ig (l.take k)=0→l[k]? = some e→e≠0→ig l=e
 | [],k,e,_,h,_=>by simp at h
 | y :: l,0,e,_,h,h0=>by
  simp at h; subst h;unfold ig; rw[if_pos h0]
 | y :: l,k+1,e,ht,h,h0=>by
  rw[List.take_succ_cons] at ht;unfold ig at ht ⊢;by_cases hy:y≠0
  ·rw[if_pos hy] at ht; exact absurd ht hy
  ·rw[if_neg hy] at ht ⊢;exact uh ht (by simpa using h) h0
theorem rC:∀ {l:List Int} {k:Nat},ig (l.take k)=0→l[k]? = some 0→ig (l.take (k+1))=0
 | [],k,_,h=>by simp at h
 | y :: l,0,_,h=>by
  simp at h; subst h;simp[ig]
 | y :: l,k+1,ht,h=>by
  rw[List.take_succ_cons] at ht ⊢;unfold ig at ht ⊢;by_cases hy:y≠0
  ·rw[if_pos hy] at ht; exact absurd ht hy
  ·rw[if_neg hy] at ht ⊢;exact rC ht (by simpa using h)
theorem wP:∀ {l:List Int},ig l=0→∀ e∈l,e=0
 | [],_,e,he=>by cases he
 | y :: l,h,e,he=>by
  unfold ig at h;by_cases hy:y≠0
  ·rw[if_pos hy] at h; exact absurd h hy
  ·rw[if_neg hy] at h;rcases List.mem_cons.1 he with rfl | he
   ·exact Decidable.not_not.1 hy
   ·exact wP h e he
def rD (r:Raw):Rat:=mkRat (sgI r.neg (aI r.num)) (aI r.den)
theorem nR (x:Rat):rD (aH x)=x:=by
 unfold rD aH;rw[bg,bg];exact qV x
def eH (r:Raw):Int:=if iC r≠0 then iC r else if r.neg=true∨0 < lQ (rD r) 1 then 2 else 0
theorem wQ {r:Raw} (h:eH r=0):∃ x:Rat,r=aH x∧rl x≤1024∧dI x=false:=by
 unfold eH at h;by_cases h1:iC r=0
 ·rw[if_neg (by simpa using h1)] at h;obtain⟨⟨x,rfl⟩,h2,h3⟩:=aa6 h1;refine⟨x,rfl,by unfold rl; exact Nat.max_le.2 ⟨h2,h3⟩,?_⟩;by_cases h4:(aH x).neg=true∨0 < lQ (rD (aH x)) 1
  ·rw[if_pos h4] at h;omega
  ·cases hn:dI x
   ·rfl
   ·exact absurd (.inl hn) h4
 ·rw[if_pos h1] at h;exact absurd h h1
def lI (l:List Raw):Int:=ig (l.map eH)
theorem uj:∀ {l:List Raw},lI l=0→∃ xs:List Rat,l=xs.map aH∧∀ x∈xs,rl x≤1024
 | [],_=>⟨[],rfl,fun _ h=>by cases h⟩
 | r :: l,h=>by
  unfold lI at h;rw[List.map_cons] at h;unfold ig at h;by_cases hy:eH r≠0
  ·rw[if_pos hy] at h; exact absurd h hy
  ·rw[if_neg hy] at h;obtain⟨x,hx,hl,_⟩:=wQ (Decidable.not_not.1 hy);obtain⟨xs,hxs,hls⟩:=uj (l:=l) h;refine⟨x :: xs,by rw[List.map_cons,← hx,← hxs],fun y hy=>?_⟩;rcases List.mem_cons.1 hy with rfl | hy
   ·exact hl
   ·exact hls y hy
def jh (xs:List Rat):Rat:=xs.foldl (· + ·) 0
theorem wR (xs:List Rat) (x:Rat):jh (xs ++ [x])=jh xs+x:=by unfold jh; rw[List.foldl_append]; rfl
def mQ (a:Int) (l:List Raw):Int:=if (l.length:Int)≠a then 3 else if lI l≠0 then lI l else if lQ (jh (l.map rD)) 1≠0 then 14 else 0
def kK (acts:List Int) (m:List (List Raw)):Int:=if m.length≠acts.length then 3 else ig (List.zipWith mQ acts m)
theorem zK (xs:List Rat):(xs.map aH).map rD=xs:=by
 rw[List.map_map];conv=>rhs;rw[← List.map_id xs]
 exact List.map_congr_left fun x _=>nR x
theorem abY:∀ (xs:List Rat),(∀ x∈xs,rl x≤1024)→rl (jh xs)≤1+1025*xs.length:=by
 intro xs h;suffices H:∀ (ys:List Rat) (a:Rat),(∀ x∈ys,rl x≤1024)→rl (ys.foldl (· + ·) a)≤rl a+1025*ys.length by
  have:=H xs 0 h;rw[su] at this;exact this
 intro ys;induction ys with
 | nil=>intro a _; simp
 | cons y ys ih =>
  intro a hys;have h1:=ih (a+y) (fun x hx=>hys x (List.mem_cons_of_mem _ hx));have h2:=abL a y;have h3:=hys y (List.mem_cons_self);rw[List.foldl_cons,List.length_cons];omega
end Go.Proofs.YthmklhapjegfdaaGreatDoor
