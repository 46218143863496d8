/- Memory of natural numbers: slices of limbs. -/
import Derived.Test.YthmklhapjegfdaaGreatDoorX04
import Derived.Deep.AppendLies
set_option linter.all false
set_option maxRecDepth 100000
set_option maxHeartbeats 12800000
namespace Go.Proofs.YthmklhapjegfdaaGreatDoor
open Lib renaming hid → Ag
open Go.RowKit
def dw (w:World) (_:Aj) (b o:Nat) (x:Nat):Prop:=w.cell? ⟨b,o,none⟩=some (.int .u32 (x:Int))
def AB (w:World) (F:Aj) (v:Value) (l:List Nat):Prop:=BN 1 dw w F v l
def Ak (w:World) (F:Aj) (v:Value) (n:Nat):Prop:=AB w F v (dig n)
def Ext (F:Aj) (n:Nat):Aj:=fun b=>F b∨n≤b
theorem AB.keep {w w':World} {F G:Aj} {v:Value} {l:List Nat} (h:AB w F v l) (hFG:∀ b,F b→b < w.heap.size→G b) (hs:Same F w w'):AB w' G v l :=
 BN.keep h hFG hs.size fun b o x _ hb hl hx=>by unfold dw at *; rw[hs.cell hb hl]; exact hx
theorem AB.on {w w':World} {F:Aj} {v:Value} {l:List Nat} (h:AB w F v l) (hs:Same F w w'):AB w' F v l:=h.keep (fun _ h _=>h) hs
theorem Ak.keep {w w':World} {F G:Aj} {v:Value} {n:Nat} (h:Ak w F v n) (hFG:∀ b,F b→b < w.heap.size→G b) (hs:Same F w w'):Ak w' G v n:=AB.keep h hFG hs
theorem Ak.on {w w':World} {F:Aj} {v:Value} {n:Nat} (h:Ak w F v n) (hs:Same F w w'):Ak w' F v n:=h.keep (fun _ h _=>h) hs
theorem Ak.below {w w':World} {F:Aj} {v:Value} {n:Nat} (h:Ak w F v n) (hb:Below w.heap.size w w'):Ak w' F v n:=h.on (Below.same' hb F)
theorem Ak.mono {w:World} {F G:Aj} {v:Value} {n:Nat} (h:Ak w F v n) (hFG:∀ b,F b→b < w.heap.size→G b):Ak w G v n:=h.keep hFG (Same.refl _ _)
theorem Ak.ext {w w':World} {F:Aj} {v:Value} {n m:Nat} (h:Ak w F v n) (hb:Below w.heap.size w w'):Ak w' (Ext F m) v n:=h.keep (fun _ h _=>.inl h) (Below.same' hb F)
theorem Ak.zero (w:World) (F:Aj) (A:Option Addr) (c:Nat):Ak w F (.slice A 0 c) 0:=by
 unfold Ak;rw[bK];exact⟨A,c,rfl,Nat.zero_le _,fun h=>absurd h aA⟩
abbrev aW (l:List Nat):List Value:=l.map fun x:Nat=>.int .u32 (x:Int)
theorem Row.limbs {w:World} {b:Nat} {t:TypeId} {l:List Nat} (h:Row w b t (aW l)) {F:Aj} (hF:F b) {n c:Nat} (hn:n≤l.length) (hc:n≤c):AB w F (.slice (some ⟨b,0,none⟩) n c) (l.take n):=by
 have hl:(l.take n).length=n:=by rw[List.length_take];omega
 refine⟨some ⟨b,0,none⟩,c,by rw[hl],byOmega,fun _=>⟨b,0,rfl,hF,h.lt,fun k x hk=>?_⟩⟩;unfold dw;rw[Nat.mul_one,Nat.zero_add];refine h.cell ?_;have hk2:=aK hk;rw[List.getElem?_take_of_lt byOmega] at hk;simp[hk]
theorem bg (l:List Nat) (k v:Nat):(aW l).set k (.int .u32 (v:Int))=aW (l.set k v):=by
 unfold aW;rw[List.map_set]
theorem aZ {l:List Nat} {k x:Nat} (h:l[k]? = some x):(aW l)[k]? = some (.int .u32 (x:Int)):=by simp[aW,h]
theorem fG (n:Nat):aW (List.replicate n 0)=List.replicate n (.int .u32 0):=by simp[aW]
theorem Tryz.infoU32:(Tryz.prog.info? 166).map (fun i=>(i.zero,i.size,i.bytes))=some (some (.int .u32 0),1,4):=aj
theorem adH {w:World} {ops:Array Oper} {rest:List Oper} {o:Oper} {a:Act} {Q:Exit→Act→World→Prop} (hgd:o.guard=none) (s x:Operand) (t:TypeId) (ht:Tryz.prog.underlying t=some (.slice 166))
  (ho:o.op = .call { callee:=.builtin .append,args:=#[s,x],argTypes:=#[t,t] })
  (base:Nat) (v:Value) (l:List Nat) (hs:a.eval s=v) (hown:w.ownsRow base 166 1 v l.length (aW l))
  (B:Nat) (y:Nat) (hx:a.eval x = .slice (some ⟨B,0,none⟩) 1 1) (hB:w.heap[B]? = some (.cells #[.int .u32 (y:Int)] 166 (0,0))) (hlen:l.length≤1000000) (hbase:base≤w.heap.size)
  (h:∀ g cap w',w'.ownsRow base 166 1 (.slice (some ⟨g,0,none⟩) (l.length+1) cap) (l ++ [y]).length (aW (l ++ [y]))→w.grownBy w' v.ownBlock→(v.ownBlock=some g∨w.heap.size≤g)→g < w'.heap.size →
   wpList Tryz.prog ops Q rest (a.put o.dst (.slice (some ⟨g,0,none⟩) (l.length+1) cap)) w') :
  wpList Tryz.prog ops Q (o :: rest) a w:=by
 obtain⟨i0,hi,hz0,hz1,hz2⟩:=info_parts Tryz.infoU32;refine wpList_append_lies w hgd s x _ ho base _ i0 _ 1 4 ht hi hz0 hz1 hz2 rfl byOmega v l.length _ hs hown ⟨B,0,none⟩ 1 1 [.int .u32 (y:Int)] hx rfl (World.news_of_block hB) (by simp[Value.oneCell']) byOmega (by unfold maxLen; omega) byOmega hbase w.heap.size rfl ?_;intro g cap w' h1 h2 h3 h4;exact h g cap w' (by simpa [aW] using h1) h2 (h3.imp id fun e=>by omega) h4
theorem cO {w W:World} {ops:Array Oper} {rest:List Oper} {o:Oper} {a:Act} {Q:Exit→Act→World→Prop} (hgd:o.guard=none) (s x:Operand) (t:TypeId) (ht:Tryz.prog.underlying t=some (.slice 166))
  (ho:o.op = .call { callee:=.builtin .append,args:=#[s,x],argTypes:=#[t,t] })
  (base:Nat) (hbase:base≤W.heap.size) (v:Value) (l:List Nat) (hs:a.eval s=v) (yi:Int) (y:Nat) (hy:yi=(y:Int)) (hlen:l.length≤1000000)
  (hx:a.eval x = .slice (some ⟨w.heap.size,0,none⟩) 1 1) (hown:w.ownsRow base 166 1 v l.length (aW l)) (hbel:Below base W w)
  (h:∀ g cap w',w'.ownsRow base 166 1 (.slice (some ⟨g,0,none⟩) (l.length+1) cap) (l ++ [y]).length (aW (l ++ [y]))→Below base W w'→w.heap.size < w'.heap.size→w.grownBy w' v.ownBlock →
   wpList Tryz.prog ops Q rest (a.put o.dst (.slice (some ⟨g,0,none⟩) (l.length+1) cap)) w') :
  wpList Tryz.prog ops Q (o :: rest) a (w.alloc (.cells #[.int .u32 yi] 166)):=by
 subst hy;have hz:=hbel.size;refine adH hgd s x t ht ho base v l hs (hown.alloc _) w.heap.size y hx (heap_alloc_new _ _) hlen aC ?_;intro g cap w' h1 h2 h3 h4;have h5:=h2.size;simp only[World.size_alloc] at h5;refine h g cap w' h1 ((hbel.alloc byOmega _).grown h2 aC (fun k hk=>(hown.lt k hk).1)) byOmega ?_;exact⟨h2.os,h2.tape,h2.output,byOmega,fun k hk hne=>(h2.block k aC hne).trans (Below.heap_alloc _ _ _ hk)⟩
theorem abz {w:World} {ops:Array Oper} {rest:List Oper} {o:Oper} {a:Act} {Q:Exit→Act→World→Prop}
  (hg:o.guard=none) (l c:Operand) (t:TypeId) (hop:o.op=Op.makeSlice t l c) (ht:Tryz.prog.underlying t=some (.slice 166))
  (n:Nat) (ci:Int) (hci:ci=(n:Int)) (hl:a.eval l = .int .i64 0) (hc:a.eval c = .int .i64 ci) (hn:n≤1000000)
  (hK:∀ w1,Below w.heap.size w w1→w1.ownsRow w.heap.size 166 1 (.slice (some ⟨w.heap.size,0,none⟩) 0 n) 0 [] →
   wpList Tryz.prog ops Q rest (a.put o.dst (.slice (some ⟨w.heap.size,0,none⟩) 0 n)) w1) :
  wpList Tryz.prog ops Q (o :: rest) a w:=by
 subst hci;refine wpList_plain hg fun K hK'=>?_
 obtain⟨i0,hi,hz0,hz1,hz2⟩:=info_parts Tryz.infoU32;obtain⟨w1,hrun,hown,hgr⟩:=run_make_own (P:=Tryz.prog) w w.heap.size t 166 i0 _ 1 ht hi hz0 hz1 .i64 .i64 n (by rw[hz2]; omega) (by unfold maxLen; omega) (Nat.le_refl _);unfold Oper.wp;simp[execOp,hop,hl,hc,hrun,Result.andThen];exact hK' _ _ (hK _ ((Below.refl _ w).grown hgr (Nat.le_refl _) (fun k hk=>by cases hk)) hown)
theorem iI {w:World} {base:Nat} {t:TypeId} {v:Value} {l:List Nat} (h:w.ownsRow base t 1 v l.length (aW l)) {F:Aj} (hF:∀ b,v.ownBlock=some b→F b):AB w F v l:=by
 rcases h.2 with⟨rfl,h0⟩ | ⟨g,cap,cur,rfl,hb,hg,hnc,_,hsz,htake⟩
 ·have:l = []:=List.eq_nil_of_length_eq_zero h0;subst this;exact zbY
 ·refine⟨_,cap,rfl,hnc,fun _=>⟨g,0,rfl,hF g rfl,(Array.getElem?_eq_some_iff.1 hg).1,fun k x hk=>?_⟩⟩;unfold dw;rw[Nat.mul_one,Nat.zero_add];have hi:(aW l)[k]? = some (.int .u32 (x:Int)):=aZ hk;rw[← htake,List.getElem?_take] at hi;split at hi
  ·simp[World.cell?,hg];simpa using hi
  ·cases hi
def sliceLen (v:Value):Nat:=match v with | .slice _ n _=>n | _=>0
theorem sU {l:List Nat} {k x:Nat} (h:l[k]? = some x):dX l (k+1)=if x=0 then dX l k else k+1:=by
 rw[dX];rw[h];simp
theorem AB.trim {w:World} {F:Aj} {A:Option Addr} {n c:Nat} {l:List Nat} (hn:l.length=n) (h:AB w F (.slice A n c) l) (hl:Limbs l):Ak w F (.slice A (dX l n) c) (aG l):=by
 subst hn;obtain⟨A',c',he,hc,hN⟩:=h;injection he with h1 h2 h3;subst h1;subst h3
 have e:=ads hl;have hle:=abL l l.length;have hlen:(dig (aG l)).length=dX l l.length:=by rw[← e,List.length_take];omega
 refine⟨A,c,by rw[hlen],byOmega,fun h0=>?_⟩;obtain⟨b,o,rfl,hF,hb,hx⟩:=hN byOmega;refine⟨b,o,rfl,hF,hb,fun k x hk=>hx k x ?_⟩;rw[← e] at hk;have hk2:=aK hk;rw[List.length_take] at hk2;rwa [List.getElem?_take_of_lt byOmega] at hk
theorem nZ (w:World) (F:Aj) (A:Option Addr) (n c:Nat) (l:List Nat) (hn:l.length=n) (hv:AB w F (.slice A n c) l) (hl:n≤1000000) :
  Calls Tryz.prog 197 #[.slice A n c] w fun e w'=>e = .returned (.slice A (dX l n) c)∧w=w':=by
 subst hn;obtain⟨A',c',he,hc,hN⟩:=hv;injection he with h1 h2 h3;subst h1;subst h3
 have HN:=Ag hN;clear hN h2;go_in;go_wp2
 go_loop [0] (fun a=>∃ k:Nat,k≤l.length∧a = .slice A k c∧dX l k=dX l l.length) (fun a=>sliceLen a)
 case atStart=>exact⟨l.length,Nat.le_refl _,rfl,rfl⟩
 case round =>
  obtain⟨k,hk,rfl,ht⟩:=hrel;have HT:=Ag ht;clear ht;rcases Nat.eq_zero_or_pos k with h0 | h0
  ·exact zcS
  ·obtain⟨j,rfl⟩:∃ j,k=j+1:=⟨k - 1,byOmega⟩;obtain⟨b,o,rfl,_,hb,hx⟩:=HN.out byOmega;obtain⟨x,hx'⟩:=aB (l:=l) (k:=j) byOmega;have ex:=hx j x hx';unfold dw at ex;rw[Nat.mul_one] at ex;have HS:=Ag (sU hx');clear hx hx';by_cases hz:x=0
   ·subst hz;go_wp2
    go_round
    case rel=>exact⟨j,byOmega,rfl,by rw[← HT.out,HS.out,if_pos rfl]⟩
    case measure=>simp[sliceLen]
   ·exact zar
theorem uD (w:World) (F:Aj) (A:Option Addr) (n c:Nat) (l:List Nat) (hn:l.length=n) (hv:AB w F (.slice A n c) l) (hl:n≤1000000) :
  Calls Tryz.prog 241 #[.slice A n c] w fun e w'=>e = .returned (.slice A (dX l n) c)∧w=w':=by
 subst hn;obtain⟨A',c',he,hc,hN⟩:=hv;injection he with h1 h2 h3;subst h1;subst h3
 have HN:=Ag hN;clear hN h2;go_in;go_wp2
 go_loop [0] (fun a=>∃ k:Nat,k≤l.length∧a = .slice A k c∧dX l k=dX l l.length) (fun a=>sliceLen a)
 case atStart=>exact⟨l.length,Nat.le_refl _,rfl,rfl⟩
 case round =>
  obtain⟨k,hk,rfl,ht⟩:=hrel;have HT:=Ag ht;clear ht;rcases Nat.eq_zero_or_pos k with h0 | h0
  ·exact zcS
  ·obtain⟨j,rfl⟩:∃ j,k=j+1:=⟨k - 1,byOmega⟩;obtain⟨b,o,rfl,_,hb,hx⟩:=HN.out byOmega;obtain⟨x,hx'⟩:=aB (l:=l) (k:=j) byOmega;have ex:=hx j x hx';unfold dw at ex;rw[Nat.mul_one] at ex;have HS:=Ag (sU hx');clear hx hx';by_cases hz:x=0
   ·subst hz;go_wp2
    go_round
    case rel=>exact⟨j,byOmega,rfl,by rw[← HT.out,HS.out,if_pos rfl]⟩
    case measure=>simp[sliceLen]
   ·exact zar
theorem kM (w:World) (F:Aj) (A:Option Addr) (n c:Nat) (l:List Nat) (hn:l.length=n) (hv:AB w F (.slice A n c) l) (hl:n≤1000000) :
  Calls Tryz.prog 169 #[.slice A n c] w fun e w'=>e = .returned (.slice A (dX l n) c)∧w=w':=by
 subst hn;obtain⟨A',c',he,hc,hN⟩:=hv;injection he with h1 h2 h3;subst h1;subst h3
 have HN:=Ag hN;clear hN h2;go_in;go_wp2
 go_loop [0] (fun a=>∃ k:Nat,k≤l.length∧a = .slice A k c∧dX l k=dX l l.length) (fun a=>sliceLen a)
 case atStart=>exact⟨l.length,Nat.le_refl _,rfl,rfl⟩
 case round =>
  obtain⟨k,hk,rfl,ht⟩:=hrel;have HT:=Ag ht;clear ht;rcases Nat.eq_zero_or_pos k with h0 | h0
  ·exact zcS
  ·obtain⟨j,rfl⟩:∃ j,k=j+1:=⟨k - 1,byOmega⟩;obtain⟨b,o,rfl,_,hb,hx⟩:=HN.out byOmega;obtain⟨x,hx'⟩:=aB (l:=l) (k:=j) byOmega;have ex:=hx j x hx';unfold dw at ex;rw[Nat.mul_one] at ex;have HS:=Ag (sU hx');clear hx hx';by_cases hz:x=0
   ·subst hz;go_wp2
    go_round
    case rel=>exact⟨j,byOmega,rfl,by rw[← HT.out,HS.out,if_pos rfl]⟩
    case measure=>simp[sliceLen]
   ·exact zar
theorem kE (w:World) (F:Aj) (v:Value) (n:Nat) (hv:Ak w F v n) (hl:(dig n).length≤1000000) :
  Calls Tryz.prog 185 #[v] w fun e w'=>e = .returned (.bool (decide (n=1)))∧w=w':=by
 obtain⟨A,c,rfl,hc,hN⟩:=hv;have HN:=Ag hN;clear hN;by_cases h1:(dig n).length=1
 ·obtain⟨b,o,rfl,_,hb,hx⟩:=HN.out byOmega;obtain⟨x,hx'⟩:=aB (l:=dig n) (k:=0) byOmega;have ex:=hx 0 x hx';unfold dw at ex;simp only[Nat.zero_mul,Nat.add_zero] at ex;have HD:=Ag (show decide (n=1)=decide (x=1) by
   rw[decide_eq_decide,← aao];obtain⟨y,hy⟩:=List.length_eq_one_iff.1 h1;rw[hy] at hx' ⊢;simp at hx';simp[hx'])
  rw[h1];clear hx hx' hc;by_cases h2:x=1
  ·subst h2;go_in;go_wp2
   go_ret;exact⟨by rw[HD.out]; rfl,rfl⟩
  ·exact zcn
 ·exact zaS
theorem lZ (w:World) (F:Aj) (v:Value) (n:Nat) (hv:Ak w F v n) (hl:(dig n).length≤1000000) :
  Calls Tryz.prog 193 #[v] w fun e w'=>e = .returned (.bool (decide (n=1)))∧w=w':=by
 obtain⟨A,c,rfl,hc,hN⟩:=hv;have HN:=Ag hN;clear hN;by_cases h1:(dig n).length=1
 ·obtain⟨b,o,rfl,_,hb,hx⟩:=HN.out byOmega;obtain⟨x,hx'⟩:=aB (l:=dig n) (k:=0) byOmega;have ex:=hx 0 x hx';unfold dw at ex;simp only[Nat.zero_mul,Nat.add_zero] at ex;have HD:=Ag (show decide (n=1)=decide (x=1) by
   rw[decide_eq_decide,← aao];obtain⟨y,hy⟩:=List.length_eq_one_iff.1 h1;rw[hy] at hx' ⊢;simp at hx';simp[hx'])
  rw[h1];clear hx hx' hc;by_cases h2:x=1
  ·subst h2;go_in;go_wp2
   go_ret;exact⟨by rw[HD.out]; rfl,rfl⟩
  ·exact zcn
 ·exact zaS
theorem aaG (w:World) (F:Aj) (v:Value) (n:Nat) (hv:Ak w F v n) (hl:(dig n).length≤2) :
  Calls Tryz.prog 214 #[v] w fun e w'=>e = .returned (.int .u64 (n:Int))∧w=w':=by
 obtain⟨A,c,rfl,hc,hN⟩:=hv;have HN:=Ag hN;clear hN;go_in;go_wp2
 go_loop [3,4] (fun m i=>∃ k:Nat,k≤(dig n).length∧i = .int .i64 ((k:Int) - 1)∧m = .int .u64 (aG ((dig n).drop k):Int)) (fun _ i=>(intOf i+1).toNat)
 case atStart=>exact⟨(dig n).length,Nat.le_refl _,rfl,by rw[List.drop_length]; rfl⟩
 case round =>
  obtain⟨k,hk,rfl,rfl⟩:=hrel;rcases Nat.eq_zero_or_pos k with h0 | h0
  ·exact zbp
  ·obtain⟨j,rfl⟩:∃ j,k=j+1:=⟨k - 1,byOmega⟩;obtain⟨b,o,rfl,_,hb,hx⟩:=HN.out byOmega;obtain⟨x,hx'⟩:=aB (l:=dig n) (k:=j) byOmega;have ex:=hx j x hx';unfold dw at ex;rw[Nat.mul_one] at ex;have HS:=Ag (show aG ((dig n).drop j)=x+LB*aG ((dig n).drop (j+1)) by rw[bW,aO hx']);have hxl:x < 1000000000:=(aQ n).get hx';have hm:aG ((dig n).drop (j+1)) < 1000000000:=by
    exact zbd
   clear hx hx';generalize aG ((dig n).drop (j+1))=m at *;refine Yv ?_;go_wp2
   go_round
   case rel=>exact⟨j,byOmega,by go_num,by rw[HS.out]; simp; omega⟩
   case measure=>simp[intOf]
theorem og (w:World) (F:Aj) (v:Value) (n:Nat) (hv:Ak w F v n) (hl:(dig n).length≤2) :
  Calls Tryz.prog 192 #[v] w fun e w'=>e = .returned (.int .u64 (n:Int))∧w=w':=by
 obtain⟨A,c,rfl,hc,hN⟩:=hv;have HN:=Ag hN;clear hN;go_in;go_wp2
 go_loop [3,4] (fun m i=>∃ k:Nat,k≤(dig n).length∧i = .int .i64 ((k:Int) - 1)∧m = .int .u64 (aG ((dig n).drop k):Int)) (fun _ i=>(intOf i+1).toNat)
 case atStart=>exact⟨(dig n).length,Nat.le_refl _,rfl,by rw[List.drop_length]; rfl⟩
 case round =>
  obtain⟨k,hk,rfl,rfl⟩:=hrel;rcases Nat.eq_zero_or_pos k with h0 | h0
  ·exact zbp
  ·obtain⟨j,rfl⟩:∃ j,k=j+1:=⟨k - 1,byOmega⟩;obtain⟨b,o,rfl,_,hb,hx⟩:=HN.out byOmega;obtain⟨x,hx'⟩:=aB (l:=dig n) (k:=j) byOmega;have ex:=hx j x hx';unfold dw at ex;rw[Nat.mul_one] at ex;have HS:=Ag (show aG ((dig n).drop j)=x+LB*aG ((dig n).drop (j+1)) by rw[bW,aO hx']);have hxl:x < 1000000000:=(aQ n).get hx';have hm:aG ((dig n).drop (j+1)) < 1000000000:=by
    exact zbd
   clear hx hx';generalize aG ((dig n).drop (j+1))=m at *;refine Yv ?_;go_wp2
   go_round
   case rel=>exact⟨j,byOmega,by go_num,by rw[HS.out]; simp; omega⟩
   case measure=>simp[intOf]
theorem rJ (w:World) (n:Nat) (hn:n < 18446744073709551616) :
  Calls Tryz.prog 133 #[.int .u64 (n:Int)] w (Ret w fun v w'=>Ak w' (fun b=>w.heap.size≤b) v n):=by
 go_in;go_wp2
 go_loopw [0,3] (fun u v wr=>∃ (m:Nat) (l:List Nat),u = .int .u64 (m:Int)∧m≤n∧l++dig m=dig n∧wr.ownsRow w.heap.size 166 1 v l.length (aW l)∧Below w.heap.size w wr) (fun u _ _=>(intOf u).toNat)
 case atStart=>exact⟨n,[],rfl,Nat.le_refl _,rfl,World.ownsRow_nil _ _ _ _,Below.refl _ _⟩
 case round =>
  obtain⟨m,l,rfl,hm,hd,hown,hbel⟩:=hrel;have HD:=Ag hd;have HO:=Ag hown;have hll:l.length≤1000000:=by
   have h1:(dig n).length≤3:=aT (Nat.lt_trans hn ay);exact zdg
  clear hd hown;rcases Nat.eq_zero_or_pos m with h0 | h0
  ·exact YW
  ·have HD2:=Ag (show l ++ [m % 1000000000]++dig (m / 1000000000)=dig n by rw[← HD.out,jV (by omega:m≠0)]; simp);go_wp2_with (at_builtin; refine cO rfl _ _ 80 Tryz.underlying80 rfl w.heap.size (Nat.le_refl _) _ l rfl _ (m % 1000000000) byOmega hll rfl HO.out hbel ?_; intro g cap w' hown' bD hlt' fZ; have HO':=Ag hown'; clear hown' fZ)
   go_roundw
   case rel=>exact⟨m / 1000000000,l ++ [m % 1000000000],by go_num,byOmega,HD2.out,by simpa using HO'.out,bD⟩
   case measure=>simp[intOf]; omega
theorem acI (w:World) (n:Nat) (hn:n < 18446744073709551616) :
  Calls Tryz.prog 216 #[.int .u64 (n:Int)] w (Ret w fun v w'=>Ak w' (fun b=>w.heap.size≤b) v n):=by
 go_in;go_wp2
 go_loopw [0,3] (fun u v wr=>∃ (m:Nat) (l:List Nat),u = .int .u64 (m:Int)∧m≤n∧l++dig m=dig n∧wr.ownsRow w.heap.size 166 1 v l.length (aW l)∧Below w.heap.size w wr) (fun u _ _=>(intOf u).toNat)
 case atStart=>exact⟨n,[],rfl,Nat.le_refl _,rfl,World.ownsRow_nil _ _ _ _,Below.refl _ _⟩
 case round =>
  obtain⟨m,l,rfl,hm,hd,hown,hbel⟩:=hrel;have HD:=Ag hd;have HO:=Ag hown;have hll:l.length≤1000000:=by
   have h1:(dig n).length≤3:=aT (Nat.lt_trans hn ay);exact zdg
  clear hd hown;rcases Nat.eq_zero_or_pos m with h0 | h0
  ·exact YW
  ·have HD2:=Ag (show l ++ [m % 1000000000]++dig (m / 1000000000)=dig n by rw[← HD.out,jV (by omega:m≠0)]; simp);go_wp2_with (at_builtin; refine cO rfl _ _ 81 Tryz.underlying81 rfl w.heap.size (Nat.le_refl _) _ l rfl _ (m % 1000000000) byOmega hll rfl HO.out hbel ?_; intro g cap w' hown' bD hlt' fZ; have HO':=Ag hown'; clear hown' fZ)
   go_roundw
   case rel=>exact⟨m / 1000000000,l ++ [m % 1000000000],by go_num,byOmega,HD2.out,by simpa using HO'.out,bD⟩
   case measure=>simp[intOf]; omega
theorem acJ (w:World) (x:Int):Calls Tryz.prog 224 #[.int .i64 x] w fun e w'=>e = .returned (.bool false)∧w'=w:=by
 have h:(x != x)=false:=aA;exact zba
theorem zx (w:World) (x y:Nat):Calls Tryz.prog 195 #[.int .i64 (x:Int),.int .i64 (y:Int)] w fun e w'=>e = .returned (.int .i64 (dA x y))∧w'=w:=by
 rcases Nat.lt_trichotomy x y with h | h | h
 ·have HO:=Ag (show dA x y = -1 by unfold dA; rw[if_pos h]);exact zaj
 ·have HO:=Ag (show dA x y=0 by unfold dA; rw[if_neg byOmega,if_pos h]);have h1:x≤y:=byOmega;have h2:y≤x:=byOmega;clear h;exact zaj
 ·have HO:=Ag (show dA x y=1 by unfold dA; rw[if_neg byOmega,if_neg byOmega]);exact zaj
theorem vY (w:World) (x:Int):Calls Tryz.prog 225 #[.int .u32 x] w fun e w'=>e = .returned (.bool false)∧w'=w:=by
 have h:(x != x)=false:=aA;exact zba
theorem sV (w:World) (x y:Nat):Calls Tryz.prog 196 #[.int .u32 (x:Int),.int .u32 (y:Int)] w fun e w'=>e = .returned (.int .i64 (dA x y))∧w'=w:=by
 rcases Nat.lt_trichotomy x y with h | h | h
 ·have HO:=Ag (show dA x y = -1 by unfold dA; rw[if_pos h]);exact zal
 ·have HO:=Ag (show dA x y=0 by unfold dA; rw[if_neg byOmega,if_pos h]);have h1:x≤y:=byOmega;have h2:y≤x:=byOmega;clear h;exact zal
 ·have HO:=Ag (show dA x y=1 by unfold dA; rw[if_neg byOmega,if_neg byOmega]);exact zal
theorem adI {P:Program} {f:FuncId} {args:Array Value} {w:World} {a n:Nat} {v:Value}
  (h:Calls P f args (w.drewN (a+n)) fun e w'=>e = .returned v∧w'=w.drewN (a+n)) :
  Calls P f args (w.drewN (a+n)) fun e w''=>e = .returned v∧∃ m,w''=w.drewN (a+m) :=
 h.mono fun _ _ ⟨he,hm⟩=>⟨he,n,hm⟩
theorem gQ {a b:Nat} (h:a < b):dA a b = -1:=by unfold dA; rw[if_pos h]
theorem acK (a:Nat):dA a a=0:=by unfold dA; simp
theorem lF {a b:Nat} (h:b < a):dA a b=1:=by unfold dA; rw[if_neg byOmega,if_neg byOmega]
theorem jc (w:World) (F:Aj) (va vb:Value) (a b:Nat) (ha:Ak w F va a) (hb:Ak w F vb b) (hla:(dig a).length≤1000000) (hlb:(dig b).length≤1000000) :
  Calls Tryz.prog 165 #[va,vb] w fun e w'=>e = .returned (.int .i64 (dA a b))∧∃ n,w'=w.drewN n:=by
 obtain⟨A,c,rfl,hc,hNa⟩:=ha;obtain⟨B,d,rfl,hd,hNb⟩:=hb;have HA:=Ag hNa;have HB:=Ag hNb;clear hNa hNb;by_cases hlen:(dig a).length=(dig b).length
 ·have HL:=Ag hlen;rw[← hlen] at hd hlb ⊢;clear hlen;go_in;go_wp2
  go_loopw [5] (fun i wr=>∃ (k q:Nat),k≤(dig a).length∧i = .int .i64 ((k:Int) - 1)∧(dig a).drop k=(dig b).drop k∧wr=w.drewN q) (fun i _=>(intOf i+1).toNat)
  case atStart=>exact⟨(dig a).length,0,Nat.le_refl _,rfl,by rw[List.drop_length,HL.out,List.drop_length],rfl⟩
  case round =>
   obtain⟨k,q,hk,rfl,hdr,rfl⟩:=hrel;have HD:=Ag hdr;clear hdr;rcases Nat.eq_zero_or_pos k with h0 | h0
   ·subst h0;have HE:=Ag (show dA a b=0 by
     have:=HD.out; rw[List.drop_zero,List.drop_zero] at this;rw[uo this]; exact acK b)
    exact zdR
   ·obtain⟨j,rfl⟩:∃ j,k=j+1:=⟨k - 1,byOmega⟩;obtain⟨b1,o1,rfl,_,hb1,hx⟩:=HA.out byOmega;have HL2:=HL.out;obtain⟨b2,o2,rfl,_,hb2,hy⟩:=HB.out byOmega;refine zcU ?_;intro x hx' y hy' ex ey;unfold dw at ex ey;rw[Nat.mul_one] at ex ey;refine zdF ?_;clear hx hx' hy hy' HL2;intro hxl hyl HX HY;rcases Nat.lt_trichotomy x y with h | h | h
    ·have HE:=Ag (gQ (jg HL.out HD.out HX.out HY.out h));have hne:((x:Int) != (y:Int))=true:=aC;have HO:=Ag (show dA x y=dA a b by rw[HE.out]; first | exact gQ h | exact lF h);go_wp2
     go_quiet (fail)
     go_wp2
     go_quiet ((go_at_call 196; exact adI (sV _ _ _)))
     exact zcx
    ·subst h;have HE:=Ag (qX HD.out HX.out HY.out);have hne:((x:Int) != (x:Int))=false:=aA;go_wp2
     go_quiet (fail)
     go_wp2
     go_roundw
     case rel=>exact⟨j,_,byOmega,by go_num,HE.out,rfl⟩
     case measure=>simp[intOf]
    ·have HE:=Ag (lF (jg HL.out.symm HD.out.symm HY.out HX.out h));have hne:((x:Int) != (y:Int))=true:=aC;have HO:=Ag (show dA x y=dA a b by rw[HE.out]; first | exact gQ h | exact lF h);go_wp2
     go_quiet (fail)
     go_wp2
     go_quiet ((go_at_call 196; exact adI (sV _ _ _)))
     exact zcx
 ·have hne:(((dig a).length:Int) != ((dig b).length:Int))=true:=aC;rcases Nat.lt_or_gt_of_ne hlen with h | h
  ·have HE:=Ag (gQ (lV h));have HE2:=Ag (gQ h);clear hlen;go_in;go_wp2_with (go_at_call 195; ((with_reducible refine(zx _ _ _).mono ?_); rintro e w' ⟨rfl,rfl⟩))
   exact YU
  ·have HE:=Ag (lF (lV h));have HE2:=Ag (lF h);have hnlt:decide ((dig a).length < (dig b).length)=false:=decide_eq_false byOmega;clear hlen;go_in;go_wp2_with (go_at_call 195; ((with_reducible refine(zx _ _ _).mono ?_); rintro e w' ⟨rfl,rfl⟩))
   exact YU
theorem xH (w:World) (F:Aj) (va vb:Value) (a b:Nat) (ha:Ak w F va a) (hb:Ak w F vb b) (hla:(dig a).length≤1000000) (hlb:(dig b).length≤1000000) :
  Calls Tryz.prog 218 #[va,vb] w fun e w'=>e = .returned (.int .i64 (dA a b))∧∃ n,w'=w.drewN n:=by
 obtain⟨A,c,rfl,hc,hNa⟩:=ha;obtain⟨B,d,rfl,hd,hNb⟩:=hb;have HA:=Ag hNa;have HB:=Ag hNb;clear hNa hNb;by_cases hlen:(dig a).length=(dig b).length
 ·have HL:=Ag hlen;rw[← hlen] at hd hlb ⊢;clear hlen;go_in;go_wp2
  go_loopw [5] (fun i wr=>∃ (k q:Nat),k≤(dig a).length∧i = .int .i64 ((k:Int) - 1)∧(dig a).drop k=(dig b).drop k∧wr=w.drewN q) (fun i _=>(intOf i+1).toNat)
  case atStart=>exact⟨(dig a).length,0,Nat.le_refl _,rfl,by rw[List.drop_length,HL.out,List.drop_length],rfl⟩
  case round =>
   obtain⟨k,q,hk,rfl,hdr,rfl⟩:=hrel;have HD:=Ag hdr;clear hdr;rcases Nat.eq_zero_or_pos k with h0 | h0
   ·subst h0;have HE:=Ag (show dA a b=0 by
     have:=HD.out; rw[List.drop_zero,List.drop_zero] at this;rw[uo this]; exact acK b)
    exact zdR
   ·obtain⟨j,rfl⟩:∃ j,k=j+1:=⟨k - 1,byOmega⟩;obtain⟨b1,o1,rfl,_,hb1,hx⟩:=HA.out byOmega;have HL2:=HL.out;obtain⟨b2,o2,rfl,_,hb2,hy⟩:=HB.out byOmega;refine zcU ?_;intro x hx' y hy' ex ey;unfold dw at ex ey;rw[Nat.mul_one] at ex ey;refine zdF ?_;clear hx hx' hy hy' HL2;intro hxl hyl HX HY;rcases Nat.lt_trichotomy x y with h | h | h
    ·have HE:=Ag (gQ (jg HL.out HD.out HX.out HY.out h));skip;go_wp2
     go_quiet (fail)
     skip
     exact zak
    ·subst h;have HE:=Ag (qX HD.out HX.out HY.out);skip;go_wp2
     go_quiet (fail)
     go_wp2
     go_quiet (fail)
     go_wp2
     go_roundw
     case rel=>exact⟨j,_,byOmega,by go_num,HE.out,rfl⟩
     case measure=>simp[intOf]
    ·have HE:=Ag (lF (jg HL.out.symm HD.out.symm HY.out HX.out h));skip;go_wp2
     go_quiet (fail)
     go_wp2
     go_quiet (fail)
     exact zak
 ·have hne:(((dig a).length:Int) != ((dig b).length:Int))=true:=aC;rcases Nat.lt_or_gt_of_ne hlen with h | h
  ·have HE:=Ag (gQ (lV h));have HE2:=Ag (gQ h);clear hlen;go_in;go_wp2
   exact YU
  ·exact zbB
theorem ae6 (w:World) (F:Aj) (va vb:Value) (a b:Nat) (ha:Ak w F va a) (hb:Ak w F vb b) (hla:(dig a).length≤1000000) (hlb:(dig b).length≤1000000) :
  Calls Tryz.prog 121 #[va,vb] w fun e w'=>e = .returned (.int .i64 (dA a b))∧∃ n,w'=w.drewN n:=by
 obtain⟨A,c,rfl,hc,hNa⟩:=ha;obtain⟨B,d,rfl,hd,hNb⟩:=hb;have HA:=Ag hNa;have HB:=Ag hNb;clear hNa hNb;by_cases hlen:(dig a).length=(dig b).length
 ·have HL:=Ag hlen;rw[← hlen] at hd hlb ⊢;clear hlen;go_in;go_wp2
  go_loopw [5] (fun i wr=>∃ (k q:Nat),k≤(dig a).length∧i = .int .i64 ((k:Int) - 1)∧(dig a).drop k=(dig b).drop k∧wr=w.drewN q) (fun i _=>(intOf i+1).toNat)
  case atStart=>exact⟨(dig a).length,0,Nat.le_refl _,rfl,by rw[List.drop_length,HL.out,List.drop_length],rfl⟩
  case round =>
   obtain⟨k,q,hk,rfl,hdr,rfl⟩:=hrel;have HD:=Ag hdr;clear hdr;rcases Nat.eq_zero_or_pos k with h0 | h0
   ·subst h0;have HE:=Ag (show dA a b=0 by
     have:=HD.out; rw[List.drop_zero,List.drop_zero] at this;rw[uo this]; exact acK b)
    exact zdR
   ·obtain⟨j,rfl⟩:∃ j,k=j+1:=⟨k - 1,byOmega⟩;obtain⟨b1,o1,rfl,_,hb1,hx⟩:=HA.out byOmega;have HL2:=HL.out;obtain⟨b2,o2,rfl,_,hb2,hy⟩:=HB.out byOmega;refine zcU ?_;intro x hx' y hy' ex ey;unfold dw at ex ey;rw[Nat.mul_one] at ex ey;refine zdF ?_;clear hx hx' hy hy' HL2;intro hxl hyl HX HY;rcases Nat.lt_trichotomy x y with h | h | h
    ·have HE:=Ag (gQ (jg HL.out HD.out HX.out HY.out h));skip;go_wp2
     go_quiet (fail)
     skip
     exact zak
    ·subst h;have HE:=Ag (qX HD.out HX.out HY.out);skip;go_wp2
     go_quiet (fail)
     go_wp2
     go_quiet (fail)
     go_wp2
     go_roundw
     case rel=>exact⟨j,_,byOmega,by go_num,HE.out,rfl⟩
     case measure=>simp[intOf]
    ·have HE:=Ag (lF (jg HL.out.symm HD.out.symm HY.out HX.out h));skip;go_wp2
     go_quiet (fail)
     go_wp2
     go_quiet (fail)
     exact zak
 ·have hne:(((dig a).length:Int) != ((dig b).length:Int))=true:=aC;rcases Nat.lt_or_gt_of_ne hlen with h | h
  ·have HE:=Ag (gQ (lV h));have HE2:=Ag (gQ h);clear hlen;go_in;go_wp2
   exact YU
  ·exact zbB
structure Raw where
 neg:Bool
 num:List Nat
 den:List Nat
 deriving Inhabited,DecidableEq
def AA (w:World) (F:Aj) (v:Value) (r:Raw):Prop:=∃ vn vd,v = .agg #[.bool r.neg,vn,vd]∧AB w F vn r.num∧AB w F vd r.den
theorem AA.keep {w w':World} {F G:Aj} {v:Value} {r:Raw} (h:AA w F v r) (hFG:∀ b,F b→b < w.heap.size→G b) (hs:Same F w w'):AA w' G v r:=by
 obtain⟨vn,vd,rfl,h1,h2⟩:=h;exact⟨vn,vd,rfl,h1.keep hFG hs,h2.keep hFG hs⟩
theorem AA.on {w w':World} {F:Aj} {v:Value} {r:Raw} (h:AA w F v r) (hs:Same F w w'):AA w' F v r:=h.keep (fun _ h _=>h) hs
theorem AA.below {w w':World} {F:Aj} {v:Value} {r:Raw} (h:AA w F v r) (hb:Below w.heap.size w w'):AA w' F v r:=h.on (Below.same' hb F)
theorem AA.mono {w:World} {F G:Aj} {v:Value} {r:Raw} (h:AA w F v r) (hFG:∀ b,F b→b < w.heap.size→G b):AA w G v r:=h.keep hFG (Same.refl _ _)
def CS (w:World) (F:Aj) (b o:Nat) (r:Raw):Prop:=w.cell? ⟨b,o,none⟩=some (.bool r.neg)∧xk AB w F b (o+1) r.num∧xk AB w F b (o+2) r.den
theorem vF {w w':World} {F G:Aj} {b o:Nat} {l:List Nat} (h:xk AB w F b o l) (hFG:∀ b,F b→b < w.heap.size→G b) (hs:Same F w w') (hb:F b) (hl:b < w.heap.size):xk AB w' G b o l:=by
 exact zbM
theorem CS.keep {w w':World} {F G:Aj} {b o:Nat} {r:Raw} (h:CS w F b o r) (hFG:∀ b,F b→b < w.heap.size→G b) (hs:Same F w w') (hb:F b) (hl:b < w.heap.size):CS w' G b o r :=
 ⟨by rw[hs.cell hb hl]; exact h.1,vF h.2.1 hFG hs hb hl,vF h.2.2 hFG hs hb hl⟩
def AL (w:World) (F:Aj) (v:Value) (l:List Raw):Prop:=BN 3 CS w F v l
theorem AL.keep {w w':World} {F G:Aj} {v:Value} {l:List Raw} (h:AL w F v l) (hFG:∀ b,F b→b < w.heap.size→G b) (hs:Same F w w'):AL w' G v l :=
 BN.keep h hFG hs.size fun _ _ _ _ hb hl hx=>hx.keep hFG hs hb hl
theorem AL.on {w w':World} {F:Aj} {v:Value} {l:List Raw} (h:AL w F v l) (hs:Same F w w'):AL w' F v l:=h.keep (fun _ h _=>h) hs
theorem AL.nil (w:World) (F:Aj):AL w F (.slice none 0 0) []:=⟨none,0,rfl,Nat.le_refl _,fun h=>absurd h aA⟩
def Ah (w:World) (F:Aj) (v:Value) (l:List (List Raw)):Prop:=BN 1 (xk AL) w F v l
theorem acL {w w':World} {F G:Aj} {b o:Nat} {l:List Raw} (h:xk AL w F b o l) (hFG:∀ b,F b→b < w.heap.size→G b) (hs:Same F w w') (hb:F b) (hl:b < w.heap.size):xk AL w' G b o l:=by
 exact zbM
theorem Ah.keep {w w':World} {F G:Aj} {v:Value} {l:List (List Raw)} (h:Ah w F v l) (hFG:∀ b,F b→b < w.heap.size→G b) (hs:Same F w w'):Ah w' G v l :=
 BN.keep h hFG hs.size fun _ _ _ _ hb hl hx=>acL hx hFG hs hb hl
theorem Ah.on {w w':World} {F:Aj} {v:Value} {l:List (List Raw)} (h:Ah w F v l) (hs:Same F w w'):Ah w' F v l:=h.keep (fun _ h _=>h) hs
theorem Ah.nil (w:World) (F:Aj):Ah w F (.slice none 0 0) []:=⟨none,0,rfl,Nat.le_refl _,fun h=>absurd h aA⟩
def au (x:Rat):Raw:=⟨dD x,dig x.num.natAbs,dig x.den⟩
def ak (x:Rat):Raw:=⟨dD x,dig x.num.natAbs,if x.den=1 then [] else dig x.den⟩
abbrev RtV (w:World) (F:Aj) (v:Value) (x:Rat):Prop:=AA w F v (au x)
abbrev NmV (w:World) (F:Aj) (v:Value) (x:Rat):Prop:=AA w F v (ak x)
abbrev Du (w:World) (F:Aj) (v:Value) (l:List Rat):Prop:=AL w F v (l.map au)
abbrev DZ (w:World) (F:Aj) (v:Value) (l:List Rat):Prop:=AL w F v (l.map ak)
abbrev BD (w:World) (F:Aj) (v:Value) (l:List (List Rat)):Prop:=Ah w F v (l.map (List.map au))
theorem agM {x y:Rat} (h:au x=au y):x=y:=by
 simp only[au,Raw.mk.injEq] at h;exact ajp (uo h.2.1) (uo h.2.2) h.1
theorem AA.make {w:World} {F:Aj} {neg:Bool} {vn vd:Value} {r:Raw} (hn:neg=r.neg) (h1:AB w F vn r.num) (h2:AB w F vd r.den):AA w F (.agg #[.bool neg,vn,vd]) r:=⟨vn,vd,by rw[hn],h1,h2⟩
theorem NmV.make {w:World} {F:Aj} {neg:Bool} {vn vd:Value} {x:Rat} (hn:neg=dD x) (h1:Ak w F vn x.num.natAbs) (h2:AB w F vd (if x.den=1 then [] else dig x.den)):NmV w F (.agg #[.bool neg,vn,vd]) x:=⟨vn,vd,by rw[hn]; rfl,h1,h2⟩
theorem gG (w:World) (F:Aj) (A:Option Addr) (c:Nat):AB w F (.slice A 0 c) []:=⟨A,c,rfl,Nat.zero_le _,fun h=>absurd h aA⟩
theorem NmV.zero (w:World) (F:Aj) (A B:Option Addr) (c d:Nat):NmV w F (.agg #[.bool false,.slice A 0 c,.slice B 0 d]) 0 :=
 NmV.make rfl (Ak.zero w F A c) (by rw[if_pos (show(0:Rat).den=1 from rfl)]; exact gG w F B d)
theorem aN (w:World) (t:TypeId) (c:Array Value):∃ W:World,W=w.alloc (.cells c t)∧Row W w.heap.size t c.toList∧Below w.heap.size w W∧w.heap.size+1=W.heap.size :=
 ⟨_,rfl,Row.new w t c,(Below.refl _ _).alloc (Nat.le_refl _) _,aA⟩
theorem alloc2 (w:World) (t:TypeId) (c:Array Value) (t':TypeId) (c':Array Value):∃ W:World,W=(w.alloc (.cells c t)).alloc (.cells c' t')∧Row W w.heap.size t c.toList∧Row W (w.heap.size+1) t' c'.toList∧Below w.heap.size w W∧w.heap.size+1 < W.heap.size:=by
 have h:=Row.new (w.alloc (.cells c t)) t' c';exact⟨_,rfl,(Row.new w t c).alloc _,by simpa using h,((Below.refl _ _).alloc (Nat.le_refl _) _).alloc aA _,aA⟩
theorem kF (w:World) (t:TypeId) (c:Array Value) (t':TypeId) (c':Array Value) (t'':TypeId) (c'':Array Value):∃ W:World,W=((w.alloc (.cells c t)).alloc (.cells c' t')).alloc (.cells c'' t'')∧Row W w.heap.size t c.toList∧Row W (w.heap.size+1) t' c'.toList∧Row W (w.heap.size+2) t'' c''.toList∧Below w.heap.size w W∧w.heap.size+2 < W.heap.size:=by
 obtain⟨W,hW,h1,h2,h3,_⟩:=alloc2 w t c t' c';have h:=Row.new W t'' c'';have e:W.heap.size=w.heap.size+2:=by rw[hW];simp
 refine⟨_,rfl,?_,?_,?_,?_,aA⟩
 ·rw[← hW];exact h1.alloc _
 ·rw[← hW];exact h2.alloc _
 ·rw[← hW];rw[← e];exact h
 ·rw[← hW];exact h3.alloc byOmega _
def Old (F:Aj) (n:Nat):Aj:=fun b=>F b∧b < n
theorem Ak.old {w:World} {F:Aj} {v:Value} {n:Nat} (h:Ak w F v n):Ak w (Old F w.heap.size) v n:=h.mono fun _ hb hl=>⟨hb,hl⟩
theorem AB.old {w:World} {F:Aj} {v:Value} {n:List Nat} (h:AB w F v n):AB w (Old F w.heap.size) v n:=h.keep (fun _ hb hl=>⟨hb,hl⟩) (Same.refl _ _)
theorem AA.old {w:World} {F:Aj} {v:Value} {r:Raw} (h:AA w F v r):AA w (Old F w.heap.size) v r:=h.mono fun _ hb hl=>⟨hb,hl⟩
def dM (num den:List Nat):Int:=if dG num≠0 then dG num else if dG den≠0 then dG den else if den.length=0 then 6 else 0
def dZ (r:Raw):Int:=if dM r.num r.den≠0 then dM r.num r.den else if (r.num.length=0∧r.neg=true)∨Nat.gcd (aG r.num) (aG r.den)≠1 then 3 else 0
theorem sW {num den:List Nat} (h:dM num den=0):num=dig (aG num)∧den=dig (aG den)∧aG den≠0∧num.length≤1024∧den.length≤1024:=by
 unfold dM at h;by_cases h1:dG num=0
 ·rw[if_neg (by simpa using h1)] at h;by_cases h2:dG den=0
  ·rw[if_neg (by simpa using h2)] at h;by_cases h3:den.length=0
   ·rw[if_pos h3] at h;omega
   ·have k1:=abR h1;have k2:=abR h2;refine⟨k1.1,k2.1,fun e=>h3 ?_,k1.2,k2.2⟩;rw[k2.1,e,bK];rfl
  ·rw[if_pos h2] at h;exact absurd h h2
 ·rw[if_pos h1] at h;exact absurd h h1
theorem uF {r:Raw} (h:dZ r=0):(∃ x:Rat,r=au x)∧r.num.length≤1024∧r.den.length≤1024:=by
 unfold dZ at h;by_cases h1:dM r.num r.den=0
 ·rw[if_neg (by simpa using h1)] at h;by_cases h2:(r.num.length=0∧r.neg=true)∨Nat.gcd (aG r.num) (aG r.den)≠1
  ·rw[if_pos h2] at h;omega
  ·obtain⟨k1,k2,k3,k4,k5⟩:=sW h1;refine⟨⟨mkRat (sgI r.neg (aG r.num)) (aG r.den),?_⟩,k4,k5⟩;have hg:Nat.gcd (aG r.num) (aG r.den)=1:=by
    rcases Nat.decEq (Nat.gcd (aG r.num) (aG r.den)) 1 with h | h
    ·exact absurd (.inr h) h2
    ·exact h
   have hp:=lW (neg:=r.neg) k3 hg;unfold au;rw[hp.1,hp.2,jZ _ k3,← k1,← k2];obtain⟨neg,num,den⟩:=r;by_cases h0:aG num=0
   ·have hn:num.length=0:=by
     have:num=dig (aG num):=k1;rw[this,h0,bK];rfl
    cases neg
    ·simp only[h0,aas];rfl
    ·exact absurd (.inl ⟨hn,rfl⟩) h2
   ·simp only;rw[uw h0]
 ·rw[if_pos h1] at h;exact absurd h h1
theorem kN (x:Rat):(au x).num=dig x.num.natAbs:=rfl
theorem abV (x:Rat):(au x).den=dig x.den:=rfl
theorem jl (x:Rat):(au x).neg=dD x:=rfl
def iJ:List Int→Int
 | []=>0
 | e :: l=>if e≠0 then e else iJ l
theorem vZ:∀ {l:List Int} {k:Nat} {e:Int},iJ (l.take k)=0→l[k]? = some e→e≠0→iJ l=e
 | [],k,e,_,h,_=>by simp at h
 | y :: l,0,e,_,h,h0=>by
  simp at h; subst h;unfold iJ; rw[if_pos h0]
 | y :: l,k+1,e,ht,h,h0=>by
  rw[List.take_succ_cons] at ht;unfold iJ at ht ⊢;by_cases hy:y≠0
  ·rw[if_pos hy] at ht; exact absurd ht hy
  ·rw[if_neg hy] at ht ⊢;exact vZ ht (by simpa using h) h0
theorem mW:∀ {l:List Int} {k:Nat},iJ (l.take k)=0→l[k]? = some 0→iJ (l.take (k+1))=0
 | [],k,_,h=>by simp at h
 | y :: l,0,_,h=>by
  simp at h; subst h;simp[iJ]
 | y :: l,k+1,ht,h=>by
  rw[List.take_succ_cons] at ht ⊢;unfold iJ at ht ⊢;by_cases hy:y≠0
  ·rw[if_pos hy] at ht; exact absurd ht hy
  ·rw[if_neg hy] at ht ⊢;exact mW ht (by simpa using h)
theorem yK:∀ {l:List Int},iJ l=0→∀ e∈l,e=0
 | [],_,e,he=>by cases he
 | y :: l,h,e,he=>by
  unfold iJ at h;by_cases hy:y≠0
  ·rw[if_pos hy] at h; exact absurd h hy
  ·rw[if_neg hy] at h;rcases List.mem_cons.1 he with rfl | he
   ·exact Decidable.not_not.1 hy
   ·exact yK h e he
def oJ (r:Raw):Rat:=mkRat (sgI r.neg (aG r.num)) (aG r.den)
theorem mX (x:Rat):oJ (au x)=x:=by
 unfold oJ au;rw[aX,aX];exact sG x
def dP (r:Raw):Int:=if dZ r≠0 then dZ r else if r.neg=true∨0 < iO (oJ r) 1 then 2 else 0
theorem yL {r:Raw} (h:dP r=0):∃ x:Rat,r=au x∧rl x≤1024∧dD x=false:=by
 unfold dP at h;by_cases h1:dZ r=0
 ·rw[if_neg (by simpa using h1)] at h;obtain⟨⟨x,rfl⟩,h2,h3⟩:=uF h1;refine⟨x,rfl,by unfold rl; exact Nat.max_le.2 ⟨h2,h3⟩,?_⟩;by_cases h4:(au x).neg=true∨0 < iO (oJ (au x)) 1
  ·rw[if_pos h4] at h;omega
  ·cases hn:dD x
   ·rfl
   ·exact absurd (.inl hn) h4
 ·rw[if_pos h1] at h;exact absurd h h1
def nT (l:List Raw):Int:=iJ (l.map dP)
theorem wB:∀ {l:List Raw},nT l=0→∃ xs:List Rat,l=xs.map au∧∀ x∈xs,rl x≤1024
 | [],_=>⟨[],rfl,fun _ h=>by cases h⟩
 | r :: l,h=>by
  unfold nT at h;rw[List.map_cons] at h;unfold iJ at h;by_cases hy:dP r≠0
  ·rw[if_pos hy] at h; exact absurd h hy
  ·rw[if_neg hy] at h;obtain⟨x,hx,hl,_⟩:=yL (Decidable.not_not.1 hy);obtain⟨xs,hxs,hls⟩:=wB (l:=l) h;refine⟨x :: xs,by rw[List.map_cons,← hx,← hxs],fun y hy=>?_⟩;rcases List.mem_cons.1 hy with rfl | hy
   ·exact hl
   ·exact hls y hy
def jH (xs:List Rat):Rat:=xs.foldl (· + ·) 0
theorem yM (xs:List Rat) (x:Rat):jH (xs ++ [x])=jH xs+x:=by unfold jH; rw[List.foldl_append]; rfl
def lM (a:Int) (l:List Raw):Int:=if (l.length:Int)≠a then 3 else if nT l≠0 then nT l else if iO (jH (l.map oJ)) 1≠0 then 14 else 0
def iV (acts:List Int) (m:List (List Raw)):Int:=if m.length≠acts.length then 3 else iJ (List.zipWith lM acts m)
theorem adJ (xs:List Rat):(xs.map au).map oJ=xs:=by
 rw[List.map_map];conv=>rhs;rw[← List.map_id xs]
 exact List.map_congr_left fun x _=>mX x
theorem acM:∀ (xs:List Rat),(∀ x∈xs,rl x≤1024)→rl (jH xs)≤1+1025*xs.length:=by
 intro xs h;suffices H:∀ (ys:List Rat) (a:Rat),(∀ x∈ys,rl x≤1024)→rl (ys.foldl (· + ·) a)≤rl a+1025*ys.length by
  have:=H xs 0 h;rw[uy] at this;exact this
 intro ys;induction ys with
 | nil=>intro a _; simp
 | cons y ys ih =>
  intro a hys;have h1:=ih (a+y) (fun x hx=>hys x (List.mem_cons_of_mem _ hx));have h2:=aat a y;have h3:=hys y (List.mem_cons_self);rw[List.foldl_cons,List.length_cons];omega
end Go.Proofs.YthmklhapjegfdaaGreatDoor
