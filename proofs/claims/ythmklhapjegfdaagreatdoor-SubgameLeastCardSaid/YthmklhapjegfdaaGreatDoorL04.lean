/- Memory of natural numbers: slices of limbs. -/
import Derived.Test.YthmklhapjegfdaaGreatDoorL02
import Derived.Deep.AppendLies
import Derived.Test.YthmklhapjegfdaaGreatDoorL01
set_option linter.all false
set_option maxRecDepth 100000
set_option maxHeartbeats 12800000
namespace Go.Proofs.YthmklhapjegfdaaGreatDoor
open Lib renaming hid → Aa
open Go.RowKit
def dU (w:World) (_:Ac) (b o:Nat) (x:Nat):Prop:=w.cell? ⟨b,o,none⟩=some (.int .u32 (x:Int))
def Ah (w:World) (F:Ac) (v:Value) (l:List Nat):Prop:=BI 1 dU w F v l
def Ag (w:World) (F:Ac) (v:Value) (n:Nat):Prop:=Ah w F v (dig n)
def Ext (F:Ac) (n:Nat):Ac:=fun b=>F b∨n≤b
theorem Ah.keep {w w':World} {F G:Ac} {v:Value} {l:List Nat} (h:Ah w F v l) (hFG:∀ b,F b→b < w.heap.size→G b) (hs:Same F w w'):Ah w' G v l :=
 BI.keep h hFG hs.size fun b o x _ hb hl hx=>by unfold dU at *; rw[hs.cell hb hl]; exact hx
theorem Ah.on {w w':World} {F:Ac} {v:Value} {l:List Nat} (h:Ah w F v l) (hs:Same F w w'):Ah w' F v l:=h.keep (fun _ h _=>h) hs
theorem Ag.keep {w w':World} {F G:Ac} {v:Value} {n:Nat} (h:Ag w F v n) (hFG:∀ b,F b→b < w.heap.size→G b) (hs:Same F w w'):Ag w' G v n:=Ah.keep h hFG hs
theorem Ag.on {w w':World} {F:Ac} {v:Value} {n:Nat} (h:Ag w F v n) (hs:Same F w w'):Ag w' F v n:=h.keep (fun _ h _=>h) hs
theorem Ag.below {w w':World} {F:Ac} {v:Value} {n:Nat} (h:Ag w F v n) (hb:Below w.heap.size w w'):Ag w' F v n:=h.on (Below.same' hb F)
theorem Ag.mono {w:World} {F G:Ac} {v:Value} {n:Nat} (h:Ag w F v n) (hFG:∀ b,F b→b < w.heap.size→G b):Ag w G v n:=h.keep hFG (Same.refl _ _)
theorem Ag.ext {w w':World} {F:Ac} {v:Value} {n m:Nat} (h:Ag w F v n) (hb:Below w.heap.size w w'):Ag w' (Ext F m) v n:=h.keep (fun _ h _=>.inl h) (Below.same' hb F)
theorem Ag.zero (w:World) (F:Ac) (A:Option Addr) (c:Nat):Ag w F (.slice A 0 c) 0:=by
 unfold Ag; rw[aY];exact⟨A,c,rfl,Nat.zero_le _,fun h=>absurd h (by simp)⟩
abbrev aQ (l:List Nat):List Value:=l.map fun x:Nat=>.int .u32 (x:Int)
theorem Row.limbs {w:World} {b:Nat} {t:TypeId} {l:List Nat} (h:Row w b t (aQ l)) {F:Ac} (hF:F b) {n c:Nat} (hn:n≤l.length) (hc:n≤c):Ah w F (.slice (some ⟨b,0,none⟩) n c) (l.take n):=by
 have hl:(l.take n).length=n:=by rw[List.length_take]; omega
 refine⟨some ⟨b,0,none⟩,c,by rw[hl],by omega,fun _=>⟨b,0,rfl,hF,h.lt,fun k x hk=>?_⟩⟩;unfold dU;rw[Nat.mul_one,Nat.zero_add];refine h.cell ?_;have hk2:=aB hk;rw[List.getElem?_take_of_lt (by omega)] at hk;simp[hk]
theorem aT (l:List Nat) (k v:Nat):(aQ l).set k (.int .u32 (v:Int))=aQ (l.set k v):=by
 unfold aQ; rw[List.map_set]
theorem aP {l:List Nat} {k x:Nat} (h:l[k]? = some x):(aQ l)[k]? = some (.int .u32 (x:Int)):=by simp[aQ,h]
theorem fP (n:Nat):aQ (List.replicate n 0)=List.replicate n (.int .u32 0):=by simp[aQ]
theorem Tryz.infoU32:(Tryz.prog.info? 166).map (fun i=>(i.zero,i.size,i.bytes))=some (some (.int .u32 0),1,4):=by kernel_rfl
theorem ac9 {w:World} {ops:Array Oper} {rest:List Oper} {o:Oper} {a:Act} {Q:Exit→Act→World→Prop} (hgd:o.guard=none) (s x:Operand) (t:TypeId) (ht:Tryz.prog.underlying t=some (.slice 166))
  (ho:o.op = .call { callee:=.builtin .append,args:=#[s,x],argTypes:=#[t,t] })
  (base:Nat) (v:Value) (l:List Nat) (hs:a.eval s=v) (hown:w.ownsRow base 166 1 v l.length (aQ l))
  (B:Nat) (y:Nat) (hx:a.eval x = .slice (some ⟨B,0,none⟩) 1 1) (hB:w.heap[B]? = some (.cells #[.int .u32 (y:Int)] 166 (0,0))) (hlen:l.length≤1000000) (hbase:base≤w.heap.size)
  (h:∀ g cap w',w'.ownsRow base 166 1 (.slice (some ⟨g,0,none⟩) (l.length+1) cap) (l ++ [y]).length (aQ (l ++ [y]))→w.grownBy w' v.ownBlock→(v.ownBlock=some g∨w.heap.size≤g)→g < w'.heap.size →
   wpList Tryz.prog ops Q rest (a.put o.dst (.slice (some ⟨g,0,none⟩) (l.length+1) cap)) w') :
  wpList Tryz.prog ops Q (o :: rest) a w:=by
 obtain⟨i0,hi,hz0,hz1,hz2⟩:=info_parts Tryz.infoU32;refine wpList_append_lies w hgd s x _ ho base _ i0 _ 1 4 ht hi hz0 hz1 hz2 rfl (by omega) v l.length _ hs hown ⟨B,0,none⟩ 1 1 [.int .u32 (y:Int)] hx rfl (World.news_of_block hB) (by simp[Value.oneCell']) (by omega) (by unfold maxLen; omega) (by omega) hbase w.heap.size rfl ?_;intro g cap w' h1 h2 h3 h4;exact h g cap w' (by simpa [aQ] using h1) h2 (h3.imp id fun e=>by omega) h4
theorem gW {w W:World} {ops:Array Oper} {rest:List Oper} {o:Oper} {a:Act} {Q:Exit→Act→World→Prop} (hgd:o.guard=none) (s x:Operand) (t:TypeId) (ht:Tryz.prog.underlying t=some (.slice 166))
  (ho:o.op = .call { callee:=.builtin .append,args:=#[s,x],argTypes:=#[t,t] })
  (base:Nat) (hbase:base≤W.heap.size) (v:Value) (l:List Nat) (hs:a.eval s=v) (yi:Int) (y:Nat) (hy:yi=(y:Int)) (hlen:l.length≤1000000)
  (hx:a.eval x = .slice (some ⟨w.heap.size,0,none⟩) 1 1) (hown:w.ownsRow base 166 1 v l.length (aQ l)) (hbel:Below base W w)
  (h:∀ g cap w',w'.ownsRow base 166 1 (.slice (some ⟨g,0,none⟩) (l.length+1) cap) (l ++ [y]).length (aQ (l ++ [y]))→Below base W w'→w.heap.size < w'.heap.size→w.grownBy w' v.ownBlock →
   wpList Tryz.prog ops Q rest (a.put o.dst (.slice (some ⟨g,0,none⟩) (l.length+1) cap)) w') :
  wpList Tryz.prog ops Q (o :: rest) a (w.alloc (.cells #[.int .u32 yi] 166)):=by
 subst hy;have hz:=hbel.size;refine ac9 hgd s x t ht ho base v l hs (hown.alloc _) w.heap.size y hx (heap_alloc_new _ _) hlen (by simp; omega) ?_;intro g cap w' h1 h2 h3 h4;have h5:=h2.size;simp only[World.size_alloc] at h5;refine h g cap w' h1 ((hbel.alloc (by omega) _).grown h2 (by simp; omega) (fun k hk=>(hown.lt k hk).1)) (by omega) ?_;exact⟨h2.os,h2.tape,h2.output,by omega,fun k hk hne=>(h2.block k (by simp; omega) hne).trans (Below.heap_alloc _ _ _ hk)⟩
theorem aa2 {w:World} {ops:Array Oper} {rest:List Oper} {o:Oper} {a:Act} {Q:Exit→Act→World→Prop}
  (hg:o.guard=none) (l c:Operand) (t:TypeId) (hop:o.op=Op.makeSlice t l c) (ht:Tryz.prog.underlying t=some (.slice 166))
  (n:Nat) (ci:Int) (hci:ci=(n:Int)) (hl:a.eval l = .int .i64 0) (hc:a.eval c = .int .i64 ci) (hn:n≤1000000)
  (hK:∀ w1,Below w.heap.size w w1→w1.ownsRow w.heap.size 166 1 (.slice (some ⟨w.heap.size,0,none⟩) 0 n) 0 [] →
   wpList Tryz.prog ops Q rest (a.put o.dst (.slice (some ⟨w.heap.size,0,none⟩) 0 n)) w1) :
  wpList Tryz.prog ops Q (o :: rest) a w:=by
 subst hci;refine wpList_plain hg fun K hK'=>?_
 obtain⟨i0,hi,hz0,hz1,hz2⟩:=info_parts Tryz.infoU32;obtain⟨w1,hrun,hown,hgr⟩:=run_make_own (P:=Tryz.prog) w w.heap.size t 166 i0 _ 1 ht hi hz0 hz1 .i64 .i64 n (by rw[hz2]; omega) (by unfold maxLen; omega) (Nat.le_refl _);unfold Oper.wp;simp[execOp,hop,hl,hc,hrun,Result.andThen];exact hK' _ _ (hK _ ((Below.refl _ w).grown hgr (Nat.le_refl _) (fun k hk=>by cases hk)) hown)
theorem nD {w:World} {base:Nat} {t:TypeId} {v:Value} {l:List Nat} (h:w.ownsRow base t 1 v l.length (aQ l)) {F:Ac} (hF:∀ b,v.ownBlock=some b→F b):Ah w F v l:=by
 rcases h.2 with⟨rfl,h0⟩ | ⟨g,cap,cur,rfl,hb,hg,hnc,_,hsz,htake⟩
 ·have:l = []:=List.eq_nil_of_length_eq_zero h0;subst this;exact⟨none,0,rfl,Nat.le_refl _,fun h=>absurd h (by simp)⟩
 ·refine⟨_,cap,rfl,hnc,fun _=>⟨g,0,rfl,hF g rfl,(Array.getElem?_eq_some_iff.1 hg).1,fun k x hk=>?_⟩⟩;unfold dU;rw[Nat.mul_one,Nat.zero_add];have hi:(aQ l)[k]? = some (.int .u32 (x:Int)):=aP hk;rw[← htake,List.getElem?_take] at hi;split at hi
  ·simp[World.cell?,hg]; simpa using hi
  ·cases hi
def sliceLen (v:Value):Nat:=match v with | .slice _ n _=>n | _=>0
theorem xU {l:List Nat} {k x:Nat} (h:l[k]? = some x):iR l (k+1)=if x=0 then iR l k else k+1:=by
 rw[iR]; rw[h]; simp
theorem Ah.trim {w:World} {F:Ac} {A:Option Addr} {n c:Nat} {l:List Nat} (hn:l.length=n) (h:Ah w F (.slice A n c) l) (hl:Limbs l):Ag w F (.slice A (iR l n) c) (ay l):=by
 subst hn;obtain⟨A',c',he,hc,hN⟩:=h;injection he with h1 h2 h3; subst h1; subst h3
 have e:=ahe hl;have hle:=af4 l l.length;have hlen:(dig (ay l)).length=iR l l.length:=by rw[← e,List.length_take]; omega
 refine⟨A,c,by rw[hlen],by omega,fun h0=>?_⟩;obtain⟨b,o,rfl,hF,hb,hx⟩:=hN (by omega);refine⟨b,o,rfl,hF,hb,fun k x hk=>hx k x ?_⟩;rw[← e] at hk;have hk2:=aB hk;rw[List.length_take] at hk2;rwa [List.getElem?_take_of_lt (by omega)] at hk
theorem mW (w:World) (F:Ac) (A:Option Addr) (n c:Nat) (l:List Nat) (hn:l.length=n) (hv:Ah w F (.slice A n c) l) (hl:n≤1000000) :
  Calls Tryz.prog 197 #[.slice A n c] w fun e w'=>e = .returned (.slice A (iR l n) c)∧w=w':=by
 subst hn;obtain⟨A',c',he,hc,hN⟩:=hv;injection he with h1 h2 h3; subst h1; subst h3
 have HN:=Aa hN; clear hN h2;go_enter Tryz.func197,Tryz.ntmps197;go_wp2
 go_loop [0] (fun a=>∃ k:Nat,k≤l.length∧a = .slice A k c∧iR l k=iR l l.length) (fun a=>sliceLen a)
 case atStart=>exact⟨l.length,Nat.le_refl _,rfl,rfl⟩
 case round =>
  obtain⟨k,hk,rfl,ht⟩:=hrel;have HT:=Aa ht; clear ht;rcases Nat.eq_zero_or_pos k with h0 | h0
  ·subst h0;go_wp2
   go_ret;exact⟨by rw[← HT.out]; rfl,rfl⟩
  ·obtain⟨j,rfl⟩:∃ j,k=j+1:=⟨k - 1,by omega⟩;obtain⟨b,o,rfl,_,hb,hx⟩:=HN.out (by omega);obtain⟨x,hx'⟩:=au (l:=l) (k:=j) (by omega);have ex:=hx j x hx';unfold dU at ex; rw[Nat.mul_one] at ex;have HS:=Aa (xU hx'); clear hx hx';by_cases hz:x=0
   ·subst hz;go_wp2
    go_round
    case rel=>exact⟨j,by omega,rfl,by rw[← HT.out,HS.out,if_pos rfl]⟩
    case measure=>simp[sliceLen]
   ·have hd:((x:Int)==0)=false:=by simp; omega
    have HZ:=Aa hz; clear hz;go_wp2
    go_ret;exact⟨by rw[← HT.out,HS.out,if_neg HZ.out]; rfl,rfl⟩
theorem sG (w:World) (F:Ac) (A:Option Addr) (n c:Nat) (l:List Nat) (hn:l.length=n) (hv:Ah w F (.slice A n c) l) (hl:n≤1000000) :
  Calls Tryz.prog 241 #[.slice A n c] w fun e w'=>e = .returned (.slice A (iR l n) c)∧w=w':=by
 subst hn;obtain⟨A',c',he,hc,hN⟩:=hv;injection he with h1 h2 h3; subst h1; subst h3
 have HN:=Aa hN; clear hN h2;go_enter Tryz.func241,Tryz.ntmps241;go_wp2
 go_loop [0] (fun a=>∃ k:Nat,k≤l.length∧a = .slice A k c∧iR l k=iR l l.length) (fun a=>sliceLen a)
 case atStart=>exact⟨l.length,Nat.le_refl _,rfl,rfl⟩
 case round =>
  obtain⟨k,hk,rfl,ht⟩:=hrel;have HT:=Aa ht; clear ht;rcases Nat.eq_zero_or_pos k with h0 | h0
  ·subst h0;go_wp2
   go_ret;exact⟨by rw[← HT.out]; rfl,rfl⟩
  ·obtain⟨j,rfl⟩:∃ j,k=j+1:=⟨k - 1,by omega⟩;obtain⟨b,o,rfl,_,hb,hx⟩:=HN.out (by omega);obtain⟨x,hx'⟩:=au (l:=l) (k:=j) (by omega);have ex:=hx j x hx';unfold dU at ex; rw[Nat.mul_one] at ex;have HS:=Aa (xU hx'); clear hx hx';by_cases hz:x=0
   ·subst hz;go_wp2
    go_round
    case rel=>exact⟨j,by omega,rfl,by rw[← HT.out,HS.out,if_pos rfl]⟩
    case measure=>simp[sliceLen]
   ·have hd:((x:Int)==0)=false:=by simp; omega
    have HZ:=Aa hz; clear hz;go_wp2
    go_ret;exact⟨by rw[← HT.out,HS.out,if_neg HZ.out]; rfl,rfl⟩
theorem jU (w:World) (F:Ac) (v:Value) (n:Nat) (hv:Ag w F v n) (hl:(dig n).length≤1000000) :
  Calls Tryz.prog 185 #[v] w fun e w'=>e = .returned (.bool (decide (n=1)))∧w=w':=by
 obtain⟨A,c,rfl,hc,hN⟩:=hv;have HN:=Aa hN; clear hN;by_cases h1:(dig n).length=1
 ·obtain⟨b,o,rfl,_,hb,hx⟩:=HN.out (by omega);obtain⟨x,hx'⟩:=au (l:=dig n) (k:=0) (by omega);have ex:=hx 0 x hx';unfold dU at ex;simp only[Nat.zero_mul,Nat.add_zero] at ex;have HD:=Aa (show decide (n=1)=decide (x=1) by
   rw[decide_eq_decide,← zy];obtain⟨y,hy⟩:=List.length_eq_one_iff.1 h1;rw[hy] at hx' ⊢;simp at hx';simp[hx'])
  rw[h1];clear hx hx' hc;by_cases h2:x=1
  ·subst h2;go_enter Tryz.func185,Tryz.ntmps185;go_wp2
   go_ret;exact⟨by rw[HD.out]; rfl,rfl⟩
  ·have hd:((x:Int)==1)=false:=by simp; omega
   have H2:=Aa h2; clear h2;go_enter Tryz.func185,Tryz.ntmps185;go_wp2
   go_ret;exact⟨by rw[HD.out,decide_eq_false H2.out]; rfl,rfl⟩
 ·have HD:=Aa (show decide (n=1)=false from decide_eq_false fun h=>h1 (by rw[h,jQ]; rfl));have hd:(((dig n).length:Int)==1)=false:=by simp; omega
  clear h1;go_enter Tryz.func185,Tryz.ntmps185;go_wp2
  go_ret;exact⟨by rw[HD.out]; rfl,rfl⟩
theorem kX (w:World) (F:Ac) (v:Value) (n:Nat) (hv:Ag w F v n) (hl:(dig n).length≤1000000) :
  Calls Tryz.prog 193 #[v] w fun e w'=>e = .returned (.bool (decide (n=1)))∧w=w':=by
 obtain⟨A,c,rfl,hc,hN⟩:=hv;have HN:=Aa hN; clear hN;by_cases h1:(dig n).length=1
 ·obtain⟨b,o,rfl,_,hb,hx⟩:=HN.out (by omega);obtain⟨x,hx'⟩:=au (l:=dig n) (k:=0) (by omega);have ex:=hx 0 x hx';unfold dU at ex;simp only[Nat.zero_mul,Nat.add_zero] at ex;have HD:=Aa (show decide (n=1)=decide (x=1) by
   rw[decide_eq_decide,← zy];obtain⟨y,hy⟩:=List.length_eq_one_iff.1 h1;rw[hy] at hx' ⊢;simp at hx';simp[hx'])
  rw[h1];clear hx hx' hc;by_cases h2:x=1
  ·subst h2;go_enter Tryz.func193,Tryz.ntmps193;go_wp2
   go_ret;exact⟨by rw[HD.out]; rfl,rfl⟩
  ·have hd:((x:Int)==1)=false:=by simp; omega
   have H2:=Aa h2; clear h2;go_enter Tryz.func193,Tryz.ntmps193;go_wp2
   go_ret;exact⟨by rw[HD.out,decide_eq_false H2.out]; rfl,rfl⟩
 ·have HD:=Aa (show decide (n=1)=false from decide_eq_false fun h=>h1 (by rw[h,jQ]; rfl));have hd:(((dig n).length:Int)==1)=false:=by simp; omega
  clear h1;go_enter Tryz.func193,Tryz.ntmps193;go_wp2
  go_ret;exact⟨by rw[HD.out]; rfl,rfl⟩
theorem zN (w:World) (F:Ac) (v:Value) (n:Nat) (hv:Ag w F v n) (hl:(dig n).length≤2) :
  Calls Tryz.prog 214 #[v] w fun e w'=>e = .returned (.int .u64 (n:Int))∧w=w':=by
 obtain⟨A,c,rfl,hc,hN⟩:=hv;have HN:=Aa hN; clear hN;go_enter Tryz.func214,Tryz.ntmps214;go_wp2
 go_loop [3,4] (fun m i=>∃ k:Nat,k≤(dig n).length∧i = .int .i64 ((k:Int) - 1)∧m = .int .u64 (ay ((dig n).drop k):Int)) (fun _ i=>(intOf i+1).toNat)
 case atStart=>exact⟨(dig n).length,Nat.le_refl _,rfl,by rw[List.drop_length]; rfl⟩
 case round =>
  obtain⟨k,hk,rfl,rfl⟩:=hrel;rcases Nat.eq_zero_or_pos k with h0 | h0
  ·subst h0;have HE:=Aa (show ay ((dig n).drop 0)=n by rw[List.drop_zero,aU]);generalize ay ((dig n).drop 0)=m at *;go_wp2
   go_ret;exact⟨by rw[← HE.out]; rfl,rfl⟩
  ·obtain⟨j,rfl⟩:∃ j,k=j+1:=⟨k - 1,by omega⟩;obtain⟨b,o,rfl,_,hb,hx⟩:=HN.out (by omega);obtain⟨x,hx'⟩:=au (l:=dig n) (k:=j) (by omega);have ex:=hx j x hx';unfold dU at ex; rw[Nat.mul_one] at ex;have HS:=Aa (show ay ((dig n).drop j)=x+LB*ay ((dig n).drop (j+1)) by rw[bD,aI hx']);have hxl:x < 1000000000:=(aO n).get hx';have hm:ay ((dig n).drop (j+1)) < 1000000000:=by
    have h1:=gJ ((aO n).drop (j+1));have h2:LB ^ ((dig n).drop (j+1)).length≤LB ^ 1:=Nat.pow_le_pow_right (by decide) (by rw[List.length_drop]; omega);have h3:LB ^ 1=1000000000:=by decide
    omega
   clear hx hx';generalize ay ((dig n).drop (j+1))=m at *;have e1:((j+1:Nat):Int) - 1=(j:Int):=by omega
   rw[e1]; clear e1;go_wp2
   go_round
   case rel=>exact⟨j,by omega,by go_num,by rw[HS.out]; simp; omega⟩
   case measure=>simp[intOf]
theorem mX (w:World) (F:Ac) (v:Value) (n:Nat) (hv:Ag w F v n) (hl:(dig n).length≤2) :
  Calls Tryz.prog 192 #[v] w fun e w'=>e = .returned (.int .u64 (n:Int))∧w=w':=by
 obtain⟨A,c,rfl,hc,hN⟩:=hv;have HN:=Aa hN; clear hN;go_enter Tryz.func192,Tryz.ntmps192;go_wp2
 go_loop [3,4] (fun m i=>∃ k:Nat,k≤(dig n).length∧i = .int .i64 ((k:Int) - 1)∧m = .int .u64 (ay ((dig n).drop k):Int)) (fun _ i=>(intOf i+1).toNat)
 case atStart=>exact⟨(dig n).length,Nat.le_refl _,rfl,by rw[List.drop_length]; rfl⟩
 case round =>
  obtain⟨k,hk,rfl,rfl⟩:=hrel;rcases Nat.eq_zero_or_pos k with h0 | h0
  ·subst h0;have HE:=Aa (show ay ((dig n).drop 0)=n by rw[List.drop_zero,aU]);generalize ay ((dig n).drop 0)=m at *;go_wp2
   go_ret;exact⟨by rw[← HE.out]; rfl,rfl⟩
  ·obtain⟨j,rfl⟩:∃ j,k=j+1:=⟨k - 1,by omega⟩;obtain⟨b,o,rfl,_,hb,hx⟩:=HN.out (by omega);obtain⟨x,hx'⟩:=au (l:=dig n) (k:=j) (by omega);have ex:=hx j x hx';unfold dU at ex; rw[Nat.mul_one] at ex;have HS:=Aa (show ay ((dig n).drop j)=x+LB*ay ((dig n).drop (j+1)) by rw[bD,aI hx']);have hxl:x < 1000000000:=(aO n).get hx';have hm:ay ((dig n).drop (j+1)) < 1000000000:=by
    have h1:=gJ ((aO n).drop (j+1));have h2:LB ^ ((dig n).drop (j+1)).length≤LB ^ 1:=Nat.pow_le_pow_right (by decide) (by rw[List.length_drop]; omega);have h3:LB ^ 1=1000000000:=by decide
    omega
   clear hx hx';generalize ay ((dig n).drop (j+1))=m at *;have e1:((j+1:Nat):Int) - 1=(j:Int):=by omega
   rw[e1]; clear e1;go_wp2
   go_round
   case rel=>exact⟨j,by omega,by go_num,by rw[HS.out]; simp; omega⟩
   case measure=>simp[intOf]
theorem pX (w:World) (n:Nat) (hn:n < 18446744073709551616) :
  Calls Tryz.prog 133 #[.int .u64 (n:Int)] w (Ret w fun v w'=>Ag w' (fun b=>w.heap.size≤b) v n):=by
 go_enter Tryz.func133,Tryz.ntmps133;go_wp2
 go_loopw [0,3] (fun u v wr=>∃ (m:Nat) (l:List Nat),u = .int .u64 (m:Int)∧m≤n∧l++dig m=dig n∧wr.ownsRow w.heap.size 166 1 v l.length (aQ l)∧Below w.heap.size w wr) (fun u _ _=>(intOf u).toNat)
 case atStart=>exact⟨n,[],rfl,Nat.le_refl _,rfl,World.ownsRow_nil _ _ _ _,Below.refl _ _⟩
 case round =>
  obtain⟨m,l,rfl,hm,hd,hown,hbel⟩:=hrel;have HD:=Aa hd;have HO:=Aa hown;have hll:l.length≤1000000:=by
   have h1:(dig n).length≤3:=dH (Nat.lt_trans hn (by decide));rw[← hd,List.length_append] at h1; omega
  clear hd hown;rcases Nat.eq_zero_or_pos m with h0 | h0
  ·subst h0;go_wp2
   go_ret;refine⟨_,rfl,hbel,?_⟩;have h2:=HD.out; rw[aY,List.append_nil] at h2;unfold Ag; rw[← h2];exact nD HO.out fun b hb=>(HO.out.lt b hb).1
  ·have HD2:=Aa (show l ++ [m % 1000000000]++dig (m / 1000000000)=dig n by rw[← HD.out,kG (by omega:m≠0)]; simp);go_wp2_with (at_builtin; refine gW rfl _ _ 80 Tryz.underlying80 rfl w.heap.size (Nat.le_refl _) _ l rfl _ (m % 1000000000) (by omega) hll rfl HO.out hbel ?_; intro g cap w' hown' jy hlt' oO; have HO':=Aa hown'; clear hown' oO)
   go_roundw
   case rel=>exact⟨m / 1000000000,l ++ [m % 1000000000],by go_num,by omega,HD2.out,by simpa using HO'.out,jy⟩
   case measure=>simp[intOf]; omega
theorem acf (w:World) (n:Nat) (hn:n < 18446744073709551616) :
  Calls Tryz.prog 216 #[.int .u64 (n:Int)] w (Ret w fun v w'=>Ag w' (fun b=>w.heap.size≤b) v n):=by
 go_enter Tryz.func216,Tryz.ntmps216;go_wp2
 go_loopw [0,3] (fun u v wr=>∃ (m:Nat) (l:List Nat),u = .int .u64 (m:Int)∧m≤n∧l++dig m=dig n∧wr.ownsRow w.heap.size 166 1 v l.length (aQ l)∧Below w.heap.size w wr) (fun u _ _=>(intOf u).toNat)
 case atStart=>exact⟨n,[],rfl,Nat.le_refl _,rfl,World.ownsRow_nil _ _ _ _,Below.refl _ _⟩
 case round =>
  obtain⟨m,l,rfl,hm,hd,hown,hbel⟩:=hrel;have HD:=Aa hd;have HO:=Aa hown;have hll:l.length≤1000000:=by
   have h1:(dig n).length≤3:=dH (Nat.lt_trans hn (by decide));rw[← hd,List.length_append] at h1; omega
  clear hd hown;rcases Nat.eq_zero_or_pos m with h0 | h0
  ·subst h0;go_wp2
   go_ret;refine⟨_,rfl,hbel,?_⟩;have h2:=HD.out; rw[aY,List.append_nil] at h2;unfold Ag; rw[← h2];exact nD HO.out fun b hb=>(HO.out.lt b hb).1
  ·have HD2:=Aa (show l ++ [m % 1000000000]++dig (m / 1000000000)=dig n by rw[← HD.out,kG (by omega:m≠0)]; simp);go_wp2_with (at_builtin; refine gW rfl _ _ 81 Tryz.underlying81 rfl w.heap.size (Nat.le_refl _) _ l rfl _ (m % 1000000000) (by omega) hll rfl HO.out hbel ?_; intro g cap w' hown' jy hlt' oO; have HO':=Aa hown'; clear hown' oO)
   go_roundw
   case rel=>exact⟨m / 1000000000,l ++ [m % 1000000000],by go_num,by omega,HD2.out,by simpa using HO'.out,jy⟩
   case measure=>simp[intOf]; omega
theorem acg (w:World) (x:Int):Calls Tryz.prog 224 #[.int .i64 x] w fun e w'=>e = .returned (.bool false)∧w'=w:=by
 have h:(x != x)=false:=by simp
 go_enter Tryz.func224,Tryz.ntmps224;go_wp2
 go_ret;exact⟨rfl,rfl⟩
theorem xW (w:World) (x y:Nat):Calls Tryz.prog 195 #[.int .i64 (x:Int),.int .i64 (y:Int)] w fun e w'=>e = .returned (.int .i64 (bY x y))∧w'=w:=by
 rcases Nat.lt_trichotomy x y with h | h | h
 ·have HO:=Aa (show bY x y = -1 by unfold bY; rw[if_pos h]);go_enter Tryz.func195,Tryz.ntmps195;go_wp2_with (first | ((with_reducible refine(acg _ _).mono ?_); rintro e w' ⟨rfl,rfl⟩))
  go_ret;exact⟨by rw[HO.out]; rfl,rfl⟩
 ·have HO:=Aa (show bY x y=0 by unfold bY; rw[if_neg (by omega),if_pos h]);have h1:x≤y:=by omega
  have h2:y≤x:=by omega
  clear h;go_enter Tryz.func195,Tryz.ntmps195;go_wp2_with (first | ((with_reducible refine(acg _ _).mono ?_); rintro e w' ⟨rfl,rfl⟩))
  go_ret;exact⟨by rw[HO.out]; rfl,rfl⟩
 ·have HO:=Aa (show bY x y=1 by unfold bY; rw[if_neg (by omega),if_neg (by omega)]);go_enter Tryz.func195,Tryz.ntmps195;go_wp2_with (first | ((with_reducible refine(acg _ _).mono ?_); rintro e w' ⟨rfl,rfl⟩))
  go_ret;exact⟨by rw[HO.out]; rfl,rfl⟩
theorem uq (w:World) (x:Int):Calls Tryz.prog 225 #[.int .u32 x] w fun e w'=>e = .returned (.bool false)∧w'=w:=by
 have h:(x != x)=false:=by simp
 go_enter Tryz.func225,Tryz.ntmps225;go_wp2
 go_ret;exact⟨rfl,rfl⟩
theorem qZ (w:World) (x y:Nat):Calls Tryz.prog 196 #[.int .u32 (x:Int),.int .u32 (y:Int)] w fun e w'=>e = .returned (.int .i64 (bY x y))∧w'=w:=by
 rcases Nat.lt_trichotomy x y with h | h | h
 ·have HO:=Aa (show bY x y = -1 by unfold bY; rw[if_pos h]);go_enter Tryz.func196,Tryz.ntmps196;go_wp2_with (first | ((with_reducible refine(uq _ _).mono ?_); rintro e w' ⟨rfl,rfl⟩))
  go_ret;exact⟨by rw[HO.out]; rfl,rfl⟩
 ·have HO:=Aa (show bY x y=0 by unfold bY; rw[if_neg (by omega),if_pos h]);have h1:x≤y:=by omega
  have h2:y≤x:=by omega
  clear h;go_enter Tryz.func196,Tryz.ntmps196;go_wp2_with (first | ((with_reducible refine(uq _ _).mono ?_); rintro e w' ⟨rfl,rfl⟩))
  go_ret;exact⟨by rw[HO.out]; rfl,rfl⟩
 ·have HO:=Aa (show bY x y=1 by unfold bY; rw[if_neg (by omega),if_neg (by omega)]);go_enter Tryz.func196,Tryz.ntmps196;go_wp2_with (first | ((with_reducible refine(uq _ _).mono ?_); rintro e w' ⟨rfl,rfl⟩))
  go_ret;exact⟨by rw[HO.out]; rfl,rfl⟩
theorem ada {P:Program} {f:FuncId} {args:Array Value} {w:World} {a n:Nat} {v:Value}
  (h:Calls P f args (w.drewN (a+n)) fun e w'=>e = .returned v∧w'=w.drewN (a+n)) :
  Calls P f args (w.drewN (a+n)) fun e w''=>e = .returned v∧∃ m,w''=w.drewN (a+m) :=
 h.mono fun _ _ ⟨he,hm⟩=>⟨he,n,hm⟩
theorem jA {a b:Nat} (h:a < b):bY a b = -1:=by unfold bY; rw[if_pos h]
theorem afI (a:Nat):bY a a=0:=by unfold bY; simp
theorem oz {a b:Nat} (h:b < a):bY a b=1:=by unfold bY; rw[if_neg (by omega),if_neg (by omega)]
theorem iW (w:World) (F:Ac) (va vb:Value) (a b:Nat) (ha:Ag w F va a) (hb:Ag w F vb b) (hla:(dig a).length≤1000000) (hlb:(dig b).length≤1000000) :
  Calls Tryz.prog 165 #[va,vb] w fun e w'=>e = .returned (.int .i64 (bY a b))∧∃ n,w'=w.drewN n:=by
 obtain⟨A,c,rfl,hc,hNa⟩:=ha;obtain⟨B,d,rfl,hd,hNb⟩:=hb;have HA:=Aa hNa; have HB:=Aa hNb; clear hNa hNb;by_cases hlen:(dig a).length=(dig b).length
 ·have HL:=Aa hlen;rw[← hlen] at hd hlb ⊢;clear hlen;go_enter Tryz.func165,Tryz.ntmps165;go_wp2
  go_loopw [5] (fun i wr=>∃ (k q:Nat),k≤(dig a).length∧i = .int .i64 ((k:Int) - 1)∧(dig a).drop k=(dig b).drop k∧wr=w.drewN q) (fun i _=>(intOf i+1).toNat)
  case atStart=>exact⟨(dig a).length,0,Nat.le_refl _,rfl,by rw[List.drop_length,HL.out,List.drop_length],rfl⟩
  case round =>
   obtain⟨k,q,hk,rfl,hdr,rfl⟩:=hrel;have HD:=Aa hdr; clear hdr;rcases Nat.eq_zero_or_pos k with h0 | h0
   ·subst h0;have HE:=Aa (show bY a b=0 by
     have:=HD.out; rw[List.drop_zero,List.drop_zero] at this;rw[vC this]; exact afI b)
    go_wp2
    go_ret;exact⟨by rw[HE.out]; rfl,q,rfl⟩
   ·obtain⟨j,rfl⟩:∃ j,k=j+1:=⟨k - 1,by omega⟩;obtain⟨b1,o1,rfl,_,hb1,hx⟩:=HA.out (by omega);have HL2:=HL.out;obtain⟨b2,o2,rfl,_,hb2,hy⟩:=HB.out (by omega);obtain⟨x,hx'⟩:=au (l:=dig a) (k:=j) (by omega);obtain⟨y,hy'⟩:=au (l:=dig b) (k:=j) (by omega);have ex:=hx j x hx';have ey:=hy j y hy';unfold dU at ex ey; rw[Nat.mul_one] at ex ey;have hxl:x < 1000000000:=(aO a).get hx';have hyl:y < 1000000000:=(aO b).get hy';have HX:=Aa hx'; have HY:=Aa hy';clear hx hx' hy hy' HL2;have e1:((j+1:Nat):Int) - 1=(j:Int):=by omega
    rw[e1]; clear e1;rcases Nat.lt_trichotomy x y with h | h | h
    ·have HE:=Aa (jA (lG HL.out HD.out HX.out HY.out h));have hne:((x:Int) != (y:Int))=true:=by simp; omega
     have HO:=Aa (show bY x y=bY a b by rw[HE.out]; first | exact jA h | exact oz h);go_wp2
     go_quiet (fail)
     go_wp2
     go_quiet ((go_at_call 196; exact ada (qZ _ _ _)))
     go_wp2
     go_ret;exact⟨by rw[HE.out]; rw[← HE.out,← HO.out]; rfl,(by simp only[World.drewN_drewN]; exact⟨_,rfl⟩)⟩
    ·subst h;have HE:=Aa (vF HD.out HX.out HY.out);have hne:((x:Int) != (x:Int))=false:=by simp
     go_wp2
     go_quiet (fail)
     go_wp2
     go_roundw
     case rel=>exact⟨j,_,by omega,by go_num,HE.out,rfl⟩
     case measure=>simp[intOf]
    ·have HE:=Aa (oz (lG HL.out.symm HD.out.symm HY.out HX.out h));have hne:((x:Int) != (y:Int))=true:=by simp; omega
     have HO:=Aa (show bY x y=bY a b by rw[HE.out]; first | exact jA h | exact oz h);go_wp2
     go_quiet (fail)
     go_wp2
     go_quiet ((go_at_call 196; exact ada (qZ _ _ _)))
     go_wp2
     go_ret;exact⟨by rw[HE.out]; rw[← HE.out,← HO.out]; rfl,(by simp only[World.drewN_drewN]; exact⟨_,rfl⟩)⟩
 ·have hne:(((dig a).length:Int) != ((dig b).length:Int))=true:=by simp; omega
  rcases Nat.lt_or_gt_of_ne hlen with h | h
  ·have HE:=Aa (jA (pJ h));have HE2:=Aa (jA h);clear hlen;go_enter Tryz.func165,Tryz.ntmps165;go_wp2_with (go_at_call 195; ((with_reducible refine(xW _ _ _).mono ?_); rintro e w' ⟨rfl,rfl⟩))
   go_ret;exact⟨by rw[HE.out]; first | rfl | (rw[HE2.out]; rfl),0,rfl⟩
  ·have HE:=Aa (oz (pJ h));have HE2:=Aa (oz h);have hnlt:decide ((dig a).length < (dig b).length)=false:=decide_eq_false (by omega);clear hlen;go_enter Tryz.func165,Tryz.ntmps165;go_wp2_with (go_at_call 195; ((with_reducible refine(xW _ _ _).mono ?_); rintro e w' ⟨rfl,rfl⟩))
   go_ret;exact⟨by rw[HE.out]; first | rfl | (rw[HE2.out]; rfl),0,rfl⟩
theorem vM (w:World) (F:Ac) (va vb:Value) (a b:Nat) (ha:Ag w F va a) (hb:Ag w F vb b) (hla:(dig a).length≤1000000) (hlb:(dig b).length≤1000000) :
  Calls Tryz.prog 218 #[va,vb] w fun e w'=>e = .returned (.int .i64 (bY a b))∧∃ n,w'=w.drewN n:=by
 obtain⟨A,c,rfl,hc,hNa⟩:=ha;obtain⟨B,d,rfl,hd,hNb⟩:=hb;have HA:=Aa hNa; have HB:=Aa hNb; clear hNa hNb;by_cases hlen:(dig a).length=(dig b).length
 ·have HL:=Aa hlen;rw[← hlen] at hd hlb ⊢;clear hlen;go_enter Tryz.func218,Tryz.ntmps218;go_wp2
  go_loopw [5] (fun i wr=>∃ (k q:Nat),k≤(dig a).length∧i = .int .i64 ((k:Int) - 1)∧(dig a).drop k=(dig b).drop k∧wr=w.drewN q) (fun i _=>(intOf i+1).toNat)
  case atStart=>exact⟨(dig a).length,0,Nat.le_refl _,rfl,by rw[List.drop_length,HL.out,List.drop_length],rfl⟩
  case round =>
   obtain⟨k,q,hk,rfl,hdr,rfl⟩:=hrel;have HD:=Aa hdr; clear hdr;rcases Nat.eq_zero_or_pos k with h0 | h0
   ·subst h0;have HE:=Aa (show bY a b=0 by
     have:=HD.out; rw[List.drop_zero,List.drop_zero] at this;rw[vC this]; exact afI b)
    go_wp2
    go_ret;exact⟨by rw[HE.out]; rfl,q,rfl⟩
   ·obtain⟨j,rfl⟩:∃ j,k=j+1:=⟨k - 1,by omega⟩;obtain⟨b1,o1,rfl,_,hb1,hx⟩:=HA.out (by omega);have HL2:=HL.out;obtain⟨b2,o2,rfl,_,hb2,hy⟩:=HB.out (by omega);obtain⟨x,hx'⟩:=au (l:=dig a) (k:=j) (by omega);obtain⟨y,hy'⟩:=au (l:=dig b) (k:=j) (by omega);have ex:=hx j x hx';have ey:=hy j y hy';unfold dU at ex ey; rw[Nat.mul_one] at ex ey;have hxl:x < 1000000000:=(aO a).get hx';have hyl:y < 1000000000:=(aO b).get hy';have HX:=Aa hx'; have HY:=Aa hy';clear hx hx' hy hy' HL2;have e1:((j+1:Nat):Int) - 1=(j:Int):=by omega
    rw[e1]; clear e1;rcases Nat.lt_trichotomy x y with h | h | h
    ·have HE:=Aa (jA (lG HL.out HD.out HX.out HY.out h));skip
     go_wp2
     go_quiet (fail)
     skip
     go_wp2
     go_ret;exact⟨by rw[HE.out]; rfl,(by simp only[World.drewN_drewN]; exact⟨_,rfl⟩)⟩
    ·subst h;have HE:=Aa (vF HD.out HX.out HY.out);skip
     go_wp2
     go_quiet (fail)
     go_wp2
     go_quiet (fail)
     go_wp2
     go_roundw
     case rel=>exact⟨j,_,by omega,by go_num,HE.out,rfl⟩
     case measure=>simp[intOf]
    ·have HE:=Aa (oz (lG HL.out.symm HD.out.symm HY.out HX.out h));skip
     go_wp2
     go_quiet (fail)
     go_wp2
     go_quiet (fail)
     go_wp2
     go_ret;exact⟨by rw[HE.out]; rfl,(by simp only[World.drewN_drewN]; exact⟨_,rfl⟩)⟩
 ·have hne:(((dig a).length:Int) != ((dig b).length:Int))=true:=by simp; omega
  rcases Nat.lt_or_gt_of_ne hlen with h | h
  ·have HE:=Aa (jA (pJ h));have HE2:=Aa (jA h);clear hlen;go_enter Tryz.func218,Tryz.ntmps218;go_wp2
   go_ret;exact⟨by rw[HE.out]; first | rfl | (rw[HE2.out]; rfl),0,rfl⟩
  ·have HE:=Aa (oz (pJ h));have HE2:=Aa (oz h);have hnlt:decide ((dig a).length < (dig b).length)=false:=decide_eq_false (by omega);clear hlen;go_enter Tryz.func218,Tryz.ntmps218;go_wp2
   go_ret;exact⟨by rw[HE.out]; first | rfl | (rw[HE2.out]; rfl),0,rfl⟩
structure Raw where
 neg:Bool
 num:List Nat
 den:List Nat
 deriving Inhabited,DecidableEq
def AQ (w:World) (F:Ac) (v:Value) (r:Raw):Prop:=∃ vn vd,v = .agg #[.bool r.neg,vn,vd]∧Ah w F vn r.num∧Ah w F vd r.den
theorem AQ.keep {w w':World} {F G:Ac} {v:Value} {r:Raw} (h:AQ w F v r) (hFG:∀ b,F b→b < w.heap.size→G b) (hs:Same F w w'):AQ w' G v r:=by
 obtain⟨vn,vd,rfl,h1,h2⟩:=h;exact⟨vn,vd,rfl,h1.keep hFG hs,h2.keep hFG hs⟩
theorem AQ.on {w w':World} {F:Ac} {v:Value} {r:Raw} (h:AQ w F v r) (hs:Same F w w'):AQ w' F v r:=h.keep (fun _ h _=>h) hs
theorem AQ.below {w w':World} {F:Ac} {v:Value} {r:Raw} (h:AQ w F v r) (hb:Below w.heap.size w w'):AQ w' F v r:=h.on (Below.same' hb F)
theorem AQ.mono {w:World} {F G:Ac} {v:Value} {r:Raw} (h:AQ w F v r) (hFG:∀ b,F b→b < w.heap.size→G b):AQ w G v r:=h.keep hFG (Same.refl _ _)
def Di (w:World) (F:Ac) (b o:Nat) (r:Raw):Prop:=w.cell? ⟨b,o,none⟩=some (.bool r.neg)∧wK Ah w F b (o+1) r.num∧wK Ah w F b (o+2) r.den
theorem tN {w w':World} {F G:Ac} {b o:Nat} {l:List Nat} (h:wK Ah w F b o l) (hFG:∀ b,F b→b < w.heap.size→G b) (hs:Same F w w') (hb:F b) (hl:b < w.heap.size):wK Ah w' G b o l:=by
 obtain⟨u,hu,hr⟩:=h;exact⟨u,by rw[hs.cell hb hl]; exact hu,hr.keep hFG hs⟩
theorem Di.keep {w w':World} {F G:Ac} {b o:Nat} {r:Raw} (h:Di w F b o r) (hFG:∀ b,F b→b < w.heap.size→G b) (hs:Same F w w') (hb:F b) (hl:b < w.heap.size):Di w' G b o r :=
 ⟨by rw[hs.cell hb hl]; exact h.1,tN h.2.1 hFG hs hb hl,tN h.2.2 hFG hs hb hl⟩
def Aj (w:World) (F:Ac) (v:Value) (l:List Raw):Prop:=BI 3 Di w F v l
theorem Aj.keep {w w':World} {F G:Ac} {v:Value} {l:List Raw} (h:Aj w F v l) (hFG:∀ b,F b→b < w.heap.size→G b) (hs:Same F w w'):Aj w' G v l :=
 BI.keep h hFG hs.size fun _ _ _ _ hb hl hx=>hx.keep hFG hs hb hl
theorem Aj.on {w w':World} {F:Ac} {v:Value} {l:List Raw} (h:Aj w F v l) (hs:Same F w w'):Aj w' F v l:=h.keep (fun _ h _=>h) hs
theorem Aj.nil (w:World) (F:Ac):Aj w F (.slice none 0 0) []:=⟨none,0,rfl,Nat.le_refl _,fun h=>absurd h (by simp)⟩
def Af (w:World) (F:Ac) (v:Value) (l:List (List Raw)):Prop:=BI 1 (wK Aj) w F v l
theorem ach {w w':World} {F G:Ac} {b o:Nat} {l:List Raw} (h:wK Aj w F b o l) (hFG:∀ b,F b→b < w.heap.size→G b) (hs:Same F w w') (hb:F b) (hl:b < w.heap.size):wK Aj w' G b o l:=by
 obtain⟨u,hu,hr⟩:=h;exact⟨u,by rw[hs.cell hb hl]; exact hu,hr.keep hFG hs⟩
theorem Af.keep {w w':World} {F G:Ac} {v:Value} {l:List (List Raw)} (h:Af w F v l) (hFG:∀ b,F b→b < w.heap.size→G b) (hs:Same F w w'):Af w' G v l :=
 BI.keep h hFG hs.size fun _ _ _ _ hb hl hx=>ach hx hFG hs hb hl
theorem Af.on {w w':World} {F:Ac} {v:Value} {l:List (List Raw)} (h:Af w F v l) (hs:Same F w w'):Af w' F v l:=h.keep (fun _ h _=>h) hs
theorem Af.nil (w:World) (F:Ac):Af w F (.slice none 0 0) []:=⟨none,0,rfl,Nat.le_refl _,fun h=>absurd h (by simp)⟩
def aK (x:Rat):Raw:=⟨dY x,dig x.num.natAbs,dig x.den⟩
def aC (x:Rat):Raw:=⟨dY x,dig x.num.natAbs,if x.den=1 then [] else dig x.den⟩
abbrev RtV (w:World) (F:Ac) (v:Value) (x:Rat):Prop:=AQ w F v (aK x)
abbrev NmV (w:World) (F:Ac) (v:Value) (x:Rat):Prop:=AQ w F v (aC x)
abbrev BF (w:World) (F:Ac) (v:Value) (l:List Rat):Prop:=Aj w F v (l.map aK)
abbrev BN (w:World) (F:Ac) (v:Value) (l:List Rat):Prop:=Aj w F v (l.map aC)
theorem abx {x y:Rat} (h:aK x=aK y):x=y:=by
 simp only[aK,Raw.mk.injEq] at h;exact aiD (vC h.2.1) (vC h.2.2) h.1
theorem zO:∀ {l m:List Rat},l.map aK=m.map aK→l=m
 | [],[],_=>rfl
 | [],_ :: _,h=>by simp at h
 | _ :: _,[],h=>by simp at h
 | x :: l,y :: m,h=>by
  simp only[List.map_cons,List.cons.injEq] at h;rw[abx h.1,zO h.2]
theorem AQ.make {w:World} {F:Ac} {neg:Bool} {vn vd:Value} {r:Raw} (hn:neg=r.neg) (h1:Ah w F vn r.num) (h2:Ah w F vd r.den):AQ w F (.agg #[.bool neg,vn,vd]) r:=⟨vn,vd,by rw[hn],h1,h2⟩
theorem NmV.make {w:World} {F:Ac} {neg:Bool} {vn vd:Value} {x:Rat} (hn:neg=dY x) (h1:Ag w F vn x.num.natAbs) (h2:Ah w F vd (if x.den=1 then [] else dig x.den)):NmV w F (.agg #[.bool neg,vn,vd]) x:=⟨vn,vd,by rw[hn]; rfl,h1,h2⟩
theorem RtV.make {w:World} {F:Ac} {neg:Bool} {vn vd:Value} {x:Rat} (hn:neg=dY x) (h1:Ag w F vn x.num.natAbs) (h2:Ag w F vd x.den):RtV w F (.agg #[.bool neg,vn,vd]) x:=⟨vn,vd,by rw[hn]; rfl,h1,h2⟩
theorem jH (w:World) (F:Ac) (A:Option Addr) (c:Nat):Ah w F (.slice A 0 c) []:=⟨A,c,rfl,Nat.zero_le _,fun h=>absurd h (by simp)⟩
theorem NmV.zero (w:World) (F:Ac) (A B:Option Addr) (c d:Nat):NmV w F (.agg #[.bool false,.slice A 0 c,.slice B 0 d]) 0 :=
 NmV.make rfl (Ag.zero w F A c) (by rw[if_pos (show(0:Rat).den=1 from rfl)]; exact jH w F B d)
theorem aJ (w:World) (t:TypeId) (c:Array Value):∃ W:World,W=w.alloc (.cells c t)∧Row W w.heap.size t c.toList∧Below w.heap.size w W∧w.heap.size+1=W.heap.size :=
 ⟨_,rfl,Row.new w t c,(Below.refl _ _).alloc (Nat.le_refl _) _,by simp⟩
theorem alloc2 (w:World) (t:TypeId) (c:Array Value) (t':TypeId) (c':Array Value):∃ W:World,W=(w.alloc (.cells c t)).alloc (.cells c' t')∧Row W w.heap.size t c.toList∧Row W (w.heap.size+1) t' c'.toList∧Below w.heap.size w W∧w.heap.size+1 < W.heap.size:=by
 have h:=Row.new (w.alloc (.cells c t)) t' c';exact⟨_,rfl,(Row.new w t c).alloc _,by simpa using h,((Below.refl _ _).alloc (Nat.le_refl _) _).alloc (by simp) _,by simp⟩
theorem zQ (w:World) (t:TypeId) (c:Array Value) (t':TypeId) (c':Array Value) (t'':TypeId) (c'':Array Value):∃ W:World,W=((w.alloc (.cells c t)).alloc (.cells c' t')).alloc (.cells c'' t'')∧Row W w.heap.size t c.toList∧Row W (w.heap.size+1) t' c'.toList∧Row W (w.heap.size+2) t'' c''.toList∧Below w.heap.size w W∧w.heap.size+2 < W.heap.size:=by
 obtain⟨W,hW,h1,h2,h3,_⟩:=alloc2 w t c t' c';have h:=Row.new W t'' c'';have e:W.heap.size=w.heap.size+2:=by rw[hW]; simp
 refine⟨_,rfl,?_,?_,?_,?_,by simp⟩
 ·rw[← hW]; exact h1.alloc _
 ·rw[← hW]; exact h2.alloc _
 ·rw[← hW]; rw[← e]; exact h
 ·rw[← hW]; exact h3.alloc (by omega) _
def Old (F:Ac) (n:Nat):Ac:=fun b=>F b∧b < n
theorem Ag.old {w:World} {F:Ac} {v:Value} {n:Nat} (h:Ag w F v n):Ag w (Old F w.heap.size) v n:=h.mono fun _ hb hl=>⟨hb,hl⟩
theorem Ah.old {w:World} {F:Ac} {v:Value} {n:List Nat} (h:Ah w F v n):Ah w (Old F w.heap.size) v n:=h.keep (fun _ hb hl=>⟨hb,hl⟩) (Same.refl _ _)
theorem AQ.old {w:World} {F:Ac} {v:Value} {r:Raw} (h:AQ w F v r):AQ w (Old F w.heap.size) v r:=h.mono fun _ hb hl=>⟨hb,hl⟩
def fH (num den:List Nat):Int:=if eG num≠0 then eG num else if eG den≠0 then eG den else if den.length=0 then 6 else 0
def iY (r:Raw):Int:=if fH r.num r.den≠0 then fH r.num r.den else if (r.num.length=0∧r.neg=true)∨Nat.gcd (ay r.num) (ay r.den)≠1 then 3 else 0
theorem xX {num den:List Nat} (h:fH num den=0):num=dig (ay num)∧den=dig (ay den)∧ay den≠0∧num.length≤1024∧den.length≤1024:=by
 unfold fH at h;by_cases h1:eG num=0
 ·rw[if_neg (by simpa using h1)] at h;by_cases h2:eG den=0
  ·rw[if_neg (by simpa using h2)] at h;by_cases h3:den.length=0
   ·rw[if_pos h3] at h; omega
   ·have k1:=abv h1; have k2:=abv h2;refine⟨k1.1,k2.1,fun e=>h3 ?_,k1.2,k2.2⟩;rw[k2.1,e,aY]; rfl
  ·rw[if_pos h2] at h; exact absurd h h2
 ·rw[if_pos h1] at h; exact absurd h h1
theorem aby {r:Raw} (h:iY r=0):(∃ x:Rat,r=aK x)∧r.num.length≤1024∧r.den.length≤1024:=by
 unfold iY at h;by_cases h1:fH r.num r.den=0
 ·rw[if_neg (by simpa using h1)] at h;by_cases h2:(r.num.length=0∧r.neg=true)∨Nat.gcd (ay r.num) (ay r.den)≠1
  ·rw[if_pos h2] at h; omega
  ·obtain⟨k1,k2,k3,k4,k5⟩:=xX h1;refine⟨⟨mkRat (sgI r.neg (ay r.num)) (ay r.den),?_⟩,k4,k5⟩;have hg:Nat.gcd (ay r.num) (ay r.den)=1:=by
    rcases Nat.decEq (Nat.gcd (ay r.num) (ay r.den)) 1 with h | h
    ·exact absurd (.inr h) h2
    ·exact h
   have hp:=kT (neg:=r.neg) k3 hg;unfold aK;rw[hp.1,hp.2,ny _ k3,← k1,← k2];obtain⟨neg,num,den⟩:=r;by_cases h0:ay num=0
   ·have hn:num.length=0:=by
     have:num=dig (ay num):=k1;rw[this,h0,aY]; rfl
    cases neg
    ·simp only[h0,zD]; rfl
    ·exact absurd (.inl ⟨hn,rfl⟩) h2
   ·simp only; rw[vI h0]
 ·rw[if_pos h1] at h; exact absurd h h1
theorem abz (x:Rat):(aK x).num=dig x.num.natAbs:=rfl
theorem abA (x:Rat):(aK x).den=dig x.den:=rfl
theorem abB (x:Rat):(aK x).neg=dY x:=rfl
def iq:List Int→Int
 | []=>0
 | e :: l=>if e≠0 then e else iq l
theorem uy:∀ {l:List Int} {k:Nat} {e:Int},iq (l.take k)=0→l[k]? = some e→e≠0→iq l=e
 | [],k,e,_,h,_=>by simp at h
 | y :: l,0,e,_,h,h0=>by
  simp at h; subst h;unfold iq; rw[if_pos h0]
 | y :: l,k+1,e,ht,h,h0=>by
  rw[List.take_succ_cons] at ht;unfold iq at ht ⊢;by_cases hy:y≠0
  ·rw[if_pos hy] at ht; exact absurd ht hy
  ·rw[if_neg hy] at ht ⊢;exact uy ht (by simpa using h) h0
theorem ru:∀ {l:List Int} {k:Nat},iq (l.take k)=0→l[k]? = some 0→iq (l.take (k+1))=0
 | [],k,_,h=>by simp at h
 | y :: l,0,_,h=>by
  simp at h; subst h;simp[iq]
 | y :: l,k+1,ht,h=>by
  rw[List.take_succ_cons] at ht ⊢;unfold iq at ht ⊢;by_cases hy:y≠0
  ·rw[if_pos hy] at ht; exact absurd ht hy
  ·rw[if_neg hy] at ht ⊢;exact ru ht (by simpa using h)
theorem wM:∀ {l:List Int},iq l=0→∀ e∈l,e=0
 | [],_,e,he=>by cases he
 | y :: l,h,e,he=>by
  unfold iq at h;by_cases hy:y≠0
  ·rw[if_pos hy] at h; exact absurd h hy
  ·rw[if_neg hy] at h;rcases List.mem_cons.1 he with rfl | he
   ·exact Decidable.not_not.1 hy
   ·exact wM h e he
def adb (r:Raw):Rat:=mkRat (sgI r.neg (ay r.num)) (ay r.den)
theorem zS (x:Rat):adb (aK x)=x:=by
 unfold adb aK;rw[aU,aU]; exact zF x
def iw (r:Raw):Int:=if iY r≠0 then iY r else if r.neg=true∨0 < lZ (adb r) 1 then 2 else 0
theorem abC {r:Raw} (h:iw r=0):∃ x:Rat,r=aK x∧rl x≤1024∧dY x=false:=by
 unfold iw at h;by_cases h1:iY r=0
 ·rw[if_neg (by simpa using h1)] at h;obtain⟨⟨x,rfl⟩,h2,h3⟩:=aby h1;refine⟨x,rfl,by unfold rl; exact Nat.max_le.2 ⟨h2,h3⟩,?_⟩;by_cases h4:(aK x).neg=true∨0 < lZ (adb (aK x)) 1
  ·rw[if_pos h4] at h; omega
  ·cases hn:dY x
   ·rfl
   ·exact absurd (.inl hn) h4
 ·rw[if_pos h1] at h; exact absurd h h1
def lH (l:List Raw):Int:=iq (l.map iw)
theorem uz:∀ {l:List Raw},lH l=0→∃ xs:List Rat,l=xs.map aK∧∀ x∈xs,rl x≤1024
 | [],_=>⟨[],rfl,fun _ h=>by cases h⟩
 | r :: l,h=>by
  unfold lH at h;rw[List.map_cons] at h;unfold iq at h;by_cases hy:iw r≠0
  ·rw[if_pos hy] at h; exact absurd h hy
  ·rw[if_neg hy] at h;obtain⟨x,hx,hl,_⟩:=abC (Decidable.not_not.1 hy);obtain⟨xs,hxs,hls⟩:=uz (l:=l) h;refine⟨x :: xs,by rw[List.map_cons,← hx,← hxs],fun y hy=>?_⟩;rcases List.mem_cons.1 hy with rfl | hy
   ·exact hl
   ·exact hls y hy
def qP (xs:List Rat):Rat:=xs.foldl (· + ·) 0
theorem agd (xs:List Rat) (x:Rat):qP (xs ++ [x])=qP xs+x:=by unfold qP; rw[List.foldl_append]; rfl
def mg (a:Int) (l:List Raw):Int:=if (l.length:Int)≠a then 3 else if lH l≠0 then lH l else if lZ (qP (l.map adb)) 1≠0 then 14 else 0
def oU (acts:List Int) (m:List (List Raw)):Int:=if m.length≠acts.length then 3 else iq (List.zipWith mg acts m)
theorem zT (xs:List Rat):(xs.map aK).map adb=xs:=by
 rw[List.map_map];conv=>rhs; rw[← List.map_id xs]
 exact List.map_congr_left fun x _=>zS x
theorem afJ:∀ (xs:List Rat),(∀ x∈xs,rl x≤1024)→rl (qP xs)≤1+1025*xs.length:=by
 intro xs h;suffices H:∀ (ys:List Rat) (a:Rat),(∀ x∈ys,rl x≤1024)→rl (ys.foldl (· + ·) a)≤rl a+1025*ys.length by
  have:=H xs 0 h;rw[ab2] at this; exact this
 intro ys;induction ys with
 | nil=>intro a _; simp
 | cons y ys ih =>
  intro a hys;have h1:=ih (a+y) (fun x hx=>hys x (List.mem_cons_of_mem _ hx));have h2:=aeo a y;have h3:=hys y (List.mem_cons_self);rw[List.foldl_cons,List.length_cons];omega
end Go.Proofs.YthmklhapjegfdaaGreatDoor
