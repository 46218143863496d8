/- Part of a claim. -/
import Derived.Test.YtnmeejofpkhlkaaGreatDoorE04
import Derived.Deep.AppendLies
set_option linter.all false
set_option maxRecDepth 100000
set_option maxHeartbeats 12800000
namespace Go.Proofs.YtnmeejofpkhlkaaGreatDoor
open Go.RowKit.Below renaming refl->F9
open Below renaming same'->FZ
open Go.IntKind renaming i64->F5
open Go renaming Value->F7,World->FW
open Go.Value renaming bool->Gj,int->F6,slice->FQ
open List renaming drop_length->IL,drop_zero->I4,getElem?_take_of_lt->KI,length_take->G5,map->GK,map_cons->Hr,replicate->F8
open Nat renaming add_zero->J7,eq_zero_or_pos->Gt,gcd->Gv,le_refl->FV,lt_or_gt_of_ne->LZ,lt_trichotomy->II,mul_one->Gp,zero_add->Iz,zero_le->GR,zero_mul->KF
open Same renaming refl->Gh
open Go.Proofs.Tryz renaming prog->FY
open Go.World renaming ownsRow_nil->Ko
open Lib renaming hid → Ac
open Go.RowKit
variable {a:Act} {ops:Array Oper} {neg:Bool} {F G:FI} {l:List Nat} {rest:List Oper} {b c k n x:Nat} {o:Oper} {t:TypeId}
def dF (w:FW) (_:FI) (b o:Nat) (x:Nat):Prop:=w.cell? ⟨b,o,none⟩=some (.int .u32 (x:Int))
def Ag (w:FW) (F:FI) (v:F7) (l:List Nat):Prop:=BQ 1 dF w F v l
def Ae (w:FW) (F:FI) (v:F7) (n:Nat):Prop:=Ag w F v (dig n)
def Ext (F:FI) (n:Nat):FI:=λb=>F b\/n<=b
theorem Ag.keep {w w':FW} {v:F7} (h:Ag w F v l) (hFG:∀ b,F b->b < w.heap.size->G b) (hs:Same F w w'):Ag w' G v l :=
 BQ.keep h hFG hs.size λb o x _ hb hl hx=>by unfold dF at *; rw[hs.cell hb hl]; exact hx
theorem Ag.on {w w':FW} {v:F7} (h:Ag w F v l) (hs:Same F w w'):Ag w' F v l:=h.keep (λ_ h _=>h) hs
theorem Ae.keep {w w':FW} {v:F7} (h:Ae w F v n) (hFG:∀ b,F b->b < w.heap.size->G b) (hs:Same F w w'):Ae w' G v n:=Ag.keep h hFG hs
theorem Ae.on {w w':FW} {v:F7} (h:Ae w F v n) (hs:Same F w w'):Ae w' F v n:=h.keep (λ_ h _=>h) hs
theorem Ae.below {w w':FW} {v:F7} (h:Ae w F v n) (hb:Below w.heap.size w w'):Ae w' F v n:=h.on (FZ hb F)
theorem Ae.mono {w:FW} {v:F7} (h:Ae w F v n) (hFG:∀ b,F b->b < w.heap.size->G b):Ae w G v n:=h.keep hFG (Gh _ _)
theorem Ae.ext {w w':FW} {v:F7} {m:Nat} (h:Ae w F v n) (hb:Below w.heap.size w w'):Ae w' (Ext F m) v n:=h.keep (λ_ h _=>.inl h) (FZ hb F)
theorem Ae.zero (w:FW) (F:FI) (A:Option Addr) (c:Nat):Ae w F (FQ A 0 c) 0:=by
 unfold Ae;rw[bD];exact⟨A,c,rfl,GR _,λh=>absurd h aF⟩
abbrev aU (l:List Nat):List F7:=l.map λx:Nat=>.int .u32 (x:Int)
theorem Row.limbs {w:FW} (h:Row w b t (aU l)) (hF:F b) (hn:n<=l.length) (hc:n<=c):Ag w F (FQ (some ⟨b,0,none⟩) n c) (l.take n):=by
 have hl:(l.take n).length=n:=by rw[G5];omega
 refine⟨some ⟨b,0,none⟩,c,by rw[hl],EN,λ_=>⟨b,0,rfl,hF,h.lt,λk x hk=>?_⟩⟩;unfold dF;rw[Gp,Iz];refine h.cell ?_;have hk2:=FD hk;rw[KI EN] at hk;simp[hk]
theorem bC (l:List Nat) (k v:Nat):(aU l).set k (.int .u32 (v:Int))=aU (l.set k v):=by
 unfold aU;rw[List.map_set]
theorem bn (h:l[k]? = some x):(aU l)[k]? = some (.int .u32 (x:Int)):=by simp[aU,h]
theorem gQ (n:Nat):aU (F8 n 0)=F8 n (.int .u32 0):=by simp[aU]
theorem Tryz.infoU32:(Tryz.prog.info? 103).map (λi=>(i.zero,i.size,i.bytes))=some (some (.int .u32 0),1,4):=ak
theorem afW {w:FW} {Q:Exit->Act->FW->Prop} (hgd:o.guard=none) (s x:Operand) (t:TypeId) (ht:Tryz.prog.underlying t=some (.slice 103))
  (ho:o.op = .call { callee:=.builtin .append,args:=#[s,x],argTypes:=#[t,t] })
  (base:Nat) (v:F7) (l:List Nat) (hs:a.eval s=v) (hown:w.ownsRow base 103 1 v l.length (aU l))
  (B:Nat) (y:Nat) (hx:a.eval x = FQ (some ⟨B,0,none⟩) 1 1) (hB:w.heap[B]? = some (.cells #[.int .u32 (y:Int)] 103 (0,0))) (hlen:l.length<=1000000) (hbase:base<=w.heap.size)
  (h:∀ g cap w',w'.ownsRow base 103 1 (FQ (some ⟨g,0,none⟩) (l.length+1) cap) (l ++ [y]).length (aU (l ++ [y]))->w.grownBy w' v.ownBlock->(v.ownBlock=some g\/w.heap.size<=g)->g < w'.heap.size ->
   wpList FY ops Q rest (a.put o.dst (FQ (some ⟨g,0,none⟩) (l.length+1) cap)) w') :
  wpList FY ops Q (o :: rest) a w:=by
 obtain⟨i0,hi,hz0,hz1,hz2⟩:=info_parts Tryz.infoU32;refine wpList_append_lies w hgd s x _ ho base _ i0 _ 1 4 ht hi hz0 hz1 hz2 rfl EN v l.length _ hs hown ⟨B,0,none⟩ 1 1 [.int .u32 (y:Int)] hx rfl (World.news_of_block hB) (by simp[Value.oneCell']) EN (by unfold maxLen; omega) EN hbase w.heap.size rfl ?_;intro g cap w' h1 h2 h3 h4;exact h g cap w' (by simpa [aU] using h1) h2 (h3.imp id λe=>by omega) h4
theorem dh {w W:FW} {Q:Exit->Act->FW->Prop} (hgd:o.guard=none) (s x:Operand) (t:TypeId) (ht:Tryz.prog.underlying t=some (.slice 103))
  (ho:o.op = .call { callee:=.builtin .append,args:=#[s,x],argTypes:=#[t,t] })
  (base:Nat) (hbase:base<=W.heap.size) (v:F7) (l:List Nat) (hs:a.eval s=v) (yi:Int) (y:Nat) (hy:yi=(y:Int)) (hlen:l.length<=1000000)
  (hx:a.eval x = FQ (some ⟨w.heap.size,0,none⟩) 1 1) (hown:w.ownsRow base 103 1 v l.length (aU l)) (hbel:Below base W w)
  (h:∀ g cap w',w'.ownsRow base 103 1 (FQ (some ⟨g,0,none⟩) (l.length+1) cap) (l ++ [y]).length (aU (l ++ [y]))->Below base W w'->w.heap.size < w'.heap.size->w.grownBy w' v.ownBlock ->
   wpList FY ops Q rest (a.put o.dst (FQ (some ⟨g,0,none⟩) (l.length+1) cap)) w') :
  wpList FY ops Q (o :: rest) a (w.alloc (.cells #[.int .u32 yi] 103)):=by
 subst hy;have hz:=hbel.size;refine afW hgd s x t ht ho base v l hs (hown.alloc _) w.heap.size y hx (heap_alloc_new _ _) hlen aG ?_;intro g cap w' h1 h2 h3 h4;have h5:=h2.size;simp only[World.size_alloc] at h5;refine h g cap w' h1 ((hbel.alloc EN _).grown h2 aG (λk hk=>(hown.lt k hk).1)) EN ?_;exact⟨h2.os,h2.tape,h2.output,EN,λk hk hne=>(h2.block k aG hne).trans (Below.heap_alloc _ _ _ hk)⟩
theorem adt {w:FW} {Q:Exit->Act->FW->Prop}
  (hg:o.guard=none) (l c:Operand) (t:TypeId) (hop:o.op=Op.makeSlice t l c) (ht:Tryz.prog.underlying t=some (.slice 103))
  (n:Nat) (ci:Int) (hci:ci=(n:Int)) (hl:a.eval l = F6 F5 0) (hc:a.eval c = F6 F5 ci) (hn:n<=1000000)
  (hK:∀ w1,Below w.heap.size w w1->w1.ownsRow w.heap.size 103 1 (FQ (some ⟨w.heap.size,0,none⟩) 0 n) 0 [] ->
   wpList FY ops Q rest (a.put o.dst (FQ (some ⟨w.heap.size,0,none⟩) 0 n)) w1) :
  wpList FY ops Q (o :: rest) a w:=by
 subst hci;refine wpList_plain hg λK hK'=>?_
 obtain⟨i0,hi,hz0,hz1,hz2⟩:=info_parts Tryz.infoU32;obtain⟨w1,hrun,hown,hgr⟩:=run_make_own (P:=FY) w w.heap.size t 103 i0 _ 1 ht hi hz0 hz1 .i64 .i64 n (by rw[hz2]; omega) (by unfold maxLen; omega) (FV _);unfold Oper.wp;simp[execOp,hop,hl,hc,hrun,Result.andThen];exact hK' _ _ (hK _ ((F9 _ w).grown hgr (FV _) (λk hk=>by cases hk)) hown)
theorem jE {w:FW} {base:Nat} {v:F7} (h:w.ownsRow base t 1 v l.length (aU l)) (hF:∀ b,v.ownBlock=some b->F b):Ag w F v l:=by
 rcases h.2 with⟨rfl,h0⟩ | ⟨g,cap,cur,rfl,hb,hg,hnc,_,hsz,htake⟩
 ·have:l = []:=List.eq_nil_of_length_eq_zero h0;subst this;exact YN
 ·refine⟨_,cap,rfl,hnc,λ_=>⟨g,0,rfl,hF g rfl,(Array.getElem?_eq_some_iff.1 hg).1,λk x hk=>?_⟩⟩;unfold dF;rw[Gp,Iz];have hi:(aU l)[k]? = some (.int .u32 (x:Int)):=bn hk;rw[<-htake,List.getElem?_take] at hi;split at hi
  ·simp[World.cell?,hg];simpa using hi
  ·cases hi
def sliceLen (v:F7):Nat:=match v with | .slice _ n _=>n | _=>0
theorem vZ (h:l[k]? = some x):fF l (k+1)=if x=0 then fF l k else k+1:=by
 rw[fF];rw[h];simp
theorem Ag.trim {w:FW} {A:Option Addr} (hn:l.length=n) (h:Ag w F (FQ A n c) l) (hl:Limbs l):Ae w F (FQ A (fF l n) c) (aH l):=by
 subst hn;obtain⟨A',c',he,hc,hN⟩:=h;injection he with h1 h2 h3;subst h1;subst h3
 have e:=afJ hl;have hle:=adL l l.length;have hlen:(dig (aH l)).length=fF l l.length:=by rw[<-e,G5];omega
 refine⟨A,c,by rw[hlen],EN,λh0=>?_⟩;obtain⟨b,o,rfl,hF,hb,hx⟩:=hN EN;refine⟨b,o,rfl,hF,hb,λk x hk=>hx k x ?_⟩;rw[<-e] at hk;have hk2:=FD hk;rw[G5] at hk2;rwa [KI EN] at hk
theorem qO (w:FW) (F:FI) (A:Option Addr) (n c:Nat) (l:List Nat) (hn:l.length=n) (hv:Ag w F (FQ A n c) l) (hl:n<=1000000) :
  Calls FY 161 #[FQ A n c] w λe w'=>e = .returned (FQ A (fF l n) c)/\w=w':=by
 subst hn;obtain⟨A',c',he,hc,hN⟩:=hv;injection he with h1 h2 h3;subst h1;subst h3
 have HN:=Ac hN;clear hN h2;go_in;go_wp2
 go_loop [0] (λa=>∃ k:Nat,k<=l.length/\a = FQ A k c/\fF l k=fF l l.length) (λa=>sliceLen a)
 case atStart=>exact⟨l.length,FV _,rfl,rfl⟩
 case round =>
  obtain⟨k,hk,rfl,ht⟩:=hrel;have HT:=Ac ht;clear ht;rcases Gt k with h0 | h0
  ·exact zcR
  ·obtain⟨j,rfl⟩:∃ j,k=j+1:=⟨k - 1,EN⟩;obtain⟨b,o,rfl,_,hb,hx⟩:=HN.out EN;obtain⟨x,hx'⟩:=FC (l:=l) (k:=j) EN;have ex:=hx j x hx';unfold dF at ex;rw[Gp] at ex;have HS:=Ac (vZ hx');clear hx hx';by_cases hz:x=0
   ·subst hz;go_wp2
    go_round
    case rel=>exact⟨j,EN,rfl,by rw[<-HT.out,HS.out,L8 rfl]⟩
    case measure=>simp[sliceLen]
   ·exact zaC
theorem xq (w:FW) (F:FI) (A:Option Addr) (n c:Nat) (l:List Nat) (hn:l.length=n) (hv:Ag w F (FQ A n c) l) (hl:n<=1000000) :
  Calls FY 210 #[FQ A n c] w λe w'=>e = .returned (FQ A (fF l n) c)/\w=w':=by
 subst hn;obtain⟨A',c',he,hc,hN⟩:=hv;injection he with h1 h2 h3;subst h1;subst h3
 have HN:=Ac hN;clear hN h2;go_in;go_wp2
 go_loop [0] (λa=>∃ k:Nat,k<=l.length/\a = FQ A k c/\fF l k=fF l l.length) (λa=>sliceLen a)
 case atStart=>exact⟨l.length,FV _,rfl,rfl⟩
 case round =>
  obtain⟨k,hk,rfl,ht⟩:=hrel;have HT:=Ac ht;clear ht;rcases Gt k with h0 | h0
  ·exact zcR
  ·obtain⟨j,rfl⟩:∃ j,k=j+1:=⟨k - 1,EN⟩;obtain⟨b,o,rfl,_,hb,hx⟩:=HN.out EN;obtain⟨x,hx'⟩:=FC (l:=l) (k:=j) EN;have ex:=hx j x hx';unfold dF at ex;rw[Gp] at ex;have HS:=Ac (vZ hx');clear hx hx';by_cases hz:x=0
   ·subst hz;go_wp2
    go_round
    case rel=>exact⟨j,EN,rfl,by rw[<-HT.out,HS.out,L8 rfl]⟩
    case measure=>simp[sliceLen]
   ·exact zaC
theorem nC (w:FW) (F:FI) (A:Option Addr) (n c:Nat) (l:List Nat) (hn:l.length=n) (hv:Ag w F (FQ A n c) l) (hl:n<=1000000) :
  Calls FY 110 #[FQ A n c] w λe w'=>e = .returned (FQ A (fF l n) c)/\w=w':=by
 subst hn;obtain⟨A',c',he,hc,hN⟩:=hv;injection he with h1 h2 h3;subst h1;subst h3
 have HN:=Ac hN;clear hN h2;go_in;go_wp2
 go_loop [0] (λa=>∃ k:Nat,k<=l.length/\a = FQ A k c/\fF l k=fF l l.length) (λa=>sliceLen a)
 case atStart=>exact⟨l.length,FV _,rfl,rfl⟩
 case round =>
  obtain⟨k,hk,rfl,ht⟩:=hrel;have HT:=Ac ht;clear ht;rcases Gt k with h0 | h0
  ·exact zcR
  ·obtain⟨j,rfl⟩:∃ j,k=j+1:=⟨k - 1,EN⟩;obtain⟨b,o,rfl,_,hb,hx⟩:=HN.out EN;obtain⟨x,hx'⟩:=FC (l:=l) (k:=j) EN;have ex:=hx j x hx';unfold dF at ex;rw[Gp] at ex;have HS:=Ac (vZ hx');clear hx hx';by_cases hz:x=0
   ·subst hz;go_wp2
    go_round
    case rel=>exact⟨j,EN,rfl,by rw[<-HT.out,HS.out,L8 rfl]⟩
    case measure=>simp[sliceLen]
   ·exact zaC
theorem mF (w:FW) (F:FI) (v:F7) (n:Nat) (hv:Ae w F v n) (hl:(dig n).length<=1000000) :
  Calls FY 160 #[v] w λe w'=>e = .returned (Gj (decide (n=1)))/\w=w':=by
 obtain⟨A,c,rfl,hc,hN⟩:=hv;have HN:=Ac hN;clear hN;by_cases h1:(dig n).length=1
 ·obtain⟨b,o,rfl,_,hb,hx⟩:=HN.out EN;obtain⟨x,hx'⟩:=FC (l:=dig n) (k:=0) EN;have ex:=hx 0 x hx';unfold dF at ex;simp only[KF,J7] at ex;have HD:=Ac (show decide (n=1)=decide (x=1) by
   rw[decide_eq_decide,<-abZ];obtain⟨y,hy⟩:=List.length_eq_one_iff.1 h1;rw[hy] at hx' ⊢;simp at hx';simp[hx'])
  rw[h1];clear hx hx' hc;by_cases h2:x=1
  ·subst h2;go_in;go_wp2
   go_ret;exact⟨by rw[HD.out]; rfl,rfl⟩
  ·exact zck
 ·exact za3
theorem oK (w:FW) (F:FI) (v:F7) (n:Nat) (hv:Ae w F v n) (hl:(dig n).length<=1000000) :
  Calls FY 156 #[v] w λe w'=>e = .returned (Gj (decide (n=1)))/\w=w':=by
 obtain⟨A,c,rfl,hc,hN⟩:=hv;have HN:=Ac hN;clear hN;by_cases h1:(dig n).length=1
 ·obtain⟨b,o,rfl,_,hb,hx⟩:=HN.out EN;obtain⟨x,hx'⟩:=FC (l:=dig n) (k:=0) EN;have ex:=hx 0 x hx';unfold dF at ex;simp only[KF,J7] at ex;have HD:=Ac (show decide (n=1)=decide (x=1) by
   rw[decide_eq_decide,<-abZ];obtain⟨y,hy⟩:=List.length_eq_one_iff.1 h1;rw[hy] at hx' ⊢;simp at hx';simp[hx'])
  rw[h1];clear hx hx' hc;by_cases h2:x=1
  ·subst h2;go_in;go_wp2
   go_ret;exact⟨by rw[HD.out]; rfl,rfl⟩
  ·exact zck
 ·exact za3
theorem ach (w:FW) (F:FI) (v:F7) (n:Nat) (hv:Ae w F v n) (hl:(dig n).length<=2) :
  Calls FY 172 #[v] w λe w'=>e = .returned (.int .u64 (n:Int))/\w=w':=by
 obtain⟨A,c,rfl,hc,hN⟩:=hv;have HN:=Ac hN;clear hN;go_in;go_wp2
 go_loop [3,4] (λm i=>∃ k:Nat,k<=(dig n).length/\i = F6 F5 ((k:Int) - 1)/\m = .int .u64 (aH ((dig n).drop k):Int)) (λ_ i=>(intOf i+1).toNat)
 case atStart=>exact⟨(dig n).length,FV _,rfl,by rw[IL]; rfl⟩
 case round =>
  obtain⟨k,hk,rfl,rfl⟩:=hrel;rcases Gt k with h0 | h0
  ·exact zbv
  ·obtain⟨j,rfl⟩:∃ j,k=j+1:=⟨k - 1,EN⟩;obtain⟨b,o,rfl,_,hb,hx⟩:=HN.out EN;obtain⟨x,hx'⟩:=FC (l:=dig n) (k:=j) EN;have ex:=hx j x hx';unfold dF at ex;rw[Gp] at ex;have HS:=Ac (show aH ((dig n).drop j)=x+LB*aH ((dig n).drop (j+1)) by rw[bT,aN hx']);have hxl:x < 1000000000:=(aP n).get hx';have hm:aH ((dig n).drop (j+1)) < 1000000000:=by
    exact zbh
   clear hx hx';generalize aH ((dig n).drop (j+1))=m at *;refine Yx ?_;go_wp2
   go_round
   case rel=>exact⟨j,EN,by go_num,by rw[HS.out]; simp; omega⟩
   case measure=>simp[intOf]
theorem qP (w:FW) (F:FI) (v:F7) (n:Nat) (hv:Ae w F v n) (hl:(dig n).length<=2) :
  Calls FY 155 #[v] w λe w'=>e = .returned (.int .u64 (n:Int))/\w=w':=by
 obtain⟨A,c,rfl,hc,hN⟩:=hv;have HN:=Ac hN;clear hN;go_in;go_wp2
 go_loop [3,4] (λm i=>∃ k:Nat,k<=(dig n).length/\i = F6 F5 ((k:Int) - 1)/\m = .int .u64 (aH ((dig n).drop k):Int)) (λ_ i=>(intOf i+1).toNat)
 case atStart=>exact⟨(dig n).length,FV _,rfl,by rw[IL]; rfl⟩
 case round =>
  obtain⟨k,hk,rfl,rfl⟩:=hrel;rcases Gt k with h0 | h0
  ·exact zbv
  ·obtain⟨j,rfl⟩:∃ j,k=j+1:=⟨k - 1,EN⟩;obtain⟨b,o,rfl,_,hb,hx⟩:=HN.out EN;obtain⟨x,hx'⟩:=FC (l:=dig n) (k:=j) EN;have ex:=hx j x hx';unfold dF at ex;rw[Gp] at ex;have HS:=Ac (show aH ((dig n).drop j)=x+LB*aH ((dig n).drop (j+1)) by rw[bT,aN hx']);have hxl:x < 1000000000:=(aP n).get hx';have hm:aH ((dig n).drop (j+1)) < 1000000000:=by
    exact zbh
   clear hx hx';generalize aH ((dig n).drop (j+1))=m at *;refine Yx ?_;go_wp2
   go_round
   case rel=>exact⟨j,EN,by go_num,by rw[HS.out]; simp; omega⟩
   case measure=>simp[intOf]
theorem uI (w:FW) (n:Nat) (hn:n < 18446744073709551616) :
  Calls FY 128 #[.int .u64 (n:Int)] w (Ret w λv w'=>Ae w' (λb=>w.heap.size<=b) v n):=by
 go_in;go_wp2
 go_loopw [0,3] (λu v wr=>∃ (m:Nat) (l:List Nat),u = .int .u64 (m:Int)/\m<=n/\l++dig m=dig n/\wr.ownsRow w.heap.size 103 1 v l.length (aU l)/\Below w.heap.size w wr) (λu _ _=>(intOf u).toNat)
 case atStart=>exact⟨n,[],rfl,FV _,rfl,Ko _ _ _ _,F9 _ _⟩
 case round =>
  obtain⟨m,l,rfl,hm,hd,hown,hbel⟩:=hrel;have HD:=Ac hd;have HO:=Ac hown;have hll:l.length<=1000000:=by
   have h1:(dig n).length<=3:=aV (Nat.lt_trans hn aA);exact zc7
  clear hd hown;rcases Gt m with h0 | h0
  ·exact Y3
  ·have HD2:=Ac (show l ++ [m % 1000000000]++dig (m / 1000000000)=dig n by rw[<-HD.out,lY (by omega:m≠0)]; simp);go_wp2_with (at_builtin; refine dh rfl _ _ 39 Tryz.underlying39 rfl w.heap.size (FV _) _ l rfl _ (m % 1000000000) EN hll rfl HO.out hbel ?_; intro g cap w' hown' aZ hlt' iM; have HO':=Ac hown'; clear hown' iM)
   go_roundw
   case rel=>exact⟨m / 1000000000,l ++ [m % 1000000000],by go_num,EN,HD2.out,by simpa using HO'.out,aZ⟩
   case measure=>simp[intOf]; omega
theorem aeT (w:FW) (n:Nat) (hn:n < 18446744073709551616) :
  Calls FY 180 #[.int .u64 (n:Int)] w (Ret w λv w'=>Ae w' (λb=>w.heap.size<=b) v n):=by
 go_in;go_wp2
 go_loopw [0,3] (λu v wr=>∃ (m:Nat) (l:List Nat),u = .int .u64 (m:Int)/\m<=n/\l++dig m=dig n/\wr.ownsRow w.heap.size 103 1 v l.length (aU l)/\Below w.heap.size w wr) (λu _ _=>(intOf u).toNat)
 case atStart=>exact⟨n,[],rfl,FV _,rfl,Ko _ _ _ _,F9 _ _⟩
 case round =>
  obtain⟨m,l,rfl,hm,hd,hown,hbel⟩:=hrel;have HD:=Ac hd;have HO:=Ac hown;have hll:l.length<=1000000:=by
   have h1:(dig n).length<=3:=aV (Nat.lt_trans hn aA);exact zc7
  clear hd hown;rcases Gt m with h0 | h0
  ·exact Y3
  ·have HD2:=Ac (show l ++ [m % 1000000000]++dig (m / 1000000000)=dig n by rw[<-HD.out,lY (by omega:m≠0)]; simp);go_wp2_with (at_builtin; refine dh rfl _ _ 40 Tryz.underlying40 rfl w.heap.size (FV _) _ l rfl _ (m % 1000000000) EN hll rfl HO.out hbel ?_; intro g cap w' hown' aZ hlt' iM; have HO':=Ac hown'; clear hown' iM)
   go_roundw
   case rel=>exact⟨m / 1000000000,l ++ [m % 1000000000],by go_num,EN,HD2.out,by simpa using HO'.out,aZ⟩
   case measure=>simp[intOf]; omega
theorem aeU (w:FW) (x:Int):Calls FY 188 #[F6 F5 x] w λe w'=>e = .returned (Gj false)/\w'=w:=by
 have h:(x != x)=false:=aF;exact zbU
theorem abd (w:FW) (x y:Nat):Calls FY 158 #[F6 F5 (x:Int),F6 F5 (y:Int)] w λe w'=>e = .returned (F6 F5 (dB x y))/\w'=w:=by
 rcases II x y with h | h | h
 ·have HO:=Ac (show dB x y = -1 by unfold dB; rw[L8 h]);exact zav
 ·have HO:=Ac (show dB x y=0 by unfold dB; rw[L6 EN,L8 h]);have h1:x<=y:=EN;have h2:y<=x:=EN;clear h;exact zav
 ·have HO:=Ac (show dB x y=1 by unfold dB; rw[L6 EN,L6 EN]);exact zav
theorem yK (w:FW) (x:Int):Calls FY 189 #[.int .u32 x] w λe w'=>e = .returned (Gj false)/\w'=w:=by
 have h:(x != x)=false:=aF;exact zbU
theorem wo (w:FW) (x y:Nat):Calls FY 159 #[.int .u32 (x:Int),.int .u32 (y:Int)] w λe w'=>e = .returned (F6 F5 (dB x y))/\w'=w:=by
 rcases II x y with h | h | h
 ·have HO:=Ac (show dB x y = -1 by unfold dB; rw[L8 h]);exact zax
 ·have HO:=Ac (show dB x y=0 by unfold dB; rw[L6 EN,L8 h]);have h1:x<=y:=EN;have h2:y<=x:=EN;clear h;exact zax
 ·have HO:=Ac (show dB x y=1 by unfold dB; rw[L6 EN,L6 EN]);exact zax
theorem afX {P:Program} {f:FuncId} {args:Array F7} {w:FW} {a:Nat} {v:F7}
  (h:Calls P f args (w.drewN (a+n)) λe w'=>e = .returned v/\w'=w.drewN (a+n)) :
  Calls P f args (w.drewN (a+n)) λe w''=>e = .returned v/\∃ m,w''=w.drewN (a+m) :=
 h.mono λ_ _ ⟨he,hm⟩=>⟨he,n,hm⟩
theorem je {a:Nat} (h:a < b):dB a b = -1:=by unfold dB; rw[L8 h]
theorem aeV (a:Nat):dB a a=0:=by unfold dB; simp
theorem nX {a:Nat} (h:b < a):dB a b=1:=by unfold dB; rw[L6 EN,L6 EN]
theorem jU (w:FW) (F:FI) (va vb:F7) (a b:Nat) (ha:Ae w F va a) (hb:Ae w F vb b) (hla:(dig a).length<=1000000) (hlb:(dig b).length<=1000000) :
  Calls FY 120 #[va,vb] w λe w'=>e = .returned (F6 F5 (dB a b))/\∃ n,w'=w.drewN n:=by
 obtain⟨A,c,rfl,hc,hNa⟩:=ha;obtain⟨B,d,rfl,hd,hNb⟩:=hb;have HA:=Ac hNa;have HB:=Ac hNb;clear hNa hNb;by_cases hlen:(dig a).length=(dig b).length
 ·have HL:=Ac hlen;rw[<-hlen] at hd hlb ⊢;clear hlen;go_in;go_wp2
  go_loopw [5] (λi wr=>∃ (k q:Nat),k<=(dig a).length/\i = F6 F5 ((k:Int) - 1)/\(dig a).drop k=(dig b).drop k/\wr=w.drewN q) (λi _=>(intOf i+1).toNat)
  case atStart=>exact⟨(dig a).length,0,FV _,rfl,by rw[IL,HL.out,IL],rfl⟩
  case round =>
   obtain⟨k,q,hk,rfl,hdr,rfl⟩:=hrel;have HD:=Ac hdr;clear hdr;rcases Gt k with h0 | h0
   ·subst h0;have HE:=Ac (show dB a b=0 by
     have:=HD.out; rw[I4,I4] at this;rw[wZ this]; exact aeV b)
    exact zdN
   ·obtain⟨j,rfl⟩:∃ j,k=j+1:=⟨k - 1,EN⟩;obtain⟨b1,o1,rfl,_,hb1,hx⟩:=HA.out EN;have HL2:=HL.out;obtain⟨b2,o2,rfl,_,hb2,hy⟩:=HB.out EN;refine zcm ?_;intro x hx' y hy' ex ey;unfold dF at ex ey;rw[Gp] at ex ey;refine zdx ?_;clear hx hx' hy hy' HL2;intro hxl hyl HX HY;rcases II x y with h | h | h
    ·have HE:=Ac (je (ku HL.out HD.out HX.out HY.out h));have hne:((x:Int) != (y:Int))=true:=aG;have HO:=Ac (show dB x y=dB a b by rw[HE.out]; first | exact je h | exact nX h);go_wp2
     go_quiet (fail)
     go_wp2
     go_quiet ((go_at_call 159; exact afX (wo _ _ _)))
     exact zcv
    ·subst h;have HE:=Ac (uo HD.out HX.out HY.out);have hne:((x:Int) != (x:Int))=false:=aF;go_wp2
     go_quiet (fail)
     go_wp2
     go_roundw
     case rel=>exact⟨j,_,EN,by go_num,HE.out,rfl⟩
     case measure=>simp[intOf]
    ·have HE:=Ac (nX (ku HL.out.symm HD.out.symm HY.out HX.out h));have hne:((x:Int) != (y:Int))=true:=aG;have HO:=Ac (show dB x y=dB a b by rw[HE.out]; first | exact je h | exact nX h);go_wp2
     go_quiet (fail)
     go_wp2
     go_quiet ((go_at_call 159; exact afX (wo _ _ _)))
     exact zcv
 ·have hne:(((dig a).length:Int) != ((dig b).length:Int))=true:=aG;rcases LZ hlen with h | h
  ·have HE:=Ac (je (oD h));have HE2:=Ac (je h);clear hlen;go_in;go_wp2_with (go_at_call 158; ((with_reducible refine(abd _ _ _).mono ?_); rintro e w' ⟨rfl,rfl⟩))
   exact Y1
  ·have HE:=Ac (nX (oD h));have HE2:=Ac (nX h);have hnlt:decide ((dig a).length < (dig b).length)=false:=L9 EN;clear hlen;go_in;go_wp2_with (go_at_call 158; ((with_reducible refine(abd _ _ _).mono ?_); rintro e w' ⟨rfl,rfl⟩))
   exact Y1
theorem zJ (w:FW) (F:FI) (va vb:F7) (a b:Nat) (ha:Ae w F va a) (hb:Ae w F vb b) (hla:(dig a).length<=1000000) (hlb:(dig b).length<=1000000) :
  Calls FY 182 #[va,vb] w λe w'=>e = .returned (F6 F5 (dB a b))/\∃ n,w'=w.drewN n:=by
 obtain⟨A,c,rfl,hc,hNa⟩:=ha;obtain⟨B,d,rfl,hd,hNb⟩:=hb;have HA:=Ac hNa;have HB:=Ac hNb;clear hNa hNb;by_cases hlen:(dig a).length=(dig b).length
 ·have HL:=Ac hlen;rw[<-hlen] at hd hlb ⊢;clear hlen;go_in;go_wp2
  go_loopw [5] (λi wr=>∃ (k q:Nat),k<=(dig a).length/\i = F6 F5 ((k:Int) - 1)/\(dig a).drop k=(dig b).drop k/\wr=w.drewN q) (λi _=>(intOf i+1).toNat)
  case atStart=>exact⟨(dig a).length,0,FV _,rfl,by rw[IL,HL.out,IL],rfl⟩
  case round =>
   obtain⟨k,q,hk,rfl,hdr,rfl⟩:=hrel;have HD:=Ac hdr;clear hdr;rcases Gt k with h0 | h0
   ·subst h0;have HE:=Ac (show dB a b=0 by
     have:=HD.out; rw[I4,I4] at this;rw[wZ this]; exact aeV b)
    exact zdN
   ·obtain⟨j,rfl⟩:∃ j,k=j+1:=⟨k - 1,EN⟩;obtain⟨b1,o1,rfl,_,hb1,hx⟩:=HA.out EN;have HL2:=HL.out;obtain⟨b2,o2,rfl,_,hb2,hy⟩:=HB.out EN;refine zcm ?_;intro x hx' y hy' ex ey;unfold dF at ex ey;rw[Gp] at ex ey;refine zdx ?_;clear hx hx' hy hy' HL2;intro hxl hyl HX HY;rcases II x y with h | h | h
    ·have HE:=Ac (je (ku HL.out HD.out HX.out HY.out h));skip;go_wp2
     go_quiet (fail)
     skip
     exact zaw
    ·subst h;have HE:=Ac (uo HD.out HX.out HY.out);skip;go_wp2
     go_quiet (fail)
     go_wp2
     go_quiet (fail)
     go_wp2
     go_roundw
     case rel=>exact⟨j,_,EN,by go_num,HE.out,rfl⟩
     case measure=>simp[intOf]
    ·have HE:=Ac (nX (ku HL.out.symm HD.out.symm HY.out HX.out h));skip;go_wp2
     go_quiet (fail)
     go_wp2
     go_quiet (fail)
     exact zaw
 ·have hne:(((dig a).length:Int) != ((dig b).length:Int))=true:=aG;rcases LZ hlen with h | h
  ·have HE:=Ac (je (oD h));have HE2:=Ac (je h);clear hlen;go_in;go_wp2
   exact Y1
  ·exact zbG
theorem aht (w:FW) (F:FI) (va vb:F7) (a b:Nat) (ha:Ae w F va a) (hb:Ae w F vb b) (hla:(dig a).length<=1000000) (hlb:(dig b).length<=1000000) :
  Calls FY 55 #[va,vb] w λe w'=>e = .returned (F6 F5 (dB a b))/\∃ n,w'=w.drewN n:=by
 obtain⟨A,c,rfl,hc,hNa⟩:=ha;obtain⟨B,d,rfl,hd,hNb⟩:=hb;have HA:=Ac hNa;have HB:=Ac hNb;clear hNa hNb;by_cases hlen:(dig a).length=(dig b).length
 ·have HL:=Ac hlen;rw[<-hlen] at hd hlb ⊢;clear hlen;go_in;go_wp2
  go_loopw [5] (λi wr=>∃ (k q:Nat),k<=(dig a).length/\i = F6 F5 ((k:Int) - 1)/\(dig a).drop k=(dig b).drop k/\wr=w.drewN q) (λi _=>(intOf i+1).toNat)
  case atStart=>exact⟨(dig a).length,0,FV _,rfl,by rw[IL,HL.out,IL],rfl⟩
  case round =>
   obtain⟨k,q,hk,rfl,hdr,rfl⟩:=hrel;have HD:=Ac hdr;clear hdr;rcases Gt k with h0 | h0
   ·subst h0;have HE:=Ac (show dB a b=0 by
     have:=HD.out; rw[I4,I4] at this;rw[wZ this]; exact aeV b)
    exact zdN
   ·obtain⟨j,rfl⟩:∃ j,k=j+1:=⟨k - 1,EN⟩;obtain⟨b1,o1,rfl,_,hb1,hx⟩:=HA.out EN;have HL2:=HL.out;obtain⟨b2,o2,rfl,_,hb2,hy⟩:=HB.out EN;refine zcm ?_;intro x hx' y hy' ex ey;unfold dF at ex ey;rw[Gp] at ex ey;refine zdx ?_;clear hx hx' hy hy' HL2;intro hxl hyl HX HY;rcases II x y with h | h | h
    ·have HE:=Ac (je (ku HL.out HD.out HX.out HY.out h));skip;go_wp2
     go_quiet (fail)
     skip
     exact zaw
    ·subst h;have HE:=Ac (uo HD.out HX.out HY.out);skip;go_wp2
     go_quiet (fail)
     go_wp2
     go_quiet (fail)
     go_wp2
     go_roundw
     case rel=>exact⟨j,_,EN,by go_num,HE.out,rfl⟩
     case measure=>simp[intOf]
    ·have HE:=Ac (nX (ku HL.out.symm HD.out.symm HY.out HX.out h));skip;go_wp2
     go_quiet (fail)
     go_wp2
     go_quiet (fail)
     exact zaw
 ·have hne:(((dig a).length:Int) != ((dig b).length:Int))=true:=aG;rcases LZ hlen with h | h
  ·have HE:=Ac (je (oD h));have HE2:=Ac (je h);clear hlen;go_in;go_wp2
   exact Y1
  ·exact zbG
structure Raw where
 neg:Bool
 num:List Nat
 den:List Nat
 deriving Inhabited,DecidableEq
def Ah (w:FW) (F:FI) (v:F7) (r:Raw):Prop:=∃ vn vd,v = .agg #[Gj r.neg,vn,vd]/\Ag w F vn r.num/\Ag w F vd r.den
theorem Ah.keep {w w':FW} {v:F7} {r:Raw} (h:Ah w F v r) (hFG:∀ b,F b->b < w.heap.size->G b) (hs:Same F w w'):Ah w' G v r:=by
 obtain⟨vn,vd,rfl,h1,h2⟩:=h;exact⟨vn,vd,rfl,h1.keep hFG hs,h2.keep hFG hs⟩
theorem Ah.on {w w':FW} {v:F7} {r:Raw} (h:Ah w F v r) (hs:Same F w w'):Ah w' F v r:=h.keep (λ_ h _=>h) hs
theorem Ah.below {w w':FW} {v:F7} {r:Raw} (h:Ah w F v r) (hb:Below w.heap.size w w'):Ah w' F v r:=h.on (FZ hb F)
theorem Ah.mono {w:FW} {v:F7} {r:Raw} (h:Ah w F v r) (hFG:∀ b,F b->b < w.heap.size->G b):Ah w G v r:=h.keep hFG (Gh _ _)
def C9 (w:FW) (F:FI) (b o:Nat) (r:Raw):Prop:=w.cell? ⟨b,o,none⟩=some (Gj r.neg)/\aaw Ag w F b (o+1) r.num/\aaw Ag w F b (o+2) r.den
theorem x9 {w w':FW} {o:Nat} (h:aaw Ag w F b o l) (hFG:∀ b,F b->b < w.heap.size->G b) (hs:Same F w w') (hb:F b) (hl:b < w.heap.size):aaw Ag w' G b o l:=by
 exact zbP
theorem C9.keep {w w':FW} {o:Nat} {r:Raw} (h:C9 w F b o r) (hFG:∀ b,F b->b < w.heap.size->G b) (hs:Same F w w') (hb:F b) (hl:b < w.heap.size):C9 w' G b o r :=
 ⟨by rw[hs.cell hb hl]; exact h.1,x9 h.2.1 hFG hs hb hl,x9 h.2.2 hFG hs hb hl⟩
def FK (w:FW) (F:FI) (v:F7) (l:List Raw):Prop:=BQ 3 C9 w F v l
theorem FK.keep {w w':FW} {v:F7} {l:List Raw} (h:FK w F v l) (hFG:∀ b,F b->b < w.heap.size->G b) (hs:Same F w w'):FK w' G v l :=
 BQ.keep h hFG hs.size λ_ _ _ _ hb hl hx=>hx.keep hFG hs hb hl
theorem FK.on {w w':FW} {v:F7} {l:List Raw} (h:FK w F v l) (hs:Same F w w'):FK w' F v l:=h.keep (λ_ h _=>h) hs
theorem FK.nil (w:FW) (F:FI):FK w F (FQ none 0 0) []:=⟨none,0,rfl,FV _,λh=>absurd h aF⟩
def FM (w:FW) (F:FI) (v:F7) (l:List (List Raw)):Prop:=BQ 1 (aaw FK) w F v l
theorem aeW {w w':FW} {o:Nat} {l:List Raw} (h:aaw FK w F b o l) (hFG:∀ b,F b->b < w.heap.size->G b) (hs:Same F w w') (hb:F b) (hl:b < w.heap.size):aaw FK w' G b o l:=by
 exact zbP
theorem FM.keep {w w':FW} {v:F7} {l:List (List Raw)} (h:FM w F v l) (hFG:∀ b,F b->b < w.heap.size->G b) (hs:Same F w w'):FM w' G v l :=
 BQ.keep h hFG hs.size λ_ _ _ _ hb hl hx=>aeW hx hFG hs hb hl
theorem FM.on {w w':FW} {v:F7} {l:List (List Raw)} (h:FM w F v l) (hs:Same F w w'):FM w' F v l:=h.keep (λ_ h _=>h) hs
theorem FM.nil (w:FW) (F:FI):FM w F (FQ none 0 0) []:=⟨none,0,rfl,FV _,λh=>absurd h aF⟩
def au (x:Rat):Raw:=⟨dI x,dig x.num.natAbs,dig x.den⟩
def aB (x:Rat):Raw:=⟨dI x,dig x.num.natAbs,if x.den=1 then [] else dig x.den⟩
abbrev RtV (w:FW) (F:FI) (v:F7) (x:Rat):Prop:=Ah w F v (au x)
abbrev NmV (w:FW) (F:FI) (v:F7) (x:Rat):Prop:=Ah w F v (aB x)
abbrev BD (w:FW) (F:FI) (v:F7) (l:List Rat):Prop:=FK w F v (l.map au)
abbrev Bz (w:FW) (F:FI) (v:F7) (l:List Rat):Prop:=FK w F v (l.map aB)
abbrev Ak (w:FW) (F:FI) (v:F7) (l:List (List Rat)):Prop:=FM w F v (l.map (GK au))
abbrev DV (w:FW) (F:FI) (v:F7) (l:List (List Rat)):Prop:=FM w F v (l.map (GK aB))
theorem adU {x y:Rat} (h:au x=au y):x=y:=by
 simp only[au,Raw.mk.injEq] at h;exact amR (wZ h.2.1) (wZ h.2.2) h.1
theorem aci:∀ {l m:List Rat},l.map au=m.map au->l=m
 | [],[],_=>rfl
 | [],_ :: _,h=>by simp at h
 | _ :: _,[],h=>by simp at h
 | x :: l,y :: m,h=>by
  simp only[Hr,List.cons.injEq] at h;rw[adU h.1,aci h.2]
theorem Ah.make {w:FW} {vn vd:F7} {r:Raw} (hn:neg=r.neg) (h1:Ag w F vn r.num) (h2:Ag w F vd r.den):Ah w F (.agg #[Gj neg,vn,vd]) r:=⟨vn,vd,by rw[hn],h1,h2⟩
theorem NmV.make {w:FW} {vn vd:F7} {x:Rat} (hn:neg=dI x) (h1:Ae w F vn x.num.natAbs) (h2:Ag w F vd (if x.den=1 then [] else dig x.den)):NmV w F (.agg #[Gj neg,vn,vd]) x:=⟨vn,vd,by rw[hn]; rfl,h1,h2⟩
theorem iT (w:FW) (F:FI) (A:Option Addr) (c:Nat):Ag w F (FQ A 0 c) []:=⟨A,c,rfl,GR _,λh=>absurd h aF⟩
theorem NmV.zero (w:FW) (F:FI) (A B:Option Addr) (c d:Nat):NmV w F (.agg #[Gj false,FQ A 0 c,FQ B 0 d]) 0 :=
 NmV.make rfl (Ae.zero w F A c) (by rw[L8 (show(0:Rat).den=1 from rfl)]; exact iT w F B d)
theorem aJ (w:FW) (t:TypeId) (c:Array F7):∃ W:FW,W=w.alloc (.cells c t)/\Row W w.heap.size t c.toList/\Below w.heap.size w W/\w.heap.size+1=W.heap.size :=
 ⟨_,rfl,Row.new w t c,(F9 _ _).alloc (FV _) _,aF⟩
theorem alloc2 (w:FW) (t:TypeId) (c:Array F7) (t':TypeId) (c':Array F7):∃ W:FW,W=(w.alloc (.cells c t)).alloc (.cells c' t')/\Row W w.heap.size t c.toList/\Row W (w.heap.size+1) t' c'.toList/\Below w.heap.size w W/\w.heap.size+1 < W.heap.size:=by
 have h:=Row.new (w.alloc (.cells c t)) t' c';exact⟨_,rfl,(Row.new w t c).alloc _,by simpa using h,((F9 _ _).alloc (FV _) _).alloc aF _,aF⟩
theorem qx (w:FW) (t:TypeId) (c:Array F7) (t':TypeId) (c':Array F7) (t'':TypeId) (c'':Array F7):∃ W:FW,W=((w.alloc (.cells c t)).alloc (.cells c' t')).alloc (.cells c'' t'')/\Row W w.heap.size t c.toList/\Row W (w.heap.size+1) t' c'.toList/\Row W (w.heap.size+2) t'' c''.toList/\Below w.heap.size w W/\w.heap.size+2 < W.heap.size:=by
 obtain⟨W,hW,h1,h2,h3,_⟩:=alloc2 w t c t' c';have h:=Row.new W t'' c'';have e:W.heap.size=w.heap.size+2:=by rw[hW];simp
 refine⟨_,rfl,?_,?_,?_,?_,aF⟩
 ·rw[<-hW];exact h1.alloc _
 ·rw[<-hW];exact h2.alloc _
 ·rw[<-hW];rw[<-e];exact h
 ·rw[<-hW];exact h3.alloc EN _
def Old (F:FI) (n:Nat):FI:=λb=>F b/\b < n
theorem Ae.old {w:FW} {v:F7} (h:Ae w F v n):Ae w (Old F w.heap.size) v n:=h.mono λ_ hb hl=>⟨hb,hl⟩
theorem Ag.old {w:FW} {v:F7} {n:List Nat} (h:Ag w F v n):Ag w (Old F w.heap.size) v n:=h.keep (λ_ hb hl=>⟨hb,hl⟩) (Gh _ _)
theorem Ah.old {w:FW} {v:F7} {r:Raw} (h:Ah w F v r):Ah w (Old F w.heap.size) v r:=h.mono λ_ hb hl=>⟨hb,hl⟩
def eF (num den:List Nat):Int:=if dP num≠0 then dP num else if dP den≠0 then dP den else if den.length=0 then 6 else 0
def fM (r:Raw):Int:=if eF r.num r.den≠0 then eF r.num r.den else if (r.num.length=0/\r.neg=true)\/Gv (aH r.num) (aH r.den)≠1 then 3 else 0
theorem wu {num den:List Nat} (h:eF num den=0):num=dig (aH num)/\den=dig (aH den)/\aH den≠0/\num.length<=1024/\den.length<=1024:=by
 unfold eF at h;by_cases h1:dP num=0
 ·rw[L6 (by simpa using h1)] at h;by_cases h2:dP den=0
  ·rw[L6 (by simpa using h2)] at h;by_cases h3:den.length=0
   ·rw[L8 h3] at h;omega
   ·have k1:=adQ h1;have k2:=adQ h2;refine⟨k1.1,k2.1,λe=>h3 ?_,k1.2,k2.2⟩;rw[k2.1,e,bD];rfl
  ·rw[L8 h2] at h;exact absurd h h2
 ·rw[L8 h1] at h;exact absurd h h1
theorem xu {r:Raw} (h:fM r=0):(∃ x:Rat,r=au x)/\r.num.length<=1024/\r.den.length<=1024:=by
 unfold fM at h;by_cases h1:eF r.num r.den=0
 ·rw[L6 (by simpa using h1)] at h;by_cases h2:(r.num.length=0/\r.neg=true)\/Gv (aH r.num) (aH r.den)≠1
  ·rw[L8 h2] at h;omega
  ·obtain⟨k1,k2,k3,k4,k5⟩:=wu h1;refine⟨⟨mkRat (sgI r.neg (aH r.num)) (aH r.den),?_⟩,k4,k5⟩;have hg:Gv (aH r.num) (aH r.den)=1:=by
    rcases Nat.decEq (Gv (aH r.num) (aH r.den)) 1 with h | h
    ·exact absurd (.inr h) h2
    ·exact h
   have hp:=oG (neg:=r.neg) k3 hg;unfold au;rw[hp.1,hp.2,mg _ k3,<-k1,<-k2];obtain⟨neg,num,den⟩:=r;by_cases h0:aH num=0
   ·have hn:num.length=0:=by
     have:num=dig (aH num):=k1;rw[this,h0,bD];rfl
    cases neg
    ·simp only[h0,ab4];rfl
    ·exact absurd (.inl ⟨hn,rfl⟩) h2
   ·simp only;rw[xk h0]
 ·rw[L8 h1] at h;exact absurd h h1
theorem oL (x:Rat):(au x).num=dig x.num.natAbs:=rfl
theorem adV (x:Rat):(au x).den=dig x.den:=rfl
theorem jJ (x:Rat):(au x).neg=dI x:=rfl
def iW:List Int->Int
 | []=>0
 | e :: l=>if e≠0 then e else iW l
theorem yL:∀ {l:List Int} {k:Nat} {e:Int},iW (l.take k)=0->l[k]? = some e->e≠0->iW l=e
 | [],k,e,_,h,_=>by simp at h
 | y :: l,0,e,_,h,h0=>by
  simp at h; subst h;unfold iW; rw[L8 h0]
 | y :: l,k+1,e,ht,h,h0=>by
  rw[List.take_succ_cons] at ht;unfold iW at ht ⊢;by_cases hy:y≠0
  ·rw[L8 hy] at ht; exact absurd ht hy
  ·rw[L6 hy] at ht ⊢;exact yL ht (by simpa using h) h0
theorem pO:∀ {l:List Int} {k:Nat},iW (l.take k)=0->l[k]? = some 0->iW (l.take (k+1))=0
 | [],k,_,h=>by simp at h
 | y :: l,0,_,h=>by
  simp at h; subst h;simp[iW]
 | y :: l,k+1,ht,h=>by
  rw[List.take_succ_cons] at ht ⊢;unfold iW at ht ⊢;by_cases hy:y≠0
  ·rw[L8 hy] at ht; exact absurd ht hy
  ·rw[L6 hy] at ht ⊢;exact pO ht (by simpa using h)
theorem aaz:∀ {l:List Int},iW l=0->∀ e∈l,e=0
 | [],_,e,he=>by cases he
 | y :: l,h,e,he=>by
  unfold iW at h;by_cases hy:y≠0
  ·rw[L8 hy] at h; exact absurd h hy
  ·rw[L6 hy] at h;rcases List.mem_cons.1 he with rfl | he
   ·exact Decidable.not_not.1 hy
   ·exact aaz h e he
def uJ (r:Raw):Rat:=mkRat (sgI r.neg (aH r.num)) (aH r.den)
theorem qX (x:Rat):uJ (au x)=x:=by
 unfold uJ au;rw[aX,aX];exact yF x
def fC (r:Raw):Int:=if fM r≠0 then fM r else if r.neg=true\/0 < jC (uJ r) 1 then 2 else 0
theorem adW {r:Raw} (h:fC r=0):∃ x:Rat,r=au x/\rl x<=1024/\dI x=false:=by
 unfold fC at h;by_cases h1:fM r=0
 ·rw[L6 (by simpa using h1)] at h;obtain⟨⟨x,rfl⟩,h2,h3⟩:=xu h1;refine⟨x,rfl,by unfold rl; exact Nat.max_le.2 ⟨h2,h3⟩,?_⟩;by_cases h4:(au x).neg=true\/0 < jC (uJ (au x)) 1
  ·rw[L8 h4] at h;omega
  ·cases hn:dI x
   ·rfl
   ·exact absurd (.inl hn) h4
 ·rw[L8 h1] at h;exact absurd h h1
def nY (l:List Raw):Int:=iW (l.map fC)
theorem yM:∀ {l:List Raw},nY l=0->∃ xs:List Rat,l=xs.map au/\∀ x∈xs,rl x<=1024
 | [],_=>⟨[],rfl,λ_ h=>by cases h⟩
 | r :: l,h=>by
  unfold nY at h;rw[Hr] at h;unfold iW at h;by_cases hy:fC r≠0
  ·rw[L8 hy] at h; exact absurd h hy
  ·rw[L6 hy] at h;obtain⟨x,hx,hl,_⟩:=adW (Decidable.not_not.1 hy);obtain⟨xs,hxs,hls⟩:=yM (l:=l) h;refine⟨x :: xs,by rw[Hr,<-hx,<-hxs],λy hy=>?_⟩;rcases List.mem_cons.1 hy with rfl | hy
   ·exact hl
   ·exact hls y hy
def fO (xs:List Rat):Rat:=xs.foldl (· + ·) 0
theorem tN (xs:List Rat) (x:Rat):fO (xs ++ [x])=fO xs+x:=by unfold fO; rw[List.foldl_append]; rfl
def nS (a:Int) (l:List Raw):Int:=if (l.length:Int)≠a then 3 else if nY l≠0 then nY l else if jC (fO (l.map uJ)) 1≠0 then 14 else 0
def kS (acts:List Int) (m:List (List Raw)):Int:=if m.length≠acts.length then 3 else iW (List.zipWith nS acts m)
theorem acj (xs:List Rat):(xs.map au).map uJ=xs:=by
 rw[List.map_map];conv=>rhs;rw[<-List.map_id xs]
 exact List.map_congr_left λx _=>qX x
theorem aeX:∀ (xs:List Rat),(∀ x∈xs,rl x<=1024)->rl (fO xs)<=1+1025*xs.length:=by
 intro xs h;suffices H:∀ (ys:List Rat) (a:Rat),(∀ x∈ys,rl x<=1024)->rl (ys.foldl (· + ·) a)<=rl a+1025*ys.length by
  have:=H xs 0 h;rw[rQ] at this;exact this
 intro ys;induction ys with
 | nil=>intro a _; simp
 | cons y ys ih =>
  intro a hys;have h1:=ih (a+y) (λx hx=>hys x (List.mem_cons_of_mem _ hx));have h2:=aav a y;have h3:=hys y (List.mem_cons_self);rw[List.foldl_cons,List.length_cons];omega
end Go.Proofs.YtnmeejofpkhlkaaGreatDoor
