import Derived.Test.YtenaplhghbcjhaaGreatDoorQ04
import Derived.Deep.AppendLies
set_option linter.all false
set_option maxRecDepth 100000
set_option maxHeartbeats 0
namespace Go.Proofs.YtenaplhghbcjhaaGreatDoor
open Go.RowKit.Below renaming refl->GR
open Below renaming same'->GL
open Go.IntKind renaming i64->GU
open Go renaming Value->GN,World->GK
open Go.Value renaming bool->G7,int->GV,slice->Gw
open List renaming drop_length->I7,drop_zero->Jg,length_take->Ik,map_cons->Ju,replicate->GX
open Nat renaming add_zero->Jb,eq_zero_or_pos->H6,gcd->Hr,le_refl->Gy,lt_or_gt_of_ne->LD,lt_trichotomy->JF,mul_one->Ho,zero_add->I5,zero_le->Hg,zero_mul->Jc
open Same renaming refl->GZ
open Go.Proofs.Tryz renaming prog->GI
open Go.World renaming ownsRow_nil->J8
open Go.RowKit
variable {a:Act} {ops:Array Oper} {neg:Bool} {F G:Gq} {l:List Nat} {rest:List Oper} {b c k n x:Nat} {o:Oper} {t t':TypeId}
def bY (w:GK) (_:Gq) (b o:Nat) (x:Nat):Prop:=w.cell? ⟨b,o,none⟩=some (.int .u32 (x:Int))
def Aj (w:GK) (F:Gq) (v:GN) (l:List Nat):Prop:=Cc 1 bY w F v l
def Ah (w:GK) (F:Gq) (v:GN) (n:Nat):Prop:=Aj w F v (dig n)
def Ext (F:Gq) (n:Nat):Gq:=λb=>F b\/n<=b
theorem Aj.keep {w w':GK} {v:GN} (h:Aj w F v l) (hFG:∀ b,F b->b < w.heap.size->G b) (hs:Same F w w'):Aj w' G v l :=
 Cc.keep h hFG hs.size λb o x _ hb hl hx=>by unfold bY at *; rw[hs.cell hb hl]; exact hx
theorem Aj.on {w w':GK} {v:GN} (h:Aj w F v l) (hs:Same F w w'):Aj w' F v l:=h.keep (λ_ h _=>h) hs
theorem Ah.keep {w w':GK} {v:GN} (h:Ah w F v n) (hFG:∀ b,F b->b < w.heap.size->G b) (hs:Same F w w'):Ah w' G v n:=Aj.keep h hFG hs
theorem Ah.on {w w':GK} {v:GN} (h:Ah w F v n) (hs:Same F w w'):Ah w' F v n:=h.keep (λ_ h _=>h) hs
theorem Ah.below {w w':GK} {v:GN} (h:Ah w F v n) (hb:Below w.heap.size w w'):Ah w' F v n:=h.on (GL hb F)
theorem Ah.mono {w:GK} {v:GN} (h:Ah w F v n) (hFG:∀ b,F b->b < w.heap.size->G b):Ah w G v n:=h.keep hFG (GZ _ _)
theorem Ah.ext {w w':GK} {v:GN} {m:Nat} (h:Ah w F v n) (hb:Below w.heap.size w w'):Ah w' (Ext F m) v n:=h.keep (λ_ h _=>.inl h) (GL hb F)
theorem Ah.zero (w:GK) (F:Gq) (A:Option Addr) (c:Nat):Ah w F (Gw A 0 c) 0:=by
 unfold Ah;rw[bK];exact⟨A,c,rfl,Hg _,λh=>absurd h aA⟩
abbrev aW (l:List Nat):List GN:=l.map λx:Nat=>.int .u32 (x:Int)
theorem Row.limbs {w:GK} (h:Row w b t (aW l)) (hF:F b) (hn:n<=l.length) (hc:n<=c):Aj w F (Gw (some ⟨b,0,none⟩) n c) (l.take n):=by
 have hl:(l.take n).length=n:=by rw[Ik];omega
 refine⟨some ⟨b,0,none⟩,c,by rw[hl],FI,λ_=>⟨b,0,rfl,hF,h.lt,λk x hk=>?_⟩⟩;unfold bY;rw[Ho,I5];refine h.cell ?_;grind
theorem bF (l:List Nat) (k v:Nat):(aW l).set k (.int .u32 (v:Int))=aW (l.set k v):=by grind [List.map_set]
theorem bg (h:l[k]? = some x):(aW l)[k]? = some (.int .u32 (x:Int)):=by simp[aW,h]
theorem fO (n:Nat):aW (GX n 0)=GX n (.int .u32 0):=by simp[aW]
theorem Tryz.infoU32:(Tryz.prog.info? 103).map (λi=>(i.zero,i.size,i.bytes))=some (some (.int .u32 0),1,4):=aj
theorem agi {w:GK} {Q:Exit->Act->GK->Prop} (hgd:o.guard=none) (s x:Operand) (t:TypeId) (ht:Tryz.prog.underlying t=some (.slice 103))
  (ho:o.op = .call { callee:=.builtin .append,args:=#[s,x],argTypes:=#[t,t] })
  (base:Nat) (v:GN) (l:List Nat) (hs:a.eval s=v) (hown:w.ownsRow base 103 1 v l.length (aW l))
  (B:Nat) (y:Nat) (hx:a.eval x = Gw (some ⟨B,0,none⟩) 1 1) (hB:w.heap[B]? = some (.cells #[.int .u32 (y:Int)] 103 (0,0))) (hlen:l.length<=1000000) (hbase:base<=w.heap.size)
  (h:∀ g cap w',w'.ownsRow base 103 1 (Gw (some ⟨g,0,none⟩) (l.length+1) cap) (l ++ [y]).length (aW (l ++ [y]))->w.grownBy w' v.ownBlock->(v.ownBlock=some g\/w.heap.size<=g)->g < w'.heap.size ->
   wpList GI ops Q rest (a.put o.dst (Gw (some ⟨g,0,none⟩) (l.length+1) cap)) w') :
  wpList GI ops Q (o :: rest) a w:=by
 obtain⟨i0,hi,hz0,hz1,hz2⟩:=info_parts Tryz.infoU32;refine wpList_append_lies w hgd s x _ ho base _ i0 _ 1 4 ht hi hz0 hz1 hz2 rfl FI v l.length _ hs hown ⟨B,0,none⟩ 1 1 [.int .u32 (y:Int)] hx rfl (World.news_of_block hB) (by simp[Value.oneCell']) FI (by unfold maxLen; omega) FI hbase w.heap.size rfl ?_;grind
theorem bV {w W:GK} {Q:Exit->Act->GK->Prop} (hgd:o.guard=none) (s x:Operand) (t:TypeId) (ht:Tryz.prog.underlying t=some (.slice 103))
  (ho:o.op = .call { callee:=.builtin .append,args:=#[s,x],argTypes:=#[t,t] })
  (base:Nat) (hbase:base<=W.heap.size) (v:GN) (l:List Nat) (hs:a.eval s=v) (yi:Int) (y:Nat) (hy:yi=(y:Int)) (hlen:l.length<=1000000)
  (hx:a.eval x = Gw (some ⟨w.heap.size,0,none⟩) 1 1) (hown:w.ownsRow base 103 1 v l.length (aW l)) (hbel:Below base W w)
  (h:∀ g cap w',w'.ownsRow base 103 1 (Gw (some ⟨g,0,none⟩) (l.length+1) cap) (l ++ [y]).length (aW (l ++ [y]))->Below base W w'->w.heap.size < w'.heap.size->w.grownBy w' v.ownBlock ->
   wpList GI ops Q rest (a.put o.dst (Gw (some ⟨g,0,none⟩) (l.length+1) cap)) w') :
  wpList GI ops Q (o :: rest) a (w.alloc (.cells #[.int .u32 yi] 103)):=by
 subst hy;have hz:=hbel.size;refine agi hgd s x t ht ho base v l hs (hown.alloc _) w.heap.size y hx (heap_alloc_new _ _) hlen aB ?_;intro g cap w' h1 h2 h3 h4;have h5:=h2.size;simp only[World.size_alloc] at h5;refine h g cap w' h1 ((hbel.alloc FI _).grown h2 aB (λk hk=>(hown.lt k hk).1)) FI ?_;exact⟨h2.os,h2.tape,h2.output,FI,λk hk hne=>(h2.block k aB hne).trans (Below.heap_alloc _ _ _ hk)⟩
theorem adO {w:GK} {Q:Exit->Act->GK->Prop}
  (hg:o.guard=none) (l c:Operand) (t:TypeId) (hop:o.op=Op.makeSlice t l c) (ht:Tryz.prog.underlying t=some (.slice 103))
  (n:Nat) (ci:Int) (hci:ci=(n:Int)) (hl:a.eval l = GV GU 0) (hc:a.eval c = GV GU ci) (hn:n<=1000000)
  (hK:∀ w1,Below w.heap.size w w1->w1.ownsRow w.heap.size 103 1 (Gw (some ⟨w.heap.size,0,none⟩) 0 n) 0 [] ->
   wpList GI ops Q rest (a.put o.dst (Gw (some ⟨w.heap.size,0,none⟩) 0 n)) w1) :
  wpList GI ops Q (o :: rest) a w:=by
 subst hci;refine wpList_plain hg λK hK'=>?_
 obtain⟨i0,hi,hz0,hz1,hz2⟩:=info_parts Tryz.infoU32;obtain⟨w1,hrun,hown,hgr⟩:=run_make_own (P:=GI) w w.heap.size t 103 i0 _ 1 ht hi hz0 hz1 .i64 .i64 n (by rw[hz2]; omega) (by unfold maxLen; omega) (Gy _);unfold Oper.wp;simp[execOp,hop,hl,hc,hrun,Result.andThen];exact hK' _ _ (hK _ ((GR _ w).grown hgr (Gy _) (λk hk=>by cases hk)) hown)
theorem jd {w:GK} {base:Nat} {v:GN} (h:w.ownsRow base t 1 v l.length (aW l)) (hF:∀ b,v.ownBlock=some b->F b):Aj w F v l:=by
 rcases h.2 with⟨rfl,h0⟩ | ⟨g,cap,cur,rfl,hb,hg,hnc,_,hsz,htake⟩
 ·have:l = []:=List.eq_nil_of_length_eq_zero h0;subst this;exact zck
 ·refine⟨_,cap,rfl,hnc,λ_=>⟨g,0,rfl,hF g rfl,(Array.getElem?_eq_some_iff.1 hg).1,λk x hk=>?_⟩⟩;unfold bY;rw[Ho,I5];have hi:(aW l)[k]? = some (.int .u32 (x:Int)):=bg hk;rw[<-htake,List.getElem?_take] at hi;split at hi
  ·simp[World.cell?,hg];simpa using hi
  ·cases hi
def sliceLen (v:GN):Nat:=match v with | .slice _ n _=>n | _=>0
theorem wQ (h:l[k]? = some x):eF l (k+1)=if x=0 then eF l k else k+1:=by
 rw[eF];rw[h];simp
theorem Aj.trim {w:GK} {A:Option Addr} (hn:l.length=n) (h:Aj w F (Gw A n c) l) (hl:Limbs l):Ah w F (Gw A (eF l n) c) (aF l):=by
 subst hn;obtain⟨A',c',he,hc,hN⟩:=h;injection he with h1 h2 h3;subst h1;subst h3
 have e:=afW hl;have hle:=ad9 l l.length;have hlen:(dig (aF l)).length=eF l l.length:=by rw[<-e,Ik];omega
 refine⟨A,c,by rw[hlen],FI,λh0=>?_⟩;grind
theorem qN (w:GK) (F:Gq) (A:Option Addr) (n c:Nat) (l:List Nat) (hn:l.length=n) (hv:Aj w F (Gw A n c) l) (hl:n<=1000000) :
  Calls GI 105 #[Gw A n c] w λe w'=>e = .returned (Gw A (eF l n) c)/\w=w':=by
 subst hn;obtain⟨A',c',he,hc,hN⟩:=hv;injection he with h1 h2 h3;subst h1;subst h3
 have HN:=Ag hN;clear hN h2;go_in;go_wp2
 go_loop [0] (λa=>∃ k:Nat,k<=l.length/\a = Gw A k c/\eF l k=eF l l.length) (λa=>sliceLen a)
 case atStart=>exact⟨l.length,Gy _,rfl,rfl⟩
 case round =>
  obtain⟨k,hk,rfl,ht⟩:=hrel;have HT:=Ag ht;clear ht;rcases H6 k with h0 | h0
  ·exact zdc
  ·obtain⟨j,rfl⟩:∃ j,k=j+1:=⟨k - 1,FI⟩;obtain⟨b,o,rfl,_,hb,hx⟩:=HN.o FI;obtain⟨x,hx'⟩:=Gl (l:=l) (k:=j) FI;have ex:=hx j x hx';unfold bY at ex;rw[Ho] at ex;have HS:=Ag (wQ hx');clear hx hx';by_cases hz:x=0
   ·subst hz;go_wp2
    go_round
    case rel=>exact⟨j,FI,rfl,by rw[<-HT.o,HS.o,LH rfl]⟩
    case measure=>simp[sliceLen]
   ·exact zax
theorem yt (w:GK) (F:Gq) (A:Option Addr) (n c:Nat) (l:List Nat) (hn:l.length=n) (hv:Aj w F (Gw A n c) l) (hl:n<=1000000) :
  Calls GI 190 #[Gw A n c] w λe w'=>e = .returned (Gw A (eF l n) c)/\w=w':=by
 subst hn;obtain⟨A',c',he,hc,hN⟩:=hv;injection he with h1 h2 h3;subst h1;subst h3
 have HN:=Ag hN;clear hN h2;go_in;go_wp2
 go_loop [0] (λa=>∃ k:Nat,k<=l.length/\a = Gw A k c/\eF l k=eF l l.length) (λa=>sliceLen a)
 case atStart=>exact⟨l.length,Gy _,rfl,rfl⟩
 case round =>
  obtain⟨k,hk,rfl,ht⟩:=hrel;have HT:=Ag ht;clear ht;rcases H6 k with h0 | h0
  ·exact zdc
  ·obtain⟨j,rfl⟩:∃ j,k=j+1:=⟨k - 1,FI⟩;obtain⟨b,o,rfl,_,hb,hx⟩:=HN.o FI;obtain⟨x,hx'⟩:=Gl (l:=l) (k:=j) FI;have ex:=hx j x hx';unfold bY at ex;rw[Ho] at ex;have HS:=Ag (wQ hx');clear hx hx';by_cases hz:x=0
   ·subst hz;go_wp2
    go_round
    case rel=>exact⟨j,FI,rfl,by rw[<-HT.o,HS.o,LH rfl]⟩
    case measure=>simp[sliceLen]
   ·exact zax
theorem mP (w:GK) (F:Gq) (A:Option Addr) (n c:Nat) (l:List Nat) (hn:l.length=n) (hv:Aj w F (Gw A n c) l) (hl:n<=1000000) :
  Calls GI 129 #[Gw A n c] w λe w'=>e = .returned (Gw A (eF l n) c)/\w=w':=by
 subst hn;obtain⟨A',c',he,hc,hN⟩:=hv;injection he with h1 h2 h3;subst h1;subst h3
 have HN:=Ag hN;clear hN h2;go_in;go_wp2
 go_loop [0] (λa=>∃ k:Nat,k<=l.length/\a = Gw A k c/\eF l k=eF l l.length) (λa=>sliceLen a)
 case atStart=>exact⟨l.length,Gy _,rfl,rfl⟩
 case round =>
  obtain⟨k,hk,rfl,ht⟩:=hrel;have HT:=Ag ht;clear ht;rcases H6 k with h0 | h0
  ·exact zdc
  ·obtain⟨j,rfl⟩:∃ j,k=j+1:=⟨k - 1,FI⟩;obtain⟨b,o,rfl,_,hb,hx⟩:=HN.o FI;obtain⟨x,hx'⟩:=Gl (l:=l) (k:=j) FI;have ex:=hx j x hx';unfold bY at ex;rw[Ho] at ex;have HS:=Ag (wQ hx');clear hx hx';by_cases hz:x=0
   ·subst hz;go_wp2
    go_round
    case rel=>exact⟨j,FI,rfl,by rw[<-HT.o,HS.o,LH rfl]⟩
    case measure=>simp[sliceLen]
   ·exact zax
theorem lY (w:GK) (F:Gq) (v:GN) (n:Nat) (hv:Ah w F v n) (hl:(dig n).length<=1000000) :
  Calls GI 104 #[v] w λe w'=>e = .returned (G7 (decide (n=1)))/\w=w':=by
 obtain⟨A,c,rfl,hc,hN⟩:=hv;have HN:=Ag hN;clear hN;by_cases h1:(dig n).length=1
 ·obtain⟨b,o,rfl,_,hb,hx⟩:=HN.o FI;obtain⟨x,hx'⟩:=Gl (l:=dig n) (k:=0) FI;have ex:=hx 0 x hx';unfold bY at ex;simp only[Jc,Jb] at ex;have HD:=Ag (show decide (n=1)=decide (x=1) by
   rw[decide_eq_decide,<-acr];obtain⟨y,hy⟩:=List.length_eq_one_iff.1 h1;rw[hy] at hx' ⊢;simp at hx';simp[hx'])
  rw[h1];clear hx hx' hc;by_cases h2:x=1
  ·subst h2;go_in;go_wp2
   go_ret;exact⟨by rw[HD.o]; rfl,rfl⟩
  ·exact zcC
 ·exact za8
theorem oC (w:GK) (F:Gq) (v:GN) (n:Nat) (hv:Ah w F v n) (hl:(dig n).length<=1000000) :
  Calls GI 151 #[v] w λe w'=>e = .returned (G7 (decide (n=1)))/\w=w':=by
 obtain⟨A,c,rfl,hc,hN⟩:=hv;have HN:=Ag hN;clear hN;by_cases h1:(dig n).length=1
 ·obtain⟨b,o,rfl,_,hb,hx⟩:=HN.o FI;obtain⟨x,hx'⟩:=Gl (l:=dig n) (k:=0) FI;have ex:=hx 0 x hx';unfold bY at ex;simp only[Jc,Jb] at ex;have HD:=Ag (show decide (n=1)=decide (x=1) by
   rw[decide_eq_decide,<-acr];obtain⟨y,hy⟩:=List.length_eq_one_iff.1 h1;rw[hy] at hx' ⊢;simp at hx';simp[hx'])
  rw[h1];clear hx hx' hc;by_cases h2:x=1
  ·subst h2;go_in;go_wp2
   go_ret;exact⟨by rw[HD.o]; rfl,rfl⟩
  ·exact zcC
 ·exact za8
theorem acH (w:GK) (F:Gq) (v:GN) (n:Nat) (hv:Ah w F v n) (hl:(dig n).length<=2) :
  Calls GI 103 #[v] w λe w'=>e = .returned (.int .u64 (n:Int))/\w=w':=by
 obtain⟨A,c,rfl,hc,hN⟩:=hv;have HN:=Ag hN;clear hN;go_in;go_wp2
 go_loop [3,4] (λm i=>∃ k:Nat,k<=(dig n).length/\i = GV GU ((k:Int) - 1)/\m = .int .u64 (aF ((dig n).drop k):Int)) (λ_ i=>(intOf i+1).toNat)
 case atStart=>exact⟨(dig n).length,Gy _,rfl,by rw[I7]; rfl⟩
 case round =>
  obtain⟨k,hk,rfl,rfl⟩:=hrel;rcases H6 k with h0 | h0
  ·exact zbE
  ·obtain⟨j,rfl⟩:∃ j,k=j+1:=⟨k - 1,FI⟩;obtain⟨b,o,rfl,_,hb,hx⟩:=HN.o FI;obtain⟨x,hx'⟩:=Gl (l:=dig n) (k:=j) FI;have ex:=hx j x hx';unfold bY at ex;rw[Ho] at ex;have HS:=Ag (show aF ((dig n).drop j)=x+LB*aF ((dig n).drop (j+1)) by rw[cZ,aJ hx']);have hxl:x < 1000000000:=(aO n).get hx';have hm:aF ((dig n).drop (j+1)) < 1000000000:=by
    exact zbp
   clear hx hx';generalize aF ((dig n).drop (j+1))=m at *;refine Yn ?_;go_wp2
   go_round
   case rel=>exact⟨j,FI,by go_num,by rw[HS.o]; simp; omega⟩
   case measure=>simp[intOf]
theorem qO (w:GK) (F:Gq) (v:GN) (n:Nat) (hv:Ah w F v n) (hl:(dig n).length<=2) :
  Calls GI 150 #[v] w λe w'=>e = .returned (.int .u64 (n:Int))/\w=w':=by
 obtain⟨A,c,rfl,hc,hN⟩:=hv;have HN:=Ag hN;clear hN;go_in;go_wp2
 go_loop [3,4] (λm i=>∃ k:Nat,k<=(dig n).length/\i = GV GU ((k:Int) - 1)/\m = .int .u64 (aF ((dig n).drop k):Int)) (λ_ i=>(intOf i+1).toNat)
 case atStart=>exact⟨(dig n).length,Gy _,rfl,by rw[I7]; rfl⟩
 case round =>
  obtain⟨k,hk,rfl,rfl⟩:=hrel;rcases H6 k with h0 | h0
  ·exact zbE
  ·obtain⟨j,rfl⟩:∃ j,k=j+1:=⟨k - 1,FI⟩;obtain⟨b,o,rfl,_,hb,hx⟩:=HN.o FI;obtain⟨x,hx'⟩:=Gl (l:=dig n) (k:=j) FI;have ex:=hx j x hx';unfold bY at ex;rw[Ho] at ex;have HS:=Ag (show aF ((dig n).drop j)=x+LB*aF ((dig n).drop (j+1)) by rw[cZ,aJ hx']);have hxl:x < 1000000000:=(aO n).get hx';have hm:aF ((dig n).drop (j+1)) < 1000000000:=by
    exact zbp
   clear hx hx';generalize aF ((dig n).drop (j+1))=m at *;refine Yn ?_;go_wp2
   go_round
   case rel=>exact⟨j,FI,by go_num,by rw[HS.o]; simp; omega⟩
   case measure=>simp[intOf]
theorem vM (w:GK) (n:Nat) (hn:n < 18446744073709551616) :
  Calls GI 86 #[.int .u64 (n:Int)] w (Ret w λv w'=>Ah w' (λb=>w.heap.size<=b) v n):=by
 go_in;go_wp2
 go_loopw [0,3] (λu v wr=>∃ (m:Nat) (l:List Nat),u = .int .u64 (m:Int)/\m<=n/\l++dig m=dig n/\wr.ownsRow w.heap.size 103 1 v l.length (aW l)/\Below w.heap.size w wr) (λu _ _=>(intOf u).toNat)
 case atStart=>exact⟨n,[],rfl,Gy _,rfl,J8 _ _ _ _,GR _ _⟩
 case round =>
  obtain⟨m,l,rfl,hm,hd,hown,hbel⟩:=hrel;have HD:=Ag hd;have HO:=Ag hown;have hll:l.length<=1000000:=by
   have h1:(dig n).length<=3:=bC (Nat.lt_trans hn au);exact zdw
  clear hd hown;rcases H6 m with h0 | h0
  ·exact YZ
  ·have HD2:=Ag (show l ++ [m % 1000000000]++dig (m / 1000000000)=dig n by rw[<-HD.o,qx (by omega:m≠0)]; simp);go_wp2_with (at_builtin; refine bV rfl _ _ 39 Tryz.underlying39 rfl w.heap.size (Gy _) _ l rfl _ (m % 1000000000) FI hll rfl HO.o hbel ?_; intro g cap w' hown' bG hlt' gZ; have HO':=Ag hown'; clear hown' gZ)
   go_roundw
   case rel=>exact⟨m / 1000000000,l ++ [m % 1000000000],by go_num,FI,HD2.o,by simpa using HO'.o,bG⟩
   case measure=>exact zMs
theorem ae9 (w:GK) (n:Nat) (hn:n < 18446744073709551616) :
  Calls GI 169 #[.int .u64 (n:Int)] w (Ret w λv w'=>Ah w' (λb=>w.heap.size<=b) v n):=by
 go_in;go_wp2
 go_loopw [0,3] (λu v wr=>∃ (m:Nat) (l:List Nat),u = .int .u64 (m:Int)/\m<=n/\l++dig m=dig n/\wr.ownsRow w.heap.size 103 1 v l.length (aW l)/\Below w.heap.size w wr) (λu _ _=>(intOf u).toNat)
 case atStart=>exact⟨n,[],rfl,Gy _,rfl,J8 _ _ _ _,GR _ _⟩
 case round =>
  obtain⟨m,l,rfl,hm,hd,hown,hbel⟩:=hrel;have HD:=Ag hd;have HO:=Ag hown;have hll:l.length<=1000000:=by
   have h1:(dig n).length<=3:=bC (Nat.lt_trans hn au);exact zdw
  clear hd hown;rcases H6 m with h0 | h0
  ·exact YZ
  ·have HD2:=Ag (show l ++ [m % 1000000000]++dig (m / 1000000000)=dig n by rw[<-HD.o,qx (by omega:m≠0)]; simp);go_wp2_with (at_builtin; refine bV rfl _ _ 40 Tryz.underlying40 rfl w.heap.size (Gy _) _ l rfl _ (m % 1000000000) FI hll rfl HO.o hbel ?_; intro g cap w' hown' bG hlt' gZ; have HO':=Ag hown'; clear hown' gZ)
   go_roundw
   case rel=>exact⟨m / 1000000000,l ++ [m % 1000000000],by go_num,FI,HD2.o,by simpa using HO'.o,bG⟩
   case measure=>exact zMs
theorem afa (w:GK) (x:Int):Calls GI 159 #[GV GU x] w λe w'=>e = .returned (G7 false)/\w'=w:=by
 have h:(x != x)=false:=aA;exact zbo
theorem abI (w:GK) (x y:Nat):Calls GI 134 #[GV GU (x:Int),GV GU (y:Int)] w λe w'=>e = .returned (GV GU (bZ x y))/\w'=w:=by
 rcases JF x y with h | h | h
 ·have HO:=Ag (show bZ x y = -1 by unfold bZ; rw[LH h]);exact zao
 ·have HO:=Ag (show bZ x y=0 by unfold bZ; rw[LG FI,LH h]);have h1:x<=y:=FI;have h2:y<=x:=FI;clear h;exact zao
 ·have HO:=Ag (show bZ x y=1 by unfold bZ; rw[LG FI,LG FI]);exact zao
theorem zD (w:GK) (x:Int):Calls GI 160 #[.int .u32 x] w λe w'=>e = .returned (G7 false)/\w'=w:=by
 have h:(x != x)=false:=aA;exact zbo
theorem wR (w:GK) (x y:Nat):Calls GI 135 #[.int .u32 (x:Int),.int .u32 (y:Int)] w λe w'=>e = .returned (GV GU (bZ x y))/\w'=w:=by
 rcases JF x y with h | h | h
 ·have HO:=Ag (show bZ x y = -1 by unfold bZ; rw[LH h]);exact zas
 ·have HO:=Ag (show bZ x y=0 by unfold bZ; rw[LG FI,LH h]);have h1:x<=y:=FI;have h2:y<=x:=FI;clear h;exact zas
 ·have HO:=Ag (show bZ x y=1 by unfold bZ; rw[LG FI,LG FI]);exact zas
theorem agj {P:Program} {f:FuncId} {args:Array GN} {w:GK} {a:Nat} {v:GN}
  (h:Calls P f args (w.drewN (a+n)) λe w'=>e = .returned v/\w'=w.drewN (a+n)) :
  Calls P f args (w.drewN (a+n)) λe w''=>e = .returned v/\∃ m,w''=w.drewN (a+m) :=
 h.mono λ_ _ ⟨he,hm⟩=>⟨he,n,hm⟩
theorem iL {a:Nat} (h:a < b):bZ a b = -1:=by unfold bZ; rw[LH h]
theorem afb (a:Nat):bZ a a=0:=by unfold bZ; simp
theorem nN {a:Nat} (h:b < a):bZ a b=1:=by grind [bZ]
theorem jF (w:GK) (F:Gq) (va vb:GN) (a b:Nat) (ha:Ah w F va a) (hb:Ah w F vb b) (hla:(dig a).length<=1000000) (hlb:(dig b).length<=1000000) :
  Calls GI 100 #[va,vb] w λe w'=>e = .returned (GV GU (bZ a b))/\∃ n,w'=w.drewN n:=by
 obtain⟨A,c,rfl,hc,hNa⟩:=ha;obtain⟨B,d,rfl,hd,hNb⟩:=hb;have HA:=Ag hNa;have HB:=Ag hNb;clear hNa hNb;by_cases hlen:(dig a).length=(dig b).length
 ·have HL:=Ag hlen;rw[<-hlen] at hd hlb ⊢;clear hlen;go_in;go_wp2
  go_loopw [5] (λi wr=>∃ (k q:Nat),k<=(dig a).length/\i = GV GU ((k:Int) - 1)/\(dig a).drop k=(dig b).drop k/\wr=w.drewN q) (λi _=>(intOf i+1).toNat)
  case atStart=>exact⟨(dig a).length,0,Gy _,rfl,by rw[I7,HL.o,I7],rfl⟩
  case round =>
   obtain⟨k,q,hk,rfl,hdr,rfl⟩:=hrel;have HD:=Ag hdr;clear hdr;rcases H6 k with h0 | h0
   ·subst h0;have HE:=Ag (show bZ a b=0 by
     have:=HD.o; rw[Jg,Jg] at this;rw[aad this]; exact afb b)
    exact zec
   ·obtain⟨j,rfl⟩:∃ j,k=j+1:=⟨k - 1,FI⟩;obtain⟨b1,o1,rfl,_,hb1,hx⟩:=HA.o FI;have HL2:=HL.o;obtain⟨b2,o2,rfl,_,hb2,hy⟩:=HB.o FI;refine zcE ?_;intro x hx' y hy' ex ey;unfold bY at ex ey;rw[Ho] at ex ey;refine zdX ?_;clear hx hx' hy hy' HL2;intro hxl hyl HX HY;rcases JF x y with h | h | h
    ·have HE:=Ag (iL (jM HL.o HD.o HX.o HY.o h));have hne:((x:Int) != (y:Int))=true:=aB;have HO:=Ag (show bZ x y=bZ a b by rw[HE.o]; first | exact iL h | exact nN h);go_wp2
     go_quiet (fail)
     go_wp2
     go_quiet ((go_at_call 135; exact agj (wR _ _ _)))
     exact zcO
    ·subst h;have HE:=Ag (uZ HD.o HX.o HY.o);have hne:((x:Int) != (x:Int))=false:=aA;go_wp2
     go_quiet (fail)
     go_wp2
     go_roundw
     case rel=>exact⟨j,_,FI,by go_num,HE.o,rfl⟩
     case measure=>simp[intOf]
    ·have HE:=Ag (nN (jM HL.o.symm HD.o.symm HY.o HX.o h));have hne:((x:Int) != (y:Int))=true:=aB;have HO:=Ag (show bZ x y=bZ a b by rw[HE.o]; first | exact iL h | exact nN h);go_wp2
     go_quiet (fail)
     go_wp2
     go_quiet ((go_at_call 135; exact agj (wR _ _ _)))
     exact zcO
 ·have hne:(((dig a).length:Int) != ((dig b).length:Int))=true:=aB;rcases LD hlen with h | h
  ·have HE:=Ag (iL (oq h));have HE2:=Ag (iL h);clear hlen;go_in;go_wp2_with (go_at_call 134; ((with_reducible refine(abI _ _ _).mono ?_); rintro e w' ⟨rfl,rfl⟩))
   exact YW
  ·have HE:=Ag (nN (oq h));have HE2:=Ag (nN h);have hnlt:decide ((dig a).length < (dig b).length)=false:=LJ FI;clear hlen;go_in;go_wp2_with (go_at_call 134; ((with_reducible refine(abI _ _ _).mono ?_); rintro e w' ⟨rfl,rfl⟩))
   exact YW
theorem aao (w:GK) (F:Gq) (va vb:GN) (a b:Nat) (ha:Ah w F va a) (hb:Ah w F vb b) (hla:(dig a).length<=1000000) (hlb:(dig b).length<=1000000) :
  Calls GI 171 #[va,vb] w λe w'=>e = .returned (GV GU (bZ a b))/\∃ n,w'=w.drewN n:=by
 obtain⟨A,c,rfl,hc,hNa⟩:=ha;obtain⟨B,d,rfl,hd,hNb⟩:=hb;have HA:=Ag hNa;have HB:=Ag hNb;clear hNa hNb;by_cases hlen:(dig a).length=(dig b).length
 ·have HL:=Ag hlen;rw[<-hlen] at hd hlb ⊢;clear hlen;go_in;go_wp2
  go_loopw [5] (λi wr=>∃ (k q:Nat),k<=(dig a).length/\i = GV GU ((k:Int) - 1)/\(dig a).drop k=(dig b).drop k/\wr=w.drewN q) (λi _=>(intOf i+1).toNat)
  case atStart=>exact⟨(dig a).length,0,Gy _,rfl,by rw[I7,HL.o,I7],rfl⟩
  case round =>
   obtain⟨k,q,hk,rfl,hdr,rfl⟩:=hrel;have HD:=Ag hdr;clear hdr;rcases H6 k with h0 | h0
   ·subst h0;have HE:=Ag (show bZ a b=0 by
     have:=HD.o; rw[Jg,Jg] at this;rw[aad this]; exact afb b)
    exact zec
   ·obtain⟨j,rfl⟩:∃ j,k=j+1:=⟨k - 1,FI⟩;obtain⟨b1,o1,rfl,_,hb1,hx⟩:=HA.o FI;have HL2:=HL.o;obtain⟨b2,o2,rfl,_,hb2,hy⟩:=HB.o FI;refine zcE ?_;intro x hx' y hy' ex ey;unfold bY at ex ey;rw[Ho] at ex ey;refine zdX ?_;clear hx hx' hy hy' HL2;intro hxl hyl HX HY;rcases JF x y with h | h | h
    ·have HE:=Ag (iL (jM HL.o HD.o HX.o HY.o h));skip;go_wp2
     go_quiet (fail)
     skip
     exact zar
    ·subst h;have HE:=Ag (uZ HD.o HX.o HY.o);skip;go_wp2
     go_quiet (fail)
     go_wp2
     go_quiet (fail)
     go_wp2
     go_roundw
     case rel=>exact⟨j,_,FI,by go_num,HE.o,rfl⟩
     case measure=>simp[intOf]
    ·have HE:=Ag (nN (jM HL.o.symm HD.o.symm HY.o HX.o h));skip;go_wp2
     go_quiet (fail)
     go_wp2
     go_quiet (fail)
     exact zar
 ·have hne:(((dig a).length:Int) != ((dig b).length:Int))=true:=aB;rcases LD hlen with h | h
  ·have HE:=Ag (iL (oq h));have HE2:=Ag (iL h);clear hlen;go_in;go_wp2
   exact YW
  ·exact zbS
theorem ahS (w:GK) (F:Gq) (va vb:GN) (a b:Nat) (ha:Ah w F va a) (hb:Ah w F vb b) (hla:(dig a).length<=1000000) (hlb:(dig b).length<=1000000) :
  Calls GI 93 #[va,vb] w λe w'=>e = .returned (GV GU (bZ a b))/\∃ n,w'=w.drewN n:=by
 obtain⟨A,c,rfl,hc,hNa⟩:=ha;obtain⟨B,d,rfl,hd,hNb⟩:=hb;have HA:=Ag hNa;have HB:=Ag hNb;clear hNa hNb;by_cases hlen:(dig a).length=(dig b).length
 ·have HL:=Ag hlen;rw[<-hlen] at hd hlb ⊢;clear hlen;go_in;go_wp2
  go_loopw [5] (λi wr=>∃ (k q:Nat),k<=(dig a).length/\i = GV GU ((k:Int) - 1)/\(dig a).drop k=(dig b).drop k/\wr=w.drewN q) (λi _=>(intOf i+1).toNat)
  case atStart=>exact⟨(dig a).length,0,Gy _,rfl,by rw[I7,HL.o,I7],rfl⟩
  case round =>
   obtain⟨k,q,hk,rfl,hdr,rfl⟩:=hrel;have HD:=Ag hdr;clear hdr;rcases H6 k with h0 | h0
   ·subst h0;have HE:=Ag (show bZ a b=0 by
     have:=HD.o; rw[Jg,Jg] at this;rw[aad this]; exact afb b)
    exact zec
   ·obtain⟨j,rfl⟩:∃ j,k=j+1:=⟨k - 1,FI⟩;obtain⟨b1,o1,rfl,_,hb1,hx⟩:=HA.o FI;have HL2:=HL.o;obtain⟨b2,o2,rfl,_,hb2,hy⟩:=HB.o FI;refine zcE ?_;intro x hx' y hy' ex ey;unfold bY at ex ey;rw[Ho] at ex ey;refine zdX ?_;clear hx hx' hy hy' HL2;intro hxl hyl HX HY;rcases JF x y with h | h | h
    ·have HE:=Ag (iL (jM HL.o HD.o HX.o HY.o h));skip;go_wp2
     go_quiet (fail)
     skip
     exact zar
    ·subst h;have HE:=Ag (uZ HD.o HX.o HY.o);skip;go_wp2
     go_quiet (fail)
     go_wp2
     go_quiet (fail)
     go_wp2
     go_roundw
     case rel=>exact⟨j,_,FI,by go_num,HE.o,rfl⟩
     case measure=>simp[intOf]
    ·have HE:=Ag (nN (jM HL.o.symm HD.o.symm HY.o HX.o h));skip;go_wp2
     go_quiet (fail)
     go_wp2
     go_quiet (fail)
     exact zar
 ·have hne:(((dig a).length:Int) != ((dig b).length:Int))=true:=aB;rcases LD hlen with h | h
  ·have HE:=Ag (iL (oq h));have HE2:=Ag (iL h);clear hlen;go_in;go_wp2
   exact YW
  ·exact zbS
structure Raw where
 neg:Bool
 num:List Nat
 den:List Nat
 deriving Inhabited,DecidableEq
def Ak (w:GK) (F:Gq) (v:GN) (r:Raw):Prop:=∃ vn vd,v = .agg #[G7 r.neg,vn,vd]/\Aj w F vn r.num/\Aj w F vd r.den
theorem Ak.keep {w w':GK} {v:GN} {r:Raw} (h:Ak w F v r) (hFG:∀ b,F b->b < w.heap.size->G b) (hs:Same F w w'):Ak w' G v r:=by
 obtain⟨vn,vd,rfl,h1,h2⟩:=h;exact⟨vn,vd,rfl,h1.keep hFG hs,h2.keep hFG hs⟩
theorem Ak.on {w w':GK} {v:GN} {r:Raw} (h:Ak w F v r) (hs:Same F w w'):Ak w' F v r:=h.keep (λ_ h _=>h) hs
theorem Ak.below {w w':GK} {v:GN} {r:Raw} (h:Ak w F v r) (hb:Below w.heap.size w w'):Ak w' F v r:=h.on (GL hb F)
theorem Ak.mono {w:GK} {v:GN} {r:Raw} (h:Ak w F v r) (hFG:∀ b,F b->b < w.heap.size->G b):Ak w G v r:=h.keep hFG (GZ _ _)
def DY (w:GK) (F:Gq) (b o:Nat) (r:Raw):Prop:=w.cell? ⟨b,o,none⟩=some (G7 r.neg)/\aai Aj w F b (o+1) r.num/\aai Aj w F b (o+2) r.den
theorem yY {w w':GK} {o:Nat} (h:aai Aj w F b o l) (hFG:∀ b,F b->b < w.heap.size->G b) (hs:Same F w w') (hb:F b) (hl:b < w.heap.size):aai Aj w' G b o l:=by
 exact zb5
theorem DY.keep {w w':GK} {o:Nat} {r:Raw} (h:DY w F b o r) (hFG:∀ b,F b->b < w.heap.size->G b) (hs:Same F w w') (hb:F b) (hl:b < w.heap.size):DY w' G b o r :=
 ⟨by rw[hs.cell hb hl]; exact h.1,yY h.2.1 hFG hs hb hl,yY h.2.2 hFG hs hb hl⟩
def Gs (w:GK) (F:Gq) (v:GN) (l:List Raw):Prop:=Cc 3 DY w F v l
theorem Gs.keep {w w':GK} {v:GN} {l:List Raw} (h:Gs w F v l) (hFG:∀ b,F b->b < w.heap.size->G b) (hs:Same F w w'):Gs w' G v l :=
 Cc.keep h hFG hs.size λ_ _ _ _ hb hl hx=>hx.keep hFG hs hb hl
theorem Gs.on {w w':GK} {v:GN} {l:List Raw} (h:Gs w F v l) (hs:Same F w w'):Gs w' F v l:=h.keep (λ_ h _=>h) hs
theorem Gs.nil (w:GK) (F:Gq):Gs w F (Gw none 0 0) []:=⟨none,0,rfl,Gy _,λh=>absurd h aA⟩
def Gt (w:GK) (F:Gq) (v:GN) (l:List (List Raw)):Prop:=Cc 1 (aai Gs) w F v l
theorem afc {w w':GK} {o:Nat} {l:List Raw} (h:aai Gs w F b o l) (hFG:∀ b,F b->b < w.heap.size->G b) (hs:Same F w w') (hb:F b) (hl:b < w.heap.size):aai Gs w' G b o l:=by
 exact zb5
theorem Gt.keep {w w':GK} {v:GN} {l:List (List Raw)} (h:Gt w F v l) (hFG:∀ b,F b->b < w.heap.size->G b) (hs:Same F w w'):Gt w' G v l :=
 Cc.keep h hFG hs.size λ_ _ _ _ hb hl hx=>afc hx hFG hs hb hl
theorem Gt.on {w w':GK} {v:GN} {l:List (List Raw)} (h:Gt w F v l) (hs:Same F w w'):Gt w' F v l:=h.keep (λ_ h _=>h) hs
theorem Gt.nil (w:GK) (F:Gq):Gt w F (Gw none 0 0) []:=⟨none,0,rfl,Gy _,λh=>absurd h aA⟩
def ak (x:Rat):Raw:=⟨dh x,dig x.num.natAbs,dig x.den⟩
def ay (x:Rat):Raw:=⟨dh x,dig x.num.natAbs,if x.den=1 then [] else dig x.den⟩
abbrev RtV (w:GK) (F:Gq) (v:GN) (x:Rat):Prop:=Ak w F v (ak x)
abbrev NmV (w:GK) (F:Gq) (v:GN) (x:Rat):Prop:=Ak w F v (ay x)
abbrev CB (w:GK) (F:Gq) (v:GN) (l:List Rat):Prop:=Gs w F v (l.map ak)
abbrev DZ (w:GK) (F:Gq) (v:GN) (l:List Rat):Prop:=Gs w F v (l.map ay)
abbrev Ba (w:GK) (F:Gq) (v:GN) (l:List (List Rat)):Prop:=Gt w F v (l.map (List.map ak))
theorem aef {x y:Rat} (h:ak x=ak y):x=y:=by grind [ak,anb,aad]
theorem acI:∀ {l m:List Rat},l.map ak=m.map ak->l=m
 | [],[],_=>rfl
 | [],_ :: _,h=>by simp at h
 | _ :: _,[],h=>by simp at h
 | x :: l,y :: m,h=>by
  simp only[Ju,List.cons.injEq] at h;rw[aef h.1,acI h.2]
theorem Ak.make {w:GK} {vn vd:GN} {r:Raw} (hn:neg=r.neg) (h1:Aj w F vn r.num) (h2:Aj w F vd r.den):Ak w F (.agg #[G7 neg,vn,vd]) r:=⟨vn,vd,by rw[hn],h1,h2⟩
theorem NmV.make {w:GK} {vn vd:GN} {x:Rat} (hn:neg=dh x) (h1:Ah w F vn x.num.natAbs) (h2:Aj w F vd (if x.den=1 then [] else dig x.den)):NmV w F (.agg #[G7 neg,vn,vd]) x:=⟨vn,vd,by rw[hn]; rfl,h1,h2⟩
theorem gV (w:GK) (F:Gq) (A:Option Addr) (c:Nat):Aj w F (Gw A 0 c) []:=⟨A,c,rfl,Hg _,λh=>absurd h aA⟩
theorem NmV.zero (w:GK) (F:Gq) (A B:Option Addr) (c d:Nat):NmV w F (.agg #[G7 false,Gw A 0 c,Gw B 0 d]) 0 :=
 NmV.make rfl (Ah.zero w F A c) (by rw[LH (show(0:Rat).den=1 from rfl)]; exact gV w F B d)
theorem dW (w:GK) (t:TypeId) (c:Array GN):∃ W:GK,W=w.alloc (.cells c t)/\Row W w.heap.size t c.toList/\Below w.heap.size w W/\w.heap.size+1=W.heap.size :=
 ⟨_,rfl,Row.new w t c,(GR _ _).alloc (Gy _) _,aA⟩
theorem alloc2 (w:GK) (t:TypeId) (c:Array GN) (t':TypeId) (c':Array GN):∃ W:GK,W=(w.alloc (.cells c t)).alloc (.cells c' t')/\Row W w.heap.size t c.toList/\Row W (w.heap.size+1) t' c'.toList/\Below w.heap.size w W/\w.heap.size+1 < W.heap.size:=by
 have h:=Row.new (w.alloc (.cells c t)) t' c';exact⟨_,rfl,(Row.new w t c).alloc _,by simpa using h,((GR _ _).alloc (Gy _) _).alloc aA _,aA⟩
theorem afd (w:GK) (t:TypeId) (c:Array GN) (t':TypeId) (c':Array GN) (t'':TypeId) (c'':Array GN):∃ W:GK,W=((w.alloc (.cells c t)).alloc (.cells c' t')).alloc (.cells c'' t'')/\Row W w.heap.size t c.toList/\Row W (w.heap.size+1) t' c'.toList/\Row W (w.heap.size+2) t'' c''.toList/\Below w.heap.size w W/\w.heap.size+2 < W.heap.size:=by
 obtain⟨W,hW,h1,h2,h3,_⟩:=alloc2 w t c t' c';have h:=Row.new W t'' c'';have e:W.heap.size=w.heap.size+2:=by rw[hW];simp
 refine⟨_,rfl,?_,?_,?_,?_,aA⟩
 ·rw[<-hW];exact h1.alloc _
 ·rw[<-hW];exact h2.alloc _
 ·grind
 ·rw[<-hW];exact h3.alloc FI _
def Old (F:Gq) (n:Nat):Gq:=λb=>F b/\b < n
theorem aI {w W:GK} {c:Array GN} (h:w.alloc (.cells c t)=W):Row W w.heap.size t c.toList/\Below w.heap.size w W/\w.heap.size+1=W.heap.size:=by
 obtain⟨_,e,h1⟩:=dW w t c;rw[<-h,<-e];exact h1
theorem gW {w W:GK} {c:Array GN} {c':Array GN} (h:(w.alloc (.cells c t)).alloc (.cells c' t')=W):Row W w.heap.size t c.toList/\Row W (w.heap.size+1) t' c'.toList/\Below w.heap.size w W/\w.heap.size+1 < W.heap.size:=by
 obtain⟨_,e,h1⟩:=alloc2 w t c t' c';rw[<-h,<-e];exact h1
theorem qB {w W:GK} {c:Array GN} {c':Array GN} {t'':TypeId} {c'':Array GN} (h:((w.alloc (.cells c t)).alloc (.cells c' t')).alloc (.cells c'' t'')=W):Row W w.heap.size t c.toList/\Row W (w.heap.size+1) t' c'.toList/\Row W (w.heap.size+2) t'' c''.toList/\Below w.heap.size w W/\w.heap.size+2 < W.heap.size:=by
 obtain⟨_,e,h1⟩:=afd w t c t' c' t'' c'';rw[<-h,<-e];exact h1
theorem Ah.old {w:GK} {v:GN} (h:Ah w F v n):Ah w (Old F w.heap.size) v n:=h.mono λ_ hb hl=>⟨hb,hl⟩
theorem Aj.old {w:GK} {v:GN} {n:List Nat} (h:Aj w F v n):Aj w (Old F w.heap.size) v n:=h.keep (λ_ hb hl=>⟨hb,hl⟩) (GZ _ _)
theorem Ak.old {w:GK} {v:GN} {r:Raw} (h:Ak w F v r):Ak w (Old F w.heap.size) v r:=h.mono λ_ hb hl=>⟨hb,hl⟩
def dQ (num den:List Nat):Int:=if dM num≠0 then dM num else if dM den≠0 then dM den else if den.length=0 then 6 else 0
def dF (r:Raw):Int:=if dQ r.num r.den≠0 then dQ r.num r.den else if (r.num.length=0/\r.neg=true)\/Hr (aF r.num) (aF r.den)≠1 then 3 else 0
theorem wS {num den:List Nat} (h:dQ num den=0):num=dig (aF num)/\den=dig (aF den)/\aF den≠0/\num.length<=1024/\den.length<=1024:=by grind [dQ,ajH,bK]
theorem yu {r:Raw} (h:dF r=0):(∃ x:Rat,r=ak x)/\r.num.length<=1024/\r.den.length<=1024:=by
 unfold dF at h;by_cases h1:dQ r.num r.den=0
 ·rw[LG (by simpa using h1)] at h;by_cases h2:(r.num.length=0/\r.neg=true)\/Hr (aF r.num) (aF r.den)≠1
  ·grind
  ·obtain⟨k1,k2,k3,k4,k5⟩:=wS h1;refine⟨⟨mkRat (sgI r.neg (aF r.num)) (aF r.den),?_⟩,k4,k5⟩;have hg:Hr (aF r.num) (aF r.den)=1:=by grind
   have hp:=ou (neg:=r.neg) k3 hg;unfold ak;rw[hp.1,hp.2,lT _ k3,<-k1,<-k2];obtain⟨neg,num,den⟩:=r;by_cases h0:aF num=0
   ·have hn:num.length=0:=by grind [dig]
    cases neg
    ·simp only[h0,af5];rfl
    grind
   ·simp only;rw[aag h0]
 grind
theorem oD (x:Rat):(ak x).num=dig x.num.natAbs:=rfl
theorem aeg (x:Rat):(ak x).den=dig x.den:=rfl
theorem jl (x:Rat):(ak x).neg=dh x:=rfl
def fZ:List Int->Int
 | []=>0
 | e :: l=>if e≠0 then e else fZ l
theorem jG:∀ {l:List Int} {k:Nat} {e:Int},fZ (l.take k)=0->l[k]? = some e->e≠0->fZ l=e
 | [],k,e,_,h,_=>by simp at h
 | y :: l,0,e,_,h,h0=>by
  simp at h; subst h;unfold fZ; rw[LH h0]
 | y :: l,k+1,e,ht,h,h0=>by
  rw[List.take_succ_cons] at ht;unfold fZ at ht ⊢;by_cases hy:y≠0
  ·rw[LH hy] at ht; exact absurd ht hy
  ·rw[LG hy] at ht ⊢;exact jG ht (by simpa using h) h0
theorem jD:∀ {l:List Int} {k:Nat},fZ (l.take k)=0->l[k]? = some 0->fZ (l.take (k+1))=0
 | [],k,_,h=>by simp at h
 | y :: l,0,_,h=>by
  simp at h; subst h;simp[fZ]
 | y :: l,k+1,ht,h=>by
  rw[List.take_succ_cons] at ht ⊢;unfold fZ at ht ⊢;by_cases hy:y≠0
  ·rw[LH hy] at ht; exact absurd ht hy
  ·rw[LG hy] at ht ⊢;exact jD ht (by simpa using h)
theorem yw:∀ {l:List Int},fZ l=0->∀ e∈l,e=0
 | [],_,e,he=>by cases he
 | y :: l,h,e,he=>by
  unfold fZ at h;by_cases hy:y≠0
  ·rw[LH hy] at h; exact absurd h hy
  ·rw[LG hy] at h;rcases List.mem_cons.1 he with rfl | he
   ·exact Decidable.not_not.1 hy
   ·exact yw h e he
def gK (r:Raw):Rat:=mkRat (sgI r.neg (aF r.num)) (aF r.den)
theorem uJ (x:Rat):gK (ak x)=x:=by grind [gK,ak,aZ,aa0]
def fD (r:Raw):Int:=if dF r≠0 then dF r else if r.neg=true\/0 < iR (gK r) 1 then 2 else 0
theorem aeh {r:Raw} (h:fD r=0):∃ x:Rat,r=ak x/\rl x<=1024/\dh x=false:=by grind [fD,yu,rl,ak,gK]
def nO (l:List Raw):Int:=fZ (l.map fD)
theorem zF:∀ {l:List Raw},nO l=0->∃ xs:List Rat,l=xs.map ak/\∀ x∈xs,rl x<=1024
 | [],_=>⟨[],rfl,λ_ h=>by cases h⟩
 | r :: l,h=>by
  unfold nO at h;rw[Ju] at h;unfold fZ at h;by_cases hy:fD r≠0
  ·rw[LH hy] at h; exact absurd h hy
  ·rw[LG hy] at h;obtain⟨x,hx,hl,_⟩:=aeh (Decidable.not_not.1 hy);obtain⟨xs,hxs,hls⟩:=zF (l:=l) h;refine⟨x :: xs,by rw[Ju,<-hx,<-hxs],λy hy=>?_⟩;rcases List.mem_cons.1 hy with rfl | hy
   ·exact hl
   ·exact hls y hy
def jm (xs:List Rat):Rat:=xs.foldl (· + ·) 0
theorem oG (xs:List Rat) (x:Rat):jm (xs ++ [x])=jm xs+x:=by grind [jm]
def nG (a:Int) (l:List Raw):Int:=if (l.length:Int)≠a then 3 else if nO l≠0 then nO l else if iR (jm (l.map gK)) 1≠0 then 14 else 0
def pF (acts:List Int) (m:List (List Raw)):Int:=if m.length≠acts.length then 3 else fZ (List.zipWith nG acts m)
theorem eU (xs:List Rat):(xs.map ak).map gK=xs:=by
 rw[List.map_map];conv=>rhs;rw[<-List.map_id xs]
 grind [List.map_congr_left,uJ]
theorem afe:∀ (xs:List Rat),(∀ x∈xs,rl x<=1024)->rl (jm xs)<=1+1025*xs.length:=by
 intro xs h;suffices H:∀ (ys:List Rat) (a:Rat),(∀ x∈ys,rl x<=1024)->rl (ys.foldl (· + ·) a)<=rl a+1025*ys.length by
  have:=H xs 0 h;rw[lK] at this;exact this
 intro ys;induction ys with
 | nil=>grind
 | cons y ys ih=>grind [acw]
