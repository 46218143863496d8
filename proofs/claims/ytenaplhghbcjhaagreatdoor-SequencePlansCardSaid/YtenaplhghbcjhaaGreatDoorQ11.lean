import Derived.Test.YtenaplhghbcjhaaGreatDoorQ06
import Derived.Deep.AppendSrc
import Derived.WalkSpells
set_option linter.all false
set_option maxRecDepth 100000
set_option maxHeartbeats 0
namespace Go.Proofs.YtenaplhghbcjhaaGreatDoor
open Go.RowKit.Below renaming refl->GR
open Go renaming Value->GN,World->GK
open Go.Value renaming slice->Gw
open Nat renaming le_refl->Gy,mul_one->Ho,zero_add->I5
open Option.some renaming inj->IE
open Go.Proofs.Tryz renaming prog->GI,underlying39->Iw
open Go.RowKit
theorem yZ (w:GK) (F:Gq) (t ty:TypeId) (ht:Tryz.prog.underlying t=some (.slice 103)) (base:Option Addr) (hbase:∀ a,base=some a->∃ b,a=⟨b,0,none⟩) (v:GN) (l:List Nat) (hv:Aj w F v l) (hm:l.length<=1000000) :
  ∃ A' cap w',(Builtin.append_ #[t,t] ty #[Gw base 0 0,v]).run GI w = .ok (Gw A' l.length cap) w'/\Below w.heap.size w w'/\l.length<=cap/\(0 < l.length->A'=some ⟨w.heap.size,0,none⟩/\∃ rest,Row w' w.heap.size 103 (aW l++rest)):=by
 obtain⟨i,hi,hz,hs1,hby⟩:=info_parts Tryz.infoU32;obtain⟨A,c,rfl,hc,hr⟩:=hv;by_cases h0:0 < l.length
 ·obtain⟨b,off,rfl,_,_,hx⟩:=hr h0;have hs:Src GI i.size t (Gw (some ⟨b,off,none⟩) l.length c) l.length (aW l) w:=by
   refine Src.ofSlice w ht _ _ c (aW l) (by rw[hs1]; simp) (λj u hj=>?_) (by simp[Value.oneCell']);rw[List.getElem?_map] at hj;obtain⟨y,hy,rfl⟩:=Option.map_eq_some_iff.1 hj;have:=hx j y hy;unfold bY at this;rw[Ho] at this;rw[Addr.add_lit];exact this
  have hfit:Builtin.nextslicecap (0+l.length) 0*i.bytes<=281474976710656:=by
   have:Builtin.nextslicecap (0+l.length) 0=l.length:=by unfold Builtin.nextslicecap;rw[LH FI];omega
   rw[this,hby];omega
  have hold:(Builtin.firstCells i.size 0 (Gw base 0 0)).run GI w.drew = .ok ([]:List GN).toArray w.drew:=by
   cases base with
   | none=>exact run_firstCells_none w.drew i.size 0 0 0
   | some a=>obtain⟨b',rfl⟩:=hbase a rfl; simp[Builtin.firstCells,go_sem]
  have hrun:=run_append_grow_src (P:=GI) w t t ty _ i _ ht hi hz base 0 0 [] hold _ _ _ hs FI FI hfit;have hcap:=grownCap_ge w (0+l.length) 0 103;rw[I5] at hrun hcap;refine⟨_,_,_,hrun,(GR w.heap.size w).drew.alloc (Gy _) _,hcap,λ_=>⟨rfl,(Builtin.zeroCells (Value.int .u32 0).cells (grownCap w l.length 0 103 - l.length)).toList,?_⟩⟩;have:=Row.new w.drew 103 (([]++aW l).toArray++Builtin.zeroCells (Value.int .u32 0).cells (grownCap w l.length 0 103 - l.length));rw[Array.toList_append,List.nil_append] at this;exact this
 ·have hl:l = []:=List.eq_nil_of_length_eq_zero FI;subst hl;have hs:Src GI i.size t (Gw A 0 c) 0 [] w:=by
   cases A with
   | none=>exact Src.ofNil w ht c
   | some ad=>exact Src.ofSlice w ht ad 0 c [] aA aA aA
  cases base with
  | none =>
   refine⟨none,0,w,?_,GR _ _,Gy _,λh=>absurd h aA⟩;have hlen:([]:List Nat).length=0:=rfl;rw[hlen];simp[Builtin.append_,run_underlying ht,sizeOf,typeInfo,hi,hs.len,hs.cells]
  | some a =>
   obtain⟨b',rfl⟩:=hbase a rfl;have hrun:=run_append_room_src (P:=GI) w t t ty _ i ht hi b' 0 0 0 _ 0 [] hs FI aA aA;exact⟨_,_,_,hrun,GR _ _,Gy _,λh=>absurd h aA⟩
def Bl (B:Nat) (l:List Nat) (v:GN) (w':GK):Prop :=
 ∃ A c,v = Gw A l.length c/\l.length<=c/\(0 < l.length->∃ b rest,A=some ⟨b,0,none⟩/\B<=b/\Row w' b 103 (aW l++rest))
theorem Bl.limbs {B:Nat} {l:List Nat} {v:GN} {w':GK} (h:Bl B l v w'):Aj w' (λb=>B<=b) v l:=by
 obtain⟨A,c,rfl,hc,hr⟩:=h;refine⟨A,c,rfl,hc,λh0=>?_⟩;obtain⟨b,rest,rfl,hb,hrow⟩:=hr h0;refine⟨b,0,rfl,hb,hrow.lt,λk y hk=>?_⟩;unfold bY;rw[Ho,I5];refine hrow.cell ?_;grind
theorem um {w:GK} {F:Gq} {ops:Array Oper} {rest:List Oper} {o:Oper} {a:Act} {Q:Exit->Act->GK->Prop} (hgd:o.guard=none) (s x:Operand) (t:TypeId) (ht:Tryz.prog.underlying t=some (.slice 103)) (ho:o.op = .call { callee:=.builtin .append,args:=#[s,x],argTypes:=#[t,t] })
  (base:Option Addr) (hbase:∀ a,base=some a->∃ b,a=⟨b,0,none⟩) (v:GN) (l:List Nat) (hs:a.eval s = Gw base 0 0) (hx:a.eval x=v) (hv:Aj w F v l) (hm:l.length<=1000000)
  (h:∀ u w',Below w.heap.size w w'->Bl w.heap.size l u w'->wpList GI ops Q rest (a.put o.dst u) w') :
  wpList GI ops Q (o :: rest) a w:=by
 refine wpList_plain hgd λK hK=>?_
 obtain⟨A',cap,w',hrun,h2,h3,h4⟩:=yZ w F t o.type ht base hbase v l hv hm;refine zcy ?_;refine hK _ _ (h _ w' h2 ⟨A',cap,rfl,h3,λh0=>?_⟩);obtain⟨e,rest,hrow⟩:=h4 h0;exact⟨_,rest,e,Gy _,hrow⟩
theorem aem (w:GK) (F:Gq) (v:GN) (n:Nat) (hv:Ah w F v n) (hl:(dig n).length<=1000000) :
  Calls GI 176 #[v] w (Ret w λu w'=>Ah w' (λb=>w.heap.size<=b) u n):=by
 have HV:=Ag hv;clear hv;go_in;go_wp2_with (at_builtin; refine um (F:=F) rfl _ _ 40 Tryz.underlying40 rfl none (λ_ h=>by cases h) v (dig n) rfl rfl HV.o hl ?_; intro u w3 hb3 hi3)
 go_ret;exact⟨_,rfl,hb3,hi3.limbs⟩
theorem zH (w:GK) (F:Gq) (v:GN) (n:Nat) (hv:Ah w F v n) (hl:(dig n).length<=1000000) :
  Calls GI 87 #[v] w (Ret w λu w'=>Ah w' (λb=>w.heap.size<=b) u n):=by
 have HV:=Ag hv;obtain⟨A,c,rfl,hc,hr⟩:=hv;have hq:=λw=>Lib.run_eql_slice_nil (P:=GI) w 39 103 A (dig n).length c 0 0 Iw
 cases A with
 | none =>
  have hn:n=0:=by
   rcases Nat.eq_zero_or_pos n with h | h
   ·exact h
   ·obtain⟨b,off,hh,_⟩:=hr (bD.2 FI);cases hh
  have e:(dig n).length=0:=by rw[hn,bK];rfl
  rw[e] at hq ⊢;have H0:=Ag hn;clear hr HV e hn;go_in;go_wp2
  go_ret;exact⟨_,rfl,GR _ _,by rw[H0.o]; exact Ah.zero _ _ _ _⟩
 | some ad =>
  clear hr;go_in;go_wp2_with (at_builtin; refine um (F:=F) rfl _ _ 39 Iw rfl (some ⟨w.heap.size,0,none⟩) (λ_ h=>⟨_,(IE h).symm⟩) _ (dig n) rfl rfl (Aj.on HV.o (Same.alloc _ _ _)) hl ?_; intro u w3 hb3 hi3)
  go_ret;refine⟨_,rfl,((GR _ w).alloc (Gy _) _).trans (hb3.mono aA),?_⟩;exact Aj.keep hi3.limbs (λb hb _=>by simp at hb; omega) (Same.refl _ _)
