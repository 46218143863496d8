/- Part of a claim. -/
import Derived.Test.YtnmeejofpkhlkaaGreatDoorE06
import Derived.Deep.AppendSrc
import Derived.WalkSpells
set_option linter.all false
set_option maxRecDepth 100000
set_option maxHeartbeats 12800000
namespace Go.Proofs.YtnmeejofpkhlkaaGreatDoor
open Go.RowKit.Below renaming refl->F9
open Go renaming Value->F7,World->FW
open Go.Value renaming slice->FQ
open Nat renaming le_refl->FV,zero_add->Iz
open Option.some renaming inj->KJ
open Go.Proofs.Tryz renaming prog->FY,underlying39->Ie
open Go.RowKit
theorem yg (w:FW) (F:FI) (t ty:TypeId) (ht:Tryz.prog.underlying t=some (.slice 103)) (base:Option Addr) (hbase:∀ a,base=some a->∃ b,a=⟨b,0,none⟩) (v:F7) (l:List Nat) (hv:Ag w F v l) (hm:l.length<=1000000) :
  ∃ A' cap w',(Builtin.append_ #[t,t] ty #[FQ base 0 0,v]).run FY w = .ok (FQ A' l.length cap) w'/\Below w.heap.size w w'/\l.length<=cap/\(0 < l.length->A'=some ⟨w.heap.size,0,none⟩/\∃ rest,Row w' w.heap.size 103 (aU l++rest)):=by
 obtain⟨i,hi,hz,hs1,hby⟩:=info_parts Tryz.infoU32;obtain⟨A,c,rfl,hc,hr⟩:=hv;by_cases h0:0 < l.length
 ·obtain⟨b,off,rfl,_,_,hx⟩:=hr h0;have hs:Src FY i.size t (FQ (some ⟨b,off,none⟩) l.length c) l.length (aU l) w:=by
   refine Src.ofSlice w ht _ _ c (aU l) (by rw[hs1]; simp) (λj u hj=>?_) (by simp[Value.oneCell']);rw[List.getElem?_map] at hj;obtain⟨y,hy,rfl⟩:=Option.map_eq_some_iff.1 hj;have:=hx j y hy;unfold dF at this;exact zdC
  have hfit:Builtin.nextslicecap (0+l.length) 0*i.bytes<=281474976710656:=by
   have:Builtin.nextslicecap (0+l.length) 0=l.length:=by unfold Builtin.nextslicecap;rw[L8 EN];omega
   rw[this,hby];omega
  have hold:(Builtin.firstCells i.size 0 (FQ base 0 0)).run FY w.drew = .ok ([]:List F7).toArray w.drew:=by
   cases base with
   | none=>exact run_firstCells_none w.drew i.size 0 0 0
   | some a=>obtain⟨b',rfl⟩:=hbase a rfl; simp[Builtin.firstCells,go_sem]
  have hrun:=run_append_grow_src (P:=FY) w t t ty _ i _ ht hi hz base 0 0 [] hold _ _ _ hs EN EN hfit;have hcap:=grownCap_ge w (0+l.length) 0 103;rw[Iz] at hrun hcap;refine⟨_,_,_,hrun,(F9 w.heap.size w).drew.alloc (FV _) _,hcap,λ_=>⟨rfl,(Builtin.zeroCells (Value.int .u32 0).cells (grownCap w l.length 0 103 - l.length)).toList,?_⟩⟩;have:=Row.new w.drew 103 (([]++aU l).toArray++Builtin.zeroCells (Value.int .u32 0).cells (grownCap w l.length 0 103 - l.length));rw[Array.toList_append,List.nil_append] at this;exact this
 ·have hl:l = []:=List.eq_nil_of_length_eq_zero EN;subst hl;have hs:Src FY i.size t (FQ A 0 c) 0 [] w:=by
   cases A with
   | none=>exact Src.ofNil w ht c
   | some ad=>exact Src.ofSlice w ht ad 0 c [] aF aF aF
  cases base with
  | none =>
   refine⟨none,0,w,?_,F9 _ _,FV _,λh=>absurd h aF⟩;have hlen:([]:List Nat).length=0:=rfl;rw[hlen];simp[Builtin.append_,run_underlying ht,sizeOf,typeInfo,hi,hs.len,hs.cells]
  | some a =>
   obtain⟨b',rfl⟩:=hbase a rfl;have hrun:=run_append_room_src (P:=FY) w t t ty _ i ht hi b' 0 0 0 _ 0 [] hs EN aF aF;exact⟨_,_,_,hrun,F9 _ _,FV _,λh=>absurd h aF⟩
def Bh (B:Nat) (l:List Nat) (v:F7) (w':FW):Prop :=
 ∃ A c,v = FQ A l.length c/\l.length<=c/\(0 < l.length->∃ b rest,A=some ⟨b,0,none⟩/\B<=b/\Row w' b 103 (aU l++rest))
theorem Bh.limbs {B:Nat} {l:List Nat} {v:F7} {w':FW} (h:Bh B l v w'):Ag w' (λb=>B<=b) v l:=by
 obtain⟨A,c,rfl,hc,hr⟩:=h;refine⟨A,c,rfl,hc,λh0=>?_⟩;obtain⟨b,rest,rfl,hb,hrow⟩:=hr h0;refine⟨b,0,rfl,hb,hrow.lt,λk y hk=>?_⟩;unfold dF;rw[Nat.mul_one,Iz];refine hrow.cell ?_;rw[List.getElem?_append_left (by simpa using FD hk)];simp[hk]
theorem sZ {w:FW} {F:FI} {ops:Array Oper} {rest:List Oper} {o:Oper} {a:Act} {Q:Exit->Act->FW->Prop} (hgd:o.guard=none) (s x:Operand) (t:TypeId) (ht:Tryz.prog.underlying t=some (.slice 103)) (ho:o.op = .call { callee:=.builtin .append,args:=#[s,x],argTypes:=#[t,t] })
  (base:Option Addr) (hbase:∀ a,base=some a->∃ b,a=⟨b,0,none⟩) (v:F7) (l:List Nat) (hs:a.eval s = FQ base 0 0) (hx:a.eval x=v) (hv:Ag w F v l) (hm:l.length<=1000000)
  (h:∀ u w',Below w.heap.size w w'->Bh w.heap.size l u w'->wpList FY ops Q rest (a.put o.dst u) w') :
  wpList FY ops Q (o :: rest) a w:=by
 refine wpList_plain hgd λK hK=>?_
 obtain⟨A',cap,w',hrun,h2,h3,h4⟩:=yg w F t o.type ht base hbase v l hv hm;refine zcg ?_;refine hK _ _ (h _ w' h2 ⟨A',cap,rfl,h3,λh0=>?_⟩);obtain⟨e,rest,hrow⟩:=h4 h0;exact⟨_,rest,e,FV _,hrow⟩
theorem ad2 (w:FW) (F:FI) (v:F7) (n:Nat) (hv:Ae w F v n) (hl:(dig n).length<=1000000) :
  Calls FY 187 #[v] w (Ret w λu w'=>Ae w' (λb=>w.heap.size<=b) u n):=by
 have HV:=Lib.hid hv;clear hv;go_in;go_wp2_with (at_builtin; refine sZ (F:=F) rfl _ _ 40 Tryz.underlying40 rfl none (λ_ h=>by cases h) v (dig n) rfl rfl HV.out hl ?_; intro u w3 hb3 hi3)
 go_ret;exact⟨_,rfl,hb3,hi3.limbs⟩
theorem yP (w:FW) (F:FI) (v:F7) (n:Nat) (hv:Ae w F v n) (hl:(dig n).length<=1000000) :
  Calls FY 131 #[v] w (Ret w λu w'=>Ae w' (λb=>w.heap.size<=b) u n):=by
 have HV:=Lib.hid hv;obtain⟨A,c,rfl,hc,hr⟩:=hv;have hq:=λw=>Lib.run_eql_slice_nil (P:=FY) w 39 103 A (dig n).length c 0 0 Ie
 cases A with
 | none =>
  have hn:n=0:=by
   rcases Nat.eq_zero_or_pos n with h | h
   ·exact h
   ·obtain⟨b,off,hh,_⟩:=hr (bg.2 EN);cases hh
  have e:(dig n).length=0:=by rw[hn,bD];rfl
  rw[e] at hq ⊢;have H0:=Lib.hid hn;clear hr HV e hn;go_in;go_wp2
  go_ret;exact⟨_,rfl,F9 _ _,by rw[H0.out]; exact Ae.zero _ _ _ _⟩
 | some ad =>
  clear hr;go_in;go_wp2_with (at_builtin; refine sZ (F:=F) rfl _ _ 39 Ie rfl (some ⟨w.heap.size,0,none⟩) (λ_ h=>⟨_,(KJ h).symm⟩) _ (dig n) rfl rfl (Ag.on HV.out (Same.alloc _ _ _)) hl ?_; intro u w3 hb3 hi3)
  go_ret;refine⟨_,rfl,((F9 _ w).alloc (FV _) _).trans (hb3.mono aF),?_⟩;exact Ag.keep hi3.limbs (λb hb _=>by simp at hb; omega) (Same.refl _ _)
end Go.Proofs.YtnmeejofpkhlkaaGreatDoor
