/- Part of a claim. -/
import Derived.Test.YtnmeejofpkhlkaaGreatDoorE21
import Derived.Test.YtnmeejofpkhlkaaGreatDoorE26
set_option linter.all false
set_option maxRecDepth 100000
set_option maxHeartbeats 12800000
namespace Go.Proofs.YtnmeejofpkhlkaaGreatDoor
open Ah renaming make->JL
open Array.mk renaming injEq->Js
open Go.RowKit.Below renaming refl->F9
open FK renaming keep->IB,on->Ju
open Go.IntKind renaming i64->F5
open Go renaming Value->F7,World->FW
open Go.Value renaming bool->Gj,int->F6,slice->FQ
open Int renaming emod_lt_of_pos->KA,emod_nonneg->LD,mul_le_mul_of_nonneg_left->Jt
open Go.IntWalk renaming i64_in->GH
open List.cons renaming injEq->Jd
open List renaming drop_eq_getElem_cons->Ii,drop_eq_nil_of_le->GU,flatMap_append->Le,flatMap_cons->Kt,getD_eq_getElem?_getD->FU,getElem?_append_right->Gx,getElem?_eq_getElem->GX,getElem?_map->Gi,getElem?_set_ne->Ia,getElem?_set_self->Ib,getElem?_zipWith->IG,length->LW,length_map->FX,length_set->He,length_take->G5,length_zipWith->IY,map_append->GL,map_set->Jb,mem_cons->Il,mem_of_getElem?->FT,mem_of_mem_take->LX,not_mem_nil->Ho,range->Ir,replicate->F8,take_of_length_le->Gl
open Nat renaming le_of_eq->Ls,le_refl->FV,le_trans->Gf,lt_of_lt_of_le->GZ,mul_one->Gp,sub_self->Ih,zero_add->Iz,zero_le->GR
open Option.some renaming injEq->Hu
open Same renaming refl->Gh
open Go.Proofs.Tryz renaming prog->FY
open Go.World renaming block_lt_of_cell?->Gg,news_of_block->Kq,size_alloc->KL
open Wrote renaming refl->H6,setCell->Iu
open Lib renaming hid → Ac
open Go.RowKit
variable {ops:Array Oper} {F G K K':FI} {L cs:List Int} {acc x:List Rat} {a b base cap d db e g i k mb n o p:Nat} {u y:Rat} {α:Type} {et:TypeId}
theorem cell_grown {w w':FW} {v:F7} (hg:w.grownBy w' (some d)) (hc:w.cell? ⟨b,o,none⟩=some v) (hne:b≠d):w'.cell? ⟨b,o,none⟩=some v :=
 (uF hg b o (Gg w _ hc) hne).trans hc
theorem jG {w w':FW} (hg:w.grownBy w' (some d)) (hF:¬ F d):Same F w w':=(Same.vT hg).mono λ_ hb=>λe=>hF (e▸hb)
structure Ed (F:FI) (g:Gm) (m:List (List Rat)) (bb:Nat) (w:FW) (BR:List F7) (i:Nat) (v:F7) (BR':List F7) (e:Nat) (w':FW):Prop where
 span:Span g.Fg [(i:Int)] i e
 own:BR'[i]? = some v
 nums:Bz w' (λb=>F b\/w.heap.size<=b) v (dG g m i)
 len:BR'.length=g.Fg.length
 out:∀ j,(j < i\/e<=j)->BR'[j]? = BR[j]?
 inn:∀ j,i<=j->j < e->∃ vj,BR'[j]? = some vj/\Bz w' (λb=>F b\/w.heap.size<=b) vj (dG g m j)
 row:Row w' bb 96 BR'
 grown:w.grownBy w' (some bb)
def CY (F:FI) (g:Gm) (m:List (List Rat)) (bb:Nat) (w:FW) (BR:List F7) (i:Nat) (e:Ending) (w':FW):Prop:=∃ v BR' n,e = .returned v/\Ed F g m bb w BR i v BR' n w'
structure VBr (F:FI) (g:Gm) (m:List (List Rat)) (bb pl:Nat) (w:FW) (BR:List F7) (i a:Nat) (n:Nd) (chv:F7) (acc:List Rat) (L:List RV) (BRc:List F7) (W:FW):Prop where
 grown:w.grownBy W (some bb)
 row:Row W bb 96 BRc
 len:BRc.length=g.Fg.length
 own:BRc[i]? = some (FQ (some ⟨pl,0,none⟩) g.ay.toNat g.ay.toNat)
 out:∀ j,(j < i\/a<=j)->BRc[j]? = BR[j]?
 inn:∀ j,i < j->j < a->∃ vj,BRc[j]? = some vj/\Bz W (λb=>F b\/pl < b) vj (dG g m j)
 made:AB W pl 114 (λb=>F b\/pl < b) L
 lmap:L.map RV.r=acc.map aB
 chan:Bz W (λb=>F b\/pl < b) chv (dL m n)
section
variable {F:FI} {g:Gm} {m:List (List Rat)} {bb pl:Nat} {w:FW} {BR:List F7} {i a:Nat} {n:Nd} {chv:F7} {acc:List Rat} {L:List RV} {BRc:List F7} {W W':FW}
theorem VBr.below (h:VBr F g m bb pl w BR i a n chv acc L BRc W) (hb:Below W.heap.size W W'):VBr F g m bb pl w BR i a n chv acc L BRc W' :=
 ⟨jm h.grown (grown_below hb (FV _) _),h.row.below hb h.row.lt,h.len,h.own,h.out,λj h1 h2=>by obtain⟨vj,h3,h4⟩:=h.inn j h1 h2; exact⟨vj,h3,FK.below h4 hb⟩,h.made.below hb,h.lmap,FK.below h.chan hb⟩
theorem VBr.child (h:VBr F g m bb pl w BR i a n chv acc L BRc W) (hF:∀ b,F b->b < bb) (hpl:bb < pl) (hia:i < a) {v:F7} {BR':List F7} (ho:Ed F g m bb W BRc a v BR' e W') (hplW:pl < W.heap.size):VBr F g m bb pl w BR i e n chv acc L BR' W':=by
 have hnb:¬ (λb=>F b\/pl < b) bb:=λhb=>hb.elim (λh=>by have:=hF _ h; omega) EN
 have hs:=jG (F:=λb=>F b\/pl < b) ho.grown hnb;have hae:a < e:=by
  have h1:=ho.span.le;have h2:=ho.span.mem a aF;omega
 refine⟨jm h.grown ho.grown,ho.row,ho.len,(ho.out i (.inl hia)).trans h.own,λj hj=>?_,λj h1 h2=>?_,h.made.on (ho.grown.block pl hplW aG) hs,h.lmap,Ju h.chan hs⟩
 ·rw[ho.out j EN];exact h.out j EN
 ·by_cases hja:j < a
  ·obtain⟨vj,h3,h4⟩:=h.inn j h1 hja;exact⟨vj,by rw[ho.out j (.inl hja)]; exact h3,Ju h4 hs⟩
  ·obtain⟨vj,h3,h4⟩:=ho.inn j EN h2;exact zdR
theorem VBr.setN (h:VBr F g m bb pl w BR i a n chv acc L BRc W) (hF:∀ b,F b->b < bb) (hpl:bb < pl) (hw:w.heap.size<=pl) (p:Nat) (x:Rat) (vn vd:F7) (hq:(⟨aB x,vn,vd⟩:RV).fine W (λb=>F b\/pl < b)) :
  ∃ W',W'=(((W.setCell ⟨pl,p*3,none⟩ (Gj (aB x).neg)).setCell ⟨pl,p*3+1,none⟩ vn).setCell ⟨pl,p*3+2,none⟩ vd)/\VBr F g m bb pl w BR i a n chv (acc.set p x) (L.set p ⟨aB x,vn,vd⟩) BRc W'/\(∀ c,c≠pl->W'.heap[c]? = W.heap[c]?)/\W'.heap.size=W.heap.size/\W.grownBy W' (some pl):=by
 have hn:¬ (F pl\/pl < pl):=λhb=>hb.elim (λh=>by have:=hF _ h; omega) EN
 obtain⟨W',hW',hm,hwB,hwS,hwz,al3⟩:=h.made.set p ⟨aB x,vn,vd⟩ (RV.fine.keep hq (λb hb _=>⟨hb,λe=>hn (e▸hb)⟩) (Gh _ _));have hgw:w.grownBy W' (some bb):=by
  rw[hW'];exact grown_setCell (p:=⟨pl,p*3+2,none⟩) (grown_setCell (p:=⟨pl,p*3+1,none⟩) (grown_setCell (p:=⟨pl,p*3,none⟩) h.grown (.inr hw) _) (.inr hw) _) (.inr hw) _
 have hgW:W.grownBy W' (some pl):=by
  rw[hW'];exact grown_setCell (p:=⟨pl,p*3+2,none⟩) (grown_setCell (p:=⟨pl,p*3+1,none⟩) (grown_setCell (p:=⟨pl,p*3,none⟩) (mD _ _) (.inl rfl) _) (.inl rfl) _) (.inl rfl) _
 exact⟨W',hW',⟨hgw,h.row.of_block (al3 bb EN),h.len,h.own,h.out,λj h1 h2=>by obtain⟨vj,h3,h4⟩:=h.inn j h1 h2; exact⟨vj,h3,Ju h4 (hwS _ hn)⟩,hm,by rw[Jb,Jb,h.lmap],Ju h.chan (hwS _ hn)⟩,al3,hwz,hgW⟩
end
def wO (acc:List Rat) (b:Rat) (x:List Rat) (p:Nat):List Rat:=(qI acc b x).take p++acc.drop p
theorem aif (acc:List Rat) (b:Rat) (x:List Rat):wO acc b x 0=acc:=by simp[wO]
theorem akq {b:Rat} (h1:acc.length<=p) (h2:x.length<=p):wO acc b x p=qI acc b x:=by
 unfold wO;have:(qI acc b x).length<=p:=by unfold qI;rw[IY];omega
 rw[Gl this,GU h1,List.append_nil]
theorem akr {b:Rat} (hu:acc[p]? = some u) (hx:x.length=acc.length):(wO acc b x p)[p]? = some u:=by
 unfold wO;have hl:=FD hu;have:((qI acc b x).take p).length=p:=by rw[G5];unfold qI;rw[IY];omega
 rw[Gx EN,this,Ih,List.getElem?_drop,Nat.add_zero,hu]
theorem aii {b:Rat} (hu:acc[p]? = some u) (hy:x[p]? = some y) (hx:x.length=acc.length):(wO acc b x p).set p (u+b*y)=wO acc b x (p+1):=by
 have hl:=FD hu;have hal:(qI acc b x).length=acc.length:=by unfold qI;rw[IY];omega
 have ht:((qI acc b x).take p).length=p:=by rw[G5];omega
 have hg:(qI acc b x)[p]? = some (u+b*y):=by unfold qI;rw[IG,hu,hy]
 unfold wO;rw[FP hg];obtain⟨z,hz⟩:∃ z,acc.drop p=z :: acc.drop (p+1):=⟨acc[p],by rw[Ii hl]⟩;rw[List.set_append_right _ _ EN,ht,Ih,hz,List.set_cons_zero,List.append_assoc];rfl
theorem VBr.get {g:Gm} {m:List (List Rat)} {bb pl:Nat} {w:FW} {BR:List F7} {n:Nd} {chv:F7} {L:List RV} {BRc:List F7} {W:FW} (h:VBr F g m bb pl w BR i a n chv acc L BRc W) {x:Rat} (hx:acc[p]? = some x) :
  ∃ (A:Option Addr) (c:Nat) (B:Option Addr) (d:Nat),L[p]? = some ⟨aB x,FQ A (aB x).num.length c,FQ B (aB x).den.length d⟩/\(⟨aB x,FQ A (aB x).num.length c,FQ B (aB x).den.length d⟩:RV).fine W (λb=>F b\/pl < b):=by
 have hl:L.length=acc.length:=by have:=congrArg LW h.lmap;simpa using this
 obtain⟨q,hq⟩:=FC (l:=L) (k:=p) (by rw[hl]; exact FD hx);have hr:q.r=aB x:=by
  have:=congrArg (λl:List Raw=>l[p]?) h.lmap;simp only[Gi,hq,hx,Option.map_some,Hu] at this;exact this
 have hf:=h.made.fine q (FT hq);obtain⟨r,vn,vd⟩:=q;simp only at hr;subst hr;have hf':(⟨aB x,vn,vd⟩:RV).fine W (λb=>F b\/pl < b):=hf.keep (λb hb _=>hb.1) (Gh _ _);have h1:=hf'.1;have h2:=hf'.2;obtain⟨A,c,e1,_⟩:=h1;obtain⟨B,d,e2,_⟩:=h2;simp only at e1 e2;subst e1;subst e2;exact⟨A,c,B,d,hq,hf'⟩
theorem al4 {look:Nat->List Rat} {l:List (Rat×Int)} (h:l[k]? = some (y,(a:Int))):qI (ou look acc (l.take k)) y (look a)=ou look acc (l.take (k+1)):=by
 rw[FP h,ahz];rfl
theorem ank {β:Type} {l:List α} {r:List β} {x:α} {y:β} (hx:l[k]? = some x) (hy:r[k]? = some y):(l.zip r)[k]? = some (x,y):=by
 rw[List.zip,IG,hx,hy]
open List renaming getElem_toArray → lq1, getElem_cons_zero → lq2, getElem_cons_succ → lq3, setIfInBounds_toArray → lq4, set_cons_zero → lq5, set_cons_succ → lq6
theorem al5 (x n:Int) (hn:0 < n):(if x.tmod n < 0 then x.tmod n+n else x.tmod n)=x % n:=by
 have h2:=LD x (by omega:n≠0);have h3:=KA x hn;have h5:=Int.lt_tmod_of_pos x hn;have h6:x.tmod n < n:=Int.tmod_lt_of_pos x hn;have h7:n ∣ x - x.tmod n:=Int.dvd_self_sub_tmod;have h8:n ∣ x - x % n:=Int.dvd_self_sub_emod;have h9:n ∣ x % n - x.tmod n:=by
  have:=Int.dvd_sub h7 h8;rwa [show x - x.tmod n - (x - x % n)=x % n - x.tmod n by omega] at this
 obtain⟨k,hk⟩:=h9;have hkk:k=0\/k=1:=by
  rcases Int.lt_trichotomy k 0 with h | h | h
  ·exfalso
   have:n*k<=n*(-1):=Jt EN EN;omega
  ·exact .inl h
  ·by_cases h1:k=1
   ·exact .inr h1
   ·exfalso
    have:n*2<=n*k:=Jt EN EN;omega
 rcases hkk with rfl | rfl
 ·rw[L6 EN];omega
 ·by_cases h:x.tmod n < 0
  ·rw[L8 h];omega
  ·exfalso; omega
theorem abQ (w:FW) (x n:Int) (hn:0 < n) (hn2:n<=1000000):Calls FY 9 #[F6 F5 x,F6 F5 n] w λe w'=>e = .returned (F6 F5 (x % n))/\w=w':=by
 have HE:=Ac (al5 x n hn);have h5:=Int.lt_tmod_of_pos x hn;have h6:x.tmod n < n:=Int.tmod_lt_of_pos x hn;have hn0:n≠0:=EN;by_cases h:x.tmod n < 0
 ·have d:decide (x.tmod n < 0)=true:=Mc h;have hw2:IntKind.i64.wrap (x.tmod n+n)=x.tmod n+n:=GH _ EN;have HF:=Ac (show x.tmod n+n=x % n by have:=HE.out; rw[L8 h] at this; exact this);have HW:=Ac hw2;go_in;go_wp2
  go_ret;exact⟨by rw[<-HF.out]; simp[HW.out],rfl⟩
 ·have d:decide (x.tmod n < 0)=false:=L9 h;have HF:=Ac (show x.tmod n=x % n by have:=HE.out; rw[L6 h] at this; exact this);go_in;go_wp2
  go_ret;exact⟨by rw[<-HF.out]; simp,rfl⟩
def dY (L:List Int) (a:Nat) (n:Int):Int:=if L.length<=a then 0 else L.getD a 0 % n
def dR (L:List Int) (a:Nat):Nat:=if L.length<=a then a else a+1
theorem jc (L:List Int) (a:Nat) {n:Int} (hn:1<=n):0<=dY L a n/\dY L a n < n:=by
 unfold dY;split
 ·omega
 ·exact⟨LD _ EN,KA _ EN⟩
theorem wP (h:a<=L.length):dR L a<=L.length:=by
 unfold dR;split <;> omega
theorem next_any (w:FW) (F:FI) (db:Nat) (A:Option Addr) (c:Nat) (L:List Int) (a:Nat) (n:Int) (hr:Row w db 34 [FQ A L.length c,F6 F5 (a:Int)]) (hL:Aj w F (FQ A L.length c) L) (hF:¬ F db) (hn:1<=n) (hn2:n<=1000) (hl:L.length<=9223372036854775807) :
  Calls FY 36 #[.pointer (some ⟨db,0,none⟩),F6 F5 n] w λe w'=>e = .returned (F6 F5 (dY L a n))/\Row w' db 34 [FQ A L.length c,F6 F5 (dR L a:Int)]/\Wrote (λb=>b=db) w w':=by
 have x0:=hr.cell (i:=0) rfl;have x1:=hr.cell (i:=1) rfl;by_cases h:L.length<=a
 ·have t1:decide (L.length<=a)=true:=Mc h;have HV:=Ac (show dY L a n=0 by unfold dY; rw[L8 h]);have HA:=Ac (show dR L a=a by unfold dR; rw[L8 h]);have HR:=Ac hr;clear hL h hr;go_in;go_wp2
  go_quiet (fail)
  go_wp2
  go_ret;exact⟨by rw[HV.out]; rfl,by rw[HA.out]; exact HR.out.dN _,(H6 _ _).dN _⟩
 ·have t1:decide (L.length<=a)=false:=L9 h;have t2:decide (n < 1)=false:=L9 EN;obtain⟨x,hx⟩:=FC (l:=L) (k:=a) EN;have HV:=Ac (show dY L a n=x % n by unfold dY; rw[L6 h,FU,hx]; rfl);have HA:=Ac (show dR L a=a+1 by unfold dR; rw[L6 h]);obtain⟨A',c',he,_,hcell⟩:=hL;simp only[Value.slice.injEq] at he;obtain⟨rfl,_,rfl⟩:=he;obtain⟨b,o,rfl,hFb,hbl,hc⟩:=hcell EN;have e1:=hc a x hx;unfold jP at e1;rw[Gp] at e1;have hne:b≠db:=λe=>hF (e▸hFb)
  have hlt:a < L.length:=EN;have hw1:IntKind.i64.wrap ((a:Int)+1)=(a:Int)+1:=GH _ EN;have hw2:IntKind.i64.wrap ((a:Int)+1 - 1)=(a:Int):=by rw[Int.add_sub_cancel];exact GH _ EN
  have hw3:IntKind.i64.wrap (a:Int)=(a:Int):=GH _ EN;have HR:=Ac hr;clear hc hcell hx h hr;go_in;go_wp2
  go_quiet (fail)
  obtain⟨W0,hW0⟩:=FH (w.drewN nq);have hr0:Row W0 db 34 [FQ (some ⟨b,o,none⟩) L.length c,F6 F5 (a:Int)]:=by rw[hW0];exact HR.out.dN _
  have hwr:Wrote (λb=>b=db) w W0:=by rw[hW0];exact(H6 _ _).dN _
  rw[<-hW0];have y0:=hr0.cell (i:=0) rfl;have y1:=hr0.cell (i:=1) rfl;have f1:=hr0.frozen 1;have e2:W0.cell? ⟨b,o+a,none⟩=some (F6 F5 x):=(hwr.cell b _ hbl (λe=>hne e)).trans e1;clear hW0 x0 x1 e1;go_wp2_with fail
  obtain⟨W1,hW1⟩:=FH (W0.setCell ⟨db,1,none⟩ (F6 F5 ((a:Int)+1)));rw[<-hW1];have hr1:Row W1 db 34 [FQ (some ⟨b,o,none⟩) L.length c,F6 F5 ((a:Int)+1)]:=ste hW1 hr0;have hwr1:Wrote (λb=>b=db) w W1:=by rw[hW1];exact hwr.setCell (.inl rfl) _
  have z0:=hr1.cell (i:=0) rfl;have z1:=hr1.cell (i:=1) rfl;have e3:W1.cell? ⟨b,o+a,none⟩=some (F6 F5 x):=by rw[hW1];exact(World.cell?_of_block (Below.heap_setCell _ _ _ _ hne)).trans e2
  have HR1:=Ac hr1;have HW1:=Ac hwr1;clear hW1 hr0 hwr y0 y1 f1 e2 hr1 hwr1 hw1;refine wp_region_held_drew (S:=λw'=>w'.cell? ⟨db,0,none⟩=some (FQ (some ⟨b,o,none⟩) L.length c)/\w'.cell? ⟨db,1,none⟩=some (F6 F5 ((a:Int)+1))/\w'.cell? ⟨b,o+a,none⟩=some (F6 F5 x)) ak ⟨z0,z1,e3⟩ (λhHeld=>?_);obtain⟨W2,hW2⟩:=FH W1.drew;replace HR1:=Ac (show Row W2 db _ _ from hW2▸HR1.out.drew);replace HW1:=Ac (show Wrote _ w W2 from hW2▸HW1.out.drew);have z0':W2.cell? ⟨db,0,none⟩=some (FQ (some ⟨b,o,none⟩) L.length c):=hW2▸z0;have z1':W2.cell? ⟨db,1,none⟩=some (F6 F5 ((a:Int)+1)):=hW2▸z1;have e3':W2.cell? ⟨b,o+a,none⟩=some (F6 F5 x):=hW2▸e3;rw[<-hW2] at hHeld ⊢;clear hW2 z0 z1 e3;refine tkm [0,1,2,3,4,5,6,7,8,9,10,11] ?_;refine tk2 12 ak rfl λK hK=>?_
  go_simp;refine(abQ W2 x n EN EN).mono ?_;rintro e w' ⟨rfl,rfl⟩;clear hHeld;refine hK.out _ _ ⟨z0',z1',e3'⟩ (λhHeld=>?_);clear hK K;refine Zb ?_;refine tkm [13] ?_;refine Yf ?_;clear hHeld;go_wp2
  go_ret;exact⟨by rw[HV.out]; rfl,by rw[HA.out]; exact HR1.out,HW1.out⟩
structure Place where
 aC:Int
 many:Int
 seen:Int
 deriving Inhabited
structure View where
 aC:Int
 level:Int
 seen:List Int
 info:Int
structure MC where
 L:List Int
 levels:List Place
 ay:Int
 most:Int
 zero:Bool
structure MS where
 at':Nat
 views:List View
 pending:Int
 Fg:List Nd
 Fh:List Inf
def kN:Nd:=⟨0,0,0,[],[],[]⟩
def MS.draw (C:MC) (s:MS) (n:Int):Int×MS:=(dY C.L s.at' n,{ s with at':=dR C.L s.at' })
def iF (C:MC):Nat->MS->List Int×MS
 | 0,s=>([],s)
 | k+1,s=>let r:=iF C k s; let d:=r.2.draw C 7; (r.1 ++ [d.1 - 3],d.2)
def oz (C:MC) (l:List Int):List Int:=if C.zero=true/\C.ay=2 then l.set 1 (-(l.getD 0 0)) else l
def pY (C:MC) (i:Nat) (s:MS):MS:=let r:=iF C C.ay.toNat s; { r.2 with Fg:=r.2.Fg.set i ⟨3,0,0,[],[],oz C r.1⟩ }
def fD (aC level:Int) (seen:List Int) (v:View):Bool:=decide (v.aC=aC)&&decide (v.level=level)&&decide (v.seen=seen)
def kM (C:MC) (aC level:Int) (seen:List Int) (s:MS):Int×MS :=
 match s.views.find? (fD aC level seen) with
 | some v=>(v.info,s)
 | none =>
  let s1:MS:={ s with views:=s.views ++ [⟨aC,level,seen,s.Fh.length⟩] }
  let d:=s1.draw C 3
  ((s.Fh.length:Int),{ d.2 with Fh:=s.Fh ++ [⟨aC,1+d.1⟩] })
def kX (info:Int) (n:Nd):Bool:=decide (n.kind=2)&&decide (n.info=info)
def lQ (info aC:Int) (s:MS):MS :=
 if aC < 0\/info≠(s.Fh.length:Int) - 1 then s
 else if s.Fg.any (kX info) then s
 else { s with Fh:=s.Fh.take info.toNat,views:=s.views.dropLast }
def iK (p:Place) (i:Nat) (seen:List (List Int)):List (List Int) :=
 seen.mapIdx λq l=>l ++ [if (q:Int)=p.aC\/(p.seen.toNat >>> q) % 2=1 then (i:Int) else -1]
structure KS where
 weights:List Int
 next:List Int
 s:MS
def dZ (C:MC) (rec:List (List Int)->MS->Nat×MS) (p:Place) (seen:List (List Int)):Nat->MS->KS
 | 0,s=>⟨[],[],s⟩
 | k+1,s =>
  let r:=dZ C rec p seen k s
  let d:=if p.aC < 0 then (r.weights ++ [1+(r.s.draw C 3).1],(r.s.draw C 3).2) else (r.weights,r.s)
  let c:=rec (iK p k seen) d.2
  ⟨d.1,r.next ++ [(c.1:Int)],c.2⟩
def nN (C:MC) (p:Place) (level:Int) (seen:List (List Int)) (s:MS):Int×Int×MS :=
 if p.aC < 0 then (0,p.many,s)
 else
  let r:=kM C p.aC level (seen.getD p.aC.toNat []) s
  (r.1,(r.2.Fh.getD r.1.toNat default).actions,r.2)
def jL (p:Place) (info:Int) (weights next:List Int):Nd:=if p.aC < 0 then ⟨1,0,0,next,weights,[]⟩ else ⟨2,p.aC,info,next,weights,[]⟩
def bW (C:MC):Nat->Nat->List (List Int)->MS->Nat×MS
 | 0,_,_,s=>(s.Fg.length,s)
 | f+1,level,seen,s =>
  let i:=s.Fg.length
  let s1:MS:={ s with pending:=s.pending - 1,Fg:=s.Fg ++ [kN] }
  if level=C.levels.length then (i,pY C i s1)
  else
   let d:=s1.draw C 8
   if d.1=1 then (i,pY C i d.2)
   else
    let p:=C.levels.getD level default
    let o:=nN C p level seen d.2
    if C.most < (i:Int)+1+o.2.2.pending+o.2.1 then (i,pY C i (lQ o.1 p.aC o.2.2))
    else
     let s4:MS:={ o.2.2 with pending:=o.2.2.pending+o.2.1 }
     let r:=dZ C (bW C f (level+1)) p seen o.2.1.toNat s4
     (i,{ r.s with Fg:=r.s.Fg.set i (jL p o.1 r.weights r.next) })
def fU (L:List Int) (ay:Int):Nat->Nat->List Place×Nat
 | 0,a=>([],a)
 | k+1,a =>
  let r:=fU L ay k a
  (r.1 ++ [⟨dY L r.2 (ay+1) - 1,2+dY L (dR L r.2) 2,dY L (dR L (dR L r.2)) 16⟩],dR L (dR L (dR L r.2)))
def qc (L:List Int) (ay most:Int) (zero:Bool):Gm :=
 let n:=(1+dY L 0 5).toNat
 let r:=fU L ay n (dR L 0)
 let C:MC:=⟨L,r.1,ay,most,zero⟩
 let s:=(bW C (n+1) 0 (F8 ay.toNat []) ⟨r.2,[],1,[],[]⟩).2
 ⟨ay,s.Fg,s.Fh⟩
structure JM (C:MC) (d:Nat) (s:MS):Prop where
 vl:s.views.length=s.Fh.length
 vi:∀ (i:Nat) (v:View),s.views[i]? = some v->v.info=(i:Int)
 il:s.Fh.length+d<=s.Fg.length
 np:(s.Fg.length:Int)+s.pending<=C.most
 p0:0<=s.pending
 vs:∀ v∈s.views,v.seen.length<=100
 ac:∀ x∈s.Fh,1<=x.actions/\x.actions<=3
theorem yX (C:MC) (s:MS):∀ k,∃ a,(iF C k s).2 = { s with at':=a }
 | 0=>⟨s.at',rfl⟩
 | k+1=>by
  obtain⟨a,h⟩:=yX C s k;refine⟨dR C.L a,?_⟩;have e:(iF C (k+1) s).2=((iF C k s).2.draw C 7).2:=rfl;rw[e,h]; rfl
theorem aeg (C:MC) (i:Nat) (s:MS):∃ a n,pY C i s = { s with at':=a,Fg:=s.Fg.set i n }:=by
 obtain⟨a,h⟩:=yX C s C.ay.toNat;refine⟨a,⟨3,0,0,[],[],oz C (iF C C.ay.toNat s).1⟩,?_⟩;unfold pY;simp only[h]
theorem JM.at {C:MC} {s:MS} (h:JM C d s) (a:Nat):JM C d { s with at':=a }:=⟨h.vl,h.vi,h.il,h.np,h.p0,h.vs,h.ac⟩
theorem JM.less {C:MC} {s:MS} (h:JM C d s):JM C 0 s:=⟨h.vl,h.vi,by have:=h.il; omega,h.np,h.p0,h.vs,h.ac⟩
theorem JM.node {C:MC} {s:MS} (h:JM C d s) (i:Nat) (n:Nd):JM C d { s with Fg:=s.Fg.set i n }:=⟨h.vl,h.vi,by have:=h.il; simpa using this,by have:=h.np; simpa using this,h.p0,h.vs,h.ac⟩
theorem JM.pY {C:MC} {s:MS} (h:JM C d s) (i:Nat):JM C d (pY C i s)/\(pY C i s).pending=s.pending/\(pY C i s).Fg.length=s.Fg.length:=by
 obtain⟨a,n,e⟩:=aeg C i s;rw[e];exact⟨(h.node i n).at a,rfl,aF⟩
theorem JM.push {C:MC} {s:MS} (h:JM C 0 s) (hp:1<=s.pending):JM C 1 { s with pending:=s.pending - 1,Fg:=s.Fg ++ [kN] }:=⟨h.vl,h.vi,by have:=h.il; simp; omega,by have:=h.np; simp; omega,by show 0<=s.pending - 1; omega,h.vs,h.ac⟩
theorem JM.find {C:MC} {s:MS} (h:JM C 1 s) (aC level:Int) (seen:List Int) (hs:seen.length<=100) :
  JM C 0 (kM C aC level seen s).2/\(kM C aC level seen s).2.pending=s.pending/\(kM C aC level seen s).2.Fg=s.Fg/\0<=(kM C aC level seen s).1/\(kM C aC level seen s).1 < ((kM C aC level seen s).2.Fh.length:Int):=by
 unfold kM;cases hf:s.views.find? (fD aC level seen) with
 | some v =>
  simp only;refine⟨h.less,trivial,trivial,?_⟩;have hm:=List.mem_of_find?_eq_some hf;obtain⟨i,hi,e⟩:=List.mem_iff_getElem.1 hm;have:=h.vi i v (by rw[<-e]; exact GX hi);have:=h.vl;omega
 | none =>
  simp only;have hd:=jc C.L s.at' (n:=3) aA;refine⟨⟨?_,?_,?_,h.np,h.p0,?_,?_⟩,rfl,rfl,EN,?_⟩
  ·have:=h.vl;simp[MS.draw,this]
  ·intro i v hv;have hv:(s.views ++ [⟨aC,level,seen,(s.Fh.length:Int)⟩])[i]? = some v:=hv;rcases Nat.lt_trichotomy i s.views.length with hl | hl | hl
   ·rw[List.getElem?_append_left hl] at hv;exact h.vi i v hv
   ·subst hl;rw[Gx (FV _),Ih] at hv;simp at hv;subst hv;simp[h.vl]
   ·rw[Gx EN] at hv;have:1<=i - s.views.length:=EN;rw[List.getElem?_eq_none (by simpa using this)] at hv;cases hv
  ·have:=h.il;simp[MS.draw];omega
  ·intro v hv;have hv:v∈s.views ++ [⟨aC,level,seen,(s.Fh.length:Int)⟩]:=hv;rcases List.mem_append.1 hv with hv | hv
   ·exact h.vs v hv
   ·rw[List.mem_singleton.1 hv];exact hs
  ·intro x hx;have hx:x∈s.Fh ++ [⟨aC,1+dY C.L s.at' 3⟩]:=hx;rcases List.mem_append.1 hx with hx | hx
   ·exact h.ac x hx
   ·rw[List.mem_singleton.1 hx];show 1<=1+dY C.L s.at' 3/\1+dY C.L s.at' 3<=3;omega
  ·simp[MS.draw];omega
theorem JM.drop {C:MC} {s:MS} (h:JM C 0 s) (info aC:Int) (h0:0<=info):JM C 0 (lQ info aC s)/\(lQ info aC s).pending=s.pending/\(lQ info aC s).Fg=s.Fg:=by
 unfold lQ;split
 ·exact⟨h,rfl,rfl⟩
 rename_i hn
 split
 ·exact⟨h,rfl,rfl⟩
 refine⟨⟨?_,?_,?_,h.np,h.p0,?_,?_⟩,rfl,rfl⟩
 ·have:=h.vl;simp;omega
 ·intro i v hv;have hv:s.views.dropLast[i]? = some v:=hv;rw[List.dropLast_eq_take,List.getElem?_take] at hv;split at hv
  ·exact h.vi i v hv
  ·cases hv
 ·have:=h.il;simp;omega
 ·intro v hv;exact h.vs v (List.dropLast_subset _ hv)
 ·intro x hx;exact h.ac x (LX hx)
theorem getD_mem [Inhabited α] {L:List α} (h:k < L.length):L.getD k default∈L:=by
 rw[FU,GX h];exact List.getElem_mem h
structure BL (C:MC):Prop where
 len:C.levels.length<=5
 pl:∀ p∈C.levels,p.aC < C.ay∧-1<=p.aC/\2<=p.many/\p.many<=3/\0<=p.seen/\p.seen<=15
theorem JM.open {C:MC} {s:MS} (h:JM C 1 s) (p:Place) (hp:1<=p.many/\p.many<=3) (level:Int) (seen:List (List Int)) (hs:∀ l∈seen,l.length<=100) :
  JM C 0 (nN C p level seen s).2.2/\(nN C p level seen s).2.2.pending=s.pending/\(nN C p level seen s).2.2.Fg=s.Fg/\0<=(nN C p level seen s).1/\1<=(nN C p level seen s).2.1/\(nN C p level seen s).2.1<=3:=by
 unfold nN;split
 ·exact⟨h.less,rfl,rfl,aF,hp⟩
 ·have hl:(seen.getD p.aC.toNat []).length<=100:=by
   rw[FU];cases he:seen[p.aC.toNat]? with
   | none=>simp
   | some l=>exact hs l (FT he)
  obtain⟨h1,h2,h3,h4,h5⟩:=h.find p.aC level _ hl;have:=h1.ac _ (getD_mem (L:=(kM C p.aC level (seen.getD p.aC.toNat []) s).2.Fh) (k:=(kM C p.aC level (seen.getD p.aC.toNat []) s).1.toNat) EN);exact⟨h1,h2,h3,h4,this.1,this.2⟩
theorem xJ {p:Place} {seen:List (List Int)} (h:∀ l∈seen,l.length=n):∀ l∈iK p i seen,l.length=n+1:=by
 intro l hl;unfold iK at hl;obtain⟨j,hj,rfl⟩:=List.mem_mapIdx.1 hl;simp[h _ (List.getElem_mem hj)]
theorem afg {C:MC} {rec:List (List Int)->MS->Nat×MS} {p:Place} {seen:List (List Int)} {n:Nat} (hs:∀ l∈seen,l.length=n)
  (hrec:∀ sn s,(∀ l∈sn,l.length=n+1)->JM C 0 s->1<=s.pending->JM C 0 (rec sn s).2/\(rec sn s).2.pending=s.pending - 1/\s.Fg.length<=(rec sn s).2.Fg.length) :
  ∀ (k:Nat) (s:MS),JM C 0 s->(k:Int)<=s.pending->JM C 0 (dZ C rec p seen k s).s/\(dZ C rec p seen k s).s.pending=s.pending - k/\s.Fg.length<=(dZ C rec p seen k s).s.Fg.length
 | 0,s,h,hk=>⟨h,by simp[dZ],FV _⟩
 | k+1,s,h,hk=>by
  obtain⟨h1,h2,h3⟩:=afg hs hrec k s h EN;have e:(dZ C rec p seen (k+1) s).s=(rec (iK p k seen) (if p.aC < 0 then ((dZ C rec p seen k s).weights ++ [1+((dZ C rec p seen k s).s.draw C 3).1],((dZ C rec p seen k s).s.draw C 3).2) else ((dZ C rec p seen k s).weights,(dZ C rec p seen k s).s)).2).2:=rfl;rw[e];have key:∀ t:MS,JM C 0 t->t.pending=s.pending - k->s.Fg.length<=t.Fg.length->JM C 0 (rec (iK p k seen) t).2/\(rec (iK p k seen) t).2.pending=s.pending - ((k+1:Nat):Int)/\s.Fg.length<=(rec (iK p k seen) t).2.Fg.length:=λt ht hp hn=>by
   obtain⟨a,b,c⟩:=hrec _ t (xJ hs) ht EN;exact⟨a,EN,EN⟩
  by_cases hp:p.aC < 0
  ·rw[L8 hp]; exact key _ (h1.at _) h2 h3
  ·rw[L6 hp]; exact key _ h1 h2 h3
theorem abR {C:MC} (hC:BL C):∀ (f level:Nat) (seen:List (List Int)) (s:MS),level+f=C.levels.length+1->level<=C.levels.length->(∀ l∈seen,l.length=level)->JM C 0 s->1<=s.pending ->
  JM C 0 (bW C f level seen s).2/\(bW C f level seen s).2.pending=s.pending - 1/\s.Fg.length < (bW C f level seen s).2.Fg.length
 | 0,level,seen,s,hf,hl,_,_,_=>by omega
 | f+1,level,seen,s,hf,hl,hs,h,hp=>by
  have h1:=h.push hp;have hn1:(s.Fg ++ [kN]).length=s.Fg.length+1:=aF;unfold bW;simp only;split
  ·obtain⟨a,b,c⟩:=h1.pY s.Fg.length;exact⟨a.less,b,by rw[c]; simp⟩
  rename_i hne
  split
  ·obtain⟨a,b,c⟩:=(h1.at (dR C.L s.at')).pY s.Fg.length;exact⟨a.less,b,by have c':=c; rw[show(pY C s.Fg.length (MS.draw C { s with pending:=s.pending - 1,Fg:=s.Fg ++ [kN] } 8).2).Fg.length=_ from c']; simp⟩
  have hpl:=hC.pl _ (getD_mem (L:=C.levels) (k:=level) EN);have h5:=hC.len;obtain⟨o1,o2,o3,o4,o5,o6⟩:=JM.open (h1.at (dR C.L s.at')) (C.levels.getD level default) EN (level:Int) seen (λl hl=>by rw[hs l hl]; omega);split
  ·obtain⟨a,b,c⟩:=o1.drop _ (C.levels.getD level default).aC o4;obtain⟨a2,b2,c2⟩:=a.pY s.Fg.length;rw[c,o3] at c2;exact⟨a2,(b2.trans b).trans o2,Nat.lt_of_lt_of_eq (show s.Fg.length < (s.Fg ++ [kN]).length by simp) c2.symm⟩
  rename_i hm
  obtain⟨S,hS⟩:=FH (nN C (C.levels.getD level default) (level:Int) seen { s with at':=dR C.L s.at',pending:=s.pending - 1,Fg:=s.Fg ++ [kN] });have e:nN C (C.levels.getD level default) (level:Int) seen (MS.draw C { s with pending:=s.pending - 1,Fg:=s.Fg ++ [kN] } 8).2=S:=hS.symm;rw[e] at hm ⊢;rw[<-hS] at o1 o2 o3 o4 o5 o6;have o2:S.2.2.pending=s.pending - 1:=o2;have o3:S.2.2.Fg=s.Fg ++ [kN]:=o3;rw[o2] at hm;have j4:JM C 0 { S.2.2 with pending:=S.2.2.pending+S.2.1 }:=⟨o1.vl,o1.vi,o1.il,by
   show(S.2.2.Fg.length:Int)+(S.2.2.pending+S.2.1)<=C.most;rw[o3,o2]; simp; omega,by
   show 0<=S.2.2.pending+S.2.1;have:=o1.p0; omega,o1.vs,o1.ac⟩
  obtain⟨k1,k2,k3⟩:=afg (C:=C) (rec:=bW C f (level+1)) (p:=C.levels.getD level default) hs (λsn t hsn ht hpt=>by
   obtain⟨a,b,c⟩:=abR hC f (level+1) sn t EN EN hsn ht hpt;exact⟨a,b,EN⟩) S.2.1.toNat _ j4 (by show(S.2.1.toNat:Int)<=S.2.2.pending+S.2.1; have:=o1.p0; omega)
  refine⟨k1.node _ _,?_,?_⟩
  ·have k2:(dZ C (bW C f (level+1)) (C.levels.getD level default) seen S.2.1.toNat { S.2.2 with pending:=S.2.2.pending+S.2.1 }).s.pending=S.2.2.pending+S.2.1 - S.2.1.toNat:=k2;show(dZ C (bW C f (level+1)) (C.levels.getD level default) seen S.2.1.toNat { S.2.2 with pending:=S.2.2.pending+S.2.1 }).s.pending=s.pending - 1;rw[k2]; omega
  ·have k3:S.2.2.Fg.length<=_:=k3;rw[o3,hn1] at k3;rw[He];exact k3
theorem OwnSl.same' {K:Knd α} {w w':FW} {v:F7} {L:List α} (h:OwnSl K w base et F v L) (hs:Same (λb=>F b\/v.ownBlock=some b) w w'):OwnSl K w' base et F v L:=by
 refine⟨⟨h.row.1,?_⟩,λq hq=>K.keep (h.fine q hq) (λ_ h _=>h) ⟨hs.size,λb hb hl=>hs.2 b (.inl hb.1) hl⟩⟩;rcases h.row.2 with hn | ⟨g,cap,cur,rfl,hg,hc,r⟩
 ·exact .inl hn
 ·exact .inr ⟨g,cap,cur,rfl,hg,by rw[hs.2 g (.inr rfl) (Array.getElem?_eq_some_iff.1 hc).1]; exact hc,r⟩
theorem OwnSl.widen {K:Knd α} {w:FW} {v:F7} {L:List α} (h:OwnSl K w base et F v L) (hF:∀ b,F b->b < w.heap.size->G b):OwnSl K w base et G v L :=
 ⟨h.row,λq hq=>K.keep (h.fine q hq) (λb hb hl=>⟨hF b hb.1 hl,hb.2⟩) (Gh _ _)⟩
theorem kY {K:Knd α} {w W:FW} {rest:List Oper} {o:Oper} {a:Act} {Q:Exit->Act->FW->Prop} (hgd:o.guard=none) (s x:Operand) (t et:TypeId) (bytes:Nat) (z:F7) (ht:Tryz.prog.underlying t=some (.slice et))
  (hi0:(Tryz.prog.info? et).map (λi=>(i.zero,i.size,i.bytes))=some (some z,K.n,bytes)) (hzc:z.cells.size=K.n) (hby:bytes<=1000)
  (ho:o.op = .call { callee:=.builtin .append,args:=#[s,x],argTypes:=#[t,t] })
  (base:Nat) (hbase:base<=w.heap.size) (v:F7) (L:List α) (hs:a.eval s=v) (q:α) (c:Array F7) (hc:c=(K.cells q).toArray) (hlen:L.length<=1000000)
  (hx:a.eval x = FQ (some ⟨w.heap.size,0,none⟩) 1 1) (hown:OwnSl K w base et F v L) (hq:K.fine w (Apart F v) q)
  (h:∀ g cap w',OwnSl K w' base et F (FQ (some ⟨g,0,none⟩) (L.length+1) cap) (L ++ [q])->Wrote (λb=>v.ownBlock=some b) w w'->(v.ownBlock=some g\/w.heap.size<=g)->w.heap.size < w'.heap.size ->
   wpList FY ops Q rest (a.put o.dst (FQ (some ⟨g,0,none⟩) (L.length+1) cap)) w') :
  wpList FY ops Q (o :: rest) a (w.alloc (.cells c et)):=by
 subst hc;refine zcE ?_;intro hm i0 hi hz0 hz1 hz2;refine wpList_append_lies (w.alloc (.cells (K.cells q).toArray et)) hgd s x t ho base et i0 z K.n bytes ht hi hz0 hz1 hz2 hzc K.pos v L.length _ hs (hown.row.alloc _) ⟨w.heap.size,0,none⟩ 1 1 (K.cells q) hx (by rw[Nat.one_mul]; exact K.len q) (Kq (heap_alloc_new _ _)) (K.one hq) EN (by unfold maxLen; omega) EN aG (w.alloc (.cells (K.cells q).toArray et)).heap.size rfl ?_;intro g cap w' h1 h2 h3 h4;have h5:=h2.size;simp only[KL] at h5 h3;refine Y6 ?_;intro hw e1 e2 p hp;have hp':K.fine w (Apart F v) p:=by
  rcases List.mem_append.1 hp with hp | hp
  ·exact hown.fine p hp
  ·rw[List.mem_singleton.1 hp];exact hq
 refine K.keep hp' (λb hb hl=>⟨hb.1,λe=>?_⟩) (hw.same λb hb=>hb.2);have e:some g=some b:=e;cases e
 rcases h3 with h3 | h3
 ·exact hb.2 h3
 ·omega
theorem nO {K:Knd α} {w W:FW} {o:Oper} {a:Act} {K':Act->FW->Prop} {Q:Exit->Act->FW->Prop} {E:Prop} (hgd:o.guard=none) (s x:Operand) (t et:TypeId) (bytes:Nat) (z:F7) (ht:Tryz.prog.underlying t=some (.slice et))
  (hi0:(Tryz.prog.info? et).map (λi=>(i.zero,i.size,i.bytes))=some (some z,K.n,bytes)) (hzc:z.cells.size=K.n) (hby:bytes<=1000)
  (ho:o.op = .call { callee:=.builtin .append,args:=#[s,x],argTypes:=#[t,t] })
  (base:Nat) (hbase:base<=w.heap.size) (v:F7) (L:List α) (hs:a.eval s=v) (q:α) (c:Array F7) (hc:c=(K.cells q).toArray) (hlen:L.length<=1000000)
  (hx:a.eval x = FQ (some ⟨w.heap.size,0,none⟩) 1 1) (hown:OwnSl K w base et F v L) (hq:K.fine w (Apart F v) q)
  (h:∀ g cap w',OwnSl K w' base et F (FQ (some ⟨g,0,none⟩) (L.length+1) cap) (L ++ [q])->Wrote (λb=>v.ownBlock=some b) w w'->(v.ownBlock=some g\/w.heap.size<=g)->w.heap.size < w'.heap.size ->
   K' (a.put o.dst (FQ (some ⟨g,0,none⟩) (L.length+1) cap)) w') :
  if Region.wanted o (yielded ops a.tmps)=true then Oper.wp FY o a (w.alloc (.cells c et)) K' Q else E:=by
 subst hc;refine zcE ?_;intro hm i0 hi hz0 hz1 hz2;refine step_append_lies (w.alloc (.cells (K.cells q).toArray et)) hgd s x t ho base et i0 z K.n bytes ht hi hz0 hz1 hz2 hzc K.pos v L.length _ hs (hown.row.alloc _) ⟨w.heap.size,0,none⟩ 1 1 (K.cells q) hx (by rw[Nat.one_mul]; exact K.len q) (Kq (heap_alloc_new _ _)) (K.one hq) EN (by unfold maxLen; omega) EN aG (w.alloc (.cells (K.cells q).toArray et)).heap.size rfl ?_;intro g cap w' h1 h2 h3 h4;have h5:=h2.size;simp only[KL] at h5 h3;refine Y6 ?_;intro hw e1 e2 p hp;have hp':K.fine w (Apart F v) p:=by
  rcases List.mem_append.1 hp with hp | hp
  ·exact hown.fine p hp
  ·rw[List.mem_singleton.1 hp];exact hq
 refine K.keep hp' (λb hb hl=>⟨hb.1,λe=>?_⟩) (hw.same λb hb=>hb.2);have e:some g=some b:=e;cases e
 rcases h3 with h3 | h3
 ·exact hb.2 h3
 ·omega
structure VV where
 v:View
 vs:F7
def agI:Knd VV where
 n:=4
 cells q:=[F6 F5 q.v.aC,F6 F5 q.v.level,q.vs,F6 F5 q.v.info]
 fine w F q:=Aj w F q.vs q.v.seen
 len _:=rfl
 pos:=aA
 one h u hu:=by
  obtain⟨A,c,hv,_⟩:=h;simp only[Il,Ho,or_false] at hu;rcases hu with rfl | rfl | rfl | rfl
  ·rfl
  ·rfl
  ·rw[hv];rfl
  ·rfl
 keep h hFG hs:=h.keep hFG hs
def aaf:Knd NV where
 n:=6
 cells q:=q.cells
 fine w F q:=q.fine w F
 len _:=rfl
 pos:=aA
 one h u hu:=by
  obtain⟨⟨A3,c3,h3,_⟩,⟨A4,c4,h4,_⟩,⟨A5,c5,h5,_⟩⟩:=h;simp only[NV.cells,Il,Ho,or_false] at hu;rcases hu with rfl | rfl | rfl | rfl | rfl | rfl
  ·rfl
  ·rfl
  ·rfl
  ·rw[h3];rfl
  ·rw[h4];rfl
  ·rw[h5];rfl
 keep h hFG hs:=h.keep hFG hs
def al6:Knd Inf where
 n:=2
 cells q:=vV q
 fine _ _ _:=True
 len _:=rfl
 pos:=aA
 one _ u hu:=by
  simp only[vV,Il,Ho,or_false] at hu;rcases hu with rfl | rfl <;> rfl
 keep _ _ _:=trivial
def acP:Knd Place where
 n:=3
 cells q:=[F6 F5 q.aC,F6 F5 q.many,F6 F5 q.seen]
 fine _ _ _:=True
 len _:=rfl
 pos:=aA
 one _ u hu:=by
  simp only[Il,Ho,or_false] at hu;rcases hu with rfl | rfl | rfl <;> rfl
 keep _ _ _:=trivial
def Mut (mb db:Nat) (vv vn vi:F7):FI:=λb=>b=mb\/b=db\/vv.ownBlock=some b\/vn.ownBlock=some b\/vi.ownBlock=some b
structure ML where
 base:Nat
 mb:Nat
 db:Nat
 F:FI
 A:Option Addr
 c:Nat
 vl:F7
structure MAt (C:MC) (M:ML) (Fd:FI) (vv vn vi:F7) (Lv:List VV) (Ln:List NV) (s:MS) (W:FW):Prop where
 box:Row W M.mb 78 [.pointer (some ⟨M.db,0,none⟩),M.vl,vv,F6 F5 C.most,F6 F5 s.pending,Gj C.zero,Gj false,F6 F5 C.ay,vn,vi]
 dr:Row W M.db 34 [.slice M.A C.L.length M.c,F6 F5 (s.at':Int)]
 list:Aj W M.F (.slice M.A C.L.length M.c) C.L
 lev:OwnSl acP W M.base 81 Fd M.vl C.levels
 views:OwnSl agI W M.base 184 Fd vv Lv
 Fg:OwnSl aaf W M.base 127 Fd vn Ln
 Fh:OwnSl al6 W M.base 37 Fd vi s.Fh
 qK:Lv.map VV.v=s.views
 rD:Ln.map NV.n=s.Fg
 out:∀ b,M.F b->b < M.base
 foot:∀ b,Fd b->M.base<=b/\b < W.heap.size/\¬ Mut M.mb M.db vv vn vi b
 fK:M.base<=M.mb/\M.base<=M.db/\M.mb≠M.db
 kZ:∀ b,M.vl.ownBlock=some b->¬ Mut M.mb M.db vv vn vi b
 dQ:∀ b,vv.ownBlock=some b->b≠M.mb/\b≠M.db/\vn.ownBlock≠some b/\vi.ownBlock≠some b
 eX:∀ b,vn.ownBlock=some b->b≠M.mb/\b≠M.db/\vi.ownBlock≠some b
 gK:∀ b,vi.ownBlock=some b->b≠M.mb/\b≠M.db
 draws:s.at'<=C.L.length/\C.L.length<=9223372036854775807
section
variable {C:MC} {M:ML} {Fd:FI} {vv vn vi:F7} {Lv:List VV} {Ln:List NV} {s:MS} {W W':FW}
def MAt.All (_:MAt C M Fd vv vn vi Lv Ln s W):FI:=λb=>M.F b\/Fd b\/Mut M.mb M.db vv vn vi b\/M.vl.ownBlock=some b
theorem MAt.on (h:MAt C M Fd vv vn vi Lv Ln s W) (hs:Same h.All W W'):MAt C M Fd vv vn vi Lv Ln s W' where
 box:=h.box.of_block (hs.2 _ (.inr (.inr (.inl (.inl rfl)))) h.box.lt)
 dr:=h.dr.of_block (hs.2 _ (.inr (.inr (.inl (.inr (.inl rfl))))) h.dr.lt)
 list:=h.list.on ⟨hs.size,λb hb=>hs.2 b (.inl hb)⟩
 lev:=h.lev.same' ⟨hs.size,λb hb=>hs.2 b (hb.elim (λh=>.inr (.inl h)) λh=>.inr (.inr (.inr h)))⟩
 views:=h.views.same' ⟨hs.size,λb hb=>hs.2 b (hb.elim (λh=>.inr (.inl h)) λh=>.inr (.inr (.inl (.inr (.inr (.inl h))))))⟩
 Fg:=h.Fg.same' ⟨hs.size,λb hb=>hs.2 b (hb.elim (λh=>.inr (.inl h)) λh=>.inr (.inr (.inl (.inr (.inr (.inr (.inl h)))))))⟩
 Fh:=h.Fh.same' ⟨hs.size,λb hb=>hs.2 b (hb.elim (λh=>.inr (.inl h)) λh=>.inr (.inr (.inl (.inr (.inr (.inr (.inr h)))))))⟩
 qK:=h.qK
 rD:=h.rD
 out:=h.out
 foot b hb:=⟨(h.foot b hb).1,by have:=(h.foot b hb).2.1; have:=hs.size; omega,(h.foot b hb).2.2⟩
 fK:=h.fK
 kZ:=h.kZ
 dQ:=h.dQ
 eX:=h.eX
 gK:=h.gK
 draws:=h.draws
theorem MAt.below (h:MAt C M Fd vv vn vi Lv Ln s W) (hb:Below W.heap.size W W'):MAt C M Fd vv vn vi Lv Ln s W':=h.on (Below.same' hb _)
theorem OwnSl.wrote {K:Knd α} {v:F7} {L:List α} (h:OwnSl K W base et F v L) (hw:Wrote K' W W') (hK:∀ b,(F b\/v.ownBlock=some b)->¬ K' b):OwnSl K W' base et F v L:=h.same' (hw.same hK)
theorem ajm {vv vn vi:F7} (h:¬ Mut mb db vv vn vi b):b≠mb/\b≠db/\vv.ownBlock≠some b/\vn.ownBlock≠some b/\vi.ownBlock≠some b :=
 ⟨λe=>h (.inl e),λe=>h (.inr (.inl e)),λe=>h (.inr (.inr (.inl e))),λe=>h (.inr (.inr (.inr (.inl e)))),λe=>h (.inr (.inr (.inr (.inr e))))⟩
theorem uX {vv vn vi:F7} (h1:b≠mb) (h2:b≠db) (h3:vv.ownBlock≠some b) (h4:vn.ownBlock≠some b) (h5:vi.ownBlock≠some b):¬ Mut mb db vv vn vi b:=by
 rintro(h | h | h | h | h)
 ·exact h1 h
 ·exact h2 h
 ·exact h3 h
 ·exact h4 h
 ·exact h5 h
theorem MAt.fdn (h:MAt C M Fd vv vn vi Lv Ln s W) (hb:Fd b):b≠M.mb/\b≠M.db/\vv.ownBlock≠some b/\vn.ownBlock≠some b/\vi.ownBlock≠some b:=ajm (h.foot b hb).2.2
theorem MAt.lvn (h:MAt C M Fd vv vn vi Lv Ln s W) (hb:M.vl.ownBlock=some b):b≠M.mb/\b≠M.db/\vv.ownBlock≠some b/\vn.ownBlock≠some b/\vi.ownBlock≠some b:=ajm (h.kZ b hb)
theorem MAt.abG (h:MAt C M Fd vv vn vi Lv Ln s W) (hb:M.F b):b < M.base:=h.out b hb
theorem MAt.drawn (h:MAt C M Fd vv vn vi Lv Ln s W) (hr:Row W' M.db 34 [.slice M.A C.L.length M.c,F6 F5 (dR C.L s.at':Int)]) (hw:Wrote (λb=>b=M.db) W W'):MAt C M Fd vv vn vi Lv Ln { s with at':=dR C.L s.at' } W' where
 box:=h.box.wrote hw h.fK.2.2
 dr:=hr
 list:=h.list.on (hw.same λb hb e=>by have:=h.abG hb; have:=h.fK.2.1; subst e; omega)
 lev:=h.lev.wrote hw λb hb=>hb.elim (λhb=>(h.fdn hb).2.1) λhb=>(h.lvn hb).2.1
 views:=h.views.wrote hw λb hb=>hb.elim (λhb=>(h.fdn hb).2.1) λhb=>(h.dQ b hb).2.1
 Fg:=h.Fg.wrote hw λb hb=>hb.elim (λhb=>(h.fdn hb).2.1) λhb=>(h.eX b hb).2.1
 Fh:=h.Fh.wrote hw λb hb=>hb.elim (λhb=>(h.fdn hb).2.1) λhb=>(h.gK b hb).2
 qK:=h.qK
 rD:=h.rD
 out:=h.out
 foot b hb:=⟨(h.foot b hb).1,by have:=(h.foot b hb).2.1; have:=hw.size; omega,(h.foot b hb).2.2⟩
 fK:=h.fK
 kZ:=h.kZ
 dQ:=h.dQ
 eX:=h.eX
 gK:=h.gK
 draws:=⟨wP h.draws.1,h.draws.2⟩
theorem agJ (h:MAt C M Fd vv vn vi Lv Ln s W) (n:Int) (hn:1<=n) (hn2:n<=1000) :
  Calls FY 36 #[.pointer (some ⟨M.db,0,none⟩),F6 F5 n] W λe w'=>e = .returned (F6 F5 (s.draw C n).1)/\MAt C M Fd vv vn vi Lv Ln (s.draw C n).2 w'/\Wrote (λb=>b=M.db) W w':=by
 refine(next_any W M.F M.db M.A M.c C.L s.at' n h.dr h.list (λhb=>by have:=h.abG hb; have:=h.fK.2.1; omega) hn hn2 h.draws.2).mono ?_;rintro e w' ⟨rfl,hr,hw⟩;exact⟨rfl,h.drawn hr hw,hw⟩
theorem MAt.acQ (h:MAt C M Fd vv vn vi Lv Ln s W) (z:Int):MAt C M Fd vv vn vi Lv Ln { s with pending:=z } (W.setCell ⟨M.mb,4,none⟩ (F6 F5 z)):=by
 have hw:Wrote (λb=>b=M.mb) W (W.setCell ⟨M.mb,4,none⟩ (F6 F5 z)):=Iu (K:=λb=>b=M.mb) (p:=⟨M.mb,4,none⟩) (H6 _ _) (.inl rfl) _;exact {
  box:=h.box.set 4 _
  dr:=h.dr.wrote hw (λe=>h.fK.2.2 e.symm)
  list:=h.list.on (hw.same λb hb e=>by have:=h.abG hb; have:=h.fK.1; subst e; omega)
  lev:=h.lev.wrote hw λb hb=>hb.elim (λhb=>(h.fdn hb).1) λhb=>(h.lvn hb).1
  views:=h.views.wrote hw λb hb=>hb.elim (λhb=>(h.fdn hb).1) λhb=>(h.dQ b hb).1
  Fg:=h.Fg.wrote hw λb hb=>hb.elim (λhb=>(h.fdn hb).1) λhb=>(h.eX b hb).1
  Fh:=h.Fh.wrote hw λb hb=>hb.elim (λhb=>(h.fdn hb).1) λhb=>(h.gK b hb).1
  qK:=h.qK
  rD:=h.rD
  out:=h.out
  foot:=λb hb=>⟨(h.foot b hb).1,by have:=(h.foot b hb).2.1; have:=hw.size; omega,(h.foot b hb).2.2⟩
  fK:=h.fK
  kZ:=h.kZ
  dQ:=h.dQ
  eX:=h.eX
  gK:=h.gK
  draws:=h.draws
 }
theorem MAt.widen {Fe:FI} (h:MAt C M Fd vv vn vi Lv Ln s W) (hF:∀ b,Fd b->Fe b) (hfe:∀ b,Fe b->M.base<=b/\b < W.heap.size/\¬ Mut M.mb M.db vv vn vi b):MAt C M Fe vv vn vi Lv Ln s W :=
 { h with lev:=h.lev.widen λb hb _=>hF b hb,views:=h.views.widen λb hb _=>hF b hb,Fg:=h.Fg.widen λb hb _=>hF b hb,Fh:=h.Fh.widen λb hb _=>hF b hb,foot:=hfe }
theorem MAt.aij (h:MAt C M Fd vv vn vi Lv Ln s W) {q:VV} (hown:OwnSl agI W' M.base 184 Fd (FQ (some ⟨g,0,none⟩) (Lv.length+1) cap) (Lv ++ [q])) (hw:Wrote (λb=>vv.ownBlock=some b) W W') (hat:vv.ownBlock=some g\/W.heap.size<=g) (hsz:W.heap.size < W'.heap.size) :
  ∃ W2,W2=W'.setCell ⟨M.mb,2,none⟩ (FQ (some ⟨g,0,none⟩) (Lv.length+1) cap)/\MAt C M Fd (FQ (some ⟨g,0,none⟩) (Lv.length+1) cap) vn vi (Lv ++ [q]) Ln { s with views:=s.views ++ [q.v] } W2/\Wrote (Mut M.mb M.db vv vn vi) W W2:=by
 have hb':=h.box.wrote hw λe=>(h.dQ _ e).1 rfl
 have hd':=h.dr.wrote hw λe=>(h.dQ _ e).2.1 rfl
 have hl':=h.list.on (hw.same λb hb e=>by have:=h.abG hb; have:=(h.views.row.lt b e).1; omega);have agK:=h.lev.wrote hw λb hb=>hb.elim (λhb=>(h.fdn hb).2.2.1) λhb=>(h.lvn hb).2.2.1
 have aoa:=h.Fg.wrote hw λb hb=>hb.elim (λhb=>(h.fdn hb).2.2.1) λhb=>λe=>(h.dQ b e).2.2.1 hb
 have aob:=h.Fh.wrote hw λb hb=>hb.elim (λhb=>(h.fdn hb).2.2.1) λhb=>λe=>(h.dQ b e).2.2.2 hb
 have gne:∀ b,b < W.heap.size->vv.ownBlock≠some b->g≠b:=λb hb hn e=>by
  subst e;rcases hat with hat | hat
  ·exact hn hat
  ·omega
 have gmb:g≠M.mb:=gne _ h.box.lt λe=>(h.dQ _ e).1 rfl
 have gdb:g≠M.db:=gne _ h.dr.lt λe=>(h.dQ _ e).2.1 rfl
 have gfd:∀ b,Fd b->g≠b:=λb hb=>gne b (h.foot b hb).2.1 (h.fdn hb).2.2.1
 have gvl:∀ b,M.vl.ownBlock=some b->g≠b:=λb hb=>gne b (h.lev.row.lt b hb).2 (h.lvn hb).2.2.1
 have gvn:∀ b,vn.ownBlock=some b->g≠b:=λb hb=>gne b (h.Fg.row.lt b hb).2 (λe=>(h.dQ b e).2.2.1 hb)
 have gvi:∀ b,vi.ownBlock=some b->g≠b:=λb hb=>gne b (h.Fh.row.lt b hb).2 (λe=>(h.dQ b e).2.2.2 hb)
 have hw2:Wrote (λb=>b=M.mb) W' (W'.setCell ⟨M.mb,2,none⟩ (FQ (some ⟨g,0,none⟩) (Lv.length+1) cap)):=Iu (K:=λb=>b=M.mb) (p:=⟨M.mb,2,none⟩) (H6 _ _) (.inl rfl) _;have own:∀ b,(Value.slice (some ⟨g,0,none⟩) (Lv.length+1) cap).ownBlock=some b->b=g:=λb hb=>by
  exact zcM
 refine⟨_,rfl,?_,?_⟩
 ·exact {
   box:=hb'.set 2 _
   dr:=hd'.wrote hw2 (λe=>h.fK.2.2 e.symm)
   list:=hl'.on (hw2.same λb hb e=>by have:=h.abG hb; have:=h.fK.1; subst e; omega)
   lev:=agK.wrote hw2 λb hb=>hb.elim (λhb=>(h.fdn hb).1) λhb=>(h.lvn hb).1
   views:=hown.wrote hw2 λb hb=>hb.elim (λhb=>(h.fdn hb).1) λhb e=>gmb ((own b hb)▸e)
   Fg:=aoa.wrote hw2 λb hb=>hb.elim (λhb=>(h.fdn hb).1) λhb=>(h.eX b hb).1
   Fh:=aob.wrote hw2 λb hb=>hb.elim (λhb=>(h.fdn hb).1) λhb=>(h.gK b hb).1
   qK:=by rw[GL,h.qK]; rfl
   rD:=h.rD
   out:=h.out
   foot:=λb hb=>⟨(h.foot b hb).1,by have:=(h.foot b hb).2.1; simp; omega,uX (h.fdn hb).1 (h.fdn hb).2.1 (λe=>gfd b hb (own b e).symm) (h.fdn hb).2.2.2.1 (h.fdn hb).2.2.2.2⟩
   fK:=h.fK
   kZ:=λb hb=>uX (h.lvn hb).1 (h.lvn hb).2.1 (λe=>gvl b hb (own b e).symm) (h.lvn hb).2.2.2.1 (h.lvn hb).2.2.2.2
   dQ:=λb hb=>by
    have:=own b hb;subst this;exact⟨gmb,gdb,λe=>gvn b e rfl,λe=>gvi b e rfl⟩
   eX:=h.eX
   gK:=h.gK
   draws:=h.draws
  }
 ·exact Wrote.trans ⟨hw.os,hw.tape,hw.output,hw.size,λb hl hb=>hw.block b hl λe=>hb (.inr (.inr (.inl e)))⟩ ⟨hw2.os,hw2.tape,hw2.output,hw2.size,λb hl hb=>hw2.block b hl λe=>hb (.inl e)⟩
theorem MAt.aik (h:MAt C M Fd vv vn vi Lv Ln s W) {q:NV} (hown:OwnSl aaf W' M.base 127 Fd (FQ (some ⟨g,0,none⟩) (Ln.length+1) cap) (Ln ++ [q])) (hw:Wrote (λb=>vn.ownBlock=some b) W W') (hat:vn.ownBlock=some g\/W.heap.size<=g) (hsz:W.heap.size < W'.heap.size) :
  ∃ W2,W2=W'.setCell ⟨M.mb,8,none⟩ (FQ (some ⟨g,0,none⟩) (Ln.length+1) cap)/\MAt C M Fd vv (FQ (some ⟨g,0,none⟩) (Ln.length+1) cap) vi Lv (Ln ++ [q]) { s with Fg:=s.Fg ++ [q.n] } W2/\Wrote (Mut M.mb M.db vv vn vi) W W2:=by
 have hb':=h.box.wrote hw λe=>(h.eX _ e).1 rfl
 have hd':=h.dr.wrote hw λe=>(h.eX _ e).2.1 rfl
 have hl':=h.list.on (hw.same λb hb e=>by have:=h.abG hb; have:=(h.Fg.row.lt b e).1; omega);have agK:=h.lev.wrote hw λb hb=>hb.elim (λhb=>(h.fdn hb).2.2.2.1) λhb=>(h.lvn hb).2.2.2.1
 have aoc:=h.views.wrote hw λb hb=>hb.elim (λhb=>(h.fdn hb).2.2.2.1) λhb=>(h.dQ b hb).2.2.1
 have aob:=h.Fh.wrote hw λb hb=>hb.elim (λhb=>(h.fdn hb).2.2.2.1) λhb=>λe=>(h.eX b e).2.2 hb
 have gne:∀ b,b < W.heap.size->vn.ownBlock≠some b->g≠b:=λb hb hn e=>by
  subst e;rcases hat with hat | hat
  ·exact hn hat
  ·omega
 have gmb:g≠M.mb:=gne _ h.box.lt λe=>(h.eX _ e).1 rfl
 have gdb:g≠M.db:=gne _ h.dr.lt λe=>(h.eX _ e).2.1 rfl
 have gfd:∀ b,Fd b->g≠b:=λb hb=>gne b (h.foot b hb).2.1 (h.fdn hb).2.2.2.1
 have gvl:∀ b,M.vl.ownBlock=some b->g≠b:=λb hb=>gne b (h.lev.row.lt b hb).2 (h.lvn hb).2.2.2.1
 have gvv:∀ b,vv.ownBlock=some b->g≠b:=λb hb=>gne b (h.views.row.lt b hb).2 ((h.dQ b hb).2.2.1)
 have gvi:∀ b,vi.ownBlock=some b->g≠b:=λb hb=>gne b (h.Fh.row.lt b hb).2 (λe=>(h.eX b e).2.2 hb)
 have hw2:Wrote (λb=>b=M.mb) W' (W'.setCell ⟨M.mb,8,none⟩ (FQ (some ⟨g,0,none⟩) (Ln.length+1) cap)):=Iu (K:=λb=>b=M.mb) (p:=⟨M.mb,8,none⟩) (H6 _ _) (.inl rfl) _;have own:∀ b,(Value.slice (some ⟨g,0,none⟩) (Ln.length+1) cap).ownBlock=some b->b=g:=λb hb=>by
  exact zcM
 refine⟨_,rfl,?_,?_⟩
 ·exact {
   box:=hb'.set 8 _
   dr:=hd'.wrote hw2 (λe=>h.fK.2.2 e.symm)
   list:=hl'.on (hw2.same λb hb e=>by have:=h.abG hb; have:=h.fK.1; subst e; omega)
   lev:=agK.wrote hw2 λb hb=>hb.elim (λhb=>(h.fdn hb).1) λhb=>(h.lvn hb).1
   views:=aoc.wrote hw2 λb hb=>hb.elim (λhb=>(h.fdn hb).1) λhb=>(h.dQ b hb).1
   Fg:=hown.wrote hw2 λb hb=>hb.elim (λhb=>(h.fdn hb).1) λhb e=>gmb ((own b hb)▸e)
   Fh:=aob.wrote hw2 λb hb=>hb.elim (λhb=>(h.fdn hb).1) λhb=>(h.gK b hb).1
   qK:=h.qK
   rD:=by rw[GL,h.rD]; rfl
   out:=h.out
   foot:=λb hb=>⟨(h.foot b hb).1,by have:=(h.foot b hb).2.1; simp; omega,uX (h.fdn hb).1 (h.fdn hb).2.1 (h.fdn hb).2.2.1 (λe=>gfd b hb (own b e).symm) (h.fdn hb).2.2.2.2⟩
   fK:=h.fK
   kZ:=λb hb=>uX (h.lvn hb).1 (h.lvn hb).2.1 (h.lvn hb).2.2.1 (λe=>gvl b hb (own b e).symm) (h.lvn hb).2.2.2.2
   dQ:=λb hb=>⟨(h.dQ b hb).1,(h.dQ b hb).2.1,λe=>gvv b hb (own b e).symm,(h.dQ b hb).2.2.2⟩
   eX:=λb hb=>by
    have:=own b hb;subst this;exact⟨gmb,gdb,λe=>gvi b e rfl⟩
   gK:=h.gK
   draws:=h.draws
  }
 ·exact Wrote.trans ⟨hw.os,hw.tape,hw.output,hw.size,λb hl hb=>hw.block b hl λe=>hb (.inr (.inr (.inr (.inl e))))⟩ ⟨hw2.os,hw2.tape,hw2.output,hw2.size,λb hl hb=>hw2.block b hl λe=>hb (.inl e)⟩
theorem MAt.ail (h:MAt C M Fd vv vn vi Lv Ln s W) {q:Inf} (hown:OwnSl al6 W' M.base 37 Fd (FQ (some ⟨g,0,none⟩) (s.Fh.length+1) cap) (s.Fh ++ [q])) (hw:Wrote (λb=>vi.ownBlock=some b) W W') (hat:vi.ownBlock=some g\/W.heap.size<=g) (hsz:W.heap.size < W'.heap.size) :
  ∃ W2,W2=W'.setCell ⟨M.mb,9,none⟩ (FQ (some ⟨g,0,none⟩) (s.Fh.length+1) cap)/\MAt C M Fd vv vn (FQ (some ⟨g,0,none⟩) (s.Fh.length+1) cap) Lv Ln { s with Fh:=s.Fh ++ [q] } W2/\Wrote (Mut M.mb M.db vv vn vi) W W2:=by
 have hb':=h.box.wrote hw λe=>(h.gK _ e).1 rfl
 have hd':=h.dr.wrote hw λe=>(h.gK _ e).2 rfl
 have hl':=h.list.on (hw.same λb hb e=>by have:=h.abG hb; have:=(h.Fh.row.lt b e).1; omega);have agK:=h.lev.wrote hw λb hb=>hb.elim (λhb=>(h.fdn hb).2.2.2.2) λhb=>(h.lvn hb).2.2.2.2
 have aoc:=h.views.wrote hw λb hb=>hb.elim (λhb=>(h.fdn hb).2.2.2.2) λhb=>(h.dQ b hb).2.2.2
 have aoa:=h.Fg.wrote hw λb hb=>hb.elim (λhb=>(h.fdn hb).2.2.2.2) λhb=>(h.eX b hb).2.2
 have gne:∀ b,b < W.heap.size->vi.ownBlock≠some b->g≠b:=λb hb hn e=>by
  subst e;rcases hat with hat | hat
  ·exact hn hat
  ·omega
 have gmb:g≠M.mb:=gne _ h.box.lt λe=>(h.gK _ e).1 rfl
 have gdb:g≠M.db:=gne _ h.dr.lt λe=>(h.gK _ e).2 rfl
 have gfd:∀ b,Fd b->g≠b:=λb hb=>gne b (h.foot b hb).2.1 (h.fdn hb).2.2.2.2
 have gvl:∀ b,M.vl.ownBlock=some b->g≠b:=λb hb=>gne b (h.lev.row.lt b hb).2 (h.lvn hb).2.2.2.2
 have gvv:∀ b,vv.ownBlock=some b->g≠b:=λb hb=>gne b (h.views.row.lt b hb).2 ((h.dQ b hb).2.2.2)
 have gvn:∀ b,vn.ownBlock=some b->g≠b:=λb hb=>gne b (h.Fg.row.lt b hb).2 ((h.eX b hb).2.2)
 have hw2:Wrote (λb=>b=M.mb) W' (W'.setCell ⟨M.mb,9,none⟩ (FQ (some ⟨g,0,none⟩) (s.Fh.length+1) cap)):=Iu (K:=λb=>b=M.mb) (p:=⟨M.mb,9,none⟩) (H6 _ _) (.inl rfl) _;have own:∀ b,(Value.slice (some ⟨g,0,none⟩) (s.Fh.length+1) cap).ownBlock=some b->b=g:=λb hb=>by
  exact zcM
 refine⟨_,rfl,?_,?_⟩
 ·exact {
   box:=hb'.set 9 _
   dr:=hd'.wrote hw2 (λe=>h.fK.2.2 e.symm)
   list:=hl'.on (hw2.same λb hb e=>by have:=h.abG hb; have:=h.fK.1; subst e; omega)
   lev:=agK.wrote hw2 λb hb=>hb.elim (λhb=>(h.fdn hb).1) λhb=>(h.lvn hb).1
   views:=aoc.wrote hw2 λb hb=>hb.elim (λhb=>(h.fdn hb).1) λhb=>(h.dQ b hb).1
   Fg:=aoa.wrote hw2 λb hb=>hb.elim (λhb=>(h.fdn hb).1) λhb=>(h.eX b hb).1
   Fh:=hown.wrote hw2 λb hb=>hb.elim (λhb=>(h.fdn hb).1) λhb e=>gmb ((own b hb)▸e)
   qK:=h.qK
   rD:=h.rD
   out:=h.out
   foot:=λb hb=>⟨(h.foot b hb).1,by have:=(h.foot b hb).2.1; simp; omega,uX (h.fdn hb).1 (h.fdn hb).2.1 (h.fdn hb).2.2.1 (h.fdn hb).2.2.2.1 (λe=>gfd b hb (own b e).symm)⟩
   fK:=h.fK
   kZ:=λb hb=>uX (h.lvn hb).1 (h.lvn hb).2.1 (h.lvn hb).2.2.1 (h.lvn hb).2.2.2.1 (λe=>gvl b hb (own b e).symm)
   dQ:=λb hb=>⟨(h.dQ b hb).1,(h.dQ b hb).2.1,(h.dQ b hb).2.2.1,λe=>gvv b hb (own b e).symm⟩
   eX:=λb hb=>⟨(h.eX b hb).1,(h.eX b hb).2.1,λe=>gvn b hb (own b e).symm⟩
   gK:=λb hb=>by
    have:=own b hb;subst this;exact⟨gmb,gdb⟩
   draws:=h.draws
  }
 ·exact Wrote.trans ⟨hw.os,hw.tape,hw.output,hw.size,λb hl hb=>hw.block b hl λe=>hb (.inr (.inr (.inr (.inr e))))⟩ ⟨hw2.os,hw2.tape,hw2.output,hw2.size,λb hl hb=>hw2.block b hl λe=>hb (.inl e)⟩
theorem OwnSl.short {K:Knd α} {w:FW} {L:List α} {q:α} (h:OwnSl K w base et F (FQ (some ⟨g,0,none⟩) n cap) (L ++ [q])):OwnSl K w base et F (FQ (some ⟨g,0,none⟩) L.length cap) L:=by
 have e1:(L ++ [q]).length=L.length+1:=aF;have e2:(L ++ [q]).flatMap K.cells=L.flatMap K.cells++K.cells q:=by simp[Le]
 have hr:=h.row;have hfl:(L.flatMap K.cells).length=L.length*K.n:=by
  have h1:=hr.1;rw[e1,e2,List.length_append,K.len,Nat.add_mul] at h1;omega
 refine⟨⟨hfl,?_⟩,λp hp=>h.fine p (List.mem_append_left _ hp)⟩;rcases hr.2 with⟨h',_⟩ | ⟨g',cap',cur,h',hb,hg,hnc,hm,hsz,htake⟩
 ·simp at h'
 ·simp only[Value.slice.injEq,Hu,Addr.mk.injEq,and_true,true_and] at h';obtain⟨rfl,_,rfl⟩:=h';refine .inr ⟨g,cap,cur,rfl,hb,hg,EN,hm,hsz,?_⟩;have hmin:L.length*K.n<=(L ++ [q]).length*K.n:=Nat.mul_le_mul_right _ EN;have h2:=congrArg (List.take (L.length*K.n)) htake;rw[e2,List.take_take,Nat.min_eq_left hmin,List.take_append_of_le_length EN] at h2;rw[h2,Gl EN]
theorem aod (A:List F7):∀ (x0 x1 x2 x3 x4 x5:F7) (B:List F7) (y0 y1 y2 y3 y4 y5:F7),((((((A++x0 :: x1 :: x2 :: x3 :: x4 :: x5 :: B).set A.length y0).set (A.length+1) y1).set (A.length+2) y2).set (A.length+3) y3).set (A.length+4) y4).set (A.length+5) y5=A++y0 :: y1 :: y2 :: y3 :: y4 :: y5 :: B:=by
 induction A with
 | nil=>intros; rfl
 | cons a A ih =>
  intro x0 x1 x2 x3 x4 x5 B y0 y1 y2 y3 y4 y5;have:=ih x0 x1 x2 x3 x4 x5 B y0 y1 y2 y3 y4 y5;simp only[List.length_cons,List.cons_append,Nat.add_right_comm _ 1 _,List.set_cons_succ];rw[this]
theorem aks {L:List NV} {x:NV} (hx:L[i]? = some x) (q:NV):(L.set i q).flatMap NV.cells=((((((L.flatMap NV.cells).set (i*6) (F6 F5 q.n.kind)).set (i*6+1) (F6 F5 q.n.aC)).set (i*6+2) (F6 F5 q.n.info)).set (i*6+3) q.v3).set (i*6+4) q.v4).set (i*6+5) q.v5:=by
 have hl:=FD hx;have e:L=L.take i++x :: L.drop (i+1):=by
  have h:=List.getElem?_eq_some_iff.1 hx;obtain⟨h1,h2⟩:=h;rw[<-h2,List.getElem_cons_drop,List.take_append_drop]
 have hlen:((L.take i).flatMap NV.cells).length=i*6:=by rw[alY,G5];omega
 have e2:L.set i q=L.take i++q :: L.drop (i+1):=by rw[List.set_eq_take_append_cons_drop,L8 hl]
 have e3:L.flatMap NV.cells=(L.take i).flatMap NV.cells++(F6 F5 x.n.kind) :: (F6 F5 x.n.aC) :: (F6 F5 x.n.info) :: x.v3 :: x.v4 :: x.v5 :: (L.drop (i+1)).flatMap NV.cells:=by
  conv=>lhs; rw[e]
  rw[Le,Kt];rfl
 rw[e2,e3,Le,Kt,<-hlen,aod];rfl
theorem MAt.setNode (h:MAt C M Fd vv vn vi Lv Ln s W) (hv:vn = FQ (some ⟨g,0,none⟩) Ln.length cap) (hi:i < Ln.length) (q:NV) (hq:q.fine W Fd) :
  ∃ W',W'=((((((W.setCell ⟨g,i*6,none⟩ (F6 F5 q.n.kind)).setCell ⟨g,i*6+1,none⟩ (F6 F5 q.n.aC)).setCell ⟨g,i*6+2,none⟩ (F6 F5 q.n.info)).setCell ⟨g,i*6+3,none⟩ q.v3).setCell ⟨g,i*6+4,none⟩ q.v4).setCell ⟨g,i*6+5,none⟩ q.v5) /\
   MAt C M Fd vv vn vi Lv (Ln.set i q) { s with Fg:=s.Fg.set i q.n } W'/\Wrote (λb=>b=g) W W':=by
 subst hv;obtain⟨x,hx⟩:=FC hi;have hw:Wrote (λb=>b=g) W ((((((W.setCell ⟨g,i*6,none⟩ (F6 F5 q.n.kind)).setCell ⟨g,i*6+1,none⟩ (F6 F5 q.n.aC)).setCell ⟨g,i*6+2,none⟩ (F6 F5 q.n.info)).setCell ⟨g,i*6+3,none⟩ q.v3).setCell ⟨g,i*6+4,none⟩ q.v4).setCell ⟨g,i*6+5,none⟩ q.v5):=by
  have h0:Wrote (λb=>b=g) W W:=H6 _ _;exact(((((h0.setCell (p:=⟨g,i*6,none⟩) (.inl rfl) _).setCell (p:=⟨g,i*6+1,none⟩) (.inl rfl) _).setCell (p:=⟨g,i*6+2,none⟩) (.inl rfl) _).setCell (p:=⟨g,i*6+3,none⟩) (.inl rfl) _).setCell (p:=⟨g,i*6+4,none⟩) (.inl rfl) _).setCell (p:=⟨g,i*6+5,none⟩) (.inl rfl) _
 have hfd:∀ b,Fd b->b≠g:=λb hb e=>(h.fdn hb).2.2.2.1 (by rw[e]; rfl)
 have hrow:=((((((h.Fg.row.stored (i*6) (F6 F5 q.n.kind)).1.stored (i*6+1) (F6 F5 q.n.aC)).1.stored (i*6+2) (F6 F5 q.n.info)).1.stored (i*6+3) q.v3).1.stored (i*6+4) q.v4).1.stored (i*6+5) q.v5).1;refine⟨_,rfl,?_,hw⟩;exact {
  box:=h.box.wrote hw λe=>(h.eX g rfl).1 e.symm
  dr:=h.dr.wrote hw λe=>(h.eX g rfl).2.1 e.symm
  list:=h.list.on (hw.same λb hb e=>by have:=h.abG hb; have:=(h.Fg.row.lt g rfl).1; subst e; omega)
  lev:=h.lev.wrote hw λb hb=>hb.elim (λhb=>hfd b hb) λhb e=>(h.lvn hb).2.2.2.1 (by rw[e]; rfl)
  views:=h.views.wrote hw λb hb=>hb.elim (λhb=>hfd b hb) λhb e=>(h.dQ b hb).2.2.1 (by rw[e]; rfl)
  Fg:=by
   have hl:(Ln.set i q).length=Ln.length:=He;refine⟨?_,λp hp=>?_⟩
   ·rw[hl];have:=aks hx q;rw[show(Ln.set i q).flatMap aaf.cells=(Ln.set i q).flatMap NV.cells from rfl,this];exact hrow
   ·have hp':aaf.fine W (Apart Fd (FQ (some ⟨g,0,none⟩) Ln.length cap)) p:=by
     rcases List.mem_or_eq_of_mem_set hp with hp | rfl
     ·exact h.Fg.fine p hp
     ·exact aaf.keep (q:=p) hq (λb hb _=>⟨hb,λe=>hfd b hb (by have e':some g=some b:=e; cases e'; rfl)⟩) (Gh _ _)
    exact aaf.keep hp' (λ_ h _=>h) (hw.same λb hb=>hfd b hb.1)
  Fh:=h.Fh.wrote hw λb hb=>hb.elim (λhb=>hfd b hb) λhb e=>(h.eX g rfl).2.2 (by rw[<-e]; exact hb)
  qK:=h.qK
  rD:=by rw[Jb,h.rD]
  out:=h.out
  foot:=λb hb=>⟨(h.foot b hb).1,by have:=(h.foot b hb).2.1; simp; omega,(h.foot b hb).2.2⟩
  fK:=h.fK
  kZ:=h.kZ
  dQ:=h.dQ
  eX:=h.eX
  gK:=h.gK
  draws:=h.draws
 }
theorem MAt.aeh (h:MAt C M Fd vv vn vi Lv Ln s W) (hb:Mut M.mb M.db vv vn vi b):b < W.heap.size:=by
 rcases hb with rfl | rfl | hb | hb | hb
 ·exact h.box.lt
 ·exact h.dr.lt
 ·exact(h.views.row.lt b hb).2
 ·exact(h.Fg.row.lt b hb).2
 ·exact(h.Fh.row.lt b hb).2
theorem MAt.ain (h:MAt C M Fd vv vn vi Lv Ln s W) (hb:h.All b):b < W.heap.size:=by
 rcases hb with hb | hb | hb | hb
 ·have:=h.out b hb;have:=h.fK.1;have:=h.box.lt;omega
 ·exact(h.foot b hb).2.1
 ·exact h.aeh hb
 ·exact(h.lev.row.lt b hb).2
theorem MAt.fresh (h:MAt C M Fd vv vn vi Lv Ln s W) {B:Nat} (hB:∀ b,Mut M.mb M.db vv vn vi b->b < B) (hb:M.base<=B):MAt C M (λb=>Fd b\/(B<=b/\b < W.heap.size)) vv vn vi Lv Ln s W :=
 h.widen (λb hb=>.inl hb) λb hb'=>hb'.elim (λhb=>h.foot b hb) λhb''=>⟨EN,hb''.2,λe=>by have:=hB b e; omega⟩
def rE:Knd Int where
 n:=1
 cells q:=[F6 F5 q]
 fine _ _ _:=True
 len _:=rfl
 pos:=aA
 one _ u hu:=by rw[List.mem_singleton.1 hu]; rfl
 keep _ _ _:=trivial
theorem OwnSl.ints {w:FW} {v:F7} (h:OwnSl rE w base et F v L) (hG:∀ b,v.ownBlock=some b->G b):Aj w G v L:=by
 rcases h.at with⟨rfl,rfl⟩ | ⟨g,cap,rfl,hb,hg,hcap,hf,hx⟩
 ·exact YN
 ·refine⟨_,cap,rfl,hcap,λ_=>⟨g,0,rfl,hG g rfl,hg,λk x hk=>?_⟩⟩;have:=hx k x hk 0 _ rfl;unfold jP;exact this
theorem Tryz.infoIntK:(Tryz.prog.info? 3).map (λi=>(i.zero,i.size,i.bytes))=some (some (F6 F5 0),rE.n,8):=ak
theorem Wrote.step {a b c:FW} (h:Wrote K a b) (k:Wrote K' b c) (hK:∀ i,i < a.heap.size->K' i->K i):Wrote K a c :=
 ⟨k.os.trans h.os,k.tape.trans h.tape,k.output.trans h.output,Gf h.size k.size,λi hi hn=>(k.block i (GZ hi h.size) (λe=>hn (hK i hi e))).trans (h.block i hi hn)⟩
theorem aY {w w':FW} {v:F7} (h:w.cell? ⟨b,o,none⟩=some v) (hw:Wrote K w w') (hb:¬ K b):w'.cell? ⟨b,o,none⟩=some v:=(hw.cell b o (Gg w _ h) hb).trans h
end
structure Di (w:FW) (F:FI) (bp:Nat) (g:Gm) (m:List (List Rat)) (up place:List Int) (vn vi vu vp vm:F7) (pb xb fb bb:Nat) (BR:List F7):Prop where
 play:BF w F bp g m up place vn vi vu vp vm
 hF:∀ b,F b->b < bb
 pc:w.cell? ⟨pb,0,none⟩=some (.pointer (some ⟨bp,0,none⟩))
 xc:w.cell? ⟨xb,0,none⟩=some (FQ (some ⟨bb,0,none⟩) g.Fg.length g.Fg.length)
 fc:w.cell? ⟨fb,0,none⟩=some (.func (.func 105) #[] #[.pointer (some ⟨pb,0,none⟩),.pointer (some ⟨xb,0,none⟩),.pointer (some ⟨fb,0,none⟩)])
 pne:pb≠bb
 xne:xb≠bb
 fne:fb≠bb
 row:Row w bb 96 BR
 len:BR.length=g.Fg.length
section
variable {w w':FW} {F:FI} {bp:Nat} {g:Gm} {m:List (List Rat)} {up place:List Int} {vn vi vu vp vm:F7} {pb xb fb bb:Nat} {BR BR':List F7}
theorem Di.aoe (h:Di w F bp g m up place vn vi vu vp vm pb xb fb bb BR):¬ F bb:=λhb=>Nat.lt_irrefl _ (h.hF _ hb)
theorem Di.grown (h:Di w F bp g m up place vn vi vu vp vm pb xb fb bb BR) (hg:w.grownBy w' (some bb)) (hr:Row w' bb 96 BR') (hl:BR'.length=g.Fg.length):Di w' F bp g m up place vn vi vu vp vm pb xb fb bb BR' :=
 ⟨h.play.on (jG hg h.aoe),h.hF,cell_grown hg h.pc h.pne,cell_grown hg h.xc h.xne,cell_grown hg h.fc h.fne,h.pne,h.xne,h.fne,hr,hl⟩
end
theorem akt (w:FW) (F:FI) (bp:Nat) (g:Gm) (m:List (List Rat)) (up place:List Int) (vn vi vu vp vm:F7) (pb xb fb bb:Nat) (BR:List F7) (i:Nat) (n:Nd) (hE:Di w F bp g m up place vn vi vu vp vm pb xb fb bb BR) (hf:Fit g m) (hn:g.Fg.length<=100) (hml:m.length<=100000) (hni:g.Fg[i]? = some n) (hk:n.kind=3) :
  Calls FY 105 #[F6 F5 (i:Int),.pointer (some ⟨pb,0,none⟩),.pointer (some ⟨xb,0,none⟩),.pointer (some ⟨fb,0,none⟩)] w (CY F g m bb w BR i):=by
 have t1:(n.kind==3)=true:=by simp[hk]
 have hpay:=uN hf.Fg (FT hni) hk;have hval:dG g m i=n.pay.map (λx:Int=>(x:Rat)):=by rw[uK hf.good m hni];unfold valOf;rw[L8 hk]
 have hpl:n.pay.length<=4:=by have:=hf.ay;omega
 have HPY:=Ac hpay; have Et:=Ac hval;clear hk hpay hval;have HE:=Ac hE; have HFT:=Ac hf;have hin:i < g.Fg.length:=FD hni;have hmem:=FT hni;have HX:=Ac hni;have p1:=hE.play.row.cell (i:=1) rfl;obtain⟨An,cn,hvn,hcn,hxn⟩:=hE.play.Fg;obtain⟨b,q,hAn,hFb,hbl,hcell⟩:=hxn EN;rw[hvn,hAn] at p1;have hne:=hcell i n hni;have HNV:=Ac (show ∃ v3 v4 v5,w.cell? ⟨b,q+i*6+3,none⟩=some v3/\w.cell? ⟨b,q+i*6+4,none⟩=some v4/\w.cell? ⟨b,q+i*6+5,none⟩=some v5/\Bf w F (.agg #[F6 F5 n.kind,F6 F5 n.aC,F6 F5 n.info,v3,v4,v5]) n from by
  obtain⟨v3,e3,h3⟩:=hne.c3; obtain⟨v4,e4,h4⟩:=hne.c4; obtain⟨v5,e5,h5⟩:=hne.c5;exact⟨v3,v4,v5,e3,e4,e5,⟨v3,v4,v5,rfl,h3,h4,h5⟩⟩)
 have n0:=hne.c0; have n1:=hne.c1; have n2:=hne.c2;obtain⟨v3,v4,v5,n3,n4,n5,hnv⟩:=HNV.out;have HV:=Ac hnv;obtain⟨v3',v4',v5',he,⟨A3,c3,e3,_⟩,⟨A4,c4,e4,_⟩,⟨A5,c5,e5,_⟩⟩:=hnv;simp only[Value.agg.injEq,Js,Jd,true_and,and_true] at he;obtain⟨rfl,rfl,rfl⟩:=he;subst e3; subst e4; subst e5;have H3:=Ac (show Aj w F (FQ A3 n.next.length c3) n.next from by
  obtain⟨_,_,_,hh,h3,_,_⟩:=HV.out;simp only[Value.agg.injEq,Js,Jd,true_and,and_true] at hh;obtain⟨rfl,rfl,rfl⟩:=hh;exact h3)
 have pc:=hE.pc;have xc:=hE.xc;have fc:=hE.fc;have aof:=hE.row.lt;have aku:=Gg w _ pc;have aog:=Gg w _ xc;have aio:=Gg w _ fc;simp only at aku aog aio;have zp:=hE.pne;have zx:=hE.xne;have zf:=hE.fne;have aoh:=hE.len;obtain⟨vold,abn⟩:=FC (l:=BR) (k:=i) EN;have HVO:=Ac abn;clear hE hf hne hcell hxn hvn hAn hni HNV abn aoh;go_in
 go_upto_region 2 with(fail)
 refine YQ ?_;clear pc xc fc HV n0 n1 n2 n3 n4 n5 p1;intro W1 nb rn k9 k10 hg1 hzz pc xc fc HV HRB hB x0 x1 x2 x3 x4 x5;go_upto_region 3 with(fail)
 refine aW (λw'=>w'.cell? ⟨xb,0,none⟩=some (FQ (some ⟨bb,0,none⟩) g.Fg.length g.Fg.length)/\w'.cell? ⟨nb,5,none⟩=some (FQ A5 n.pay.length c5)) 6 1 ak rfl ak ?_;have hHeld:(λw':FW=>w'.cell? ⟨xb,0,none⟩=some (FQ (some ⟨bb,0,none⟩) g.Fg.length g.Fg.length)/\w'.cell? ⟨nb,5,none⟩=some (FQ A5 n.pay.length c5)) W1.drew:=⟨xc,x5⟩;refine Zv ?_;have hb:Below W1.heap.size W1 W1.drew:=aI (F9 _ W1) 1;replace xc:=ah xc hb;refine YI ?_;clear x0 x1 x2 x3 x4 x5 HV HRB hzz hB hb;intro x0 x1 x2 x3 x4 x5 HV HRB hzz hB;generalize W1.drew=wn at *;refine tkm [0,1,2,3] ?_;refine tk2 4 ak rfl λK hK=>?_
 go_simp;refine(abk wn F _ n.pay 78 #[] (λx=>(x:Rat)) (by obtain⟨_,_,_,hh,_,_,h5⟩:=HV.out; simp only[Value.agg.injEq,Js,Jd,true_and,and_true] at hh; obtain⟨rfl,rfl,rfl⟩:=hh; exact h5) EN ⟨enters' Tryz.func78 ak ak,λW x hx _=>qZ W x (by have:=HPY.out.2.1 x hx; omega) (by have:=HPY.out.2.1 x hx; omega)⟩).mono ?_;rintro e wn ⟨u,rfl,hb,hu1,hu⟩;obtain⟨ub,rfl⟩:∃ ub,u = FQ (some ⟨ub,0,none⟩) n.pay.length n.pay.length:=⟨_,hu1⟩;clear hu1;have HU:=Ac (IB (G:=λb=>F b\/w.heap.size<=b) hu (λb hb _=>.inr EN) (Gh _ _));clear hu;replace xc:=ah xc hb;refine YI ?_;clear x0 x1 x2 x3 x4 x5 HV HRB hzz hB hb;intro x0 x1 x2 x3 x4 x5 HV HRB hzz hB;dsimp only;clear hHeld;refine hK.out _ _ ⟨xc,x5⟩ (λhHeld=>?_);clear hK K;refine Zb ?_;refine tkm [5] ?_;refine Zx ?_;clear hHeld;have r0:=HRB.out.cell HVO.out;have rf:=HRB.out.frozen i;have hnG:¬ (F bb\/w.heap.size<=bb):=λh=>h.elim HE.out.aoe EN
 have HNG:=Ac hnG;have hgz:=grown_setCell (p:=⟨bb,i,none⟩) (mD wn (some bb)) (.inl rfl) (FQ (some ⟨ub,0,none⟩) n.pay.length n.pay.length);have hrz:=HRB.out.set i (FQ (some ⟨ub,0,none⟩) n.pay.length n.pay.length);obtain⟨Wz,hWz⟩:=FH (wn.setCell ⟨bb,i,none⟩ (FQ (some ⟨ub,0,none⟩) n.pay.length n.pay.length));rw[<-hWz] at hgz hrz;have HWz:=Ac hWz;have HRZ:=Ac hrz;have HGZ:=Ac hgz;have xz:=cell_grown hgz xc zx;have hgv:(BR.set i (FQ (some ⟨ub,0,none⟩) n.pay.length n.pay.length))[i]? = some (FQ (some ⟨ub,0,none⟩) n.pay.length n.pay.length):=Ib (FD HVO.out);have rz:=hrz.cell hgv;have HGV:=Ac hgv;clear hWz hgz hrz hgv hnG;go_wp2
 rw[<-HWz.out];clear r0 rf xc x0 x1 x2 x3 x4 x5;refine ZR ?_;go_wp2
 go_ret;refine⟨_,BR.set i (FQ (some ⟨ub,0,none⟩) n.pay.length n.pay.length),i+1,rfl,⟨.cons HX.out (by rw[HPY.out.2.2]; exact .nil _) (.nil _),HGV.out,?_,by rw[He]; exact HE.out.len,λj hj=>Ia EN,λj h1 h2=>?_,HRZ.out,jm (grown_below hB (FV _) _) HGZ.out⟩⟩
 ·exact zdm
 ·obtain rfl:j=i:=EN;refine⟨_,HGV.out,?_⟩;exact zdm
theorem akv {Fg:List Nd} (h:Span Fg (cs.drop k) a e) (hk:k < cs.length):cs[k]? = some (a:Int)/\∃ a2,Span Fg [(a:Int)] a a2/\Span Fg (cs.drop (k+1)) a2 e:=by
 rw[Ii hk] at h;generalize hx:cs[k]=c at h;generalize hl:c :: cs.drop (k+1)=l at h;cases h with
 | nil=>cases hl
 | cons hn h1 h2 =>
  injection hl with e1 e2
  subst e1;exact⟨by rw[<-hx]; simp[hk],_,.cons hn h1 (.nil _),by rw[e2]; exact h2⟩
theorem al7 {Fg:List Nd} (h:Span Fg (cs.drop k) a e) (hk:cs.length<=k):a=e:=by
 rw[GU hk] at h;cases h;rfl
theorem agL (w:FW) (F:FI) (bp:Nat) (g:Gm) (m:List (List Rat)) (up place:List Int) (vn vi vu vp vm:F7) (pb xb fb bb:Nat) (BR:List F7) (i:Nat) (n:Nd) (hE:Di w F bp g m up place vn vi vu vp vm pb xb fb bb BR) (hf:Fit g m) (hn:g.Fg.length<=100) (hml:m.length<=100000) (hni:g.Fg[i]? = some n) (hk:n.kind≠3) (ih:∀ (c:Nat) (w2:FW) (BR2:List F7),i < c->c < g.Fg.length->Di w2 F bp g m up place vn vi vu vp vm pb xb fb bb BR2->Calls FY 105 #[F6 F5 (c:Int),.pointer (some ⟨pb,0,none⟩),.pointer (some ⟨xb,0,none⟩),.pointer (some ⟨fb,0,none⟩)] w2 (CY F g m bb w2 BR2 c)) :
  Calls FY 105 #[F6 F5 (i:Int),.pointer (some ⟨pb,0,none⟩),.pointer (some ⟨xb,0,none⟩),.pointer (some ⟨fb,0,none⟩)] w (CY F g m bb w BR i):=by
 have t1:(n.kind==3)=false:=by simp[hk]
 have hkn:=hk;have hch:=hf.chan n (FT hni) hk;have hval:dG g m i=ou (dG g m) (F8 g.ay.toNat 0) ((dL m n).zip n.next):=by rw[uK hf.good m hni];unfold valOf;rw[L6 hk]
 have hpp:=hf.ay;obtain⟨P,hP⟩:=FH g.ay.toNat;have hgp:g.ay=(P:Int):=EN;have hP4:P<=4:=EN;have p0:=hE.play.row.cell (i:=0) rfl;rw[hgp] at p0;have Et:=Ac hval; have HCH:=Ac hch; have HPP:=Ac hP; have HKN:=Ac hkn; have HIH:=Ac ih;obtain⟨eE,hsp,heE⟩:=hf.good.span.amT i n (GR _) (FD hni) hni;have HSP:=Ac hsp;clear hk hval hch hpp hP hgp hkn ih hsp;have HE:=Ac hE; have HFT:=Ac hf;have hin:i < g.Fg.length:=FD hni;have hmem:=FT hni;have HX:=Ac hni;have p1:=hE.play.row.cell (i:=1) rfl;obtain⟨An,cn,hvn,hcn,hxn⟩:=hE.play.Fg;obtain⟨b,q,hAn,hFb,hbl,hcell⟩:=hxn EN;rw[hvn,hAn] at p1;have hne:=hcell i n hni;have HNV:=Ac (show ∃ v3 v4 v5,w.cell? ⟨b,q+i*6+3,none⟩=some v3/\w.cell? ⟨b,q+i*6+4,none⟩=some v4/\w.cell? ⟨b,q+i*6+5,none⟩=some v5/\Bf w F (.agg #[F6 F5 n.kind,F6 F5 n.aC,F6 F5 n.info,v3,v4,v5]) n from by
  obtain⟨v3,e3,h3⟩:=hne.c3; obtain⟨v4,e4,h4⟩:=hne.c4; obtain⟨v5,e5,h5⟩:=hne.c5;exact⟨v3,v4,v5,e3,e4,e5,⟨v3,v4,v5,rfl,h3,h4,h5⟩⟩)
 have n0:=hne.c0; have n1:=hne.c1; have n2:=hne.c2;obtain⟨v3,v4,v5,n3,n4,n5,hnv⟩:=HNV.out;have HV:=Ac hnv;obtain⟨v3',v4',v5',he,⟨A3,c3,e3,_⟩,⟨A4,c4,e4,_⟩,⟨A5,c5,e5,_⟩⟩:=hnv;simp only[Value.agg.injEq,Js,Jd,true_and,and_true] at he;obtain⟨rfl,rfl,rfl⟩:=he;subst e3; subst e4; subst e5;have H3:=Ac (show Aj w F (FQ A3 n.next.length c3) n.next from by
  obtain⟨_,_,_,hh,h3,_,_⟩:=HV.out;simp only[Value.agg.injEq,Js,Jd,true_and,and_true] at hh;obtain⟨rfl,rfl,rfl⟩:=hh;exact h3)
 have pc:=hE.pc;have xc:=hE.xc;have fc:=hE.fc;have aof:=hE.row.lt;have aku:=Gg w _ pc;have aog:=Gg w _ xc;have aio:=Gg w _ fc;simp only at aku aog aio;have zp:=hE.pne;have zx:=hE.xne;have zf:=hE.fne;have aoh:=hE.len;obtain⟨vold,abn⟩:=FC (l:=BR) (k:=i) EN;have HVO:=Ac abn;clear hE hf hne hcell hxn hvn hAn hni HNV abn aoh;go_in
 go_upto_region 2 with(fail)
 refine YQ ?_;clear pc xc fc HV n0 n1 n2 n3 n4 n5 p1;intro W1 nb rn k9 k10 hg1 hzz pc xc fc HV HRB hB x0 x1 x2 x3 x4 x5;replace p0:=ah p0 hB;go_upto_region 5 with(fail)
 refine aW (λw'=>w'.cell? ⟨xb,0,none⟩=some (FQ (some ⟨bb,0,none⟩) g.Fg.length g.Fg.length)/\w'.cell? ⟨pb,0,none⟩=some (.pointer (some ⟨bp,0,none⟩))/\w'.cell? ⟨bp,0,none⟩=some (F6 F5 (P:Int))) 10 1 ak rfl ak ?_;have hHeld:(λw':FW=>w'.cell? ⟨xb,0,none⟩=some (FQ (some ⟨bb,0,none⟩) g.Fg.length g.Fg.length)/\w'.cell? ⟨pb,0,none⟩=some (.pointer (some ⟨bp,0,none⟩))/\w'.cell? ⟨bp,0,none⟩=some (F6 F5 (P:Int))) W1.drew:=⟨xc,pc,p0⟩;refine Zv ?_;have hb:Below W1.heap.size W1 W1.drew:=aI (F9 _ W1) 1;replace xc:=ah xc hb;replace pc:=ah pc hb;replace fc:=ah fc hb;replace p0:=ah p0 hb;refine YI ?_;clear x0 x1 x2 x3 x4 x5 HV HRB hzz hB hb;intro x0 x1 x2 x3 x4 x5 HV HRB hzz hB;generalize W1.drew=wn at *;refine tkm [0,1,2,3,4,5,6,7] ?_;refine tk2 8 ak rfl λK hK=>?_
 refine ifT rfl ?_;refine ahH _ _ _ 96 rfl 114 Tryz.underlying96 Tryz.infoNum P rfl rfl EN ?_;intro wm hb hz3e hm3;have hz3:=Ls hz3e.symm;clear hz3e;obtain⟨pl,hpl⟩:=FH wn.heap.size;have HMR:=Ac hm3;clear hm3;rw[<-hpl] at HMR ⊢;have kpl:w.heap.size<=pl:=EN;have kpm:pl < wm.heap.size:=EN;have knp:nb < pl:=by have:=Gg _ _ x0;simp only at this;omega
 clear hpl hz3;replace xc:=ah xc hb;replace pc:=ah pc hb;replace fc:=ah fc hb;replace p0:=ah p0 hb;refine YI ?_;clear x0 x1 x2 x3 x4 x5 HV HRB hzz hB hb;intro x0 x1 x2 x3 x4 x5 HV HRB hzz hB;clear hHeld;refine hK.out _ _ ⟨xc,pc,p0⟩ (λhHeld=>?_);clear hK K;refine Zb ?_;refine tkm [9] ?_;refine Zx ?_;clear hHeld;have r0:=HRB.out.cell HVO.out;have rf:=HRB.out.frozen i;have hgz:=grown_setCell (p:=⟨bb,i,none⟩) (mD wm (some bb)) (.inl rfl) (FQ (some ⟨pl,0,none⟩) P P);have hrz:=HRB.out.set i (FQ (some ⟨pl,0,none⟩) P P);obtain⟨Wz,hWz⟩:=FH (wm.setCell ⟨bb,i,none⟩ (FQ (some ⟨pl,0,none⟩) P P));rw[<-hWz] at hgz hrz;have hszz:wm.heap.size<=Wz.heap.size:=by rw[hWz];simp
 have HWz:=Ac hWz;have hgv:(BR.set i (FQ (some ⟨pl,0,none⟩) P P))[i]? = some (FQ (some ⟨pl,0,none⟩) P P):=Ib (FD HVO.out);have HGV:=Ac hgv;have hnF:=HE.out.aoe;have HNF:=Ac hnF;have hbF:=HE.out.hF;have hmz:AB Wz pl 114 (λb=>F b\/pl < b) (F8 P rv0):=(HMR.out _).on (hgz.block pl kpm aG) (jG hgz (λh=>h.elim hnF EN));have HMZ:=Ac hmz;replace HV:=Ac (HV.out.on (jG (F:=F) hgz hnF));have hgw:=jm (grown_below hB (FV _) (some bb)) hgz;have pz:=cell_grown hgz pc zp;have znb:nb≠bb:=EN;have xz0:=cell_grown hgz x0 znb;have xz1:=cell_grown hgz x1 znb;have xz2:=cell_grown hgz x2 znb;have xz3:=cell_grown hgz x3 znb;have xz4:=cell_grown hgz x4 znb;have xz5:=cell_grown hgz x5 znb;have HPZ:=Ac (HE.out.play.on (jG (F:=F) hgw hnF));have HGW:=Ac hgw;have HRZ:=Ac hrz;have HBF:=Ac hbF;clear hgv hWz hgz hrz hmz hgw hnF hbF;go_wp2
 rw[<-HWz.out];clear r0 rf xc pc fc p0 x0 x1 x2 x3 x4 x5;refine ZR ?_;go_wp2_with fail
 refine(abm Wz F bp g m up place vn vi vu vp vm _ n HPZ.out HV.out HFT.out hmem HKN.out hml).mono ?_;rintro e wn ⟨u,rfl,hb,⟨cb',cc,rfl⟩,hu⟩;have HCV:=Ac (IB (G:=λb=>F b\/pl < b) hu (λb hb _=>hb.elim .inl λh=>.inr EN) (Gh _ _));have hzr:=Gf hszz hb.size;have x3:=ah xz3 hb;have hP4':P<=4:=hP4;have hvb:VBr F g m bb pl w BR i (i+1) n (FQ (some ⟨cb',0,none⟩) (dL m n).length cc) (F8 P 0) (F8 P rv0) (BR.set i (FQ (some ⟨pl,0,none⟩) P P)) wn :=
  ⟨jm HGW.out (grown_below hb (FV _) _),HRZ.out.below hb HRZ.out.lt,by rw[He]; exact HE.out.len,by rw[<-HPP.out]; exact HGV.out,λj hj=>Ia EN,λj h1 h2=>by omega,HMZ.out.below hb,by simp[agc],HCV.out⟩
 have HVB:=Ac hvb;have hcl:(dL m n).length<=n.next.length:=Ls HCH.out.1;have aip:n.next.length<=(dL m n).length:=Ls HCH.out.1.symm;have hnl:n.next.length<=1000:=by
  rcases kinds HFT.out.Fg hmem with k1 | k1 | k1
  ·have:=(uU HFT.out.Fg hmem k1).2.2.1;omega
  ·have:=(mV HFT.out.Fg hmem k1).2.1;omega
  ·exact absurd k1 HKN.out
 clear hu hb hvb HCV xz0 xz1 xz2 xz3 xz4 xz5 pz HPZ HMZ HRZ HGW HRB HMR hszz;dsimp only;go_wp2_with fail
 go_loopw [47] (λiv wr=>∃ (k a:Nat) (acc:List Rat) (L:List RV) (BRc:List F7),k<=(dL m n).length/\iv = F6 F5 (k:Int)/\Span g.Fg (n.next.drop k) a eE/\i < a/\acc=ou (dG g m) (F8 P 0) (((dL m n).zip n.next).take k)/\VBr F g m bb pl w BR i a n (FQ (some ⟨cb',0,none⟩) (dL m n).length cc) acc L BRc wr/\wr.cell? ⟨nb,3,none⟩=some (FQ A3 n.next.length c3)/\pl < wr.heap.size) (λiv _=>(dL m n).length - (intOf iv).toNat)
 case atStart=>exact⟨0,i+1,F8 P 0,F8 P rv0,_,EN,rfl,HSP.out,EN,by simp[ou],HVB.out,x3,EN⟩
 case round =>
  clear HVB x3 hzr;obtain⟨k,a,acc,L,BRc,hk,rfl,hspk,hia,hacc,hvb,x3,hplr⟩:=hrel;have HVB:=Ac hvb;have HAC:=Ac hacc;have HSK:=Ac hspk;clear hvb hacc hspk;by_cases hlt:k < (dL m n).length
  ·obtain⟨y,hy⟩:=FC hlt;have hry:=HCH.out.2 y (FT hy);have HY:=Ac hy;obtain⟨hca,a2,hsa,hs2⟩:=akv HSK.out EN;have HCA:=Ac hca;have HSA:=Ac hsa;have HS2:=Ac hs2;have haN:a < g.Fg.length:=by
    have h1:=hsa.bound;have:=HFT.out.good.span.kids i n (GR _) hin HX.out (a:Int) (FT hca);omega
   obtain⟨A',c',he,hcc,hxs⟩:=HVB.out.chan;simp only[Value.slice.injEq,FX] at he hcc hxs;obtain⟨rfl,_,rfl⟩:=he;obtain⟨b',o',he2,hFb',ajL,hel⟩:=hxs EN;simp only[Hu,Addr.mk.injEq] at he2;obtain⟨rfl,rfl,_⟩:=he2;obtain⟨d0,⟨vn',d1,hn1⟩,⟨vd',d2,hd1⟩⟩:=hel k (aB y) (by rw[Gi,hy]; rfl);rw[Iz] at d0 d1 d2;have HRY:=Ac (JL (r:=aB y) rfl hn1 hd1);obtain⟨A8,c8,rfl,_,_⟩:=hn1;obtain⟨A9,c9,rfl,_,_⟩:=hd1;clear hxs hcc hel hFb' ajL hy hca hsa hs2;go_wp2_with fail
   obtain⟨W2,hW2,rq,hB2,hzz2⟩:=aJ wr 114 #[Gj (aB y).neg,FQ A8 (aB y).num.length c8,FQ A9 (aB y).den.length c9];rw[<-hW2];clear hW2 d0 d1 d2;obtain⟨qb,hqb⟩:=FH wr.heap.size;rw[<-hqb] at rq ⊢;have kqb:pl < qb:=EN;have kq2:pl < W2.heap.size:=EN;replace HVB:=Ac (HVB.out.below hB2);replace HRY:=Ac (HRY.out.below hB2);replace x3:=ah x3 hB2;have fc:=cell_grown HVB.out.grown HE.out.fc zf;obtain⟨A3',c3',hA3,hc3,hx3⟩:=H3.out;simp only[Value.slice.injEq] at hA3;obtain⟨rfl,_,rfl⟩:=hA3;obtain⟨b3,o3,rfl,hF3,hb3,acR⟩:=hx3 EN;have ec:=acR k _ HCA.out;unfold jP at ec;rw[Gp] at ec;have zb3:b3≠bb:=λe=>HNF.out (e▸hF3)
   replace ec:=cell_grown HVB.out.grown ec zb3;have q0:=rq.cell (i:=0) rfl;have q1:=rq.cell (i:=1) rfl;have q2:=rq.cell (i:=2) rfl;have znq:qb≠bb:=EN;have hkn2:k < n.next.length:=EN;have znb2:nb≠bb:=EN;have hvl:=HFT.out.jV _ a (FV _) haN;rw[<-HPP.out] at hvl;have HVLn:=Ac (show(List.map aB (dG g m a)).length=P by rw[FX]; exact hvl);have HVL:=Ac hvl;have hal:acc.length=P:=by
    rw[HAC.out];refine uM aF λbc hbc=>?_
    have hm2:bc.2∈n.next:=(List.of_mem_zip (a:=bc.1) (b:=bc.2) (LX hbc)).2;have:=HFT.out.good.span.kids i n (GR _) hin HX.out bc.2 hm2;rw[HFT.out.jV _ _ (FV _) EN,<-HPP.out]
   have HAL:=Ac hal;clear acR hx3 hB2 hzz2 hqb rq hplr hvl hal;go_wp2_with fail
   have hen:=enters' Tryz.func105 ak ak;refine wp_region_held_drew (S:=λw'=>w'.cell? ⟨fb,0,none⟩=some (.func (.func 105) #[] #[.pointer (some ⟨pb,0,none⟩),.pointer (some ⟨xb,0,none⟩),.pointer (some ⟨fb,0,none⟩)])/\w'.cell? ⟨nb,3,none⟩=some (FQ (some ⟨b3,o3,none⟩) n.next.length c3)/\w'.cell? ⟨b3,o3+k,none⟩=some (F6 F5 (a:Int))) ak ⟨fc,x3,ec⟩ (λhHeld=>?_);have hb:Below W2.heap.size W2 W2.drew:=aI (F9 _ W2) 1;replace fc:=ah fc hb;replace x3:=ah x3 hb;replace ec:=ah ec hb;replace q0:=ah q0 hb;replace q1:=ah q1 hb;replace q2:=ah q2 hb;replace HVB:=Ac (HVB.out.below hb);replace HRY:=Ac (HRY.out.below hb);replace kq2:=GZ kq2 hb.size;clear hb;generalize W2.drew=wn at *;refine tkm [0,1,2,3,4,5,8] ?_;refine tk2 6 ak rfl λK hK=>?_
   go_simp;refine(HIH.out a wn BRc hia haN (HE.out.grown HVB.out.grown HVB.out.row HVB.out.len)).mono ?_;rintro e wn ⟨v,BR2,e2,rfl,ho⟩;obtain⟨Av,cv,hvv,_,_⟩:=ho.nums;rw[HVLn.out] at hvv;subst hvv;replace fc:=cell_grown ho.grown fc zf;replace x3:=cell_grown ho.grown x3 znb2;replace ec:=cell_grown ho.grown ec zb3;replace q0:=cell_grown ho.grown q0 znq;replace q1:=cell_grown ho.grown q1 znq;replace q2:=cell_grown ho.grown q2 znq;have hnG:¬ (F bb\/pl < bb):=λh=>h.elim HNF.out EN
   replace HVB:=Ac (HVB.out.child HBF.out EN hia ho kq2);replace HRY:=Ac (HRY.out.on (jG (F:=λb=>F b\/pl < b) ho.grown hnG));have HNU:=Ac (IB (G:=λb=>F b\/pl < b) ho.nums (λb hb _=>hb.imp id λh=>by omega) (Gh _ _));replace kq2:=GZ kq2 ho.grown.size;have HSPO:=Ac ho.span;clear ho hnG;dsimp only;clear hHeld;refine hK.out _ _ ⟨fc,x3,ec⟩ (λhHeld=>?_);clear hK K;refine Zb ?_;refine tkm [7] ?_;refine Yf ?_;clear hHeld;refine ZR ?_;have hpz:wO acc y (dG g m a) 0=acc:=aif _ _ _;have HPZ:=Ac hpz;have HRYQ:=HRY;have HNUQ:=HNU;have HVBQ:=HVB;clear hpz HRY HNU HVB;go_wp2_with fail
   go_loopw [60] (λpv wr=>∃ (p:Nat) (L':List RV),p<=P/\pv = F6 F5 (p:Int)/\VBr F g m bb pl w BR i e2 n (FQ (some ⟨cb',0,none⟩) (dL m n).length cc) (wO acc y (dG g m a) p) L' BR2 wr/\Bz wr (λb=>F b\/pl < b) (FQ Av P cv) (dG g m a) /\
    NmV wr (λb=>F b\/pl < b) (.agg #[Gj (aB y).neg,FQ A8 (aB y).num.length c8,FQ A9 (aB y).den.length c9]) y /\
    wr.cell? ⟨qb,0,none⟩=some (Gj (aB y).neg)/\wr.cell? ⟨qb,1,none⟩=some (FQ A8 (aB y).num.length c8)/\wr.cell? ⟨qb,2,none⟩=some (FQ A9 (aB y).den.length c9)/\wr.cell? ⟨nb,3,none⟩=some (FQ (some ⟨b3,o3,none⟩) n.next.length c3)/\pl < wr.heap.size) (λpv _=>P - (intOf pv).toNat)
   case atStart=>exact⟨0,L,EN,rfl,by rw[HPZ.out]; exact HVBQ.out,HNUQ.out,HRYQ.out,q0,q1,q2,x3,kq2⟩
   case round =>
    clear HVBQ HNUQ HRYQ q0 q1 q2 x3 kq2 HPZ fc ec;obtain⟨p,L',hp,rfl,hvb,hnu,hry',q0,q1,q2,x3,kq2⟩:=hrel;have HVB:=Ac hvb;have HNU:=Ac hnu;have HRY:=Ac hry';clear hvb hnu hry';by_cases hpt:p < P
    ·obtain⟨up',hup⟩:=FC (l:=acc) (k:=p) (by rw[HAL.out]; exact hpt);obtain⟨xp,hxp⟩:=FC (l:=dG g m a) (k:=p) (by rw[HVL.out]; exact hpt);have hrlu:rl up'<=1+7*g.Fg.length:=by
      have h:=HFT.out.ai6 HX.out HKN.out k up';rw[<-HPP.out,<-HAC.out] at h;exact h (FT hup)
     have hrlx:=HFT.out.acw haN xp (FT hxp);have hpg:=akr (b:=y) hup (show(dG g m a).length=acc.length by rw[HAL.out,HVL.out]);obtain⟨A5',c5',B5',d5',hLp,hqp⟩:=HVB.out.get hpg;have HLP:=Ac hLp;have HPS:=Ac (aii (b:=y) hup hxp (show(dG g m a).length=acc.length by rw[HAL.out,HVL.out]));have HRU:=Ac (JL (F:=λb=>F b\/pl < b) (r:=aB up') rfl hqp.1 hqp.2);have e0:wr.cell? ⟨pl,p*3,none⟩=some (Gj (aB up').neg):=HVB.out.made.cell (j:=0) hLp EN rfl;have e1:=HVB.out.made.cell (j:=1) hLp EN rfl;have e2':=HVB.out.made.cell (j:=2) hLp EN rfl;obtain⟨A',c',he,hcc,hxs⟩:=HNU.out;simp only[Value.slice.injEq] at he;obtain⟨rfl,hPl,rfl⟩:=he;clear hPl;obtain⟨bv,ov,hAv,hFv,hbv,hel⟩:=hxs (by rw[HVLn.out]; omega);subst hAv;obtain⟨d0,⟨vn',d1,hn1⟩,⟨vd',d2,hd1⟩⟩:=hel p (aB xp) (by rw[Gi,hxp]; rfl);have HRX:=Ac (JL (r:=aB xp) rfl hn1 hd1);obtain⟨A6,c6,rfl,_,_⟩:=hn1;obtain⟨A7,c7,rfl,_,_⟩:=hd1;have xc:=cell_grown HVB.out.grown HE.out.xc zx;have ri:=HVB.out.row.cell HVB.out.own;rw[<-HPP.out] at ri;obtain⟨r1,hr1⟩:∃ r1:Rat,r1=y*xp:=⟨_,rfl⟩;have hrr:=kR y xp;rw[<-hr1] at hrr;obtain⟨r2,hr2⟩:∃ r2:Rat,r2=up'+r1:=⟨_,rfl⟩;have HR1:=Ac hr1;have HR2:=Ac hr2;have HNUF:=Ac hFv;clear hup hxp hpg hLp hqp hcc hxs hel hr1 hr2 hFv hbv;go_wp2_with fail
     obtain⟨W5,hW5,rt,hb,hz5⟩:=aJ wr 114 #[Gj (aB xp).neg,FQ A6 (aB xp).num.length c6,FQ A7 (aB xp).den.length c7];rw[<-hW5];obtain⟨tb,htb⟩:=FH wr.heap.size;rw[<-htb] at rt ⊢;have ktb:pl < tb:=EN;clear hW5 hz5 htb d0 d1 d2;replace xc:=ah xc hb;replace ri:=ah ri hb;replace q0:=ah q0 hb;replace q1:=ah q1 hb;replace q2:=ah q2 hb;replace e0:=ah e0 hb;replace e1:=ah e1 hb;replace e2':=ah e2' hb;replace x3:=ah x3 hb;replace HVB:=Ac (HVB.out.below hb);replace HRU:=Ac (HRU.out.below hb);replace HRX:=Ac (HRX.out.below hb);replace HRY:=Ac (HRY.out.below hb);replace HNU:=Ac (FK.below HNU.out hb);replace kq2:=GZ kq2 hb.size;clear hb;have t0:=rt.cell (i:=0) rfl;have t1:=rt.cell (i:=1) rfl;have t2:=rt.cell (i:=2) rfl;clear rt;go_wp2_with fail
     refine aW (λw'=>w'.cell? ⟨xb,0,none⟩=some (FQ (some ⟨bb,0,none⟩) g.Fg.length g.Fg.length)/\w'.cell? ⟨bb,i,none⟩=some (FQ (some ⟨pl,0,none⟩) P P)/\w'.cell? ⟨pl,p*3,none⟩=some (Gj (aB up').neg)/\w'.cell? ⟨pl,p*3+1,none⟩=some (FQ A5' (aB up').num.length c5')/\w'.cell? ⟨pl,p*3+2,none⟩=some (FQ B5' (aB up').den.length d5')/\w'.cell? ⟨qb,0,none⟩=some (Gj (aB y).neg)/\w'.cell? ⟨qb,1,none⟩=some (FQ A8 (aB y).num.length c8)/\w'.cell? ⟨qb,2,none⟩=some (FQ A9 (aB y).den.length c9)/\w'.cell? ⟨tb,0,none⟩=some (Gj (aB xp).neg)/\w'.cell? ⟨tb,1,none⟩=some (FQ A6 (aB xp).num.length c6)/\w'.cell? ⟨tb,2,none⟩=some (FQ A7 (aB xp).den.length c7)) 17 1 ak rfl ak ?_;have hHeld:(λw':FW=>w'.cell? ⟨xb,0,none⟩=some (FQ (some ⟨bb,0,none⟩) g.Fg.length g.Fg.length)/\w'.cell? ⟨bb,i,none⟩=some (FQ (some ⟨pl,0,none⟩) P P)/\w'.cell? ⟨pl,p*3,none⟩=some (Gj (aB up').neg)/\w'.cell? ⟨pl,p*3+1,none⟩=some (FQ A5' (aB up').num.length c5')/\w'.cell? ⟨pl,p*3+2,none⟩=some (FQ B5' (aB up').den.length d5')/\w'.cell? ⟨qb,0,none⟩=some (Gj (aB y).neg)/\w'.cell? ⟨qb,1,none⟩=some (FQ A8 (aB y).num.length c8)/\w'.cell? ⟨qb,2,none⟩=some (FQ A9 (aB y).den.length c9)/\w'.cell? ⟨tb,0,none⟩=some (Gj (aB xp).neg)/\w'.cell? ⟨tb,1,none⟩=some (FQ A6 (aB xp).num.length c6)/\w'.cell? ⟨tb,2,none⟩=some (FQ A7 (aB xp).den.length c7)) W5.drew:=⟨xc,ri,e0,e1,e2',q0,q1,q2,t0,t1,t2⟩;refine Zv ?_;have hb:Below W5.heap.size W5 W5.drew:=aI (F9 _ W5) 1;refine YP ?_;clear xc ri q0 q1 q2 e0 e1 e2' x3 t0 t1 t2 HVB HRU HRX HRY HNU kq2 hb;intro xc ri q0 q1 q2 e0 e1 e2' x3 t0 t1 t2 HVB HRU HRX HRY HNU kq2;generalize W5.drew=wn at *;refine tkm [0,1,2,3,4,5,6,7,8,9,10,11,12,13] ?_;refine tk2 14 ak rfl λK hK=>?_
     go_simp;refine(acD _ _ _ _ y xp HRY.out HRX.out EN EN).mono ?_;rintro e wn ⟨u1,rfl,hb,hu⟩;rw[<-HR1.out] at hu;have HU1:=Ac (hu.mono (G:=λb=>F b\/pl < b) (λb hb _=>hb.elim id λh=>.inr EN));clear hu;refine YP ?_;clear xc ri q0 q1 q2 e0 e1 e2' x3 t0 t1 t2 HVB HRU HRX HRY HNU kq2 hb;intro xc ri q0 q1 q2 e0 e1 e2' x3 t0 t1 t2 HVB HRU HRX HRY HNU kq2;dsimp only;clear hHeld;refine hK.out _ _ ⟨xc,ri,e0,e1,e2',q0,q1,q2,t0,t1,t2⟩ (λhHeld=>?_);clear hK K;refine Zb ?_;refine tk2 15 ak rfl λK hK=>?_
     go_simp;refine(agn _ _ _ _ up' r1 HRU.out HU1.out EN EN).mono ?_;rintro e wn ⟨u2,rfl,hb,hu⟩;rw[<-HR2.out] at hu;have hu2:=hu.mono (G:=λb=>F b\/pl < b) (λb hb _=>hb.elim id λh=>.inr EN);obtain⟨A10,c10,B10,d10,rfl,iJ⟩:=hu2.opened;have HU:=Ac iJ;clear hu hu2 iJ HU1;refine YP ?_;clear xc ri q0 q1 q2 e0 e1 e2' x3 t0 t1 t2 HVB HRU HRX HRY HNU kq2 hb;intro xc ri q0 q1 q2 e0 e1 e2' x3 t0 t1 t2 HVB HRU HRX HRY HNU kq2;dsimp only;clear hHeld;refine hK.out _ _ ⟨xc,ri,e0,e1,e2',q0,q1,q2,t0,t1,t2⟩ (λhHeld=>?_);clear hK K;refine Zb ?_;refine tkm [16] ?_;refine Zx ?_;clear hHeld;have g0:=HVB.out.made.row.frozen (p*3);have g1:=HVB.out.made.row.frozen (p*3+1);have g2:=HVB.out.made.row.frozen (p*3+2);obtain⟨Wz,hWz,hvz,adE,hszz,hgz⟩:=HVB.out.setN HBF.out EN kpl p r2 _ _ HU.out;rw[HR2.out,HR1.out,HPS.out] at hvz;have aoi:¬ (F pl\/pl < pl):=λh=>h.elim (λh=>by have:=HBF.out _ h; omega) EN
     have HVZ:=Ac hvz;have HNZ:=Ac (Ju HNU.out (jG (F:=λb=>F b\/pl < b) hgz aoi));have HYZ:=Ac (HRY.out.on (jG (F:=λb=>F b\/pl < b) hgz aoi));have q0z:=cell_grown hgz q0 EN;have q1z:=cell_grown hgz q1 EN;have q2z:=cell_grown hgz q2 EN;have x3z:=cell_grown hgz x3 EN;have kz2:pl < Wz.heap.size:=EN;have HWz:=Ac hWz;clear hWz hvz adE hszz hgz aoi q0 q1 q2 x3 HVB HNU HRY HU HRU HRX xc ri t0 t1 t2;go_wp2
     rw[<-HWz.out];refine zaB ?_;go_wp2
     go_roundw
     case rel=>exact⟨p+1,_,EN,by go_num,HVZ.out,HNZ.out,HYZ.out,q0z,q1z,q2z,x3z,kz2⟩
     case measure=>simp[intOf]; omega
    ·have hpP:p=P:=EN;have hall:=akq (acc:=acc) (b:=y) (x:=dG g m a) (p:=P) (by rw[HAL.out]; omega) (by rw[HVL.out]; omega);have hvb:=HVB.out;rw[hpP,hall,HAC.out,al4 (ank HY.out HCA.out)] at hvb;have hu2:=HSA.out.unique HSPO.out;have hs3:=HS2.out;rw[hu2] at hs3;have HS3:=Ac hs3;have EH:=Ac hvb;have hae:i < e2:=by
      have h1:=HSPO.out.mem (a:Int) aF;omega
     clear hall hvb hu2 hs3 hpP HVB;go_wp2
     go_roundw
     case rel=>exact⟨k+1,e2,_,L',BR2,EN,by go_num,HS3.out,hae,rfl,EH.out,x3,kq2⟩
     case measure=>simp[intOf]; omega
  ·have hae:=al7 HSK.out EN;have hall:((dL m n).zip n.next).take k=(dL m n).zip n.next:=Gl (by rw[List.length_zip]; omega);have hacc:acc=dG g m i:=by rw[HAC.out,hall,HPP.out,<-Et.out]
   have xc:=cell_grown HVB.out.grown HE.out.xc zx;have ri:=HVB.out.row.cell HVB.out.own;have HAE:=Ac hae;have HACC:=Ac hacc;clear hae hall hacc;go_wp2
   go_ret;have hvb:=HVB.out;have hLl:L.length=g.ay.toNat:=by
    have h1:=congrArg LW hvb.lmap;rw[FX,FX,HACC.out,HFT.out.jV _ _ (FV _) hin] at h1;exact h1
   have hraw:=hvb.made.raws (G:=λb=>F b\/w.heap.size<=b) (λb hb=>hb.imp id λh=>by omega) (.inr kpl) (c:=g.ay.toNat) EN;rw[hLl,hvb.lmap,HACC.out] at hraw;refine⟨_,BRc,a,rfl,⟨.cons HX.out (by rw[HAE.out]; exact HSP.out) (.nil _),hvb.own,hraw,hvb.len,λj hj=>hvb.out j hj,λj h1 h2=>?_,hvb.row,hvb.grown⟩⟩;by_cases e:j=i
   ·subst e;exact⟨_,hvb.own,hraw⟩
   ·obtain⟨vj,h3,h4⟩:=hvb.inn j EN h2;exact zdR
theorem aei (F:FI) (bp:Nat) (g:Gm) (m:List (List Rat)) (up place:List Int) (vn vi vu vp vm:F7) (pb xb fb bb:Nat) (hf:Fit g m) (hn:g.Fg.length<=100) (hml:m.length<=100000):∀ (f i:Nat) (w:FW) (BR:List F7),g.Fg.length - i<=f->i < g.Fg.length->Di w F bp g m up place vn vi vu vp vm pb xb fb bb BR ->
  Calls FY 105 #[F6 F5 (i:Int),.pointer (some ⟨pb,0,none⟩),.pointer (some ⟨xb,0,none⟩),.pointer (some ⟨fb,0,none⟩)] w (CY F g m bb w BR i)
 | 0,i,w,BR,h1,h2,_=>absurd h2 EN
 | f+1,i,w,BR,h1,h2,hE=>by
  obtain⟨n,hni⟩:=FC (l:=g.Fg) (k:=i) h2;by_cases hk:n.kind=3
  ·exact akt w F bp g m up place vn vi vu vp vm pb xb fb bb BR i n hE hf hn hml hni hk
  ·exact agL w F bp g m up place vn vi vu vp vm pb xb fb bb BR i n hE hf hn hml hni hk (λc w2 BR2 hc hcN hE2=>aei F bp g m up place vn vi vu vp vm pb xb fb bb hf hn hml f c w2 BR2 EN hcN hE2)
theorem aiq (w:FW) (F:FI) (bp:Nat) (g:Gm) (m:List (List Rat)) (up place:List Int) (vn vi vu vp vm:F7) (hp:BF w F bp g m up place vn vi vu vp vm) (hl:Layout g up place) (hf:Fit g m) (hn:g.Fg.length<=100) (hml:m.length<=100000) :
  Calls FY 51 #[.pointer (some ⟨bp,0,none⟩)] w (Ret w λu w'=>(∃ b,u = FQ (some ⟨b,0,none⟩) g.Fg.length g.Fg.length)/\DV w' (Ext F w.heap.size) u ((Ir g.Fg.length).map (dG g m))):=by
 have HP:=Ac hp.old;have HFT:=Ac hf;have p3:=hp.row.cell (i:=3) rfl;obtain⟨Au,cu,hvu,_,_⟩:=hp.ups;rw[hvu,hl.afa] at p3;have hbp:=hp.row.lt;have hpos:=hf.good.pos;clear hp hl hf hvu;go_in
 go_upto_region 1 with(fail)
 obtain⟨Wa,hWa,ra,hBa,hza⟩:=aJ w 92 #[.pointer (some ⟨bp,0,none⟩)];rw[<-hWa];have aoj:w.heap.size+1<=Wa.heap.size:=EN;clear hWa hza;replace p3:=ah p3 hBa;have a0:=ra.cell (i:=0) rfl;go_upto_region 2 with(at_make; refine gX _ rfl _ _ 97 rfl 96 (FQ none 0 0) 24 Tryz.underlying97 ak rfl g.Fg.length rfl rfl EN EN ?_; intro w1 hb1 al8 hm1; have hz1:=Ls al8.symm; clear al8)
 obtain⟨W1,hW1,r1,hB1,hz1'⟩:=aJ w1 97 #[FQ (some ⟨Wa.heap.size,0,none⟩) g.Fg.length g.Fg.length];rw[<-hW1];clear hW1;obtain⟨bb,hbb⟩:=FH Wa.heap.size;obtain⟨xb,hxb⟩:=FH w1.heap.size;replace hm1:=hm1.below hB1 hm1.lt;rw[<-hbb] at hm1 r1 ⊢;rw[<-hxb] at r1 ⊢;have k1:w.heap.size+1<=bb:=EN;have k2:bb < xb:=EN;replace ra:=(ra.below hb1 ra.lt).below hB1 (by have:=ra.lt; omega);replace hBa:=(hBa.trans (hb1.mono hBa.size)).trans (hB1.mono (by have:=hBa.size; omega));clear hb1 hB1 hbb hxb hz1 hz1' aoj p3 a0;go_upto_region 4 with(fail)
 obtain⟨W2,hW2,r2,hB2,hz2⟩:=aJ W1 150 #[.func (.func 105) #[] #[.pointer (some ⟨w.heap.size,0,none⟩),.pointer (some ⟨xb,0,none⟩),.pointer (some ⟨W1.heap.size,0,none⟩)]];rw[<-hW2];clear hW2;obtain⟨fb,hfb⟩:=FH W1.heap.size;rw[<-hfb] at r2 ⊢;have k3:xb < fb:=by have:=r1.lt;omega
 replace ra:=ra.below hB2 ra.lt;replace r1:=r1.below hB2 r1.lt;replace hm1:=hm1.below hB2 hm1.lt;replace hBa:=hBa.trans (hB2.mono hBa.size);have hE:Di W2 (Old F w.heap.size) bp g m up place vn vi vu vp vm w.heap.size xb fb bb (F8 g.Fg.length (FQ none 0 0)) :=
  ⟨HP.out.below hBa,λb hb=>by have:=hb.2; omega,ra.cell rfl,r1.cell rfl,r2.cell rfl,EN,EN,EN,hm1,aF⟩
 have HE:=Ac hE;have fc:=r2.cell (i:=0) rfl;have hxc:=r1.cell (i:=0) rfl;have hen:=enters' Tryz.func105 ak ak;have zx:xb≠bb:=EN;have hWs:=hBa.size;have HBA:=Ac hBa;clear hE hB2 hz2 hfb ra r1 r2 hm1 hBa;go_wp2_with fail
 refine(aei (Old F w.heap.size) bp g m up place vn vi vu vp vm w.heap.size xb fb bb HFT.out hn hml _ 0 W2 _ (FV _) hpos HE.out).mono ?_;rintro e w5 ⟨v,BR',n,rfl,ho⟩;have xc:=cell_grown ho.grown hxc zx;have HO:=Ac ho;clear ho hxc fc;dsimp only;go_wp2
 go_ret;have ho:=HO.out;have hne:n=g.Fg.length:=(HFT.out.good.span.unique ho.span).symm;refine⟨_,rfl,HBA.out.grown ho.grown EN (λk hk=>by cases hk; omega),⟨_,rfl⟩,?_⟩;have hlen:((Ir g.Fg.length).map (dG g m)).length=g.Fg.length:=aF;refine⟨some ⟨bb,0,none⟩,g.Fg.length,by rw[FX,hlen]; rfl,by rw[FX,hlen]; exact FV _,λ_=>⟨bb,0,rfl,.inr EN,ho.row.lt,λk x hx=>?_⟩⟩;rw[Gi] at hx;obtain⟨l,hl,rfl⟩:=Option.map_eq_some_iff.1 hx;rw[Gi] at hl;obtain⟨k',hk',rfl⟩:=Option.map_eq_some_iff.1 hl;have hk2:k < g.Fg.length:=by have:=FD hk';simpa using this
 rw[List.getElem?_range hk2] at hk';cases hk';obtain⟨vj,h3,h4⟩:=ho.inn k (GR _) EN;refine⟨vj,by rw[Iz,Gp]; exact ho.row.cell h3,IB h4 (λb hb _=>hb.elim (λh=>.inl h.1) λh=>.inr EN) (Gh _ _)⟩
end Go.Proofs.YtnmeejofpkhlkaaGreatDoor
