/- Plain law: a part of a well formed game is well formed, and its values are those of the game. -/
import Derived.Test.YthmklhapjegfdaaGreatDoorV34
import Derived.Test.YthmklhapjegfdaaGreatDoorV39
set_option linter.all false
namespace Go.Proofs.YthmklhapjegfdaaGreatDoor
open Go.RowKit
inductive BX (nodes:List Nd):List Int→Nat→Nat→Nat→Prop
 | nil (a:Nat):BX nodes [] a a 0
 | cons {a m b h k:Nat} {n:Nd} {cs:List Int}:nodes[a]? = some n→BX nodes n.next (a+1) m h→BX nodes cs m b k→BX nodes ((a:Int) :: cs) a b (max (h+1) k)
theorem Span.tall {nodes:List Nd} {cs:List Int} {a b:Nat} (h:Span nodes cs a b):∃ k,BX nodes cs a b k:=by
 induction h with
 | nil a=>exact⟨0,.nil a⟩
 | cons hn _ _ ih1 ih2=>obtain⟨h,t1⟩:=ih1; obtain⟨k,t2⟩:=ih2; exact⟨_,.cons hn t1 t2⟩
theorem BX.span {nodes:List Nd} {cs:List Int} {a b k:Nat} (h:BX nodes cs a b k):Span nodes cs a b:=by
 induction h with
 | nil a=>exact .nil a
 | cons hn _ _ ih1 ih2=>exact .cons hn ih1 ih2
theorem BX.sub {nodes:List Nd} {cs:List Int} {a b k:Nat} (h:BX nodes cs a b k):∀ i:Nat,a≤i→i < b→∃ e j,BX nodes [(i:Int)] i e j∧j≤k:=by
 induction h with
 | nil a=>intro i h1 h2; omega
 | @cons a m b h k n cs hn t1 t2 ih1 ih2 =>
  intro i h1 h2;by_cases ha:i=a
  ·subst ha;exact⟨m,_,.cons hn t1 (.nil m),byOmega⟩
  ·by_cases hm:i < m
   ·obtain⟨e,j,h3,h4⟩:=ih1 i byOmega hm;exact⟨e,j,h3,byOmega⟩
   ·obtain⟨e,j,h3,h4⟩:=ih2 i byOmega h2;exact⟨e,j,h3,byOmega⟩
theorem BX.shift {nodes nodes':List Nd} {r e:Nat} (hP:∀ i n,r≤i→i < e→nodes[i]? = some n→∃ n',nodes'[i - r]? = some n'∧n'.next=n.next.map (fun c=>c - (r:Int))) {cs:List Int} {a b k:Nat} (h:BX nodes cs a b k) :
  r≤a→b≤e→BX nodes' (cs.map (fun c=>c - (r:Int))) (a - r) (b - r) k:=by
 induction h with
 | nil a=>intro _ _; exact .nil _
 | @cons a m b h k n cs hn t1 t2 ih1 ih2 =>
  intro h1 h2;have l1:=t1.span.le;have l2:=t2.span.le;obtain⟨n',h3,h4⟩:=hP a n h1 byOmega hn;have i1:=ih1 byOmega byOmega;have i2:=ih2 byOmega h2;rw[List.map_cons,show(a:Int) - (r:Int)=((a - r:Nat):Int) by omega];refine .cons h3 ?_ i2;rw[h4,show a - r+1=a+1 - r by omega];exact i1
theorem BX.walk {nodes:List Nd} {cs:List Int} {a b k:Nat} (h:BX nodes cs a b k):∀ (f:Nat) (D deep:Int),nodes.length+1≤a+f→bJ (fun a d=>bK nodes f a D d) cs (a:Int) deep=((b:Int),if k=0 then deep else max deep (D+k - 1)):=by
 induction h with
 | nil a=>intro f D deep _; rfl
 | @cons a m b h k n cs hn t1 t2 ih1 ih2 =>
  intro f D deep hf;have hl:=aI hn;have l1:=t1.span.le;obtain⟨f',rfl⟩:∃ f',f=f'+1:=⟨f - 1,byOmega⟩;have e1:bK nodes (f'+1) a D deep=((m:Int),if h=0 then max deep D else max (max deep D) (D+1+h - 1)):=by
   unfold bK;rw[hn];exact ih1 f' (D+1) (max deep D) byOmega
  unfold bJ;rw[if_neg ay,Int.toNat_natCast,e1,if_neg ay];rw[ih2 (f'+1) D _ byOmega];simp only[Prod.mk.injEq,true_and];split <;> split <;> split <;> omega
theorem BX.root {nodes:List Nd} {k:Nat} (h:BX nodes [0] 0 nodes.length k):(bK nodes (nodes.length+1) 0 0 0).1=nodes.length∧(bK nodes (nodes.length+1) 0 0 0).2=if k=0 then 0 else max 0 ((k:Int) - 1):=by
 have hw:=h.walk (nodes.length+1) 0 0 byOmega;unfold bJ at hw;rw[if_neg ay] at hw;have e0:((0:Nat):Int).toNat=0:=rfl;rw[e0] at hw;split at hw
 ·simp only[Prod.mk.injEq] at hw;omega
 ·unfold bJ at hw;simp only[Prod.mk.injEq] at hw;refine⟨hw.1,?_⟩;rw[hw.2];split
  ·rfl
  ·congr 1; omega
theorem aiw {g:Gm} (h:bF g=0):(bK g.nodes (g.nodes.length+1) 0 0 0).2≤40:=by
 unfold bF at h;split at h
 ·omega
 ·split at h
  ·rename_i h2; exact absurd h h2
  ·split at h
   ·omega
   ·split at h
    ·omega
    ·omega
theorem acC {g:Gm} (h:bF g=0):1≤g.au∧g.au≤4∧1≤g.nodes.length∧g.nodes.length≤2000∧g.infos.length≤200:=by
 unfold bF at h;split at h
 ·omega
 ·rename_i h1; unfold iq at h1; omega
theorem acD {g:Gm} (h:bF g=0):kS g=false∧jc (aW g)=false∧dI (aW g) g.infos.length=false:=by
 obtain⟨_,h2⟩:=lG h;unfold jm at h2;split at h2
 ·omega
 ·split at h2
  ·omega
  ·split at h2
   ·omega
   ·rename_i a b c; exact⟨by simpa using a,by simpa using b,by simpa using c⟩
theorem akP {g:Gm} (h1:¬ iq g) (h2:cO g.au g.infos.length g.nodes=0) (h3:(bK g.nodes (g.nodes.length+1) 0 0 0).1=g.nodes.length) (h4:(bK g.nodes (g.nodes.length+1) 0 0 0).2≤40)
  (h5:kS g=false) (h6:jc (aW g)=false) (h7:dI (aW g) g.infos.length=false):bF g=0:=by
 unfold bF jm;rw[if_neg h1,if_neg (by simpa using h2),if_neg (by simpa using h3),if_neg byOmega,h5,h6,h7];rfl
theorem acE {names:List Int} {k:Nat} {y:Int} (h:names[k]? = some y) (hu:∀ j,names[j]? = some y→j=k):∀ n,k < n→iP names n y=(k:Int)
 | 0,hn=>absurd hn byOmega
 | n+1,hn=>by
  unfold iP;by_cases hk:names[n]? = some y
  ·rw[if_pos hk,hu n hk]
  ·rw[if_neg hk];have:n≠k:=fun e=>hk (e▸h)
   exact acE h hu n byOmega
theorem aix (inn:List Bool) (sets:List (List Int)) (k:Nat):(qw inn sets k).Pairwise (· < ·):=by
 unfold qw;rw[List.pairwise_map];refine List.Pairwise.filter _ ?_;have h:(((sets.take k).zipIdx).map Prod.snd).Pairwise (· < ·):=by
  rw[List.zipIdx_map_snd];exact List.pairwise_lt_range'
 rw[List.pairwise_map] at h;exact h.imp fun h=>by omega
theorem aha {l:List Int} (h:l.Pairwise (· < ·)) {i j:Nat} {y:Int} (hi:l[i]? = some y) (hj:l[j]? = some y):i=j:=by
 obtain⟨h1,e1⟩:=List.getElem?_eq_some_iff.1 hi;obtain⟨h2,e2⟩:=List.getElem?_eq_some_iff.1 hj;have hp:=List.pairwise_iff_getElem.1 h;rcases Nat.lt_trichotomy i j with h3 | h3 | h3
 ·have:=hp i j h1 h2 h3;omega
 ·exact h3
 ·have:=hp j i h2 h1 h3;omega
theorem ajU {l:List Int} (h:l.Pairwise (· < ·)) {i j:Nat} {x y:Int} (hi:l[i]? = some x) (hj:l[j]? = some y) (hij:i < j):x < y:=by
 obtain⟨h1,e1⟩:=List.getElem?_eq_some_iff.1 hi;obtain⟨h2,e2⟩:=List.getElem?_eq_some_iff.1 hj;have:=List.pairwise_iff_getElem.1 h i j h1 h2 hij;omega
structure AZ (g:Gm) (r e:Nat) (names:List Int) (P:Gm):Prop where
 form:bF g=0
 lt:r < e
 le:e≤g.nodes.length
 span:Span g.nodes [(r:Int)] r e
 au:P.au=g.au
 len:P.nodes.length=e - r
 node:∀ (i:Nat) (x:Nd),r≤i→i < e→g.nodes[i]? = some x→P.nodes[i - r]? = some (dO r (iP names names.length) x)
 infos:P.infos=names.map (nP g)
 asc:names.Pairwise (· < ·)
 mem:∀ s:Int,s∈names↔∃ q:Nat,s=(q:Int)∧q < g.infos.length∧∃ i,r≤i∧i < e∧mv g.nodes q i=true
 all:∀ (q i j:Nat),mv g.nodes q i=true→mv g.nodes q j=true→r≤i→i < e→r≤j∧j < e
theorem akQ {g:Gm} {r:Nat} (hr:r < g.nodes.length) (h:fK g (r:Int)=0):AZ g r (endOf g (r:Int)) (fO g (r:Int)) (rG g (r:Int)):=by
 obtain⟨hg,_⟩:=acs h;have hf:bF g=0:=by
  unfold fK at h;by_cases hf:bF g=0
  ·exact hf
  ·rw[if_pos (by simpa using hf)] at h;exact h
 obtain⟨e1,e2,e3,e4,_,_⟩:=abd hg hr;obtain⟨hn,hP⟩:=aij h;have hal:pK g [(r:Int)]=true:=by
  rw[← xW hg hr];unfold fK at h;rw[if_neg (by simpa using hf)] at h;split at h
  ·split at h
   ·assumption
   ·omega
  ·omega
 have hrr:∀ x∈[(r:Int)],0≤x∧x < (g.nodes.length:Int):=fun x hx=>by simp at hx;omega
 have hin:∀ i,In g.nodes [(r:Int)] i↔r≤i∧i < endOf g (r:Int):=fun i=>by
  rw[alC];constructor
  ·rintro⟨e,h1,h2⟩;rw[e3.unique h1];exact h2
  ·intro h;exact⟨_,e3,h⟩
 have hsh:=aeU hg hrr hal;refine⟨hf,e1,e2,e3,rfl,?_,fun i x h1 h2 hx=>?_,rfl,by rw[hn]; exact aix _ _ _,fun s=>?_,fun q i j hi hj h1 h2=>(hin j).1 (hsh.sets q i j hi hj ((hin i).2 ⟨h1,h2⟩))⟩
 ·rw[hP];unfold adq;rw[List.length_map,List.length_range',Int.toNat_natCast]
 ·rw[hP,hn];unfold adq;rw[Int.toNat_natCast];show((List.range' r (endOf g (r:Int) - r)).map _)[i - r]? = _;rw[List.getElem?_map,List.getElem?_range' byOmega];rw[Option.map_some];unfold uH;rw[show r+1*(i - r)=i by omega,hx]
 ·rw[hn,agt];have hlen:(aW g).length=g.infos.length:=bC _ _ _;have inn:∀ k:Nat,jr (iR g.nodes [(r:Int)]) (k:Int)=true↔k < g.nodes.length∧In g.nodes [(r:Int)] k:=fun k=>by unfold jr;rw[Int.toNat_natCast];exact uG hg hrr k
  constructor
  ·rintro⟨q,l,rfl,hq,ha⟩;have hqs:q < g.infos.length:=by have:=aI hq;omega
   rw[fM hg.infos hqs] at hq;cases hq;obtain⟨x,hx1,hx2⟩:=List.any_eq_true.1 ha;obtain⟨z,rfl,hz2,hz3⟩:=gq.1 hx1;have:=(hin z).1 ((inn z).1 hx2).2;exact⟨q,rfl,hqs,z,this.1,this.2,hz3⟩
  ·rintro⟨q,rfl,hqs,z,hz1,hz2,hz3⟩;exact⟨q,_,rfl,fM hg.infos hqs,List.any_eq_true.2 ⟨z,gq.2 ⟨z,rfl,zu hz3,hz3⟩,(inn z).2 ⟨zu hz3,(hin z).2 ⟨hz1,hz2⟩⟩⟩⟩
section
variable {g P:Gm} {r e:Nat} {names:List Int}
theorem AZ.num (h:AZ g r e names P) {k:Nat} {s:Int} (hk:names[k]? = some s):iP names names.length s=(k:Int) :=
 acE hk (fun _ hj=>aha h.asc hj hk) _ (aI hk)
theorem AZ.move (h:AZ g r e names P) {i:Nat} {x:Nd} (h1:r≤i) (h2:i < e) (hx:g.nodes[i]? = some x) (hk:x.kind=2):∃ k:Nat,names[k]? = some x.info∧iP names names.length x.info=(k:Int)∧k < names.length∧0≤x.info∧x.info < (g.infos.length:Int):=by
 have hb:=(jd h.form).infos x (List.mem_of_getElem? hx) hk;obtain⟨q,hq⟩:=Int.eq_ofNat_of_zero_le hb.1;have hm:x.info∈names:=(h.mem _).2 ⟨q,hq,byOmega,i,h1,h2,by unfold mv; rw[hx]; simp[hk,hq]⟩;obtain⟨k,hk'⟩:=List.getElem?_of_mem hm;exact⟨k,hk',h.num hk',aI hk',hb⟩
theorem AZ.back (h:AZ g r e names P) {j:Nat} {n:Nd} (hn:P.nodes[j]? = some n):∃ x,g.nodes[r+j]? = some x∧r+j < e∧n=dO r (iP names names.length) x:=by
 have hj:=aI hn;have h1:=h.len;have h2:=h.le;obtain⟨x,hx⟩:=aC (l:=g.nodes) (k:=r+j) byOmega;have h3:=h.node (r+j) x byOmega byOmega hx;rw[show r+j - r=j by omega,hn] at h3;exact⟨x,hx,byOmega,Option.some.inj h3⟩
theorem AZ.mv (h:AZ g r e names P) {k j:Nat} {s:Nat} (hk:names[k]? = some (s:Int)) (hj:j < e - r):mv P.nodes k j=mv g.nodes s (r+j):=by
 have h2:=h.le;obtain⟨x,hx⟩:=aC (l:=g.nodes) (k:=r+j) byOmega;have h3:=h.node (r+j) x byOmega byOmega hx;rw[show r+j - r=j by omega] at h3;unfold Go.Proofs.YthmklhapjegfdaaGreatDoor.mv;rw[h3,hx];show(decide (x.kind=2)&&decide ((if x.kind=2 then iP names names.length x.info else 0).toNat=k))=(decide (x.kind=2)&&decide (x.info.toNat=s));by_cases h4:x.kind=2
 ·obtain⟨q,h5,h6,h7,h8,h9⟩:=h.move (i:=r+j) byOmega byOmega hx h4;rw[if_pos h4,h6,Int.toNat_natCast];congr 1;rw[decide_eq_decide];constructor
  ·rintro rfl;rw[hk] at h5;have:=Option.some.inj h5;omega
  ·intro h10;have:x.info=(s:Int):=byOmega;rw[this] at h5;exact aha h.asc h5 hk
 ·simp[h4]
theorem AZ.members (h:AZ g r e names P) {k:Nat} {s:Nat} (hk:names[k]? = some (s:Int)):bQ P.nodes k P.nodes.length=(bQ g.nodes s g.nodes.length).map (fun c=>c - (r:Int)):=by
 refine ag7 (abb _ _) ?_ fun x=>?_
 ·rw[List.pairwise_map];have:=abb (Go.Proofs.YthmklhapjegfdaaGreatDoor.mv g.nodes s) g.nodes.length;exact this.imp fun h=>by omega
 ·rw[gq,List.mem_map];obtain⟨q,hq,_,i0,a1,a2,a3⟩:=(h.mem (s:Int)).1 (List.mem_of_getElem? hk);have hqs:q=s:=byOmega;subst hqs;constructor
  ·rintro⟨j,rfl,hj,hm⟩;rw[h.len] at hj;rw[h.mv hk hj] at hm;exact⟨((r+j:Nat):Int),gq.2 ⟨r+j,rfl,zu hm,hm⟩,byOmega⟩
  ·rintro⟨c,hc,rfl⟩;obtain⟨i,rfl,hi,hm⟩:=gq.1 hc;have:=h.all q i0 i a3 hm a1 a2;refine⟨i - r,byOmega,by rw[h.len]; omega,?_⟩;rw[h.mv hk byOmega,show r+(i - r)=i by omega];exact hm
theorem abl {sets:List (List Int)} {n:Nat} (h:dI sets n=false):∀ a d:Nat,a+d < n→(sets.getD a []).getD 0 0≤(sets.getD (a+d) []).getD 0 0
 | a,0,_=>Int.le_refl _
 | a,d+1,hd=>by
  have h1:=abl h a d byOmega;unfold dI at h;have h2:=List.any_eq_false.1 h (a+d+1) (by rw[List.mem_range'_1]; omega);unfold iT at h2;rw[show a+d+1 - 1=a+d by omega] at h2;rw[show a+(d+1)=a+d+1 by omega];simp only[decide_eq_true_eq] at h2;omega
theorem AZ.alR (h:AZ g r e names P):cO P.au P.infos.length P.nodes=0:=by
 refine tJ fun n hn=>?_
 obtain⟨j,hj⟩:=List.getElem?_of_mem hn;obtain⟨x,hx,hlt,rfl⟩:=h.back hj;have h1:=iC (lG h.form).1 x (List.mem_of_getElem? hx);rw[h.au];unfold aU at h1 ⊢;show(if x.kind=1 then _ else if x.kind=2 then _ else if x.kind=3 then _ else _)=_;by_cases k1:x.kind=1
 ·rw[if_pos k1] at h1 ⊢;unfold bZ at h1 ⊢;split at h1
  ·omega
  ·rename_i h2
   split at h1
   ·omega
   ·rename_i h3
    refine zaN ?_;intro e1;have e2:(dO (r:Int) (iP names names.length) x).info=0:=if_neg byOmega;rw[e1,e2];show(if x.aF≠0∨(0:Int)≠0∨0 < x.pay.length∨x.next.length < 1∨60 < x.next.length∨x.weights.length≠x.next.length then (3:Int) else if outside 1 1000 x.weights=true then 2 else 0)=0;rw[if_neg (show ¬ (x.aF≠0∨(0:Int)≠0∨0 < x.pay.length∨x.next.length < 1∨60 < x.next.length∨x.weights.length≠x.next.length) by omega)];exact if_neg h3
 ·rw[if_neg k1] at h1 ⊢;by_cases k2:x.kind=2
  ·rw[if_pos k2] at h1 ⊢;unfold dU at h1 ⊢;split at h1
   ·omega
   ·rename_i h2
    split at h1
    ·omega
    ·rename_i h3
     refine zaN ?_;intro e1;obtain⟨k,h5,h6,h7,h8,h9⟩:=h.move (i:=r+j) byOmega hlt hx k2;have e2:(dO (r:Int) (iP names names.length) x).info=(k:Int):=(if_pos k2).trans h6;have e3:P.infos.length=names.length:=by rw[h.infos,List.length_map]
     rw[e1,e2,e3];show(if 0 < x.pay.length∨0 < x.weights.length∨x.next.length < 1∨10 < x.next.length then (3:Int) else if x.aF < 0∨g.au≤x.aF∨(k:Int) < 0∨(names.length:Int)≤k then 2 else 0)=0;rw[if_neg (show ¬ (0 < x.pay.length∨0 < x.weights.length∨x.next.length < 1∨10 < x.next.length) from h2),if_neg (show ¬ (x.aF < 0∨g.au≤x.aF∨(k:Int) < 0∨(names.length:Int)≤k) by omega)]
  ·rw[if_neg k2] at h1 ⊢;by_cases k3:x.kind=3
   ·rw[if_pos k3] at h1 ⊢;unfold ig at h1 ⊢;split at h1
    ·omega
    ·rename_i h2
     split at h1
     ·omega
     ·rename_i h3
      refine zaN ?_;intro e1;have e2:(dO (r:Int) (iP names names.length) x).info=0:=if_neg byOmega;rw[e1,e2];show(if x.aF≠0∨(0:Int)≠0∨0 < x.next.length∨0 < x.weights.length∨(x.pay.length:Int)≠g.au then (3:Int) else if outside (-1000000) 1000000 x.pay=true then 2 else 0)=0;rw[if_neg (show ¬ (x.aF≠0∨(0:Int)≠0∨0 < x.next.length∨0 < x.weights.length∨(x.pay.length:Int)≠g.au) by omega)];exact if_neg h3
   ·rw[if_neg k3] at h1;omega
theorem AZ.name (h:AZ g r e names P) {k:Nat} (hk:k < names.length):∃ s i:Nat,names[k]? = some (s:Int)∧s < g.infos.length∧r≤i∧i < e∧Go.Proofs.YthmklhapjegfdaaGreatDoor.mv g.nodes s i=true:=by
 obtain⟨s,hs⟩:=aC hk;obtain⟨q,rfl,hq,i,h1,h2,h3⟩:=(h.mem s).1 (List.mem_of_getElem? hs);exact⟨q,i,hs,hq,h1,h2,h3⟩
theorem AZ.ahb (h:AZ g r e names P):bF P=0:=by
 have hg:=jd h.form;have hsz:=acC h.form;have hlt:=h.lt;have hle:=h.le;have hne:=h.alR;have hil:P.infos.length=names.length:=by rw[h.infos,List.length_map]
 have hnl:names.length≤g.infos.length:=by
  have:∀ k:Nat,∀ s:Int,names[k]? = some s→(k:Int)≤s:=by
   intro k;induction k with
   | zero =>
    intro s hs;obtain⟨q,rfl,_⟩:=(h.mem s).1 (List.mem_of_getElem? hs);omega
   | succ k ih =>
    intro s hs;obtain⟨u,hu⟩:=aC (l:=names) (k:=k) (by have:=aI hs; omega);have:=ih u hu;have:=ajU h.asc hu hs byOmega;omega
  rcases Nat.eq_zero_or_pos names.length with h0 | h0
  ·omega
  ·obtain⟨s,i,hs,hsl,_⟩:=h.name (k:=names.length - 1) byOmega;have:=this _ _ hs;omega
 have hinP:Bg P:=kV hne;have hpl:=h.len;obtain⟨K,hK⟩:=hg.span.tall;obtain⟨_,hw⟩:=hK.root;have hd:=aiw h.form;rw[hw] at hd;obtain⟨e',k,hk,hkK⟩:=hK.sub r (Nat.zero_le _) byOmega;have he:e=e':=h.span.unique hk.span;subst he;have hs:=hk.shift (r:=r) (e:=e) (nodes':=P.nodes) (fun i n h1 h2 hn=>⟨_,h.node i n h1 h2 hn,rfl⟩) (Nat.le_refl _) (Nat.le_refl _);rw[List.map_cons,List.map_nil,Int.sub_self,Nat.sub_self,← hpl] at hs;obtain⟨w1,w2⟩:=hs.root;refine akP (by unfold iq; rw[h.au]; omega) hne w1 ?_ ?_ ?_ ?_
 ·rw[w2];split
  ·omega
  ·split at hd <;> omega
 ·unfold kS;rw[List.any_eq_false];intro n hn;obtain⟨j,hj⟩:=List.getElem?_of_mem hn;obtain⟨x,hx,hxe,rfl⟩:=h.back hj;have ht:=List.any_eq_false.1 (acD h.form).1 x (List.mem_of_getElem? hx);unfold dK at ht ⊢;have ek:(dO (r:Int) (iP names names.length) x).kind=x.kind:=rfl;rw[ek];by_cases k2:x.kind=2
  ·obtain⟨k',h5,h6,h7,h8,h9⟩:=h.move (i:=r+j) byOmega hxe hx k2;have e2:(dO (r:Int) (iP names names.length) x).info=(k':Int):=(if_pos k2).trans h6;refine zaN ?_;intro e1;have e3:P.infos.getD k' default=g.infos.getD x.info.toNat default:=by
    rw[h.infos,List.getD_eq_getElem?_getD,List.getElem?_map,h5,Option.map_some,Option.getD_some,List.getD_eq_getElem?_getD];unfold nP;obtain⟨y,hy⟩:=aC (l:=g.infos) (k:=x.info.toNat) byOmega;rw[hy];rfl
   rw[e1,e2,Int.toNat_natCast,e3];exact ht
  ·simp[k2]
 ·unfold jc;rw[List.any_eq_false];intro l hl;obtain⟨k',hk'⟩:=List.getElem?_of_mem hl;have hkl:k' < P.infos.length:=by have:=aI hk';rwa [show(aW P).length=P.infos.length from bC _ _ _] at this
  rw[fM hinP hkl] at hk';cases hk';obtain⟨s,i,hs,hsl,h1,h2,h3⟩:=h.name (k:=k') byOmega;have:((i:Int) - r)∈bQ P.nodes k' P.nodes.length:=by
   rw[h.members hs];exact List.mem_map.2 ⟨(i:Int),gq.2 ⟨i,rfl,zu h3,h3⟩,rfl⟩
  have:=List.length_pos_of_mem this;simp;intro e;rw[e] at this;simp at this
 ·unfold dI;rw[List.any_eq_false];intro i hi;rw[List.mem_range'_1] at hi;obtain⟨s,i1,hs,hsl,a1,a2,a3⟩:=h.name (k:=i) byOmega;obtain⟨t,i2,ht,htl,b1,b2,b3⟩:=h.name (k:=i - 1) byOmega;have hts:=ajU h.asc ht hs byOmega;have hfm:=abl (acD h.form).2.2 t (s - t) byOmega;rw[show t+(s - t)=s by omega] at hfm;have gg:∀ q:Nat,q < g.infos.length→(aW g).getD q []=bQ g.nodes q g.nodes.length:=fun q hq=>by rw[List.getD_eq_getElem?_getD,fM hg.infos hq];rfl
  have gP:∀ (q z:Nat),names[q]? = some (z:Int)→(aW P).getD q []=(bQ g.nodes z g.nodes.length).map (fun c=>c - (r:Int)):=fun q z hq=>by
   rw[List.getD_eq_getElem?_getD,fM hinP (by have:=aI hq; omega),← h.members hq];rfl
  have hd0:∀ (z y:Nat),Go.Proofs.YthmklhapjegfdaaGreatDoor.mv g.nodes z y=true→((bQ g.nodes z g.nodes.length).map (fun c=>c - (r:Int))).getD 0 0=(bQ g.nodes z g.nodes.length).getD 0 0 - r:=fun z y hy=>by
   have hm:(y:Int)∈bQ g.nodes z g.nodes.length:=gq.2 ⟨y,rfl,zu hy,hy⟩;cases hc:bQ g.nodes z g.nodes.length with
   | nil=>rw[hc] at hm; cases hm
   | cons c cs=>rfl
  unfold iT;rw[gP i s hs,gP (i - 1) t ht,hd0 s i1 a3,hd0 t i2 b3];rw[gg s hsl,gg t htl] at hfm;simp only[decide_eq_true_eq];omega
def kL (names:List Int) (m:List (List Rat)):List (List Rat):=names.map fun s=>m.getD s.toNat []
theorem AZ.rows (h:AZ g r e names P) {m:List (List Rat)} (hm:Bv g m):Bv P (kL names m):=by
 refine⟨by rw[h.infos]; unfold kL; rw[List.length_map,List.length_map],fun k i l hi hl=>?_⟩;rw[h.infos,List.getElem?_map] at hi;unfold kL at hl;rw[List.getElem?_map] at hl;obtain⟨s,hs,rfl⟩:=Option.map_eq_some_iff.1 hi;rw[hs] at hl;cases hl;obtain⟨q,rfl,hq,_⟩:=(h.mem s).1 (List.mem_of_getElem? hs);obtain⟨y,hy⟩:=aC hq;obtain⟨l,hl⟩:=aC (l:=m) (k:=q) (by rw[hm.1]; exact hq);have e1:nP g (q:Int)=y:=by unfold nP;rw[Int.toNat_natCast,hy]
 rw[e1];show Dq y.actions (m.getD ((q:Int)).toNat []);rw[Int.toNat_natCast,List.getD_eq_getElem?_getD,hl];exact hm.2 q y l hy hl
theorem acF {look look':Nat→List Rat} {r:Int}:∀ (bs:List Rat) (cs:List Int) (acc:List Rat),(∀ c∈cs,look' (c - r).toNat=look c.toNat)→jP look' acc (bs.zip (cs.map (fun c=>c - r)))=jP look acc (bs.zip cs)
 | [],_,_,_=>rfl
 | _ :: _,[],_,_=>rfl
 | b :: bs,c :: cs,acc,h=>by
  show jP look' (wZ acc b (look' (c - r).toNat)) (bs.zip (cs.map (fun c=>c - r)))=jP look (wZ acc b (look c.toNat)) (bs.zip cs);rw[h c List.mem_cons_self,acF bs cs _ fun c hc=>h c (List.mem_cons_of_mem _ hc)]
theorem AZ.value (h:AZ g r e names P) {m:List (List Rat)} (hm:Bv g m):∀ d i:Nat,e - i≤d→r≤i→i < e→fV P (kL names m) (i - r)=fV g m i
 | 0,i,h0,h1,h2=>by omega
 | d+1,i,h0,h1,h2=>by
  have hg:=jd h.form;have hgP:=jd h.ahb;have hle:=h.le;obtain⟨x,hx⟩:=aC (l:=g.nodes) (k:=i) byOmega;rw[qU hg m hx,qU hgP _ (h.node i x h1 h2 hx),h.au];unfold valOf;show(if x.kind=3 then _ else _)=_;by_cases k3:x.kind=3
  ·rw[if_pos k3,if_pos k3]; rfl
  ·rw[if_neg k3,if_neg k3];have hch:iK (kL names m) (dO (r:Int) (iP names names.length) x)=iK m x:=by
    unfold iK;show(if x.kind=2 then _ else _)=_;by_cases k2:x.kind=2
    ·rw[if_pos k2,if_pos k2];obtain⟨k,h5,h6,h7,h8,h9⟩:=h.move h1 h2 hx k2;have e2:(dO (r:Int) (iP names names.length) x).info=(k:Int):=(if_pos k2).trans h6;rw[e2,Int.toNat_natCast];unfold kL;rw[List.getD_eq_getElem?_getD,List.getElem?_map,h5];rfl
    ·rw[if_neg k2,if_neg k2];rfl
   rw[hch];refine acF _ _ _ fun c hc=>?_
   have hk:=h.span.kids i x h1 h2 hx c hc;obtain⟨q,rfl⟩:=Int.eq_ofNat_of_zero_le (show 0≤c by omega);rw[show((q:Int) - (r:Int)).toNat=q - r by omega,Int.toNat_natCast];exact h.value hm d q byOmega byOmega byOmega
end
theorem agI {g:Gm} (hf:bF g=0) {x:Int} (hx:x∈jB g):∃ r:Nat,x=(r:Int)∧r < g.nodes.length∧fK g (r:Int)=0:=by
 unfold jB at hx;rw[if_pos hf] at hx;unfold gV at hx;obtain⟨i,hi,rfl⟩:=List.mem_map.1 hx;rw[List.mem_filter,List.mem_range] at hi;obtain⟨h1,h2⟩:=hi;refine⟨i,rfl,h1,?_⟩;unfold kP at h2;obtain⟨n,hn⟩:=aC h1;rw[hn] at h2;simp only[Bool.and_eq_true] at h2;unfold fK;rw[if_neg (by simpa using hf),if_pos (by unfold hasB; simp; omega),if_pos h2.2]
theorem abL (g:Gm):(jB g).length≤g.nodes.length:=by
 unfold jB;split
 ·exact rU _ _ _ _
 ·simp
theorem afd {g:Gm} (hf:bF g=0) {n:Nd} (hn:g.nodes[0]? = some n) (hk:n.kind≠3):(jB g)[0]? = some 0:=by
 have hg:=jd hf;have hp:=hg.pos;have hc:pK g [((0:Nat):Int)]=true:=aeV hg (fun r h=>by simp at h; omega) fun s i j hi hj _=>alD hg (zu hj)
 have ht:kP g.nodes (aQ g.nodes).2 (aW g) 0=true:=by
  unfold kP;rw[hn];simp only[Bool.and_eq_true];exact⟨by simpa using hk,by rw[xW hg hp]; exact hc⟩
 unfold jB;rw[if_pos hf];unfold gV;obtain⟨k,hk⟩:∃ k,g.nodes.length=k+1:=⟨g.nodes.length - 1,byOmega⟩;rw[hk,List.range_succ_eq_map,List.filter_cons_of_pos ht];rfl
theorem ahc:∀ (l:List Int) (a b:Int),l.Pairwise (· < ·)→(∀ x∈l,a≤x∧x < b)→l.length≤(b - a).toNat
 | [],_,_,_,_=>Nat.zero_le _
 | x :: l,a,b,hp,hx=>by
  rw[List.pairwise_cons] at hp;have h1:=hx x ay;have h2:=ahc l (x+1) b hp.2 fun y hy=>by
   have:=hp.1 y hy;have:=hx y (by simp[hy]);omega
  simp only[List.length_cons];omega
theorem AZ.small {g P:Gm} {r e:Nat} {names:List Int} (h:AZ g r e names P) (hs:Small g):Small P:=by
 have h1:=hs.nodes;have h2:=hs.infos;have h3:=h.le;have h4:=h.len;have key:∀ n∈P.nodes,n.next.length≤100∧n.weights.length≤100∧n.pay.length≤100:=fun n hn=>by
  obtain⟨j,hj⟩:=List.getElem?_of_mem hn;obtain⟨x,hx,_,rfl⟩:=h.back hj;have hm:=List.mem_of_getElem? hx;have:=hs.next x hm;have:=hs.weights x hm;have:=hs.pay x hm;unfold dO;simp only[List.length_map];exact⟨byOmega,byOmega,byOmega⟩
 refine⟨byOmega,?_,fun n hn=>(key n hn).1,fun n hn=>(key n hn).2.1,fun n hn=>(key n hn).2.2⟩;have hi:=(acC h.ahb);have:names.length≤g.infos.length:=by
  have:=ahc names 0 g.infos.length h.asc fun x hx=>by
   obtain⟨q,rfl,hq,_⟩:=(h.mem x).1 hx;omega
  omega
 rw[h.infos,List.length_map];omega
theorem aiy {g:Gm} {m:List (List Rat)} (hf:Fit g m) {i:Nat} (hi:i < g.nodes.length) (hn:g.nodes.length≤100) (hl:(fV g m i).length≤100):Cc ((fV g m i).map aG):=by
 refine⟨by rw[List.length_map]; omega,fun r hr=>?_⟩;obtain⟨x,hx,rfl⟩:=List.mem_map.1 hr;have h1:=hf.aiX hi x hx;unfold rl at h1;unfold aG;simp only;omega
structure Ei (g:Gm) (m:List (List Rat)) (r:Nat) (names:List Int) (P:Gm):Prop where
 form:bF P=0
 small:Small P
 len:P.infos.length=names.length
 acz:BU P (kL names m)
 value:fV P (kL names m) 0=fV g m r
 name:∀ s∈names,∃ q:Nat,s=(q:Int)∧q < g.infos.length
theorem ajV {g:Gm} {m:List (List Rat)} {r:Nat} (hs:Small g) (hm:Bv g m) (hr:r < g.nodes.length) (h:fK g (r:Int)=0):Ei g m r (fO g (r:Int)) (rG g (r:Int)):=by
 have hp:=akQ hr h;have hsm:=hp.small hs;refine⟨hp.ahb,hsm,by rw[hp.infos,List.length_map],(hp.rows hm).facts hp.ahb hsm,?_,fun s hs=>?_⟩
 ·have:=hp.value hm (endOf g (r:Int) - r) r (Nat.le_refl _) (Nat.le_refl _) hp.lt;rwa [Nat.sub_self] at this
 ·obtain⟨q,rfl,hq,_⟩:=(hp.mem s).1 hs;exact⟨q,rfl,hq⟩
end Go.Proofs.YthmklhapjegfdaaGreatDoor
