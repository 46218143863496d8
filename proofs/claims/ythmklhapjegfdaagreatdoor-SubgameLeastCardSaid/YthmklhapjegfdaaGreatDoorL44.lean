/- The example's game and strategy: what it is worth. -/
import Derived.Test.YthmklhapjegfdaaGreatDoorL43
import Derived.Test.YthmklhapjegfdaaGreatDoorL26
set_option linter.all false
namespace Go.Proofs.YthmklhapjegfdaaGreatDoor
open Go.RowKit
theorem aec:∀ {a b:List (List Rat)},a.map (List.map aK)=b.map (List.map aK)→a=b
 | [],[],_=>rfl
 | [],_ :: _,h=>by cases h
 | _ :: _,[],h=>by cases h
 | x :: a,y :: b,h=>by
  rw[List.map_cons,List.map_cons,List.cons.injEq] at h;rw[zO h.1,aec h.2]
theorem aje {xs:List Rat} (h:∀ x∈xs,rl x≤1024):ahR xs=0:=by
 unfold ahR;rw[if_neg];simp only[List.any_eq_true,not_exists,not_and,decide_eq_true_eq];intro x hx;have:=h x hx; omega
theorem afA {x:Rat} (h:rl x≤1024):iY (aK x)=0:=by
 have h1:=zH (n:=x.num.natAbs) (Nat.le_trans (kH x) h);have h2:=zH (n:=x.den) (Nat.le_trans (kU x) h);have h3:(dig x.den).length≠0:=fun e=>aer x (List.eq_nil_of_length_eq_zero e)
 have h4:fH (aK x).num (aK x).den=0:=by
  unfold fH;rw[abz,abA,h1,h2,if_neg (by simp),if_neg (by simp),if_neg h3]
 unfold iY;rw[h4,if_neg (by simp),if_neg];rw[abz,abA,aU,aU,og,abB];rintro(⟨e1,e2⟩ | e)
 ·have h0:x.num.natAbs=0:=abY.1 e1;have hz:x.num=0:=by omega
  unfold dY at e2;rw[hz] at e2;exact absurd e2 (by decide)
 ·exact e rfl
theorem ajf {x:Rat} (h:0≤x):dY x=false:=by
 unfold dY;have:=Rat.num_nonneg.2 h;simp; omega
theorem ag9 {x:Rat} (h:rl x≤1024) (h0:0≤x) (h1:x≤1):iw (aK x)=0:=by
 unfold iw;rw[afA h,if_neg (by simp),if_neg];rintro(e | e)
 ·rw[abB,ajf h0] at e; cases e
 ·rw[zS,ab4] at e;exact absurd h1 (Rat.not_le.2 e)
theorem rY:∀ {l:List Int},(∀ e∈l,e=0)→iq l=0
 | [],_=>rfl
 | e :: l,h=>by
  unfold iq;rw[if_neg (by simpa using h e List.mem_cons_self)];exact rY fun x hx=>h x (List.mem_cons_of_mem _ hx)
def Ej (a:Int) (l:List Rat):Prop:=(l.length:Int)=a∧qP l=1∧∀ x∈l,rl x≤4∧0≤x∧x≤1
theorem ajg {a:Int} {l:List Rat} (h:Ej a l):mg a (l.map aK)=0:=by
 obtain⟨h1,h2,h3⟩:=h;have h4:lH (l.map aK)=0:=by
  unfold lH;refine rY fun e he=>?_
  obtain⟨r,hr,rfl⟩:=List.mem_map.1 he;obtain⟨x,hx,rfl⟩:=List.mem_map.1 hr;have:=h3 x hx;exact ag9 (by omega) this.2.1 this.2.2
 unfold mg;rw[List.length_map,if_neg (by simpa using h1),h4,if_neg (by simp),zT,h2,(tu 1 1).2 rfl,if_neg (by simp)]
def BM (g:Gm) (m:List (List Rat)):Prop:=m.length=g.infos.length∧∀ (k:Nat) (i:Inf) (l:List Rat),g.infos[k]? = some i→m[k]? = some l→Ej i.actions l
theorem BM.ais {g:Gm} {m:List (List Rat)} (hf:bg g=0) (h:BM g m):fF g (m.map (List.map aK))=0:=by
 unfold fF;rw[if_neg (by simpa using hf)];unfold oU;rw[if_neg (by simp[h.1])];refine rY fun e he=>?_
 obtain⟨k,hk⟩:=List.getElem?_of_mem he;rw[List.getElem?_zipWith,List.getElem?_map,List.getElem?_map] at hk;cases hi:g.infos[k]? with
 | none=>rw[hi] at hk; simp at hk
 | some i =>
  cases hl:m[k]? with
  | none=>rw[hi,hl] at hk; simp at hk
  | some l =>
   rw[hi,hl] at hk;simp at hk;rw[← hk];exact ajg (h.2 k i l hi hl)
theorem BM.limbs {g:Gm} {m:List (List Rat)} (h:BM g m):CB (m.map (List.map aK)):=by
 intro l hl r hr;obtain⟨l',hl',rfl⟩:=List.mem_map.1 hl;obtain⟨x,hx,rfl⟩:=List.mem_map.1 hr;obtain⟨k,hk⟩:=List.getElem?_of_mem hl';obtain⟨i,hi⟩:=au (l:=g.infos) (k:=k) (by have:=aB hk; have:=h.1; omega);have:=((h.2 k i l' hi hk).2.2 x hx).1;exact⟨Nat.le_trans (kH x) this,Nat.le_trans (kU x) this⟩
theorem BM.fit {g:Gm} {m:List (List Rat)} (hf:bg g=0) (h:BM g m):Fit g m:=by
 obtain⟨m',e,hfit,_⟩:=afb (h.ais hf) h.limbs;rw[aec e]; exact hfit
theorem mkRat_self {s:Nat} (hs:s≠0):mkRat (s:Int) s=1:=by
 have:=Rat.mkRat_mul_right (n:=1) (d:=1) hs;rw[Int.one_mul,Nat.one_mul] at this;exact this
end Go.Proofs.YthmklhapjegfdaaGreatDoor
