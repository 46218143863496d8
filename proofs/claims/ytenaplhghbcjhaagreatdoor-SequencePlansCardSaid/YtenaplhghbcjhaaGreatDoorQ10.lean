import Derived.Test.YtenaplhghbcjhaaGreatDoorQ08
import Derived.Deep.AppendSrc
set_option linter.all false
namespace Go.Proofs.YtenaplhghbcjhaaGreatDoor
open Nat renaming le_refl->Gy
open Go.RowKit
theorem Gs.rvs {w:World} {F:Gq} {v:Value} {l:List Raw} (h:Gs w F v l):∃ L:List RV,L.map RV.r=l/\(∀ q∈L,q.fine w F)/\∃ (A:Option Addr) (c:Nat),v = .slice A l.length c/\l.length<=c /\
  (0 < l.length->∃ ad,A=some ad/\∀ j u,(L.flatMap RV.cells)[j]? = some u->w.cell? (ad.add j)=some u):=by
 obtain⟨A,c,rfl,hc,hr⟩:=h;by_cases h0:0 < l.length
 ·obtain⟨b,o,rfl,hF,hb,hx⟩:=hr h0;have hL:∀ k x,l[k]? = some x->∃ q:RV,q.r=x/\q.fine w F/\∀ i u,q.cells[i]? = some u->w.cell? ⟨b,o+k*3+i,none⟩=some u:=λk x hk=>by
   obtain⟨e0,⟨vn,e1,i1⟩,⟨vd,e2,i2⟩⟩:=hx k x hk;refine⟨⟨x,vn,vd⟩,rfl,⟨i1,i2⟩,λi u hu=>?_⟩;match i,hu with
   | 0,hu=>cases hu; exact e0
   | 1,hu=>cases hu; exact e1
   | 2,hu=>cases hu; exact e2
  have hT:∀ n,n<=l.length->∃ L:List RV,L.length=n/\L.map RV.r=l.take n/\∀ k q,L[k]? = some q->q.fine w F/\∀ i u,q.cells[i]? = some u->w.cell? ⟨b,o+k*3+i,none⟩=some u:=by
    intro n;induction n with
    | zero=>intro _; exact⟨[],rfl,rfl,λk q hk=>by simp at hk⟩
    | succ n ih =>
      intro hn;obtain⟨L,h1,h2,h3⟩:=ih FI;obtain⟨x,hx'⟩:=Gl (l:=l) (k:=n) FI;obtain⟨q,q1,q2,q3⟩:=hL n x hx';refine⟨L ++ [q],by rw[List.length_append,h1]; rfl,by rw[List.map_append,h2,Gv hx',List.map_cons,List.map_nil,q1],λk p hk=>?_⟩;grind
  obtain⟨L,h1,h2,h3⟩:=hT l.length (Gy _);rw[List.take_of_length_le (Gy _)] at h2;refine⟨L,h2,λq hq=>by obtain⟨k,hk⟩:=List.getElem?_of_mem hq; exact(h3 k q hk).1,_,c,rfl,hc,λ_=>⟨_,rfl,λj u hu=>?_⟩⟩;have hj:=Gn hu;rw[aei] at hj;have hk:j / 3 < L.length:=FI;obtain⟨q,hq⟩:=Gl hk;have e:j=j / 3*3+j % 3:=FI;rw[e,lF (f:=RV.cells) (s:=3) (λ_=>rfl) L (j / 3) (j % 3) q hq (Nat.mod_lt _ FI)] at hu;have h4:=(h3 _ _ hq).2 _ _ hu;rw[Addr.add_lit,e,<-Nat.add_assoc];exact h4
 ·have hnil:l = []:=List.eq_nil_of_length_eq_zero FI;subst hnil;exact⟨[],rfl,(λq hq=>by cases hq),A,c,rfl,hc,(λh=>absurd h aA)⟩
