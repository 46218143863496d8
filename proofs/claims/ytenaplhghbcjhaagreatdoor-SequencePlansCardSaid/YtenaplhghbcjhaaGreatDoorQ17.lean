import Derived.Test.YtenaplhghbcjhaaGreatDoorQ05
import Derived.OrdersHeld
import Derived.Deep.RegionHeld
set_option linter.all false
namespace Go.Proofs.YtenaplhghbcjhaaGreatDoor
open _root_.Array renaming getD_eq_getD_getElem?->Ia
open Bool renaming and_eq_true->Ib
open Go renaming Value->GN,World->GK
open List renaming all_eq_true->Jz,erase_cons_head->Lu,mem_cons_of_mem->Iz
open Go.Region renaming Mode->Jl,noSelect->Jp,ready->H8,wanted->Jq
open Go.RowKit
variable {a b:Act} {i j:Nat}
section
variable {P:Program} {md:Jl} {ops:Array Oper} {Q:Exit->Act->GK->Prop} {S:GK->Prop} {T:GK->GK->Prop} {R:Nat->GN->GK->Prop}
def dep (md:Jl) (ops:Array Oper) (j i:Nat):Bool:=match ops[j]? with | some o=>o.after.any λe=>Region.binds md e&&e.on==i | none=>false
def Step (P:Program) (ops:Array Oper) (T:GK->GK->Prop) (R:Nat->GN->GK->Prop) (i:Nat) (a:Act) (w:GK):Prop :=
 ∀ o,ops[i]? = some o->∀ K:Act->GK->Prop,Shut (∀ u w',T w w'->R i u w'->K (a.put o.dst u) w')->if Jq o (yielded ops a.tmps)=true then Oper.wp P o a w K (λ_ _ _=>False) else K (a.put o.dst undef) w
def iQ (ops:Array Oper) (i:Nat):Option Tmp:=(ops[i]?).bind (·.dst)
def Flow (P:Program) (md:Jl) (ops:Array Oper) (Q:Exit->Act->GK->Prop) (S:GK->Prop) (T:GK->GK->Prop) (R:Nat->GN->GK->Prop):List Nat->List (Nat×GN)->Act->Prop
 | [],fs,a=>∀ w,S w->(∀ p∈fs,R p.1 p.2 w)->Q .normal a w
 | j :: js,fs,a=>(∀ w,S w->(∀ p∈fs,dep md ops j p.1=true->R p.1 p.2 w)->Step P ops T R j a w)/\∀ v,Flow P md ops Q S T R js ((j,v) :: fs) (a.put (iQ ops j) v)
def far (md:Jl) (ops:Array Oper) (j i:Nat):Bool:=match ops[j]?,ops[i]? with
 | some x,some y=>(match y.dst with | some d=>!(x.looksAt ops).contains d&&x.dst != some d | none=>true)&&(match x.dst with | some d=>dep md ops i j || !(y.looksAt ops).contains d | none=>true) && !dep md ops j i
 | _,_=>false
def oJ (md:Jl) (ops:Array Oper):List Nat->Bool
 | []=>true
 | j :: js=>js.all (λi=>far md ops j i)&&oJ md ops js
theorem agx {x y:Oper} (hx:ops[j]? = some x) (hy:ops[i]? = some y) (h:far md ops j i=true) :
  (∀ d,y.dst=some d->d ∉ x.looksAt ops)/\(∀ d,y.dst=some d->x.dst≠some d)/\(dep md ops i j=false->∀ d,x.dst=some d->d ∉ y.looksAt ops):=by grind [far]
theorem aes (h:far md ops j i=true):dep md ops j i=false:=by grind [far]
theorem alL {dst:Option Tmp} {u u':GN} (h:a.put dst u=a.put dst u') (hs:b.tmps.size=a.tmps.size):b.put dst u=b.put dst u':=by
 cases dst with
 | none=>rfl
 | some d =>
   have h1:(a.put (some d) u).tmps=(a.put (some d) u').tmps:=by rw[h]
   simp only[Act.put] at h1 ⊢;by_cases hd:d < a.tmps.size
   ·have hd':d < b.tmps.size:=by rw[hs];exact hd
    have h2:(a.tmps.setIfInBounds d u)[d]? = (a.tmps.setIfInBounds d u')[d]?:=by rw[h1]
    grind
   grind
theorem agy (a:Act) (dst:Option Tmp) (v:GN):(a.put dst v).tmps.size=a.tmps.size:=by
 cases dst <;> simp[Act.put]
theorem Step.same {w:GK} (h:Step P ops T R i a w) (hs:b.tmps.size=a.tmps.size)
  (he:∀ o,ops[i]? = some o->execOp b.eval o=execOp a.eval o/\Jq o (yielded ops b.tmps)=Jq o (yielded ops a.tmps)):Step P ops T R i b w:=by
 intro o ho K hK;have h1:=h o ho (λx w'=>∃ u,x=a.put o.dst u/\T w w'/\R i u w') (λu w' ht hr=>⟨u,rfl,ht,hr⟩);obtain⟨e1,e2⟩:=he o ho;have fin:∀ u w',(∃ u',a.put o.dst u=a.put o.dst u'/\T w w'/\R i u' w')->K (b.put o.dst u) w':=by
  rintro u w' ⟨u',e,ht,hr⟩;rw[alL e hs];exact hK u' w' ht hr
 rw[e2];split
 ·rename_i hw
  rw[LH hw] at h1;unfold Oper.wp at h1 ⊢;rw[e1];generalize (execOp a.eval o).run P w=r at *;cases r with
  | ok n w' =>
   cases n <;> simp only[Oper.upon] at h1 ⊢
   case value u=>exact fin u w' h1
   case skip=>exact fin _ w' h1
   case defer d =>
    obtain⟨u,e,_⟩:=h1;exfalso;have e3:(({ a with defers:=d :: a.defers }:Act).put o.dst undef).defers=(a.put o.dst u).defers:=by rw[e]
    have e4:∀ (x:Act) dst v,(x.put dst v).defers=x.defers:=by intro x dst v;cases dst <;> rfl
    rw[e4,e4] at e3;have:=congrArg List.length e3;simp at this
   case enter f args =>
    refine Calls.mono h1 λe w'' he=>?_
    cases e with
    | returned u=>exact fin u w'' he
    | panicked c=>exact he
    | outgrown=>exact he
   case row row args=>exact Rows.mono h1 λu w'' he=>fin u w'' he
  | halt x w'=>cases x <;> simp only[Oper.upon] at h1
 ·rename_i hw
  rw[LG hw] at h1;exact fin _ w h1
theorem Step.put {w:GK} {dst:Option Tmp} {v:GN} (h:Step P ops T R i a w) (hn:Jp ops=true)
  (h1:∀ o,ops[i]? = some o->∀ d,dst=some d->d ∉ o.looksAt ops):Step P ops T R i (a.put dst v) w :=
 h.same (agy a dst v) λo ho=>⟨execOp_put o (λcs b=>Region.noSelect_spec hn i o cs b ho) a dst v (h1 o ho),wanted_put o a dst v (h1 o ho)⟩
theorem Step.an1 {w:GK} {dst:Option Tmp} {v:GN} (h:Step P ops T R i (a.put dst v) w) (hn:Jp ops=true)
  (h1:∀ o,ops[i]? = some o->∀ d,dst=some d->d ∉ o.looksAt ops):Step P ops T R i a w :=
 h.same (agy a dst v).symm λo ho=>⟨(execOp_put o (λcs b=>Region.noSelect_spec hn i o cs b ho) a dst v (h1 o ho)).symm,(wanted_put o a dst v (h1 o ho)).symm⟩
theorem Flow.perm:∀ {js:List Nat} {fs gs:List (Nat×GN)} {a:Act},(∀ p,p∈gs↔p∈fs)->Flow P md ops Q S T R js fs a->Flow P md ops Q S T R js gs a
 | [],_,_,_,h,H=>λw hS hf=>H w hS (λp hp=>hf p ((h p).2 hp))
 | j :: js,_,_,_,h,H=>⟨λw hS hf=>H.1 w hS (λp hp hd=>hf p ((h p).2 hp) hd),λv=>Flow.perm (λp=>by simp[h p]) (H.2 v)⟩
theorem Flow.pull (hn:Jp ops=true) {i:Nat}:∀ {js:List Nat} {fs:List (Nat×GN)} {a:Act},(∀ j∈js,j < ops.size)->oJ md ops js=true->js.Nodup->i∈js->(∀ j∈js,dep md ops i j=false)->Flow P md ops Q S T R js fs a ->
  (∀ w,S w->(∀ p∈fs,dep md ops i p.1=true->R p.1 p.2 w)->Step P ops T R i a w)/\∀ u,Flow P md ops Q S T R (js.erase i) ((i,u) :: fs) (a.put (iQ ops i) u)
 | [],_,_,_,_,_,hi,_,_=>by cases hi
 | j :: js,fs,a,hlt,hok,hnd,hi,yP,H=>by
  by_cases hji:j=i
  ·subst hji;rw[Lu];exact H
  ·have hi':i∈js:=by
    rcases List.mem_cons.1 hi with h | h
    ·exact absurd h.symm hji
    ·exact h
   simp only[oJ,Ib,Jz] at hok;refine zcR ?_;intro ano x hx y hy f1 f2 f3 f3' ex ey;have IH:=λv=>Flow.pull hn (i:=i) (js:=js) (fs:=(j,v) :: fs) (a:=a.put (iQ ops j) v) (λk hk=>hlt k (Iz _ hk)) hok.2 (List.nodup_cons.1 hnd).2 hi' (λk hk=>yP k (Iz _ hk)) (H.2 v)
   refine⟨λw hS hf=>?_,λu=>?_⟩
   ·have h1:=(IH undef).1 w hS (λp hp hd=>by
     rcases List.mem_cons.1 hp with h | h
     ·subst h;rw[yP j aA] at hd;cases hd
     ·exact hf p h hd)
    refine h1.an1 hn (λo ho d hd=>?_);rw[hy] at ho;cases ho;rw[ex] at hd;exact f3' d hd
   ·rw[List.erase_cons_tail (by simpa using hji)];refine⟨λw hS hf=>?_,λv=>?_⟩
    ·have h1:=H.1 w hS (λp hp hd=>hf p (Iz _ hp) hd);refine h1.put hn (λo ho d hd=>?_);rw[hx] at ho;cases ho;rw[ey] at hd;exact f1 d hd
    ·have h1:=(IH v).2 u;have e:(a.put (iQ ops i) u).put (iQ ops j) v=(a.put (iQ ops j) v).put (iQ ops i) u:=by
      rw[ex,ey];exact Act.put_comm a u v f2
     rw[e];exact zdF
theorem Step.wpOp {o:Oper} {w:GK} (ho:ops[i]? = some o) (h:Step P ops T R i a w) {K:Act->GK->Prop} (hK:∀ u w',T w w'->R i u w'->K (a.put o.dst u) w'):wpOp P ops Q i K a w:=by
 unfold Go.wpOp;simp only[ho];have h1:=h o ho K hK;split
 ·rename_i hw
  rw[LH hw] at h1;refine .inl ?_;unfold Oper.wp at h1 ⊢;generalize (execOp a.eval o).run P w=r at *;cases r with
  | ok n w' =>
   cases n <;> simp only[Oper.upon] at h1 ⊢
   case value u=>exact h1
   case skip=>exact h1
   case defer d=>exact h1
   case enter f args =>
    refine Calls.mono h1 λe w'' he=>?_
    cases e with
    | returned u=>exact he
    | panicked c=>exact he.elim
    | outgrown =>
     obtain⟨_,_,h2⟩:=he;exact h2.elim
   case row row args=>exact Rows.mono h1 λu w'' he=>he
  | halt x w'=>cases x <;> simp only[Oper.upon] at h1
 ·rename_i hw
  rw[LG hw] at h1;exact h1
theorem afi (hn:Jp ops=true) (hb:qo ops=true) (hST:∀ w w',S w->T w w'->S w') (hRT:∀ i v w w',R i v w->T w w'->R i v w') :
  ∀ (n:Nat) (fuel:Nat) (js:List Nat) (fs:List (Nat×GN)) (listed:Array Bool) (a:Act) (w:GK),js.length=n->n<=fuel->(∀ j∈js,j < ops.size)->oJ md ops js=true->js.Nodup ->
   (∀ j,j < ops.size->(j∈js↔listed.getD j true=false))->listed.size=ops.size->Flow P md ops Q S T R js fs a->S w->(∀ p∈fs,R p.1 p.2 w)->wpAnyH P md ops Q S fuel listed a w:=by
 intro n;induction n with
 | zero =>
  intro fuel js fs listed a w hl _ hlt _ _ hun hsz H hS hf;obtain rfl:=List.eq_nil_of_length_eq_zero hl;refine wpAnyH_done ?_ (H w hS hf) fuel;cases hr:H8 md ops listed with
  | nil=>rfl
  | cons i rs =>
   have hi:i∈H8 md ops listed:=by rw[hr];simp
   obtain⟨h1,o,ho,_⟩:=mem_ready.1 hi;have:=(hun i (Array.getElem?_eq_some_iff.1 ho).1).2 h1;cases this
 | succ n ih =>
  intro fuel js fs listed a w hl hfu hlt hok hnd hun hsz H hS hf;cases fuel with
  | zero=>omega
  | succ fuel =>
   by_cases hr0:H8 md ops listed = []
   ·exfalso
    have hall:=uH hsz hb hr0;cases js with
    | nil=>simp at hl
    | cons j js =>
     have hjl:=hlt j aA;have h3:=(hun j hjl).1 aA;have h2:=hall j hjl;have hjs:j < listed.size:=FI;simp[Ia,hjs] at h2 h3;rw[h2] at h3;cases h3
   refine wpAnyH_all rfl hr0 λi hi=>?_
   obtain⟨h1,o,ho,hall⟩:=mem_ready.1 hi;have hil:=(Array.getElem?_eq_some_iff.1 ho).1;have hij:=(hun i hil).2 h1;have yP:∀ j∈js,dep md ops i j=false:=by
    intro j hj;unfold dep;rw[ho];simp only;rw[Bool.eq_false_iff];intro he;obtain⟨e,hem,hb⟩:=Array.any_eq_true'.1 he;simp only[Ib,beq_iff_eq] at hb;have h2:=hall e hem hb.1;rw[hb.2] at h2;have h3:=(hun j (hlt j hj)).1 hj;have hjs:j < listed.size:=by rw[hsz];exact hlt j hj
    simp[Ia,hjs] at h2 h3;rw[h2] at h3;cases h3
   obtain⟨p1,p2⟩:=Flow.pull hn hlt hok hnd hij yP H;refine(p1 w hS (λp hp _=>hf p hp)).wpOp ho (λu w' hT hR=>⟨hST w w' hS hT,?_⟩);have hd:iQ ops i=o.dst:=by simp[iQ,ho]
   rw[<-hd];refine ih fuel (js.erase i) ((i,u) :: fs) _ _ w' (by rw[List.length_erase_of_mem hij,hl]; rfl) FI (λj hj=>hlt j (List.mem_of_mem_erase hj)) ?_ (hnd.erase i) ?_ (by simp[hsz]) (p2 u) (hST w w' hS hT) ?_
   ·clear hl hlt hnd hun H hij yP p1 p2;induction js with
    | nil=>exact hok
    | cons j js ih =>
     simp only[oJ,Ib,Jz] at hok;by_cases hji:j=i
     ·subst hji;rw[Lu];exact hok.2
     ·exact zbT
   ·intro j hj;rw[hnd.mem_erase_iff];by_cases hji:j=i
    ·subst hji;simp only[ne_eq,not_true_eq_false,false_and,false_iff];have:j < listed.size:=by rw[hsz];exact hj
     simp[Ia,this]
    ·rw[getD_set_ne true (Ne.symm hji)];simp[hji,hun j hj]
   ·intro p hp;rcases List.mem_cons.1 hp with h | h
    ·subst h;exact hR
    ·exact hRT _ _ _ _ (hf p h) hT
theorem sW {S':GK->Prop} (hSS:∀ w,S w->S' w):∀ {fuel:Nat} {listed:Array Bool} {a:Act} {w:GK},wpAnyH P md ops Q S fuel listed a w->wpAnyH P md ops Q S' fuel listed a w
 | 0,_,_,_,h=>h
 | _+1,_,_,_,h=>⟨h.1,λi hi=>wpOp_mono (λ_ _ h'=>⟨hSS _ h'.1,sW hSS h'.2⟩) (h.2 i hi)⟩
def alM (ops:Array Oper) (listed:Array Bool) (js:List Nat) (fuel:Nat):Bool :=
 Jp ops&&qo ops&&oJ .any ops js&&decide (js.length<=fuel)&&js.all (λj=>decide (j < ops.size))&&decide (js.Nodup)&&decide (listed.size=ops.size)&&(List.range ops.size).all (λj=>js.contains j == !listed.getD j true)
theorem agz {js:List Nat} {fuel:Nat} {listed:Array Bool} {w:GK} (S:GK->Prop) (B:Nat) (R:Nat->GN->GK->Prop) (hok:alM ops listed js fuel=true)
  (hS:S w) (hB:B<=w.heap.size) (hST:∀ w w',B<=w.heap.size->S w->Below w.heap.size w w'->S w') (hRT:∀ i v w w',R i v w->Below w.heap.size w w'->R i v w')
  (h:Flow P .any ops Q (λw'=>B<=w'.heap.size/\S w') (λw w'=>Below w.heap.size w w') R js [] a):wpAnyH P .any ops Q S fuel listed a w:=by
 simp only[alM,Ib,Jz,decide_eq_true_eq,List.mem_range,beq_iff_eq] at hok;obtain⟨⟨⟨⟨⟨⟨⟨h1,h2⟩,h3⟩,h4⟩,h5⟩,h6⟩,h7⟩,h8⟩:=hok;have key:=afi (P:=P) (Q:=Q) (S:=λw'=>B<=w'.heap.size/\S w') (T:=λw w'=>Below w.heap.size w w') (R:=R) h1 h2 (λw w' hs ht=>⟨Nat.le_trans hs.1 ht.size,hST w w' hs.1 hs.2 ht⟩) hRT js.length fuel js [] listed a w rfl h4 h5 h3 h6
  (λj hj=>by
   have:=h8 j hj;rw[<-List.contains_iff_mem,this];cases listed.getD j true <;> simp) h7 h ⟨hB,hS⟩ (λp hp=>by cases hp)
 grind [sW]
theorem Flow.cons {j:Nat} {js:List Nat} {fs:List (Nat×GN)} {a:Act} {o:Oper} (ho:ops[j]? = some o)
  (h1:∀ w,S w->(∀ p∈fs,dep md ops j p.1=true->R p.1 p.2 w)->∀ K:Act->GK->Prop,Shut (∀ u w',T w w'->R j u w'->K (a.put o.dst u) w')->if Jq o (yielded ops a.tmps)=true then Oper.wp P o a w K (λ_ _ _=>False) else K (a.put o.dst undef) w)
  (h2:∀ v,Flow P md ops Q S T R js ((j,v) :: fs) (a.put o.dst v)):Flow P md ops Q S T R (j :: js) fs a:=by
 refine⟨λw hS hf o' ho' K hK=>?_,λv=>?_⟩
 ·rw[ho] at ho';cases ho';exact h1 w hS hf K hK
 ·have:iQ ops j=o.dst:=by simp[iQ,ho]
  rw[this];exact h2 v
theorem Flow.nil {fs:List (Nat×GN)} (h:∀ w,S w->(∀ p∈fs,R p.1 p.2 w)->Q .normal a w):Flow P md ops Q S T R [] fs a:=h
theorem Flow.hold {S S':GK->Prop} (hSS:∀ w,S' w->S w):∀ {js:List Nat} {fs:List (Nat×GN)} {a:Act},Flow P md ops Q S T R js fs a->Flow P md ops Q S' T R js fs a
 | [],_,_,H=>λw hS hf=>H w (hSS w hS) hf
 | _ :: _,_,_,H=>⟨λw hS hf=>H.1 w (hSS w hS) hf,λv=>Flow.hold hSS (H.2 v)⟩
end
