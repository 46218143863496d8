/- A region that draws its order, within a round of a range over a function: walked as outside of one. -/
import Derived.Test.YtnmeejofpkhlkaaGreatDoorR05
import Derived.OrdersIn
import Derived.OwnWalkIn
import Derived.RangeFuncCalls
set_option linter.all false
namespace Go.Proofs.YtnmeejofpkhlkaaGreatDoor
open Go.RowKit
section
variable {P:Program} {ops:Array Oper} {Q:Exit→Act→World→Prop} {md:Region.Mode}
def wU (l:List Oper):Bool:=l.all fun o=>match o.op with | .defer _=>false | _=>true
theorem ad9 {l:List Oper} (h:wU l=true) {i:Nat} {o:Oper} (hi:l.toArray[i]? = some o):∀ c,o.op≠.defer c:=by
 intro c hc;have hm:o∈l:=by
  rw[List.getElem?_toArray] at hi;exact List.mem_of_getElem? hi
 have:=List.all_eq_true.1 h o hm;rw[hc] at this;cases this
theorem afJ {l n:Nat} {o:Oper} {a:Act} {w:World} {K:Act→World→Prop} (hd:∀ c,o.op≠.defer c) (h:o.wp P a w K Q):o.wpIn (Fence.wide.inRound l) n P a w K Q:=by
 refine⟨fun _ _=>trivial,?_⟩;rw[Oper.semAt_plain _ _ _ hd];unfold Oper.wp at h;generalize (execOp a.eval o).run P w=r at *;cases r with
 | ok x w' =>
  cases x <;> simp only[Oper.upon] at h <;> simp only[Oper.uponIn]
  case value=>exact h
  case skip=>exact h
  case defer=>exact h
  case enter f args =>
   exact⟨fun hh=>(by simp[Fence.wide] at hh),CallsIn.inRound l (callsIn_wide.2 h)⟩
  case row row args =>
   refine⟨fun hh=>(by simp[Fence.wide] at hh),?_⟩;intro c cs _;obtain⟨v,w',r,s⟩:=h c cs;exact⟨v,w',r,stepsIn_wide.2 s⟩
 | halt x w'=>cases x <;> simp only[Oper.upon] at h <;> simp only[Oper.uponIn] <;> exact h
theorem pV {l n:Nat} {L:List Oper} (hd:wU L=true) (hL:¬ LetsOut Q):∀ (fuel:Nat) (listed:Array Bool) (a:Act) (w:World),wpAny P md L.toArray Q fuel listed a w→wpAnyIn (Fence.wide.inRound l) n P md L.toArray Q fuel listed a w
 | 0,_,_,_,h=>h
 | fuel+1,listed,a,w,h=>⟨h.1,fun i hi=>by
  have h1:=h.2 i hi;unfold wpOp at h1;unfold wpOpIn;split
  ·rename_i ho
   rw[ho] at h1;exact pV hd hL fuel _ _ _ h1
  ·rename_i o ho
   rw[ho] at h1;simp only at h1;split
   ·rename_i hw
    rw[if_pos hw] at h1;rcases h1 with h1 | h1
    ·exact afJ (ad9 hd ho) (Oper.wp_mono (fun a' w'=>pV hd hL fuel _ a' w') h1)
    ·exact absurd h1.2 hL
   ·rename_i hw
    rw[if_neg hw] at h1;exact⟨fun _ _=>trivial,pV hd hL fuel _ _ _ h1⟩⟩
theorem sN {l n id:Nat} {L:List Oper} {a:Act} {w:World} (hm:P.follows .mixedOrders=true) (hd:wU L=true) (hL:¬ LetsOut Q)
  (h:wpAny P .any L.toArray Q L.length (Array.replicate L.length false) a w.drew):(Code.region id L.toArray true).wpIn (Fence.wide.inRound l) n P Q a w:=by
 refine wpIn_region_any hm ?_;rw[List.size_toArray];exact pV hd hL _ _ _ _ h
theorem rG {l n id:Nat} {L:List Oper} {S:World→Prop} {a:Act} {w:World} (hm:P.follows .mixedOrders=true) (hd:wU L=true) (hL:¬ LetsOut Q) (hS:S w.drew)
  (h:S w.drew→wpAnyH P .any L.toArray Q S L.length (Array.replicate L.length false) a w.drew):(Code.region id L.toArray true).wpIn (Fence.wide.inRound l) n P Q a w :=
 sN hm hd hL (wpAny_of_held _ _ _ _ (h hS))
theorem nG {l m id:Nat} {L:List Oper} (S:World→Prop) (n k:Nat) (hm:P.follows .mixedOrders=true) (hd:wU L=true) (hL:¬ LetsOut Q) (hl:L.length=n+k) (hc:(List.range k).all (fun j=>pG (L.take (n+j)).toArray&&abA .any (L.take (n+j)).toArray (L.getD (n+j) default))=true) {a:Act} {w:World}
  (h:wpAnyH P .any (L.take n).toArray (Ba P Q L k) S n (Array.replicate n false) a w.drew):(Code.region id L.toArray true).wpIn (Fence.wide.inRound l) m P Q a w:=by
 refine sN hm hd hL ?_;rw[hl];refine rQ n k hl (fun j hj=>?_) (wpAny_of_held _ _ _ _ h);have:=List.all_eq_true.1 hc j (List.mem_range.2 hj);simpa using this
end
end Go.Proofs.YtnmeejofpkhlkaaGreatDoor
