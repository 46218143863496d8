/- Part of a claim. -/
import Derived.Test.YtnmeejofpkhlkaaGreatDoorE05
import Derived.OrdersIn
import Derived.OwnWalkIn
import Derived.RangeFuncCalls
set_option linter.all false
namespace Go.Proofs.YtnmeejofpkhlkaaGreatDoor
open _root_.Array renaming replicate->Ik
open Go renaming World->FW
open Go.RowKit
variable {a:Act} {L:List Oper} {id l n:Nat} {o:Oper}
section
variable {P:Program} {ops:Array Oper} {Q:Exit->Act->FW->Prop} {md:Region.Mode}
def abP (l:List Oper):Bool:=l.all λo=>match o.op with | .defer _=>false | _=>true
theorem agH {l:List Oper} (h:abP l=true) {i:Nat} (hi:l.toArray[i]? = some o):∀ c,o.op≠.defer c:=by
 intro c hc;have hm:o∈l:=by
  rw[List.getElem?_toArray] at hi;exact List.mem_of_getElem? hi
 have:=List.all_eq_true.1 h o hm;rw[hc] at this;cases this
theorem aie {w:FW} {K:Act->FW->Prop} (hd:∀ c,o.op≠.defer c) (h:o.wp P a w K Q):o.wpIn (Fence.wide.inRound l) n P a w K Q:=by
 refine⟨λ_ _=>trivial,?_⟩;rw[Oper.semAt_plain _ _ _ hd];unfold Oper.wp at h;generalize (execOp a.eval o).run P w=r at *;cases r with
 | ok x w' =>
  cases x <;> simp only[Oper.upon] at h <;> simp only[Oper.uponIn]
  case value=>exact h
  case skip=>exact h
  case defer=>exact h
  case enter f args =>
   exact⟨λhh=>(by simp[Fence.wide] at hh),CallsIn.inRound l (callsIn_wide.2 h)⟩
  case row row args =>
   refine⟨λhh=>(by simp[Fence.wide] at hh),?_⟩;intro c cs _;obtain⟨v,w',r,s⟩:=h c cs;exact⟨v,w',r,stepsIn_wide.2 s⟩
 | halt x w'=>cases x <;> simp only[Oper.upon] at h <;> simp only[Oper.uponIn] <;> exact h
theorem sK {l n:Nat} {L:List Oper} (hd:abP L=true) (hL:¬ LetsOut Q):∀ (fuel:Nat) (listed:Array Bool) (a:Act) (w:FW),wpAny P md L.toArray Q fuel listed a w->wpAnyIn (Fence.wide.inRound l) n P md L.toArray Q fuel listed a w
 | 0,_,_,_,h=>h
 | fuel+1,listed,a,w,h=>⟨h.1,λi hi=>by
  have h1:=h.2 i hi;unfold wpOp at h1;unfold wpOpIn;split
  ·rename_i ho
   rw[ho] at h1;exact sK hd hL fuel _ _ _ h1
  ·rename_i o ho
   rw[ho] at h1;simp only at h1;split
   ·rename_i hw
    rw[L8 hw] at h1;rcases h1 with h1 | h1
    ·exact aie (agH hd ho) (Oper.wp_mono (λa' w'=>sK hd hL fuel _ a' w') h1)
    ·exact absurd h1.2 hL
   ·rename_i hw
    rw[L6 hw] at h1;exact⟨λ_ _=>trivial,sK hd hL fuel _ _ _ h1⟩⟩
theorem acO {w:FW} (hm:P.follows .mixedOrders=true) (hd:abP L=true) (hL:¬ LetsOut Q)
  (h:wpAny P .any L.toArray Q L.length (Ik L.length false) a w.drew):(Code.region id L.toArray true).wpIn (Fence.wide.inRound l) n P Q a w:=by
 refine wpIn_region_any hm ?_;rw[List.size_toArray];exact sK hd hL _ _ _ _ h
theorem l9 {m:Nat} (S:FW->Prop) (n k:Nat) (hm:P.follows .mixedOrders=true) (hd:abP L=true) (hL:¬ LetsOut Q) (hl:L.length=n+k) (hc:(List.range k).all (λj=>rW (L.take (n+j)).toArray&&adS .any (L.take (n+j)).toArray (L.getD (n+j) default))=true) {w:FW}
  (h:wpAnyH P .any (L.take n).toArray (Bj P Q L k) S n (Ik n false) a w.drew):(Code.region id L.toArray true).wpIn (Fence.wide.inRound l) m P Q a w:=by
 refine acO hm hd hL ?_;rw[hl];refine vU n k hl (λj hj=>?_) (wpAny_of_held _ _ _ _ h);have:=List.all_eq_true.1 hc j (List.mem_range.2 hj);simpa using this
end
end Go.Proofs.YtnmeejofpkhlkaaGreatDoor
