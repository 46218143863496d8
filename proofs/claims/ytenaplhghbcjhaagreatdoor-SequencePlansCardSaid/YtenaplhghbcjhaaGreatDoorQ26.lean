import Derived.Test.YtenaplhghbcjhaaGreatDoorQ05
import Derived.OrdersIn
import Derived.OwnWalkIn
import Derived.RangeFuncCalls
set_option linter.all false
namespace Go.Proofs.YtenaplhghbcjhaaGreatDoor
open _root_.Array renaming replicate->Ii
open Go renaming World->GK
open List renaming range->Ig
open Go.RowKit
variable {a:Act} {L:List Oper} {id l m n:Nat} {o:Oper}
section
variable {P:Program} {ops:Array Oper} {Q:Exit->Act->GK->Prop} {md:Region.Mode}
def yG (l:List Oper):Bool:=l.all λo=>match o.op with | .defer _=>false | _=>true
theorem agS {l:List Oper} (h:yG l=true) {i:Nat} (hi:l.toArray[i]? = some o):∀ c,o.op≠.defer c:=by
 intro c hc;have hm:o∈l:=by grind
 have:=List.all_eq_true.1 h o hm;grind
theorem aiy {w:GK} {K:Act->GK->Prop} (hd:∀ c,o.op≠.defer c) (h:o.wp P a w K Q):o.wpIn (Fence.wide.inRound l) n P a w K Q:=by
 refine⟨λ_ _=>trivial,?_⟩;rw[Oper.semAt_plain _ _ _ hd];unfold Oper.wp at h;generalize (execOp a.eval o).run P w=r at *;cases r with
 | ok x w' =>
  cases x <;> simp only[Oper.upon] at h <;> simp only[Oper.uponIn]
  case value=>exact h
  case skip=>exact h
  case defer=>exact h
  case enter f args =>
   exact⟨λhh=>(by simp[Fence.wide] at hh),CallsIn.inRound l (callsIn_wide.2 h)⟩
  case row row args =>
   refine⟨λhh=>(by simp[Fence.wide] at hh),?_⟩;intro c cs _;obtain⟨v,w',r,s⟩:=h c cs;exact⟨v,w',r,stepsIn_wide.2 s⟩
 | halt x w'=>cases x <;> simp only[Oper.upon] at h <;> simp only[Oper.uponIn] <;> exact h
theorem tJ {l n:Nat} {L:List Oper} (hd:yG L=true) (hL:¬ LetsOut Q):∀ (fuel:Nat) (listed:Array Bool) (a:Act) (w:GK),wpAny P md L.toArray Q fuel listed a w->wpAnyIn (Fence.wide.inRound l) n P md L.toArray Q fuel listed a w
 | 0,_,_,_,h=>h
 | fuel+1,listed,a,w,h=>⟨h.1,λi hi=>by
  have h1:=h.2 i hi;unfold wpOp at h1;unfold wpOpIn;split
  ·rename_i ho
   rw[ho] at h1;exact tJ hd hL fuel _ _ _ h1
  ·rename_i o ho
   rw[ho] at h1;simp only at h1;split
   ·rename_i hw
    rw[LH hw] at h1;rcases h1 with h1 | h1
    ·exact aiy (agS hd ho) (Oper.wp_mono (λa' w'=>tJ hd hL fuel _ a' w') h1)
    ·exact absurd h1.2 hL
   ·rename_i hw
    rw[LG hw] at h1;exact⟨λ_ _=>trivial,tJ hd hL fuel _ _ _ h1⟩⟩
theorem xE {w:GK} (hm:P.follows .mixedOrders=true) (hd:yG L=true) (hL:¬ LetsOut Q)
  (h:wpAny P .any L.toArray Q L.length (Ii L.length false) a w.drew):(Code.region id L.toArray true).wpIn (Fence.wide.inRound l) n P Q a w:=by
 refine wpIn_region_any hm ?_;rw[List.size_toArray];exact tJ hd hL _ _ _ _ h
theorem wF {S:GK->Prop} {w:GK} (hm:P.follows .mixedOrders=true) (hd:yG L=true) (hL:¬ LetsOut Q) (hS:S w.drew)
  (h:S w.drew->wpAnyH P .any L.toArray Q S L.length (Ii L.length false) a w.drew):(Code.region id L.toArray true).wpIn (Fence.wide.inRound l) n P Q a w :=
 xE hm hd hL (wpAny_of_held _ _ _ _ (h hS))
theorem ab9 (S:GK->Prop) (n k:Nat) (hm:P.follows .mixedOrders=true) (hd:yG L=true) (hL:¬ LetsOut Q) (hl:L.length=n+k) (hc:(Ig k).all (λj=>qo (L.take (n+j)).toArray&&wO .any (L.take (n+j)).toArray (L.getD (n+j) default))=true) {w:GK}
  (h:wpAnyH P .any (L.take n).toArray (AY P Q L k) S n (Ii n false) a w.drew):(Code.region id L.toArray true).wpIn (Fence.wide.inRound l) m P Q a w:=by
 refine xE hm hd hL ?_;rw[hl];refine qY n k hl (λj hj=>?_) (wpAny_of_held _ _ _ _ h);grind
theorem adY (S:GK->Prop) (n k:Nat) (hm:P.follows .mixedOrders=true) (hd:yG L=true) (hL:¬ LetsOut Q) (hl:L.length=n+k) (hc:(Ig k).all (λj=>qo (L.take (n+j)).toArray&&wO .any (L.take (n+j)).toArray (L.getD (n+j) default))=true) {w:GK}
  (hS:S w.drew) (h:S w.drew->wpAnyH P .any (L.take n).toArray (AY P Q L k) S n (Ii n false) a w.drew):(Code.region id L.toArray true).wpIn (Fence.wide.inRound l) m P Q a w:=ab9 S n k hm hd hL hl hc (h hS)
end
