/- what the game that numbers select is like. -/
import Derived.Test.YthmklhapjegfdaaGreatDoorX32
import Derived.Test.YthmklhapjegfdaaGreatDoorX30
import Derived.Deep.AppendSrc
import Derived.Deep.LoopGhost
set_option linter.all false
namespace Go.Proofs.YthmklhapjegfdaaGreatDoor
open Go.RowKit
def EP (C:MC) (n:Nd):Prop:=n.kind=3∧n.aJ=0∧n.info=0∧n.next = []∧n.weights = []∧(n.pay.length:Int)=C.aF∧(∀ x∈n.pay,-3≤x∧x≤3)∧(C.zero=true→C.aF=2→∃ x,n.pay = [x,-x])
def ER (C:MC) (V:List View) (I:List Inf) (level:Nat) (seen:List (List Int)) (n:Nd):Prop :=
 level < C.levels.length∧1≤n.next.length∧n.next.length≤3∧n.pay = [] ∧
  (((C.levels.getD level default).aJ < 0∧n.kind=1∧n.aJ=0∧n.info=0∧n.weights.length=n.next.length∧∀ x∈n.weights,1≤x∧x≤3) ∨
  (0≤(C.levels.getD level default).aJ∧n.kind=2∧n.aJ=(C.levels.getD level default).aJ∧n.weights = []∧∃ x:Nat,n.info=(x:Int)∧I[x]? = some ⟨n.aJ,n.next.length⟩∧V[x]? = some ⟨n.aJ,level,seen.getD n.aJ.toNat [],x⟩))
inductive Bt (C:MC) (V:List View) (I:List Inf) (N:List Nd):Nat→List (List (List Int))→List Int→Nat→Nat→Prop
 | nil (level a:Nat):Bt C V I N level [] [] a a
 | fin {level a b:Nat} {n:Nd} {seen:List (List Int)} {ss:List (List (List Int))} {cs:List Int}:N[a]? = some n→EP C n→Bt C V I N level ss cs (a+1) b→Bt C V I N level (seen :: ss) ((a:Int) :: cs) a b
 | mid {level a m b:Nat} {n:Nd} {seen:List (List Int)} {ss:List (List (List Int))} {cs:List Int}:N[a]? = some n→ER C V I level seen n →
   Bt C V I N (level+1) ((List.range n.next.length).map fun k=>akJ (C.levels.getD level default) k seen) n.next (a+1) m→Bt C V I N level ss cs m b→Bt C V I N level (seen :: ss) ((a:Int) :: cs) a b
section
variable {C:MC} {V V':List View} {I I':List Inf} {N N':List Nd}
end
section
variable {O:List (Nat×Nat)} {N:List Nd} {cr:List Nat}
end
section
variable {C:MC} {V:List View} {cr:List Nat} {g:Gm}
end
end Go.Proofs.YthmklhapjegfdaaGreatDoor
