/- parlourlaw17.large; what the laws of this package have in common. -/
import Derived.Test.YthmklhapjegfdaaGreatDoorX29
import Derived.Sort.CutIn
import Derived.Deep.Cut
import Derived.Test.YthmklhapjegfdaaGreatDoorX40
import Derived.Test.YthmklhapjegfdaaGreatDoorX39
set_option linter.all false
set_option maxRecDepth 100000
set_option maxHeartbeats 12800000
namespace Go.Proofs.YthmklhapjegfdaaGreatDoor
open Go.RowKit
theorem abt {g:Gm} {nodes sets:Int} (h:lX g nodes sets=false) (hn:nodes≤100) (hs:sets≤100):Small g:=by
 unfold lX at h;simp only[Bool.or_eq_false_iff,decide_eq_false_iff_not,List.any_eq_false] at h;obtain⟨⟨h1,h2⟩,h3⟩:=h;have h4:∀ n∈g.nodes,n.next.length≤100∧n.weights.length≤100∧n.pay.length≤100:=by
  intro n hn';have:=h3 n hn';unfold qF at this;simp at this;omega
 exact⟨byOmega,byOmega,fun n hn=>(h4 n hn).1,fun n hn=>(h4 n hn).2.1,fun n hn=>(h4 n hn).2.2⟩
theorem vS {m:List (List Raw)} (h:lN m 30 20 4=false):m.length≤30∧(∀ l∈m,l.length≤20)∧BG m:=by
 unfold lN at h;rw[Bool.or_eq_false_iff] at h;have h1:=h.1;have h2:=List.any_eq_false.1 h.2;have h3:∀ l∈m,l.length≤20∧∀ r∈l,r.num.length≤4∧r.den.length≤4:=by
  intro l hl;have h4:=h2 l hl;unfold yh at h4;rw[Bool.not_eq_true,Bool.or_eq_false_iff] at h4;have h5:=List.any_eq_false.1 h4.2;refine⟨by have:=h4.1; simp at this; omega,fun r hr=>?_⟩;have h6:=h5 r hr;simp at h6;omega
 exact⟨by simp at h1; omega,fun l hl=>(h3 l hl).1,fun l hl=>(h3 l hl).2⟩
theorem agt {m:List (List Raw)} (h:∀ l∈m,l.length≤20) (h4:BG m) (hU:∀ l∈m,∀ r∈l,U32 r):Bf m :=
 fun l hl=>⟨by have:=h l hl; omega,fun r hr=>⟨hU l hl r hr,by have:=h4 l hl r hr; omega,by have:=h4 l hl r hr; omega⟩⟩
section
variable {C:MC} {V:List View} {cr:List Nat} {g:Gm}
end
theorem adk (x:Rat):U32 (au x):=⟨fun y hy=>by have:=aQ x.num.natAbs y hy; unfold LB at this; omega,fun y hy=>by have:=aQ x.den y hy; unfold LB at this; omega⟩
end Go.Proofs.YthmklhapjegfdaaGreatDoor
