/- The example's game and strategy: what it is worth. -/
import Derived.Test.YthmklhapjegfdaaGreatDoorP29
import Derived.Test.YthmklhapjegfdaaGreatDoorP33
set_option linter.all false
namespace Go.Proofs.YthmklhapjegfdaaGreatDoor
open Go.RowKit
def aa3:List (List Raw):=[[⟨false,[1],[2]⟩,⟨false,[1],[2]⟩],[⟨false,[1],[2]⟩,⟨false,[1],[2]⟩],[⟨false,[1],[3]⟩,⟨false,[1],[3]⟩,⟨false,[1],[3]⟩]]
theorem ahj:aG (mkRat 1 2)=⟨false,[1],[2]⟩:=by
 have h:=nS false 1 2 aB;rw[show Nat.gcd 1 2=1 by decide,Nat.div_one,Nat.div_one,gU,iY (n:=2) aB aB] at h;exact h
theorem afS:aG (mkRat 1 3)=⟨false,[1],[3]⟩:=by
 have h:=nS false 1 3 aB;rw[show Nat.gcd 1 3=1 by decide,Nat.div_one,Nat.div_one,gU,iY (n:=3) aB aB] at h;exact h
theorem sH:qX.map (List.map aG)=aa3:=by
 unfold qX aa3;simp only[List.map_cons,List.map_nil,ahj,afS]
theorem aeo:iF gW aa3=0:=by decide +kernel
theorem aep:BK aa3:=by
 intro l hl r hr;unfold aa3 at hl;simp only[List.mem_cons,List.not_mem_nil,or_false] at hl;rcases hl with rfl | rfl | rfl <;> (simp only[List.mem_cons,List.not_mem_nil,or_false] at hr; rcases hr with rfl | rfl | rfl <;> decide)
theorem ahk {xs:List Rat} (h:∀ x∈xs,rl x≤1024) (hl:xs.length≤1000):BG (xs.map aG):=by
 refine⟨by rw[List.length_map]; omega,fun r hr=>?_⟩;obtain⟨x,hx,rfl⟩:=List.mem_map.1 hr;have:=h x hx;unfold rl at this;show(dig x.num.natAbs).length≤500000∧(dig x.den).length≤500000;omega
theorem afT:BA (qX.map (List.map aG)):=by
 rw[sH];intro l hl;unfold aa3 at hl;simp only[List.mem_cons,List.not_mem_nil,or_false] at hl;rcases hl with rfl | rfl | rfl
 all_goals
  refine⟨aB,fun r hr=>?_⟩;simp only[List.mem_cons,List.not_mem_nil,or_false] at hr;rcases hr with rfl | rfl | rfl
 all_goals exact⟨by unfold U32; decide,aB,aB⟩
theorem rD:Small gW:=⟨aB,aB,aB,aB,aB⟩
end Go.Proofs.YthmklhapjegfdaaGreatDoor
