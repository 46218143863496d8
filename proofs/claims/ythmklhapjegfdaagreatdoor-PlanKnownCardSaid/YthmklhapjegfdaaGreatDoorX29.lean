/- The example's game and strategy: what it is worth. -/
import Derived.Sort.CutIn
import Derived.Test.YthmklhapjegfdaaGreatDoorX26
import Derived.Test.YthmklhapjegfdaaGreatDoorX28
import Derived.Test.YthmklhapjegfdaaGreatDoorX21
set_option linter.all false
namespace Go.Proofs.YthmklhapjegfdaaGreatDoor
open Go.RowKit
def acj:List (List Raw):=[[⟨false,[1],[2]⟩,⟨false,[1],[2]⟩],[⟨false,[1],[2]⟩,⟨false,[1],[2]⟩],[⟨false,[1],[3]⟩,⟨false,[1],[3]⟩,⟨false,[1],[3]⟩]]
theorem aiL:au (mkRat 1 2)=⟨false,[1],[2]⟩:=by
 have h:=qg false 1 2 ay;rw[show Nat.gcd 1 2=1 by decide,Nat.div_one,Nat.div_one,gZ,jE (n:=2) ay ay] at h;exact h
theorem aho:au (mkRat 1 3)=⟨false,[1],[3]⟩:=by
 have h:=qg false 1 3 ay;rw[show Nat.gcd 1 3=1 by decide,Nat.div_one,Nat.div_one,gZ,jE (n:=3) ay ay] at h;exact h
theorem uK:tu.map (List.map au)=acj:=by
 unfold tu acj;simp only[List.map_cons,List.map_nil,aiL,aho]
theorem afK:dS bF acj=0:=by decide +kernel
theorem afL:BG acj:=by
 intro l hl r hr;unfold acj at hl;simp only[List.mem_cons,List.not_mem_nil,or_false] at hl;rcases hl with rfl | rfl | rfl <;> (simp only[List.mem_cons,List.not_mem_nil,or_false] at hr; rcases hr with rfl | rfl | rfl <;> decide)
theorem aiM {xs:List Rat} (h:∀ x∈xs,rl x≤1024) (hl:xs.length≤1000):BU (xs.map au):=by
 refine⟨by rw[List.length_map]; omega,fun r hr=>?_⟩;obtain⟨x,hx,rfl⟩:=List.mem_map.1 hr;have:=h x hx;unfold rl at this;show(dig x.num.natAbs).length≤500000∧(dig x.den).length≤500000;omega
theorem ahp:Bf (tu.map (List.map au)):=by
 rw[uK];intro l hl;unfold acj at hl;simp only[List.mem_cons,List.not_mem_nil,or_false] at hl;rcases hl with rfl | rfl | rfl
 all_goals
  refine⟨ay,fun r hr=>?_⟩;simp only[List.mem_cons,List.not_mem_nil,or_false] at hr;rcases hr with rfl | rfl | rfl
 all_goals exact⟨by unfold U32; decide,ay,ay⟩
theorem fH:Small bF:=⟨ay,ay,ay,ay,ay⟩
theorem aa4 {x:Rat} (h:rl x≤1024):dZ (au x)=0:=by
 have h1:=aaw (n:=x.num.natAbs) (Nat.le_trans (eY x) h);have h2:=aaw (n:=x.den) (Nat.le_trans (fA x) h);have h3:(dig x.den).length≠0:=fun e=>aeY x (List.eq_nil_of_length_eq_zero e)
 have h4:dM (au x).num (au x).den=0:=by
  unfold dM;rw[kN,abV,h1,h2,if_neg aA,if_neg aA,if_neg h3]
 unfold dZ;rw[h4,if_neg aA,if_neg];rw[kN,abV,aX,aX,ig,jl];rintro(⟨e1,e2⟩ | e)
 ·have h0:x.num.natAbs=0:=wZ.1 e1;have hz:x.num=0:=byOmega;unfold dD at e2;rw[hz] at e2;exact absurd e2 ay
 ·exact e rfl
end Go.Proofs.YthmklhapjegfdaaGreatDoor
