/- For every game, two strategies and a number the statement PlanMixes returns true, and its arguments read afterwards as they read before. -/
import Derived.Test.YthmklhapjegfdaaGreatDoorX25
import Derived.Test.YthmklhapjegfdaaGreatDoorX47
import Derived.OpenShut
set_option linter.all false
set_option maxRecDepth 100000
set_option maxHeartbeats 12800000
namespace Go.Proofs.YthmklhapjegfdaaGreatDoor
open Go.ChangeShapes Go.WideShapes Go.ChangeAt Go.RowKit
theorem zf (os:Os) (started:os.Started) (H:Type) (enc:TypeId×Value→H) :
  ReturnsInHanded {} Tryz.checked os 8 .any (fun w args=>(Rows.planMixesSpec.pre enc Tryz.prog Tryz.f8 [] false w args∧laidMet Tryz.prog rW w)∧sizedMet enc Tryz.prog Tryz.f8 (OpenSpec.ofChange Rows.planMixesSpec) false w args)
   (Rows.planMixesSpec.post enc Tryz.prog Tryz.f8 false true false false):=by
 refine returnsInHanded_of_change_and (C:=Tryz.checked) (X:=fun w _=>laidMet Tryz.prog rW w) (fun _ _ _ hh h=>h.of_heap hh) Tryz.own started aj Tryz.func8
  (ChangeSpec.witness_at (enc:=enc) (C:=Tryz.checked) (os:=os) (X:=fun w _=>laidMet Tryz.prog rW w) false (laidWorld os) #[.agg #[.int .i64 0,.slice none 0 0,.slice none 0 0],.slice none 0 0,.slice none 0 0,.agg #[.bool false,.slice none 0 0,.slice none 0 0]] 8 rfl aj aj aj aj aj (laidWorld_met os _)) ?_
 intro W base args ds gs before hval0 hW _ _ hL _;have hval:∀ (j:Nat) t v,Tryz.f8.params[j]? = some t→args[j]? = some v→Value.okWide Tryz.prog W .any base t v:=hval0;have hW':=hW;obtain⟨p,q,hA0,hV,rfl,hfz,hnd⟩:=hW;have hA:DataW.TrodAll enc Tryz.prog W 0 (fun _=>true) true Tryz.f8.params.toList args.toList ds p:=hA0;rw[Tryz.params8] at hA hval;obtain⟨v0,vr0,d0,dr0,p0,q0,ha,rfl,rfl,h0,hr0⟩:=trodAll_cons hA;obtain⟨v1,vr1,d1,dr1,p1,q1,rfl,rfl,rfl,h1,hr1⟩:=trodAll_cons hr0;obtain⟨v2,vr2,d2,dr2,p2,q2,rfl,rfl,rfl,h2,hr2⟩:=trodAll_cons hr1;obtain⟨v3,vr3,d3,dr3,p3,q3,rfl,rfl,rfl,h3,hr3⟩:=trodAll_cons hr2;obtain⟨rfl,rfl,rfl⟩:=trodAll_nil hr3;obtain rfl:args = #[v0,v1,v2,v3]:=by cases args;simp_all
 clear ha;obtain⟨rfl,rfl⟩:=trodVars_none hV;obtain⟨g0,hg0⟩:=afe (hval 0 25 v0 rfl rfl) h0;obtain⟨m1,hm1,hU1⟩:=zI (hval 1 28 v1 rfl rfl) h1;obtain⟨m2,hm2,hU2⟩:=zI (hval 2 28 v2 rfl rfl) h2;obtain⟨q3,hq3,hU3⟩:=ahk (hval 3 83 v3 rfl rfl) h3;clear hA0 hval0;simp only[List.append_nil,List.nil_append,List.append_assoc] at hW';have hlt0:∀ x∈p0,x.block < W.heap.size:=fun x hx=>hW'.lt x (by simp[hx])
 have hlt1:∀ x∈p1,x.block < W.heap.size:=fun x hx=>hW'.lt x (by simp[hx])
 have hlt2:∀ x∈p2,x.block < W.heap.size:=fun x hx=>hW'.lt x (by simp[hx])
 have hlt3:∀ x∈p3,x.block < W.heap.size:=fun x hx=>hW'.lt x (by simp[hx])
 refine(aji W All v0 v1 v2 v3 g0 m1 m2 q3 hg0 hm1 hm2 hq3 hU1 hU2 hU3 (zC hL)).mono fun e W' hR=>?_
 obtain⟨v,rfl,bel,rfl⟩:=hR;refine⟨_,rfl,_,_,_,[],p0++(p1++(p2++(p3))),[],hW',?_,?_,rfl,bel.frame _,fun h=>by cases h⟩
 ·exact trodAll_mk1 (shut_bool Tryz.underlying4 true)
 ·have t3:=trodAll_cons_mk (Below.trod Tryz.laidOut aj (of_decide_eq_true aj) h0 bel hlt0) (trodAll_cons_mk (Below.trod Tryz.laidOut aj (of_decide_eq_true aj) h1 bel hlt1) (trodAll_cons_mk (Below.trod Tryz.laidOut aj (of_decide_eq_true aj) h2 bel hlt2) (trodAll_cons_mk (Below.trod Tryz.laidOut aj (of_decide_eq_true aj) h3 bel hlt3) (trodAll_mk0))));simp only[List.append_nil,List.nil_append,List.append_assoc] at t3;exact t3
theorem planMixes_holds:Rows.PlanMixesSaid :=
 OpenClaim.holds_of_wide 8 Tryz.f8 rfl rfl rfl rfl rfl rfl rfl ⟨rfl,rfl,rfl,rfl,rfl⟩ rfl rfl rfl rfl rfl aj Tryz.func8 aj
  (of_decide_eq_true aj) (by unfold Func.isWrapper; first | (rw[if_pos (by decide +kernel)]; kernel_rfl) | (rw[if_neg (by decide +kernel)]; exact⟨rfl,rfl⟩))
  (fun os started H enc _=>zf os started H enc)
end Go.Proofs.YthmklhapjegfdaaGreatDoor
