/- For every game, strategy and list of numbers the statement PlanChecks returns true, and its arguments read afterwards as they read before. -/
import Derived.Test.YthmklhapjegfdaaGreatDoorP25
import Derived.Test.YthmklhapjegfdaaGreatDoorP46
import Derived.OpenShut
set_option linter.all false
set_option maxRecDepth 100000
set_option maxHeartbeats 12800000
namespace Go.Proofs.YthmklhapjegfdaaGreatDoor
open Go.ChangeShapes Go.WideShapes Go.ChangeAt Go.RowKit
theorem wL (os:Os) (started:os.Started) (H:Type) (enc:TypeId×Value→H) :
  ReturnsInHanded {} Tryz.checked os 4 .any (fun w args=>(Rows.planChecksSpec.pre enc Tryz.prog Tryz.f4 [] false w args∧laidMet Tryz.prog yM w)∧sizedMet enc Tryz.prog Tryz.f4 (OpenSpec.ofChange Rows.planChecksSpec) false w args)
   (Rows.planChecksSpec.post enc Tryz.prog Tryz.f4 false true false false):=by
 refine returnsInHanded_of_change_and (C:=Tryz.checked) (X:=fun w _=>laidMet Tryz.prog yM w) (fun _ _ _ hh h=>h.of_heap hh) Tryz.own started aj Tryz.func4
  (ChangeSpec.witness_at (enc:=enc) (C:=Tryz.checked) (os:=os) (X:=fun w _=>laidMet Tryz.prog yM w) false (laidWorld os) #[.agg #[.int .i64 0,.slice none 0 0,.slice none 0 0],.slice none 0 0,.slice none 0 0] 8 rfl aj aj aj aj aj (laidWorld_met os _)) ?_
 intro W base args ds gs before hval0 hW _ _ hL _;have hval:∀ (j:Nat) t v,Tryz.f4.params[j]? = some t→args[j]? = some v→Value.okWide Tryz.prog W .any base t v:=hval0;have hW':=hW;obtain⟨p,q,hA0,hV,rfl,hfz,hnd⟩:=hW;have hA:DataW.TrodAll enc Tryz.prog W 0 (fun _=>true) true Tryz.f4.params.toList args.toList ds p:=hA0;rw[Tryz.params4] at hA hval;obtain⟨v0,vr0,d0,dr0,p0,q0,ha,rfl,rfl,h0,hr0⟩:=trodAll_cons hA;obtain⟨v1,vr1,d1,dr1,p1,q1,rfl,rfl,rfl,h1,hr1⟩:=trodAll_cons hr0;obtain⟨v2,vr2,d2,dr2,p2,q2,rfl,rfl,rfl,h2,hr2⟩:=trodAll_cons hr1;obtain⟨rfl,rfl,rfl⟩:=trodAll_nil hr2;obtain rfl:args = #[v0,v1,v2]:=by cases args; simp_all
 clear ha;obtain⟨rfl,rfl⟩:=trodVars_none hV;obtain⟨g0,hg0⟩:=adP (hval 0 25 v0 rfl rfl) h0;obtain⟨m1,hm1,hU1⟩:=ac2 (hval 1 28 v1 rfl rfl) h1;obtain⟨l2,hl2⟩:=adQ (hval 2 26 v2 rfl rfl) h2;clear hA0 hval0;simp only[List.append_nil,List.nil_append,List.append_assoc] at hW';have hlt0:∀ x∈p0,x.block < W.heap.size:=fun x hx=>hW'.lt x (by simp[hx])
 have hlt1:∀ x∈p1,x.block < W.heap.size:=fun x hx=>hW'.lt x (by simp[hx])
 have hlt2:∀ x∈p2,x.block < W.heap.size:=fun x hx=>hW'.lt x (by simp[hx])
 refine(agh W All v0 v1 v2 g0 m1 l2 hg0 hm1 hl2 hU1 (acJ hL)).mono fun e W' hR=>?_
 obtain⟨v,rfl,bel,rfl⟩:=hR;refine⟨_,rfl,_,_,_,[],p0++(p1++(p2)),[],hW',?_,?_,rfl,bel.frame _,fun h=>by cases h⟩
 ·exact trodAll_mk1 (shut_bool Tryz.underlying4 true)
 ·have t3:=trodAll_cons_mk (Below.trod Tryz.laidOut aj (of_decide_eq_true aj) h0 bel hlt0) (trodAll_cons_mk (Below.trod Tryz.laidOut aj (of_decide_eq_true aj) h1 bel hlt1) (trodAll_cons_mk (Below.trod Tryz.laidOut aj (of_decide_eq_true aj) h2 bel hlt2) (trodAll_mk0)));simp only[List.append_nil,List.nil_append,List.append_assoc] at t3;exact t3
theorem planChecks_holds:Rows.PlanChecksSaid :=
 OpenClaim.holds_of_wide 4 Tryz.f4 rfl rfl rfl rfl rfl rfl rfl ⟨rfl,rfl,rfl,rfl,rfl⟩ rfl rfl rfl rfl rfl aj Tryz.func4 aj
  (of_decide_eq_true aj) (by unfold Func.isWrapper; first | (rw[if_pos (by decide +kernel)]; kernel_rfl) | (rw[if_neg (by decide +kernel)]; exact⟨rfl,rfl⟩))
  (fun os started H enc _=>wL os started H enc)
end Go.Proofs.YthmklhapjegfdaaGreatDoor
