/- The statement PlanKnown returns true. -/
import Derived.Test.YthmklhapjegfdaaGreatDoorX25
import Derived.Test.YthmklhapjegfdaaGreatDoorX43
set_option linter.all false
set_option maxRecDepth 100000
set_option maxHeartbeats 12800000
namespace Go.Proofs.YthmklhapjegfdaaGreatDoor
open Go.ChangeShapes Go.WideShapes Go.ChangeAt Go.RowKit
theorem abv (os:Os) (started:os.Started) (H:Type) (enc:TypeId×Value→H) :
  ReturnsInHanded {} Tryz.checked os 9 .any (fun w args=>(Rows.planKnownSpec.pre enc Tryz.prog Tryz.f9 [] false w args∧laidMet Tryz.prog rW w)∧sizedMet enc Tryz.prog Tryz.f9 (OpenSpec.ofChange Rows.planKnownSpec) false w args)
   (Rows.planKnownSpec.post enc Tryz.prog Tryz.f9 false true false false):=by
 refine returnsInHanded_of_change_and (C:=Tryz.checked) (X:=fun w _=>laidMet Tryz.prog rW w) (fun _ _ _ hh h=>h.of_heap hh) Tryz.own started aj Tryz.func9
  (ChangeSpec.witness_at (enc:=enc) (C:=Tryz.checked) (os:=os) (X:=fun w _=>laidMet Tryz.prog rW w) false (laidWorld os) #[] 8 rfl aj aj aj aj aj (laidWorld_met os _)) ?_
 intro W base args ds gs before hval0 hW _ _ hL _;have hW':=hW;obtain⟨p,q,hA0,hV,rfl,hfz,hnd⟩:=hW;have hA:DataW.TrodAll enc Tryz.prog W 0 (fun _=>true) true Tryz.f9.params.toList args.toList ds p:=hA0;rw[Tryz.params9] at hA;obtain⟨rfl,rfl,rfl⟩:=trodAll_none hA;obtain⟨rfl,rfl⟩:=trodVars_none hV;clear hA0;simp only[List.append_nil] at hW';refine(aeU W (zC hL)).mono fun e W' hR=>?_
 obtain⟨v,rfl,bel,rfl⟩:=hR;refine⟨_,rfl,_,_,_,[],[],[],hW',?_,?_,rfl,bel.frame _,fun h=>by cases h⟩
 ·exact trodAll_mk1 (shut_bool Tryz.underlying4 true)
 ·exact trodAll_mk0
theorem planKnown_holds:Rows.PlanKnownSaid :=
 OpenClaim.holds_of_wide 9 Tryz.f9 rfl rfl rfl rfl rfl rfl rfl ⟨rfl,rfl,rfl,rfl,rfl⟩ rfl rfl rfl rfl rfl aj Tryz.func9 aj
  (of_decide_eq_true aj) (by unfold Func.isWrapper; first | (rw[if_pos (by decide +kernel)]; kernel_rfl) | (rw[if_neg (by decide +kernel)]; exact⟨rfl,rfl⟩))
  (fun os started H enc _=>abv os started H enc)
end Go.Proofs.YthmklhapjegfdaaGreatDoor
