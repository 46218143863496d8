/- For every two lists of numbers the statement PlanPure returns true, and its arguments read afterwards as they read before. -/
import Derived.Test.YthmklhapjegfdaaGreatDoorP24
import Derived.Test.YthmklhapjegfdaaGreatDoorP41
import Derived.OpenShut
set_option linter.all false
set_option maxRecDepth 100000
set_option maxHeartbeats 12800000
namespace Go.Proofs.YthmklhapjegfdaaGreatDoor
open Go.ChangeShapes Go.WideShapes Go.ChangeAt Go.RowKit
theorem yP (os:Os) (started:os.Started) (H:Type) (enc:TypeId×Value→H) :
  ReturnsInHanded {} Tryz.checked os 12 .any (fun w args=>(Rows.planPureSpec.pre enc Tryz.prog Tryz.f12 [] false w args∧laidMet Tryz.prog yT w)∧sizedMet enc Tryz.prog Tryz.f12 (OpenSpec.ofChange Rows.planPureSpec) false w args)
   (Rows.planPureSpec.post enc Tryz.prog Tryz.f12 false true false false):=by
 refine returnsInHanded_of_change_and (C:=Tryz.checked) (X:=fun w _=>laidMet Tryz.prog yT w) (fun _ _ _ hh h=>h.of_heap hh) Tryz.own started ah Tryz.func12
  (ChangeSpec.witness_at (enc:=enc) (C:=Tryz.checked) (os:=os) (X:=fun w _=>laidMet Tryz.prog yT w) false (laidWorld os) #[.slice none 0 0,.slice none 0 0] 8 rfl ah ah ah ah ah (laidWorld_met os _)) ?_
 intro W base args ds gs before hval0 hW _ _ hL _;have hval:∀ (j:Nat) t v,Tryz.f12.params[j]? = some t→args[j]? = some v→Value.okWide Tryz.prog W .any base t v:=hval0;have hW':=hW;obtain⟨p,q,hA0,hV,rfl,hfz,hnd⟩:=hW;have hA:DataW.TrodAll enc Tryz.prog W 0 (fun _=>true) true Tryz.f12.params.toList args.toList ds p:=hA0;rw[Tryz.params12] at hA hval;obtain⟨v0,vr0,d0,dr0,p0,q0,ha,rfl,rfl,h0,hr0⟩:=trodAll_cons hA;obtain⟨v1,vr1,d1,dr1,p1,q1,rfl,rfl,rfl,h1,hr1⟩:=trodAll_cons hr0;obtain⟨rfl,rfl,rfl⟩:=trodAll_nil hr1;obtain rfl:args = #[v0,v1]:=by cases args;simp_all
 clear ha;obtain⟨rfl,rfl⟩:=trodVars_none hV;obtain⟨l0,hl0,hb0⟩:=zV (hval 0 26 v0 rfl rfl) h0;obtain⟨l1,hl1,hb1⟩:=zV (hval 1 26 v1 rfl rfl) h1;clear hA0 hval0;simp only[List.append_nil,List.nil_append,List.append_assoc] at hW';have hlt0:∀ x∈p0,x.block < W.heap.size:=fun x hx=>hW'.lt x (by simp[hx])
 have hlt1:∀ x∈p1,x.block < W.heap.size:=fun x hx=>hW'.lt x (by simp[hx])
 refine(ajh W All v0 v1 l0 l1 hl0 hl1 hb0 hb1 (adk hL)).mono fun e W' hR=>?_
 obtain⟨v,rfl,bel,rfl⟩:=hR;refine⟨_,rfl,_,_,_,[],p0++(p1),[],hW',?_,?_,rfl,bel.frame _,fun h=>by cases h⟩
 ·exact trodAll_mk1 (shut_bool Tryz.underlying4 true)
 ·have t3:=trodAll_cons_mk (Below.trod Tryz.laidOut ah (of_decide_eq_true ah) h0 bel hlt0) (trodAll_cons_mk (Below.trod Tryz.laidOut ah (of_decide_eq_true ah) h1 bel hlt1) (trodAll_mk0));simp only[List.append_nil,List.nil_append,List.append_assoc] at t3;exact t3
theorem planPure_holds:Rows.PlanPureSaid :=
 OpenClaim.holds_of_wide 12 Tryz.f12 rfl rfl rfl rfl rfl rfl rfl ⟨rfl,rfl,rfl,rfl,rfl⟩ rfl rfl rfl rfl rfl ah Tryz.func12 ah
  (of_decide_eq_true ah) (by unfold Func.isWrapper; first | (rw[if_pos (by decide +kernel)]; kernel_rfl) | (rw[if_neg (by decide +kernel)]; exact⟨rfl,rfl⟩))
  (fun os started H enc _=>yP os started H enc)
end Go.Proofs.YthmklhapjegfdaaGreatDoor
