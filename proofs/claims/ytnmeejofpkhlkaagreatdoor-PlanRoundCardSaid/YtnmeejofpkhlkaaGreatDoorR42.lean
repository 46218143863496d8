/- For every two lists of numbers and a number the statement PlanRound returns true, and its arguments read afterwards as they read before. -/
import Derived.Test.YtnmeejofpkhlkaaGreatDoorR24
import Derived.Test.YtnmeejofpkhlkaaGreatDoorR41
import Derived.OpenShut
set_option linter.all false
set_option maxRecDepth 100000
set_option maxHeartbeats 12800000
namespace Go.Proofs.YtnmeejofpkhlkaaGreatDoor
open Go.ChangeShapes Go.WideShapes Go.ChangeAt Go.RowKit
theorem yC (os:Os) (started:os.Started) (H:Type) (enc:TypeId×Value→H) :
  ReturnsInHanded {} Tryz.checked os 4 .any (fun w args=>(Rows.planRoundSpec.pre enc Tryz.prog Tryz.f4 [] false w args∧laidMet Tryz.prog zD w)∧sizedMet enc Tryz.prog Tryz.f4 (OpenSpec.ofChange Rows.planRoundSpec) false w args)
   (Rows.planRoundSpec.post enc Tryz.prog Tryz.f4 false true false false):=by
 refine returnsInHanded_of_change_and (C:=Tryz.checked) (X:=fun w _=>laidMet Tryz.prog zD w) (fun _ _ _ hh h=>h.of_heap hh) Tryz.own started ah Tryz.func4
  (ChangeSpec.witness_at (enc:=enc) (C:=Tryz.checked) (os:=os) (X:=fun w _=>laidMet Tryz.prog zD w) false (laidWorld os) #[.slice none 0 0,.slice none 0 0,.int .i64 0] 8 rfl ah ah ah ah ah (laidWorld_met os _)) ?_
 intro W base args ds gs before hval0 hW _ _ hL _;have hval:∀ (j:Nat) t v,Tryz.f4.params[j]? = some t→args[j]? = some v→Value.okWide Tryz.prog W .any base t v:=hval0;have hW':=hW;obtain⟨p,q,hA0,hV,rfl,hfz,hnd⟩:=hW;have hA:DataW.TrodAll enc Tryz.prog W 0 (fun _=>true) true Tryz.f4.params.toList args.toList ds p:=hA0;rw[Tryz.params4] at hA hval;obtain⟨v0,vr0,d0,dr0,p0,q0,ha,rfl,rfl,h0,hr0⟩:=trodAll_cons hA;obtain⟨v1,vr1,d1,dr1,p1,q1,rfl,rfl,rfl,h1,hr1⟩:=trodAll_cons hr0;obtain⟨v2,vr2,d2,dr2,p2,q2,rfl,rfl,rfl,h2,hr2⟩:=trodAll_cons hr1;obtain⟨rfl,rfl,rfl⟩:=trodAll_nil hr2;obtain rfl:args = #[v0,v1,v2]:=by cases args;simp_all
 clear ha;obtain⟨rfl,rfl⟩:=trodVars_none hV;obtain⟨l0,hl0,hb0⟩:=aau (hval 0 22 v0 rfl rfl) h0;obtain⟨l1,hl1,hb1⟩:=aau (hval 1 22 v1 rfl rfl) h1;obtain⟨n2,rfl,rfl,rfl,hwn2⟩:=open_int Tryz.underlying3 (hval 2 3 v2 rfl rfl) h2;clear hA0 hval0;simp only[List.append_nil,List.nil_append,List.append_assoc] at hW';have hlt0:∀ x∈p0,x.block < W.heap.size:=fun x hx=>hW'.lt x (by simp[hx])
 have hlt1:∀ x∈p1,x.block < W.heap.size:=fun x hx=>hW'.lt x (by simp[hx])
 refine(ajx W All v0 v1 l0 l1 n2 hl0 hl1 hb0 hb1 (adT hL)).mono fun e W' hR=>?_
 obtain⟨v,rfl,bel,rfl⟩:=hR;refine⟨_,rfl,_,_,_,[],p0++(p1),[],hW',?_,?_,rfl,bel.frame _,fun h=>by cases h⟩
 ·exact trodAll_mk1 (shut_bool Tryz.underlying4 true)
 ·have t3:=trodAll_cons_mk (Below.trod Tryz.laidOut ah (of_decide_eq_true ah) h0 bel hlt0) (trodAll_cons_mk (Below.trod Tryz.laidOut ah (of_decide_eq_true ah) h1 bel hlt1) (trodAll_cons_mk (shut_int (enc:=enc) (w:=W') Tryz.underlying3 hwn2) (trodAll_mk0)));simp only[List.append_nil,List.nil_append,List.append_assoc] at t3;exact t3
theorem planRound_holds:Rows.PlanRoundSaid :=
 OpenClaim.holds_of_wide 4 Tryz.f4 rfl rfl rfl rfl rfl rfl rfl ⟨rfl,rfl,rfl,rfl,rfl⟩ rfl rfl rfl rfl rfl ah Tryz.func4 ah
  (of_decide_eq_true ah) (by unfold Func.isWrapper; first | (rw[if_pos (by decide +kernel)]; kernel_rfl) | (rw[if_neg (by decide +kernel)]; exact⟨rfl,rfl⟩))
  (fun os started H enc _=>yC os started H enc)
end Go.Proofs.YtnmeejofpkhlkaaGreatDoor
