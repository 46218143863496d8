/- Part of a claim. -/
import Derived.Test.YtnmeejofpkhlkaaGreatDoorE25
import Derived.Test.YtnmeejofpkhlkaaGreatDoorE38
import Derived.OpenShut
set_option linter.all false
set_option maxRecDepth 100000
set_option maxHeartbeats 12800000
namespace Go.Proofs.YtnmeejofpkhlkaaGreatDoor
open List renaming append_assoc->GY,append_nil->Hz
open Go.Proofs.Tryz renaming prog->FY,underlying3->Jj
open Go.ChangeShapes Go.WideShapes Go.ChangeAt Go.RowKit
theorem zA (os:Os) (started:os.Started) (H:Type) (enc:TypeId×Value->H) :
  ReturnsInHanded {} Tryz.checked os 3 .any (λw args=>(Rows.valueLinearSpec.pre enc FY Tryz.f3 [] false w args/\laidMet FY abO w)/\sizedMet enc FY Tryz.f3 (OpenSpec.ofChange Rows.valueLinearSpec) false w args)
   (Rows.valueLinearSpec.post enc FY Tryz.f3 false true false false):=by
 refine returnsInHanded_of_change_and (C:=Tryz.checked) (X:=λw _=>laidMet FY abO w) (λ_ _ _ hh h=>h.of_heap hh) Tryz.own started ak Tryz.func3
  (ChangeSpec.witness_at (enc:=enc) (C:=Tryz.checked) (os:=os) (X:=λw _=>laidMet FY abO w) false (laidWorld os) #[.slice none 0 0,.slice none 0 0,.slice none 0 0,.int .i64 0,.int .i64 0,.int .i64 0] 8 rfl ak ak ak ak ak (laidWorld_met os _)) ?_
 intro W base args ds gs before hval0 hW _ _ hL _;have hval:∀ (j:Nat) t v,Tryz.f3.params[j]? = some t->args[j]? = some v->Value.okWide FY W .any base t v:=hval0;have hW':=hW;obtain⟨p,q,hA0,hV,rfl,hfz,hnd⟩:=hW;have hA:DataW.TrodAll enc FY W 0 (λ_=>true) true Tryz.f3.params.toList args.toList ds p:=hA0;rw[Tryz.params3] at hA hval;obtain⟨v0,vr0,d0,dr0,p0,q0,ha,rfl,rfl,h0,hr0⟩:=trodAll_cons hA;obtain⟨v1,vr1,d1,dr1,p1,q1,rfl,rfl,rfl,h1,hr1⟩:=trodAll_cons hr0;obtain⟨v2,vr2,d2,dr2,p2,q2,rfl,rfl,rfl,h2,hr2⟩:=trodAll_cons hr1;obtain⟨v3,vr3,d3,dr3,p3,q3,rfl,rfl,rfl,h3,hr3⟩:=trodAll_cons hr2;obtain⟨v4,vr4,d4,dr4,p4,q4,rfl,rfl,rfl,h4,hr4⟩:=trodAll_cons hr3;obtain⟨v5,vr5,d5,dr5,p5,q5,rfl,rfl,rfl,h5,hr5⟩:=trodAll_cons hr4;obtain⟨rfl,rfl,rfl⟩:=trodAll_nil hr5;obtain rfl:args = #[v0,v1,v2,v3,v4,v5]:=by cases args;simp_all
 clear ha;obtain⟨rfl,rfl⟩:=trodVars_none hV;obtain⟨l0,hl0,hb0⟩:=yO (hval 0 22 v0 rfl rfl) h0;obtain⟨l1,hl1,hb1⟩:=yO (hval 1 22 v1 rfl rfl) h1;obtain⟨l2,hl2,hb2⟩:=yO (hval 2 22 v2 rfl rfl) h2;obtain⟨n3,rfl,rfl,rfl,hwn3⟩:=open_int Jj (hval 3 3 v3 rfl rfl) h3;obtain⟨n4,rfl,rfl,rfl,hwn4⟩:=open_int Jj (hval 4 3 v4 rfl rfl) h4;obtain⟨n5,rfl,rfl,rfl,hwn5⟩:=open_int Jj (hval 5 3 v5 rfl rfl) h5;clear hA0 hval0;simp only[Hz,List.nil_append,GY] at hW';have hlt0:∀ x∈p0,x.block < W.heap.size:=λx hx=>hW'.lt x (by simp[hx])
 have hlt1:∀ x∈p1,x.block < W.heap.size:=λx hx=>hW'.lt x (by simp[hx])
 have hlt2:∀ x∈p2,x.block < W.heap.size:=λx hx=>hW'.lt x (by simp[hx])
 refine(anF W All v0 v1 v2 l0 l1 l2 n3 n4 n5 hl0 hl1 hl2 hb0 hb1 hb2 (agh hL)).mono λe W' hR=>?_
 obtain⟨v,rfl,bel,rfl⟩:=hR;refine⟨_,rfl,_,_,_,[],p0++(p1++(p2)),[],hW',?_,?_,rfl,bel.frame _,λh=>by cases h⟩
 ·exact trodAll_mk1 (shut_bool Tryz.underlying4 true)
 ·have t3:=trodAll_cons_mk (Below.trod Tryz.laidOut ak (of_decide_eq_true ak) h0 bel hlt0) (trodAll_cons_mk (Below.trod Tryz.laidOut ak (of_decide_eq_true ak) h1 bel hlt1) (trodAll_cons_mk (Below.trod Tryz.laidOut ak (of_decide_eq_true ak) h2 bel hlt2) (trodAll_cons_mk (shut_int (enc:=enc) (w:=W') Jj hwn3) (trodAll_cons_mk (shut_int (enc:=enc) (w:=W') Jj hwn4) (trodAll_cons_mk (shut_int (enc:=enc) (w:=W') Jj hwn5) (trodAll_mk0))))));simp only[Hz,List.nil_append,GY] at t3;exact t3
theorem valueLinear_holds:Rows.ValueLinearSaid :=
 OpenClaim.holds_of_wide 3 Tryz.f3 rfl rfl rfl rfl rfl rfl rfl ⟨rfl,rfl,rfl,rfl,rfl⟩ rfl rfl rfl rfl rfl ak Tryz.func3 ak
  (of_decide_eq_true ak) (by unfold Func.isWrapper; first | (rw[L8 (by decide +kernel)]; kernel_rfl) | (rw[L6 (by decide +kernel)]; exact⟨rfl,rfl⟩))
  (λos started H enc _=>zA os started H enc)
end Go.Proofs.YtnmeejofpkhlkaaGreatDoor
