/- The example's plan: plain law. -/
import Derived.Test.YtnmeejofpkhlkaaGreatDoorH30
import Derived.Test.YtnmeejofpkhlkaaGreatDoorH33
set_option linter.all false
namespace Go.Proofs.YtnmeejofpkhlkaaGreatDoor
open Go.RowKit
def abm:List (List Rat):=[[mkRat 1 2,mkRat 1 2],[mkRat 1 2,mkRat 1 2],[mkRat 1 6,mkRat 1 6,mkRat 1 6]]
theorem pO:bJ bD=0:=by decide +kernel
theorem aif:wI bD=tu:=by decide +kernel
theorem adF:adx bD=tu.map (List.map aC):=by
 unfold adx;rw[if_neg (by rw[pO]; decide),aif]
theorem lW:aN bD = [(-1,-1),(-1,-1),(0,1)]:=by decide +kernel
theorem mY:lX bD=0:=by decide +kernel
theorem ae6:aT [(-1,-1),(-1,-1),(0,1)] tu=abm:=by decide +kernel
theorem ae7:dX bD (tu.map (List.map aC))=0:=by rw[uU]; exact ags
theorem acI:ofE bD (tu.map (List.map aC))=0:=by
 unfold ofE;rw[if_neg (by rw[ae7]; decide),mY]
theorem ae8:yg bD (tu.map (List.map aC))=abm.map (List.map aC):=by
 unfold yg;rw[if_neg (by rw[acI]; decide),ny,lW,ae6]
theorem ae9:acF bD=0:=by
 unfold acF;rw[if_neg (by rw[pO]; decide),mY]
theorem abP:uX bD = [(-1,-1),(-1,-1),(0,1)]:=by
 unfold uX;rw[if_neg (by rw[pO]; decide)];rcases rX bD with⟨_,h⟩ | h
 ·rw[h,lW]
 ·exact absurd mY h
theorem adG:BN (tu.map (List.map aC)):=by rw[uU]; exact agt
theorem abn {m:List (List Rat)} (hl:m.length≤1000) (h:∀ l∈m,l.length≤1000∧∀ x∈l,rl x≤1024):BI (m.map (List.map aC)):=by
 refine⟨by rw[List.length_map]; omega,fun l hl=>?_⟩;obtain⟨r,hr,rfl⟩:=List.mem_map.1 hl;exact ajv (h r hr).2 (h r hr).1
theorem ajJ {b:Nat} (h0:b≠0) (hb:b < 1000):rl (mkRat 1 b)≤1024:=aaw h0 (Nat.le_trans (aS (k:=1) (by unfold LB; decide)) ay) (Nat.le_trans (aS (k:=1) (by unfold LB; omega)) ay)
theorem ajK:∀ l∈tu.map (List.map aC),l.length≤1000:=by rw[uU]; decide
theorem afa:BI (abm.map (List.map aC)):=abn ay fun l hl=>by
 unfold abm at hl;simp only[List.mem_cons,List.not_mem_nil,or_false] at hl;rcases hl with rfl | rfl | rfl
 all_goals
  refine⟨ay,fun x hx=>?_⟩;simp only[List.mem_cons,List.not_mem_nil,or_false] at hx;rcases hx with rfl | rfl | rfl
 ·exact ajJ ay ay
 ·exact ajJ ay ay
 ·exact ajJ ay ay
 ·exact ajJ ay ay
 all_goals exact ajJ ay ay
end Go.Proofs.YtnmeejofpkhlkaaGreatDoor
