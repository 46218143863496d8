/- The example's plan: plain law. -/
import Derived.Test.YtnmeejofpkhlkaaGreatDoorR30
import Derived.Test.YtnmeejofpkhlkaaGreatDoorR33
set_option linter.all false
namespace Go.Proofs.YtnmeejofpkhlkaaGreatDoor
open Go.RowKit
def aaY:List (List Rat):=[[mkRat 1 2,mkRat 1 2],[mkRat 1 2,mkRat 1 2],[mkRat 1 6,mkRat 1 6,mkRat 1 6]]
theorem oW:bP bg=0:=by decide +kernel
theorem ahL:vO bg=sG:=by decide +kernel
theorem ade:ac5 bg=sG.map (List.map aG):=by
 unfold ac5;rw[if_neg (by rw[oW]; decide),ahL]
theorem lI:aK bg = [(-1,-1),(-1,-1),(0,1)]:=by decide +kernel
theorem mF:o8 bg=0:=by decide +kernel
theorem aeF:aV [(-1,-1),(-1,-1),(0,1)] sG=aaY:=by decide +kernel
theorem aeG:dM bg (sG.map (List.map aG))=0:=by rw[uq]; exact afW
theorem acd:ofE bg (sG.map (List.map aG))=0:=by
 unfold ofE;rw[if_neg (by rw[aeG]; decide),mF]
theorem aeH:xE bg (sG.map (List.map aG))=aaY.map (List.map aG):=by
 unfold xE;rw[if_neg (by rw[acd]; decide),qg,lI,aeF]
theorem aeI:zi bg=0:=by
 unfold zi;rw[if_neg (by rw[oW]; decide),mF]
theorem abr:pY bg = [(-1,-1),(-1,-1),(0,1)]:=by
 unfold pY;rw[if_neg (by rw[oW]; decide)];rcases oV bg with⟨_,h⟩ | h
 ·rw[h,lI]
 ·exact absurd mF h
theorem adf:BO (sG.map (List.map aG)):=by rw[uq]; exact afX
theorem aaZ {m:List (List Rat)} (hl:m.length≤1000) (h:∀ l∈m,l.length≤1000∧∀ x∈l,rl x≤1024):BJ (m.map (List.map aG)):=by
 refine⟨by rw[List.length_map]; omega,fun l hl=>?_⟩;obtain⟨r,hr,rfl⟩:=List.mem_map.1 hl;exact ai2 (h r hr).2 (h r hr).1
theorem ajg {b:Nat} (h0:b≠0) (hb:b < 1000):rl (mkRat 1 b)≤1024:=zY h0 (Nat.le_trans (aS (k:=1) (by unfold LB; decide)) ay) (Nat.le_trans (aS (k:=1) (by unfold LB; omega)) ay)
theorem ajh:∀ l∈sG.map (List.map aG),l.length≤1000:=by rw[uq]; decide
theorem aeJ:BJ (aaY.map (List.map aG)):=aaZ ay fun l hl=>by
 unfold aaY at hl;simp only[List.mem_cons,List.not_mem_nil,or_false] at hl;rcases hl with rfl | rfl | rfl
 all_goals
  refine⟨ay,fun x hx=>?_⟩;simp only[List.mem_cons,List.not_mem_nil,or_false] at hx;rcases hx with rfl | rfl | rfl
 ·exact ajg ay ay
 ·exact ajg ay ay
 ·exact ajg ay ay
 ·exact ajg ay ay
 all_goals exact ajg ay ay
end Go.Proofs.YtnmeejofpkhlkaaGreatDoor
