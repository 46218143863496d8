/- The example's plan: plain law. -/
import Derived.Test.YthmklhapjegfdaaGreatDoorP30
import Derived.Test.YthmklhapjegfdaaGreatDoorP33
set_option linter.all false
namespace Go.Proofs.YthmklhapjegfdaaGreatDoor
open Go.RowKit
def aaw:List (List Rat):=[[mkRat 1 2,mkRat 1 2],[mkRat 1 2,mkRat 1 2],[mkRat 1 6,mkRat 1 6,mkRat 1 6]]
theorem og:bK aV=0:=by decide +kernel
theorem agP:nZ aV=rF:=by decide +kernel
theorem acC:uK aV=rF.map (List.map aH):=by
 unfold uK;rw[if_neg (by rw[og]; decide),agP]
theorem kL:aS aV = [(-1,-1),(-1,-1),(0,1)]:=by decide +kernel
theorem lF:ou aV=0:=by decide +kernel
theorem adV:bD [(-1,-1),(-1,-1),(0,1)] rF=aaw:=by decide +kernel
theorem adW:dM aV (rF.map (List.map aH))=0:=by rw[sS]; exact ae9
theorem abG:ofE aV (rF.map (List.map aH))=0:=by
 unfold ofE;rw[if_neg (by rw[adW]; decide),lF]
theorem adX:wH aV (rF.map (List.map aH))=aaw.map (List.map aH):=by
 unfold wH;rw[if_neg (by rw[abG]; decide),oZ,kL,adV]
theorem adY:abC aV=0:=by
 unfold abC;rw[if_neg (by rw[og]; decide),lF]
theorem aaU:sV aV = [(-1,-1),(-1,-1),(0,1)]:=by
 unfold sV;rw[if_neg (by rw[og]; decide)];rcases qM aV with⟨_,h⟩ | h
 ·rw[h,kL]
 ·exact absurd lF h
theorem acD:BO (rF.map (List.map aH)):=by rw[sS]; exact afa
theorem adZ {m:List (List Rat)} (hl:m.length≤1000) (h:∀ l∈m,l.length≤1000∧∀ x∈l,rl x≤1024):BL (m.map (List.map aH)):=by
 refine⟨by rw[List.length_map]; omega,fun l hl=>?_⟩;obtain⟨r,hr,rfl⟩:=List.mem_map.1 hl;exact ahW (h r hr).2 (h r hr).1
theorem ah9 {b:Nat} (h0:b≠0) (hb:b < 1000):rl (mkRat 1 b)≤1024:=aaZ h0 (Nat.le_trans (aY (k:=1) (by unfold LB; decide)) ay) (Nat.le_trans (aY (k:=1) (by unfold LB; omega)) ay)
theorem aia:∀ l∈rF.map (List.map aH),l.length≤1000:=by rw[sS]; decide
theorem ad1:BL (aaw.map (List.map aH)):=adZ ay fun l hl=>by
 unfold aaw at hl;simp only[List.mem_cons,List.not_mem_nil,or_false] at hl;rcases hl with rfl | rfl | rfl
 all_goals
  refine⟨ay,fun x hx=>?_⟩;simp only[List.mem_cons,List.not_mem_nil,or_false] at hx;rcases hx with rfl | rfl | rfl
 ·exact ah9 ay ay
 ·exact ah9 ay ay
 ·exact ah9 ay ay
 ·exact ah9 ay ay
 all_goals exact ah9 ay ay
end Go.Proofs.YthmklhapjegfdaaGreatDoor
