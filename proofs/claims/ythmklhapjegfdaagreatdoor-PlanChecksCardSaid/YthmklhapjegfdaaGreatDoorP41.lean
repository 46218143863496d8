/- The example's plan: plain law. -/
import Derived.Test.YthmklhapjegfdaaGreatDoorP35
import Derived.Test.YthmklhapjegfdaaGreatDoorP39
set_option linter.all false
namespace Go.Proofs.YthmklhapjegfdaaGreatDoor
open Go.RowKit
def aaf:List (List Rat):=[[mkRat 1 2,mkRat 1 2],[mkRat 1 2,mkRat 1 2],[mkRat 1 6,mkRat 1 6,mkRat 1 6]]
theorem qm:aY gW=0:=by decide +kernel
theorem agc:nD gW=qX:=by decide +kernel
theorem abX:qh gW=qX.map (List.map aG):=by
 unfold qh;rw[if_neg (by rw[qm]; decide),agc]
theorem wJ:dM gW = [(-1,-1),(-1,-1),(0,1)]:=by decide +kernel
theorem uY:oQ gW=0:=by decide +kernel
theorem adp:jh [(-1,-1),(-1,-1),(0,1)] qX=aaf:=by decide +kernel
theorem adq:iF gW (qX.map (List.map aG))=0:=by rw[sH]; exact aeo
theorem abb:ofE gW (qX.map (List.map aG))=0:=by
 unfold ofE;rw[if_neg (by rw[adq]; decide),uY]
theorem adr:adg gW (qX.map (List.map aG))=aaf.map (List.map aG):=by
 unfold adg;rw[if_neg (by rw[abb]; decide),aeY,wJ,adp]
theorem ads:aad gW=0:=by
 unfold aad;rw[if_neg (by rw[qm]; decide),uY]
theorem aax:l7 gW = [(-1,-1),(-1,-1),(0,1)]:=by
 unfold l7;rw[if_neg (by rw[qm]; decide)];rcases zZ gW with⟨_,h⟩ | h
 ·rw[h,wJ]
 ·exact absurd uY h
theorem abY:BK (qX.map (List.map aG)):=by rw[sH]; exact aep
theorem adt {m:List (List Rat)} (hl:m.length≤1000) (h:∀ l∈m,l.length≤1000∧∀ x∈l,rl x≤1024):AZ (m.map (List.map aG)):=by
 refine⟨by rw[List.length_map]; omega,fun l hl=>?_⟩;obtain⟨r,hr,rfl⟩:=List.mem_map.1 hl;exact ahk (h r hr).2 (h r hr).1
theorem ahz:∀ l∈qX.map (List.map aG),l.length≤1000:=by rw[sH]; decide
theorem zzK2 {b:Nat} (h0:b≠0) (hb:b<1000):rl (mkRat 1 b)≤1024:=ah9 h0 (Nat.le_trans (aW (k:=1) (by unfold LB; decide)) (by decide)) (Nat.le_trans (aW (k:=1) (by unfold LB; omega)) (by decide))
theorem adu:AZ (aaf.map (List.map aG)):=adt aB fun l hl=>by
 unfold aaf at hl;simp only[List.mem_cons,List.not_mem_nil,or_false] at hl;rcases hl with rfl | rfl | rfl
 all_goals
  refine⟨aB,fun x hx=>?_⟩;simp only[List.mem_cons,List.not_mem_nil,or_false] at hx;rcases hx with rfl | rfl | rfl
 ·exact zzK2 (by decide) (by decide)
 ·exact zzK2 (by decide) (by decide)
 ·exact zzK2 (by decide) (by decide)
 ·exact zzK2 (by decide) (by decide)
 all_goals exact zzK2 (by decide) (by decide)
end Go.Proofs.YthmklhapjegfdaaGreatDoor
