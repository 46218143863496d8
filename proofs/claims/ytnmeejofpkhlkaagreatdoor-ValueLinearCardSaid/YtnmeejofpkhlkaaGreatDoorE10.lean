/- Part of a claim. -/
import Derived.Test.YtnmeejofpkhlkaaGreatDoorE04
import Derived.ProofKit
import Derived.Lib.SmallJoins
import Derived.Deep.Slices
import Derived.Deep.Fields
import Derived.ChangeSame
import Derived.OpenShut
set_option linter.all false
set_option maxRecDepth 100000
set_option maxHeartbeats 12800000
namespace Go.Proofs.YtnmeejofpkhlkaaGreatDoor
open Go renaming Value->F7
open List renaming length_take->G5
open Nat renaming min_eq_left->Hy
open Go.Proofs.Tryz renaming prog->FY,underlying22->Ic,underlying3->Jj
open Go.ChangeShapes Go.WideShapes Go.ChangeAt Go.RowKit Go.Joins Go.Deep
section
variable {H:Type} {enc:TypeId×F7->H} {P:Program} {w:World} {base:Nat} {spare:Nat->Bool} {held:Bool}
end
theorem af4:Tryz.prog.cellsOf 3=1:=ak
abbrev All:FI:=λ_=>True
section
variable {H:Type} {enc:TypeId×F7->H} {w:World} {base:Nat} {spare:Nat->Bool} {held:Bool}
theorem cell_lt {a:Addr} {v:F7} (h:w.cell? a=some v):a.block < w.heap.size:=World.block_lt_of_cell? w a h
theorem ahD {fuel:Nat} {v:F7} {x:DataW H×List MemPlace} (h:DataW.trod enc FY w base spare held fuel 22 [v]=some x):∃ l,Aj w All v l:=by
 rcases open_ints Ic Jj af4 h with⟨hcs,_⟩ | ⟨a,len,cap,zs,hcs,_,hl,hm,hz,_,hcell,_⟩
 ·injection hcs with hv _
  subst hv;exact⟨[],none,0,rfl,Nat.le_refl _,λh=>absurd h aF⟩
 ·injection hcs with hv _
  subst hv;have hzl:len<=zs.length:=by rw[hz];split <;> omega
  refine⟨zs.take len,some a,cap,by rw[G5,Hy hzl],by rw[G5,Hy hzl]; exact hl,λh0=>?_⟩;rw[G5,Hy hzl] at h0;obtain⟨b,off,rfl,hc⟩:=ints_at hcell EN;refine⟨b,off,rfl,trivial,cell_lt (hc 0 EN),λk y hk=>?_⟩;unfold jP;rw[List.getElem?_take] at hk;split at hk
  ·have hkl:=FD hk;rw[Nat.mul_one,hc k hkl];simp[List.getD_eq_getElem?_getD,hk]
  ·cases hk
theorem ahE {v:F7} {d:DataW H} {p:List MemPlace} {r:Reach} {b0:Nat} (hv:Value.okWide FY w r b0 22 v) (h:DataW.Trod enc FY w base spare held 22 v d p):∃ l,Aj w All v l:=by
 obtain⟨a0,len,cap,rfl⟩:=okWide_slice Ic hv;obtain⟨fuel,hf⟩:=h;exact ahD (by simpa [Value.cells] using hf)
end
section
variable {H:Type} {enc:TypeId×F7->H} {w:World} {base:Nat} {spare:Nat->Bool} {held:Bool}
theorem yO {v:F7} {d:DataW H} {p:List MemPlace} {r:Reach} {b0:Nat} (hv:Value.okWide FY w r b0 22 v) (h:DataW.Trod enc FY w base spare held 22 v d p):∃ l,Aj w All v l/\l.length<=9223372036854775807:=by
 obtain⟨l,hl⟩:=ahE hv h;refine⟨l,hl,?_⟩;obtain⟨A,c,rfl,hc,_⟩:=hl;obtain⟨fuel,hf⟩:=h;have hf2:=hf;simp only[Value.cells] at hf2;rcases open_ints Ic Jj af4 hf2 with⟨hcs,_⟩ | ⟨a,len,cap,zs,hcs,_,hl,hm,_⟩
 ·simp at hcs;omega
 ·simp at hcs;unfold maxLen at hm;omega
end
end Go.Proofs.YtnmeejofpkhlkaaGreatDoor
