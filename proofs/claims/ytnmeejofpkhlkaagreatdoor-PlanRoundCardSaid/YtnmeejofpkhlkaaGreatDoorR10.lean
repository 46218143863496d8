/- The arguments of the statements, opened: a game and a list of numbers that came in. -/
import Derived.Test.YtnmeejofpkhlkaaGreatDoorR04
import Derived.ProofKit
import Derived.Lib.SmallJoins
import Derived.Deep.Slices
import Derived.Deep.Fields
import Derived.ChangeSame
import Derived.OpenShut
set_option linter.all false
set_option maxRecDepth 100000
set_option maxHeartbeats 12800000
namespace Go.Proofs.YtnmeejofpkhlkaaGreatDoor
open Go.ChangeShapes Go.WideShapes Go.ChangeAt Go.RowKit Go.Joins Go.Deep
section
variable {H:Type} {enc:TypeId×Value→H} {P:Program} {w:World} {base:Nat} {spare:Nat→Bool} {held:Bool}
end
theorem adJ:Tryz.prog.cellsOf 3=1:=ah
abbrev All:Foot:=fun _=>True
section
variable {H:Type} {enc:TypeId×Value→H} {w:World} {base:Nat} {spare:Nat→Bool} {held:Bool}
theorem cell_lt {a:Addr} {v:Value} (h:w.cell? a=some v):a.block < w.heap.size:=World.block_lt_of_cell? w a h
theorem afk {fuel:Nat} {v:Value} {x:DataW H×List MemPlace} (h:DataW.trod enc Tryz.prog w base spare held fuel 22 [v]=some x):∃ l,AA w All v l:=by
 rcases open_ints Tryz.underlying22 Tryz.underlying3 adJ h with⟨hcs,_⟩ | ⟨a,len,cap,zs,hcs,_,hl,hm,hz,_,hcell,_⟩
 ·injection hcs with hv _
  subst hv;exact⟨[],none,0,rfl,Nat.le_refl _,fun h=>absurd h aB⟩
 ·injection hcs with hv _
  subst hv;have hzl:len≤zs.length:=by rw[hz];split <;> omega
  refine⟨zs.take len,some a,cap,by rw[List.length_take,Nat.min_eq_left hzl],by rw[List.length_take,Nat.min_eq_left hzl]; exact hl,fun h0=>?_⟩;rw[List.length_take,Nat.min_eq_left hzl] at h0;obtain⟨b,off,rfl,hc⟩:=ints_at hcell byOmega;refine⟨b,off,rfl,trivial,cell_lt (hc 0 byOmega),fun k y hk=>?_⟩;unfold o7;rw[List.getElem?_take] at hk;split at hk
  ·have hkl:=lt_of_get hk;rw[Nat.mul_one,hc k hkl];simp[List.getD_eq_getElem?_getD,hk]
  ·cases hk
theorem afl {v:Value} {d:DataW H} {p:List MemPlace} {r:Reach} {b0:Nat} (hv:Value.okWide Tryz.prog w r b0 22 v) (h:DataW.Trod enc Tryz.prog w base spare held 22 v d p):∃ l,AA w All v l:=by
 obtain⟨a0,len,cap,rfl⟩:=okWide_slice Tryz.underlying22 hv;obtain⟨fuel,hf⟩:=h;exact afk (by simpa [Value.cells] using hf)
end
section
variable {H:Type} {enc:TypeId×Value→H} {w:World} {base:Nat} {spare:Nat→Bool} {held:Bool}
theorem aau {v:Value} {d:DataW H} {p:List MemPlace} {r:Reach} {b0:Nat} (hv:Value.okWide Tryz.prog w r b0 22 v) (h:DataW.Trod enc Tryz.prog w base spare held 22 v d p):∃ l,AA w All v l∧l.length≤9223372036854775807:=by
 obtain⟨l,hl⟩:=afl hv h;refine⟨l,hl,?_⟩;obtain⟨A,c,rfl,hc,_⟩:=hl;obtain⟨fuel,hf⟩:=h;have hf2:=hf;simp only[Value.cells] at hf2;rcases open_ints Tryz.underlying22 Tryz.underlying3 adJ hf2 with⟨hcs,_⟩ | ⟨a,len,cap,zs,hcs,_,hl,hm,_⟩
 ·simp at hcs;omega
 ·simp at hcs;unfold maxLen at hm;omega
end
end Go.Proofs.YtnmeejofpkhlkaaGreatDoor
