/- parlourref17.ValuesOf. -/
import Derived.Test.YtkcheepafifjaaaGreatDoorF31
import Derived.Test.YtkcheepafifjaaaGreatDoorF22
import Derived.Deep.Cut
set_option linter.all false
set_option maxRecDepth 100000
set_option maxHeartbeats 12800000
namespace Go.Proofs.YtkcheepafifjaaaGreatDoor
open Go.RowKit
theorem iq {w:World} {b o:Nat} {v:Value} (h:w.cell? ⟨b,o,none⟩=some v) (ob:Obj):(w.alloc ob).cell? ⟨b,o,none⟩=some v:=ah h ((Below.refl _ _).alloc (Nat.le_refl _) _)
theorem ahW {w w':World} {B b o:Nat} {v:Value} (h:w.cell? ⟨b,o,none⟩=some v) (hb:Below B w w') (hl:b < B):w'.cell? ⟨b,o,none⟩=some v:=(hb.cell (p:=⟨b,o,none⟩) hl).trans h
theorem abG {w:World} {F:Ag} {A:Option Addr} {n c:Nat} {l:List Int} (h:AA w F (.slice A n c) l) (hl:0 < l.length):∃ b o,A=some ⟨b,o,none⟩∧F b∧b < w.heap.size∧∀ (k:Nat) (x:Int),l[k]? = some x→w.cell? ⟨b,o+k,none⟩=some (.int .i64 x):=by
 obtain⟨A',c',he,_,hx⟩:=h;simp only[Value.slice.injEq] at he;obtain⟨rfl,_,rfl⟩:=he;obtain⟨b3,o3,h1,h2,h3,h4⟩:=hx hl;exact⟨b3,o3,h1,h2,h3,fun k x hk=>by have:=h4 k x hk; unfold lY at this; rw[Nat.mul_one] at this; exact this⟩
end Go.Proofs.YtkcheepafifjaaaGreatDoor
