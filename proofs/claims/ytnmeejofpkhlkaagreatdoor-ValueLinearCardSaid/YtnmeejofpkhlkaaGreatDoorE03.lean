/- Part of a claim. -/
import Derived.KernelRfl
set_option linter.all false
namespace Go.Proofs.YtnmeejofpkhlkaaGreatDoor
theorem ak {p:Prop} (h:p:=by kernel_rfl):p:=h
end Go.Proofs.YtnmeejofpkhlkaaGreatDoor
