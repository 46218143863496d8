/- A short name for the kernel's own check. -/
import Derived.KernelRfl
set_option linter.all false
namespace Go.Proofs.YtnmeejofpkhlkaaGreatDoor
theorem ah {p:Prop} (h:p:=by kernel_rfl):p:=h
end Go.Proofs.YtnmeejofpkhlkaaGreatDoor
