import Derived.KernelRfl
set_option linter.all false
namespace Go.Proofs.YtenaplhghbcjhaaGreatDoor
theorem aj {p:Prop} (h:p:=by kernel_rfl):p:=h
