/- P18: a part of the proof. -/
import Derived.Test.YteajeenmojbjhaaGreatDoorP16
import Derived.KernelRfl
namespace Go.Proofs.YteajeenmojbjhaaGreatDoor.Ev
open Go Fw
set_option maxRecDepth 100000
theorem st228 (hF : Facts []) : PF q228 := factQ (l := []) hF (by kernel_rfl) (by kernel_rfl) (by kernel_rfl)
end Go.Proofs.YteajeenmojbjhaaGreatDoor.Ev
