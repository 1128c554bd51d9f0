/- P19: a part of the proof. -/
import Derived.Test.YteajeenmojbjhaaGreatDoorP16
import Derived.KernelRfl
namespace Go.Proofs.YteajeenmojbjhaaGreatDoor.Ev
open Go Fw
set_option maxRecDepth 100000
theorem st49 (hF : Facts []) : PF q49 := factQ (l := []) hF (by kernel_rfl) (by kernel_rfl) (by kernel_rfl)
theorem st170 (hF : Facts []) : PF q170 := factQ (l := []) hF (by kernel_rfl) (by kernel_rfl) (by kernel_rfl)
theorem st219 (hF : Facts []) : PF q219 := factQ (l := []) hF (by kernel_rfl) (by kernel_rfl) (by kernel_rfl)
theorem st230 (hF : Facts []) : PF q230 := factQ (l := []) hF (by kernel_rfl) (by kernel_rfl) (by kernel_rfl)
end Go.Proofs.YteajeenmojbjhaaGreatDoor.Ev
