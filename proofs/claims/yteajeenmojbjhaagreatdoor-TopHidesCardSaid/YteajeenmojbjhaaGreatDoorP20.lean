/- P20: a part of the proof. -/
import Derived.Test.YteajeenmojbjhaaGreatDoorP16
import Derived.KernelRfl
namespace Go.Proofs.YteajeenmojbjhaaGreatDoor.Ev
open Go Fw
set_option maxRecDepth 100000
theorem st25 (hF : Facts []) : PF q25 := factQ (l := []) hF (by kernel_rfl) (by kernel_rfl) (by kernel_rfl)
theorem st31 (hF : Facts []) : PF q31 := factQ (l := []) hF (by kernel_rfl) (by kernel_rfl) (by kernel_rfl)
theorem st43 (hF : Facts []) : PF q43 := factQ (l := []) hF (by kernel_rfl) (by kernel_rfl) (by kernel_rfl)
theorem st100 (hF : Facts []) : PF q100 := factQ (l := []) hF (by kernel_rfl) (by kernel_rfl) (by kernel_rfl)
theorem st104 (hF : Facts []) : PF q104 := factQ (l := []) hF (by kernel_rfl) (by kernel_rfl) (by kernel_rfl)
theorem st159 (hF : Facts []) : PF q159 := factQ (l := []) hF (by kernel_rfl) (by kernel_rfl) (by kernel_rfl)
theorem st166 (hF : Facts []) : PF q166 := factQ (l := []) hF (by kernel_rfl) (by kernel_rfl) (by kernel_rfl)
theorem st177 (hF : Facts []) : PF q177 := factQ (l := []) hF (by kernel_rfl) (by kernel_rfl) (by kernel_rfl)
theorem st183 (hF : Facts []) : PF q183 := factQ (l := []) hF (by kernel_rfl) (by kernel_rfl) (by kernel_rfl)
theorem st267 (hF : Facts []) : PF q267 := factQ (l := []) hF (by kernel_rfl) (by kernel_rfl) (by kernel_rfl)
end Go.Proofs.YteajeenmojbjhaaGreatDoor.Ev
