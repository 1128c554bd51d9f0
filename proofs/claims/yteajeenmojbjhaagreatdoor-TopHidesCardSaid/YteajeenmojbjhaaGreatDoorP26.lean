/- ZE2 of the seat. -/
import Derived.Test.YteajeenmojbjhaaGreatDoorRows
import Derived.Test.YteajeenmojbjhaaGreatDoorP2
namespace Go.Proofs.YteajeenmojbjhaaGreatDoor
open Go Fw
theorem lifts : Tryz.prog.liftsFinal = Rows.topHidesRow.lifted := by kernel_rfl
end Go.Proofs.YteajeenmojbjhaaGreatDoor
