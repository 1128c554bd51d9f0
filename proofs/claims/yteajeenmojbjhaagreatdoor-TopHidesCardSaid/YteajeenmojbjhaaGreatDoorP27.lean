/- ZE3 of the seat. -/
import Derived.Test.YteajeenmojbjhaaGreatDoorRows
import Derived.Test.YteajeenmojbjhaaGreatDoorP2
namespace Go.Proofs.YteajeenmojbjhaaGreatDoor
open Go Fw
theorem maker : Tryz.prog.make = some Rows.topHidesRow.make := by kernel_rfl
end Go.Proofs.YteajeenmojbjhaaGreatDoor
