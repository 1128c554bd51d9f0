/- ZE1 of the seat. -/
import Derived.Test.YteajeenmojbjhaaGreatDoorRows
import Derived.Test.YteajeenmojbjhaaGreatDoorP2
namespace Go.Proofs.YteajeenmojbjhaaGreatDoor
open Go Fw
theorem enter : Tryz.prog.mayEnter = true := by kernel_rfl
end Go.Proofs.YteajeenmojbjhaaGreatDoor
