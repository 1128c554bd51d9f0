/- ZE of the seat. -/
import Derived.Test.YteajeenmojbjhaaGreatDoorP25
import Derived.Test.YteajeenmojbjhaaGreatDoorP26
import Derived.Test.YteajeenmojbjhaaGreatDoorP27
namespace Go.Proofs.YteajeenmojbjhaaGreatDoor
open Go Fw
theorem and2 {a b : Bool} (h : a = true) (g : b = true) : (a && b) = true := by rw [h,g]; rfl
theorem z1 : laidOutB Tryz.prog = true := by kernel_rfl
theorem z2 : mapsRowed Tryz.prog = true := by kernel_rfl
theorem z3 : Tryz.prog.stopsHeard = true := by kernel_rfl
theorem z4 : Tryz.prog.plainKeys = Rows.topHidesRow.plainKeys := by kernel_rfl
end Go.Proofs.YteajeenmojbjhaaGreatDoor
