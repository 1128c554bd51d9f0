/- ZE of the seat. -/
import Derived.Test.YtboibdmflblphaaZE1
import Derived.Test.YtboibdmflblphaaZE2
import Derived.Test.YtboibdmflblphaaZE3
namespace Go.Proofs.Ytboibdmflblphaa
open Go Fw

theorem and2 {a b : Bool} (h : a = true) (g : b = true) : (a && b) = true := by rw [h, g]; rfl
theorem z1 : laidOutB Try.prog = true := by kernel_rfl
theorem z2 : mapsRowed Try.prog = true := by kernel_rfl
theorem z3 : Try.prog.stopsHeard = true := by kernel_rfl
theorem z4 : Try.prog.plainKeys = Rows.votesPlaysRow.plainKeys := by kernel_rfl
end Go.Proofs.Ytboibdmflblphaa
