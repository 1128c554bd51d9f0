/- ZE1 of the seat. -/
import Derived.Test.YtboibdmflblphaaRows
import Derived.Test.YtboibdmflblphaaFwZ
namespace Go.Proofs.Ytboibdmflblphaa
open Go Fw

theorem enter : Try.prog.mayEnter = true := by kernel_rfl
end Go.Proofs.Ytboibdmflblphaa
