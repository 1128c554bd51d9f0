/- ZE2 of the seat. -/
import Derived.Test.YtboibdmflblphaaRows
import Derived.Test.YtboibdmflblphaaFwZ
namespace Go.Proofs.Ytboibdmflblphaa
open Go Fw

theorem lifts : Try.prog.liftsFinal = Rows.votesPlaysRow.lifted := by kernel_rfl
end Go.Proofs.Ytboibdmflblphaa
