/- ZE3 of the seat. -/
import Derived.Test.YtboibdmflblphaaRows
import Derived.Test.YtboibdmflblphaaFwZ
namespace Go.Proofs.Ytboibdmflblphaa
open Go Fw

theorem maker : Try.prog.make = some Rows.votesPlaysRow.make := by kernel_rfl
end Go.Proofs.Ytboibdmflblphaa
