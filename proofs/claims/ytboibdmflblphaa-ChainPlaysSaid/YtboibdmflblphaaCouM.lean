/-
  A WORLD OF NODES, AS PLAIN FUNCTIONS. No program is in sight.
-/
import Derived.Test.YtboibdmflblphaaAgrS
namespace Go.Proofs.Ytboibdmflblphaa.CouM
open VoteM AgrM

structure To where
  node : Int
  w : Wrd
/-! ### no two decide otherwise -/
/-! ### what is decided is some node's value -/
/-! ### the beginning -/
end Go.Proofs.Ytboibdmflblphaa.CouM
