/-
  No cell of these rows narrows 'for every input' (looked for: loops, veiled, ifaces, maps, wideKeys, modest, calm, conditions, laid).
  DERIVED. THE GIVEN ROWS OF THIS SEAT. 9 by the template 'for every input the law returns true; each argument reads behind the call as it read before'; 0 by the template 'total and deterministic' (their statements: YtmikcmcgfehgfaaTotals.lean).
  GIVEN WITH THE SEED: the statements are not yours to turn. If you find one false, say at which input.
  Laid BY PROGRAM, IN A SANDBOX (cutbox-rows.mjs): the forced cells as the released guide's own fill.sh prints them over the translation 4d66d7f6d924ea08… (all of the seat's roots in one cut). By AI agents, Wed Nov 11 2026. No macro, syntax, notation, axiom, sorry.
-/
import Derived.Test.YtmikcmcgfehgfaaChecked
import GoSem.Claim
import GoSem.ClaimJoined
import GoSem.ClaimMapViews
import Derived.JoinedTies
import Derived.KernelRfl
namespace Go.Proofs.Ytmikcmcgfehgfaa
/- THE CELL 'sum', in the pinned program and in every row, IS THE sha256 OF THE DUMP (.gsa) THAT YtmikcmcgfehgfaaProg.lean LOADS. Nothing in Lean hashes anything: it is a label: what it is worth is what the hold of that sum in a sandbox is worth. -/
noncomputable def Try.pinned : Pinned := { name := "ytmikcmcgfehgfaa", sum := "4d66d7f6d924ea08a889e272ed73b59396de75721e5370dd0a90f142bb760ff9", checked := Try.checked }
namespace Rows
def none {H : Type} : Left H := { results := [], args := [] }

/-- 'sandglasslaw46.FollowPlays': WHATEVER THE INPUT: true; the input reads as it did. -/
def followPlaysSpec : ChangeSpec := { name := "followPlays", fn := fun _ => fun
  | [d1, d2, d3] => { results := [.lit (.bool true)], args := [d1, d2, d3] }
  | _ => none }
def followPlaysRow : OpenClaim := { program := "ytmikcmcgfehgfaa", sum := "4d66d7f6d924ea08a889e272ed73b59396de75721e5370dd0a90f142bb760ff9", func := "sandglass/sandglasslaw46.FollowPlays", spec := "followPlays", apart := false }
def FollowPlaysSaid : Prop := followPlaysRow.holds Try.pinned (OpenSpec.ofChange followPlaysSpec)

/-- ITS FALSE NEIGHBOUR: 'it returns false'. Refute it at one input. -/
def followPlaysWrong : ChangeSpec := { name := "followPlays", fn := fun _ => fun
  | [d1, d2, d3] => { results := [.lit (.bool false)], args := [d1, d2, d3] }
  | _ => none }
def FollowPlaysWrongFalsely : Prop := followPlaysRow.holds Try.pinned (OpenSpec.ofChange followPlaysWrong)

/-- 'sandglasslaw46.FollowTrue': WHATEVER THE INPUT: true; the input reads as it did. -/
def followTrueSpec : ChangeSpec := { name := "followTrue", fn := fun _ => fun
  | [d1, d2, d3] => { results := [.lit (.bool true)], args := [d1, d2, d3] }
  | _ => none }
def followTrueRow : OpenClaim := { program := "ytmikcmcgfehgfaa", sum := "4d66d7f6d924ea08a889e272ed73b59396de75721e5370dd0a90f142bb760ff9", func := "sandglass/sandglasslaw46.FollowTrue", spec := "followTrue", apart := false }
def FollowTrueSaid : Prop := followTrueRow.holds Try.pinned (OpenSpec.ofChange followTrueSpec)

/-- ITS FALSE NEIGHBOUR: 'it returns false'. Refute it at one input. -/
def followTrueWrong : ChangeSpec := { name := "followTrue", fn := fun _ => fun
  | [d1, d2, d3] => { results := [.lit (.bool false)], args := [d1, d2, d3] }
  | _ => none }
def FollowTrueWrongFalsely : Prop := followTrueRow.holds Try.pinned (OpenSpec.ofChange followTrueWrong)

/-- 'sandglasslaw46.FollowStays': WHATEVER THE INPUT: true; the input reads as it did. -/
def followStaysSpec : ChangeSpec := { name := "followStays", fn := fun _ => fun
  | [d1, d2] => { results := [.lit (.bool true)], args := [d1, d2] }
  | _ => none }
def followStaysRow : OpenClaim := { program := "ytmikcmcgfehgfaa", sum := "4d66d7f6d924ea08a889e272ed73b59396de75721e5370dd0a90f142bb760ff9", func := "sandglass/sandglasslaw46.FollowStays", spec := "followStays", apart := false }
def FollowStaysSaid : Prop := followStaysRow.holds Try.pinned (OpenSpec.ofChange followStaysSpec)

/-- ITS FALSE NEIGHBOUR: 'it returns false'. Refute it at one input. -/
def followStaysWrong : ChangeSpec := { name := "followStays", fn := fun _ => fun
  | [d1, d2] => { results := [.lit (.bool false)], args := [d1, d2] }
  | _ => none }
def FollowStaysWrongFalsely : Prop := followStaysRow.holds Try.pinned (OpenSpec.ofChange followStaysWrong)

/-- 'sandglasslaw46.FollowNone': WHATEVER THE INPUT: true; the input reads as it did. -/
def followNoneSpec : ChangeSpec := { name := "followNone", fn := fun _ => fun
  | [d] => { results := [.lit (.bool true)], args := [d] }
  | _ => none }
def followNoneRow : OpenClaim := { program := "ytmikcmcgfehgfaa", sum := "4d66d7f6d924ea08a889e272ed73b59396de75721e5370dd0a90f142bb760ff9", func := "sandglass/sandglasslaw46.FollowNone", spec := "followNone", apart := false }
def FollowNoneSaid : Prop := followNoneRow.holds Try.pinned (OpenSpec.ofChange followNoneSpec)

/-- ITS FALSE NEIGHBOUR: 'it returns false'. Refute it at one input. -/
def followNoneWrong : ChangeSpec := { name := "followNone", fn := fun _ => fun
  | [d] => { results := [.lit (.bool false)], args := [d] }
  | _ => none }
def FollowNoneWrongFalsely : Prop := followNoneRow.holds Try.pinned (OpenSpec.ofChange followNoneWrong)

/-- 'sandglasslaw26.ReleasePlays': WHATEVER THE INPUT: true; the input reads as it did. -/
def releasePlaysSpec : ChangeSpec := { name := "releasePlays", fn := fun _ => fun
  | [d1, d2, d3] => { results := [.lit (.bool true)], args := [d1, d2, d3] }
  | _ => none }
def releasePlaysRow : OpenClaim := { program := "ytmikcmcgfehgfaa", sum := "4d66d7f6d924ea08a889e272ed73b59396de75721e5370dd0a90f142bb760ff9", func := "sandglass/sandglasslaw26.ReleasePlays", spec := "releasePlays", unfollowed := true, recurses := true, apart := false }
def ReleasePlaysSaid : Prop := releasePlaysRow.holds Try.pinned (OpenSpec.ofChange releasePlaysSpec)

/-- ITS FALSE NEIGHBOUR: 'it returns false'. Refute it at one input. -/
def releasePlaysWrong : ChangeSpec := { name := "releasePlays", fn := fun _ => fun
  | [d1, d2, d3] => { results := [.lit (.bool false)], args := [d1, d2, d3] }
  | _ => none }
def ReleasePlaysWrongFalsely : Prop := releasePlaysRow.holds Try.pinned (OpenSpec.ofChange releasePlaysWrong)

/-- 'sandglasslaw26.ReleaseEarly': WHATEVER THE INPUT: true; the input reads as it did. -/
def releaseEarlySpec : ChangeSpec := { name := "releaseEarly", fn := fun _ => fun
  | [d1, d2, d3] => { results := [.lit (.bool true)], args := [d1, d2, d3] }
  | _ => none }
def releaseEarlyRow : OpenClaim := { program := "ytmikcmcgfehgfaa", sum := "4d66d7f6d924ea08a889e272ed73b59396de75721e5370dd0a90f142bb760ff9", func := "sandglass/sandglasslaw26.ReleaseEarly", spec := "releaseEarly", unfollowed := true, recurses := true, apart := false }
def ReleaseEarlySaid : Prop := releaseEarlyRow.holds Try.pinned (OpenSpec.ofChange releaseEarlySpec)

/-- ITS FALSE NEIGHBOUR: 'it returns false'. Refute it at one input. -/
def releaseEarlyWrong : ChangeSpec := { name := "releaseEarly", fn := fun _ => fun
  | [d1, d2, d3] => { results := [.lit (.bool false)], args := [d1, d2, d3] }
  | _ => none }
def ReleaseEarlyWrongFalsely : Prop := releaseEarlyRow.holds Try.pinned (OpenSpec.ofChange releaseEarlyWrong)

/-- 'sandglasslaw26.ReleaseOrder': WHATEVER THE INPUT: true; the input reads as it did. -/
def releaseOrderSpec : ChangeSpec := { name := "releaseOrder", fn := fun _ => fun
  | [d1, d2] => { results := [.lit (.bool true)], args := [d1, d2] }
  | _ => none }
def releaseOrderRow : OpenClaim := { program := "ytmikcmcgfehgfaa", sum := "4d66d7f6d924ea08a889e272ed73b59396de75721e5370dd0a90f142bb760ff9", func := "sandglass/sandglasslaw26.ReleaseOrder", spec := "releaseOrder", unfollowed := true, recurses := true, apart := false }
def ReleaseOrderSaid : Prop := releaseOrderRow.holds Try.pinned (OpenSpec.ofChange releaseOrderSpec)

/-- ITS FALSE NEIGHBOUR: 'it returns false'. Refute it at one input. -/
def releaseOrderWrong : ChangeSpec := { name := "releaseOrder", fn := fun _ => fun
  | [d1, d2] => { results := [.lit (.bool false)], args := [d1, d2] }
  | _ => none }
def ReleaseOrderWrongFalsely : Prop := releaseOrderRow.holds Try.pinned (OpenSpec.ofChange releaseOrderWrong)

/-- 'sandglasslaw26.ReleaseStays': WHATEVER THE INPUT: true; the input reads as it did. -/
def releaseStaysSpec : ChangeSpec := { name := "releaseStays", fn := fun _ => fun
  | [d1, d2, d3] => { results := [.lit (.bool true)], args := [d1, d2, d3] }
  | _ => none }
def releaseStaysRow : OpenClaim := { program := "ytmikcmcgfehgfaa", sum := "4d66d7f6d924ea08a889e272ed73b59396de75721e5370dd0a90f142bb760ff9", func := "sandglass/sandglasslaw26.ReleaseStays", spec := "releaseStays", unfollowed := true, recurses := true, apart := false }
def ReleaseStaysSaid : Prop := releaseStaysRow.holds Try.pinned (OpenSpec.ofChange releaseStaysSpec)

/-- ITS FALSE NEIGHBOUR: 'it returns false'. Refute it at one input. -/
def releaseStaysWrong : ChangeSpec := { name := "releaseStays", fn := fun _ => fun
  | [d1, d2, d3] => { results := [.lit (.bool false)], args := [d1, d2, d3] }
  | _ => none }
def ReleaseStaysWrongFalsely : Prop := releaseStaysRow.holds Try.pinned (OpenSpec.ofChange releaseStaysWrong)

/-- 'sandglasslaw26.ReleaseNone': WHATEVER THE INPUT: true; the input reads as it did. -/
def releaseNoneSpec : ChangeSpec := { name := "releaseNone", fn := fun _ => fun
  | [d] => { results := [.lit (.bool true)], args := [d] }
  | _ => none }
def releaseNoneRow : OpenClaim := { program := "ytmikcmcgfehgfaa", sum := "4d66d7f6d924ea08a889e272ed73b59396de75721e5370dd0a90f142bb760ff9", func := "sandglass/sandglasslaw26.ReleaseNone", spec := "releaseNone", unfollowed := true, recurses := true, apart := false }
def ReleaseNoneSaid : Prop := releaseNoneRow.holds Try.pinned (OpenSpec.ofChange releaseNoneSpec)

/-- ITS FALSE NEIGHBOUR: 'it returns false'. Refute it at one input. -/
def releaseNoneWrong : ChangeSpec := { name := "releaseNone", fn := fun _ => fun
  | [d] => { results := [.lit (.bool false)], args := [d] }
  | _ => none }
def ReleaseNoneWrongFalsely : Prop := releaseNoneRow.holds Try.pinned (OpenSpec.ofChange releaseNoneWrong)

/- THE SECOND FORM. 'bulk': how many values and letters a reading holds, each counted each time it is reached (what is shared counts as often as it is met; a slice's spare places count too). A statement '..UptoSaid' is the law's where the arguments, and the package variables that the reading takes, are together of bulk at most 1048576: NARROWER than '..Said'. Prove '..Said' where nothing that the law and all that it calls make is longer than what came in: it says more and counts as full. Else prove '..UptoSaid'. A law counts once. -/
mutual
def uptoBulk {H : Type} : DataW H → Nat
  | .lit (.string bytes) => bytes.length + 1
  | .lit _ => 1
  | .nil => 1
  | .ptr d => uptoBulk d + 1
  | .slice elems spare => uptoBulkAll elems + uptoBulkAll spare + 1
  | .agg parts => uptoBulkAll parts + 1
  | .iface _ d => uptoBulk d + 1
  | .map entries => uptoBulkEntries entries + 1
  | .held _ => 1
def uptoBulkAll {H : Type} : List (DataW H) → Nat
  | [] => 0
  | d :: r => uptoBulk d + uptoBulkAll r
def uptoBulkEntries {H : Type} : List (Lit × DataW H) → Nat
  | [] => 0
  | x :: r => uptoBulkEntry x + uptoBulkEntries r
def uptoBulkEntry {H : Type} : Lit × DataW H → Nat
  | (.string bytes, d) => bytes.length + uptoBulk d + 1
  | (_, d) => uptoBulk d + 1
 end
def uptoSmall : (H : Type) → List (DataW H) → Bool := fun _ ds => decide (uptoBulkAll ds ≤ 1048576)
def OpenSpec.upto (s : _root_.Go.ChangeSpec) : _root_.Go.OpenSpec := { _root_.Go.OpenSpec.ofChange s with cond := some uptoSmall }

/-- 'sandglasslaw46.FollowPlays', WHERE WHAT IT READS IS OF BULK AT MOST 1048576: true; the input reads as it did. -/
def followPlaysUptoRow : OpenClaim := { program := "ytmikcmcgfehgfaa", sum := "4d66d7f6d924ea08a889e272ed73b59396de75721e5370dd0a90f142bb760ff9", func := "sandglass/sandglasslaw46.FollowPlays", spec := "followPlays", apart := false, narrowed := true }
def FollowPlaysUptoSaid : Prop := followPlaysUptoRow.holds Try.pinned (OpenSpec.upto followPlaysSpec)

/-- 'sandglasslaw46.FollowTrue', WHERE WHAT IT READS IS OF BULK AT MOST 1048576: true; the input reads as it did. -/
def followTrueUptoRow : OpenClaim := { program := "ytmikcmcgfehgfaa", sum := "4d66d7f6d924ea08a889e272ed73b59396de75721e5370dd0a90f142bb760ff9", func := "sandglass/sandglasslaw46.FollowTrue", spec := "followTrue", apart := false, narrowed := true }
def FollowTrueUptoSaid : Prop := followTrueUptoRow.holds Try.pinned (OpenSpec.upto followTrueSpec)

/-- 'sandglasslaw46.FollowStays', WHERE WHAT IT READS IS OF BULK AT MOST 1048576: true; the input reads as it did. -/
def followStaysUptoRow : OpenClaim := { program := "ytmikcmcgfehgfaa", sum := "4d66d7f6d924ea08a889e272ed73b59396de75721e5370dd0a90f142bb760ff9", func := "sandglass/sandglasslaw46.FollowStays", spec := "followStays", apart := false, narrowed := true }
def FollowStaysUptoSaid : Prop := followStaysUptoRow.holds Try.pinned (OpenSpec.upto followStaysSpec)

/-- 'sandglasslaw46.FollowNone', WHERE WHAT IT READS IS OF BULK AT MOST 1048576: true; the input reads as it did. -/
def followNoneUptoRow : OpenClaim := { program := "ytmikcmcgfehgfaa", sum := "4d66d7f6d924ea08a889e272ed73b59396de75721e5370dd0a90f142bb760ff9", func := "sandglass/sandglasslaw46.FollowNone", spec := "followNone", apart := false, narrowed := true }
def FollowNoneUptoSaid : Prop := followNoneUptoRow.holds Try.pinned (OpenSpec.upto followNoneSpec)

/-- 'sandglasslaw26.ReleasePlays', WHERE WHAT IT READS IS OF BULK AT MOST 1048576: true; the input reads as it did. -/
def releasePlaysUptoRow : OpenClaim := { program := "ytmikcmcgfehgfaa", sum := "4d66d7f6d924ea08a889e272ed73b59396de75721e5370dd0a90f142bb760ff9", func := "sandglass/sandglasslaw26.ReleasePlays", spec := "releasePlays", unfollowed := true, recurses := true, apart := false, narrowed := true }
def ReleasePlaysUptoSaid : Prop := releasePlaysUptoRow.holds Try.pinned (OpenSpec.upto releasePlaysSpec)

/-- 'sandglasslaw26.ReleaseEarly', WHERE WHAT IT READS IS OF BULK AT MOST 1048576: true; the input reads as it did. -/
def releaseEarlyUptoRow : OpenClaim := { program := "ytmikcmcgfehgfaa", sum := "4d66d7f6d924ea08a889e272ed73b59396de75721e5370dd0a90f142bb760ff9", func := "sandglass/sandglasslaw26.ReleaseEarly", spec := "releaseEarly", unfollowed := true, recurses := true, apart := false, narrowed := true }
def ReleaseEarlyUptoSaid : Prop := releaseEarlyUptoRow.holds Try.pinned (OpenSpec.upto releaseEarlySpec)

/-- 'sandglasslaw26.ReleaseOrder', WHERE WHAT IT READS IS OF BULK AT MOST 1048576: true; the input reads as it did. -/
def releaseOrderUptoRow : OpenClaim := { program := "ytmikcmcgfehgfaa", sum := "4d66d7f6d924ea08a889e272ed73b59396de75721e5370dd0a90f142bb760ff9", func := "sandglass/sandglasslaw26.ReleaseOrder", spec := "releaseOrder", unfollowed := true, recurses := true, apart := false, narrowed := true }
def ReleaseOrderUptoSaid : Prop := releaseOrderUptoRow.holds Try.pinned (OpenSpec.upto releaseOrderSpec)

/-- 'sandglasslaw26.ReleaseStays', WHERE WHAT IT READS IS OF BULK AT MOST 1048576: true; the input reads as it did. -/
def releaseStaysUptoRow : OpenClaim := { program := "ytmikcmcgfehgfaa", sum := "4d66d7f6d924ea08a889e272ed73b59396de75721e5370dd0a90f142bb760ff9", func := "sandglass/sandglasslaw26.ReleaseStays", spec := "releaseStays", unfollowed := true, recurses := true, apart := false, narrowed := true }
def ReleaseStaysUptoSaid : Prop := releaseStaysUptoRow.holds Try.pinned (OpenSpec.upto releaseStaysSpec)

/-- 'sandglasslaw26.ReleaseNone', WHERE WHAT IT READS IS OF BULK AT MOST 1048576: true; the input reads as it did. -/
def releaseNoneUptoRow : OpenClaim := { program := "ytmikcmcgfehgfaa", sum := "4d66d7f6d924ea08a889e272ed73b59396de75721e5370dd0a90f142bb760ff9", func := "sandglass/sandglasslaw26.ReleaseNone", spec := "releaseNone", unfollowed := true, recurses := true, apart := false, narrowed := true }
def ReleaseNoneUptoSaid : Prop := releaseNoneUptoRow.holds Try.pinned (OpenSpec.upto releaseNoneSpec)

end Rows
end Go.Proofs.Ytmikcmcgfehgfaa
