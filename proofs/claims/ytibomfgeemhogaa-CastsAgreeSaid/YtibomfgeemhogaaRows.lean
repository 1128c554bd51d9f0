/-
  No cell of these rows narrows 'for every input' (looked for: loops, veiled, ifaces, maps, wideKeys, modest, calm, conditions, laid).
  DERIVED. THE GIVEN ROWS OF THIS SEAT. 9 by the template 'for every input the law returns true; each argument reads behind the call as it read before'; 0 by the template 'total and deterministic' (their statements: YtibomfgeemhogaaTotals.lean).
  GIVEN WITH THE SEED: the statements are not yours to turn. If you find one false, say at which input.
  Laid BY PROGRAM, IN A SANDBOX (cutbox-rows.mjs): the forced cells as the released guide's own fill.sh prints them over the translation bcdd40168f98b58e… (all of the seat's roots in one cut). By AI agents, Wed Nov 11 2026. No macro, syntax, notation, axiom, sorry.
-/
import Derived.Test.YtibomfgeemhogaaChecked
import GoSem.Claim
import GoSem.ClaimJoined
import GoSem.ClaimMapViews
import Derived.JoinedTies
import Derived.KernelRfl
namespace Go.Proofs.Ytibomfgeemhogaa
/- THE CELL 'sum', in the pinned program and in every row, IS THE sha256 OF THE DUMP (.gsa) THAT YtibomfgeemhogaaProg.lean LOADS. Nothing in Lean hashes anything: it is a label: what it is worth is what the hold of that sum in a sandbox is worth. -/
noncomputable def Try.pinned : Pinned := { name := "ytibomfgeemhogaa", sum := "bcdd40168f98b58e177832b574c58ba81b55d8d80dd3abefb34757dfa6db9b9d", checked := Try.checked }
namespace Rows
def none {H : Type} : Left H := { results := [], args := [] }

/-- 'sandglasslaw20.CastQuorums': WHATEVER THE INPUT: true; the input reads as it did. -/
def castQuorumsSpec : ChangeSpec := { name := "castQuorums", fn := fun _ => fun
  | [d1, d2] => { results := [.lit (.bool true)], args := [d1, d2] }
  | _ => none }
def castQuorumsRow : OpenClaim := { program := "ytibomfgeemhogaa", sum := "bcdd40168f98b58e177832b574c58ba81b55d8d80dd3abefb34757dfa6db9b9d", func := "sandglass/sandglasslaw20.CastQuorums", spec := "castQuorums", plainKeys := false, apart := false }
def CastQuorumsSaid : Prop := castQuorumsRow.holds Try.pinned (OpenSpec.ofChange castQuorumsSpec)

/-- ITS FALSE NEIGHBOUR: 'it returns false'. Refute it at one input. -/
def castQuorumsWrong : ChangeSpec := { name := "castQuorums", fn := fun _ => fun
  | [d1, d2] => { results := [.lit (.bool false)], args := [d1, d2] }
  | _ => none }
def CastQuorumsWrongFalsely : Prop := castQuorumsRow.holds Try.pinned (OpenSpec.ofChange castQuorumsWrong)

/-- 'sandglasslaw20.CastPlays': WHATEVER THE INPUT: true; the input reads as it did. -/
def castPlaysSpec : ChangeSpec := { name := "castPlays", fn := fun _ => fun
  | [d1, d2] => { results := [.lit (.bool true)], args := [d1, d2] }
  | _ => none }
def castPlaysRow : OpenClaim := { program := "ytibomfgeemhogaa", sum := "bcdd40168f98b58e177832b574c58ba81b55d8d80dd3abefb34757dfa6db9b9d", func := "sandglass/sandglasslaw20.CastPlays", spec := "castPlays", plainKeys := false, apart := false }
def CastPlaysSaid : Prop := castPlaysRow.holds Try.pinned (OpenSpec.ofChange castPlaysSpec)

/-- ITS FALSE NEIGHBOUR: 'it returns false'. Refute it at one input. -/
def castPlaysWrong : ChangeSpec := { name := "castPlays", fn := fun _ => fun
  | [d1, d2] => { results := [.lit (.bool false)], args := [d1, d2] }
  | _ => none }
def CastPlaysWrongFalsely : Prop := castPlaysRow.holds Try.pinned (OpenSpec.ofChange castPlaysWrong)

/-- 'sandglasslaw20.CastOnce': WHATEVER THE INPUT: true; the input reads as it did. -/
def castOnceSpec : ChangeSpec := { name := "castOnce", fn := fun _ => fun
  | [d1, d2] => { results := [.lit (.bool true)], args := [d1, d2] }
  | _ => none }
def castOnceRow : OpenClaim := { program := "ytibomfgeemhogaa", sum := "bcdd40168f98b58e177832b574c58ba81b55d8d80dd3abefb34757dfa6db9b9d", func := "sandglass/sandglasslaw20.CastOnce", spec := "castOnce", plainKeys := false, apart := false }
def CastOnceSaid : Prop := castOnceRow.holds Try.pinned (OpenSpec.ofChange castOnceSpec)

/-- ITS FALSE NEIGHBOUR: 'it returns false'. Refute it at one input. -/
def castOnceWrong : ChangeSpec := { name := "castOnce", fn := fun _ => fun
  | [d1, d2] => { results := [.lit (.bool false)], args := [d1, d2] }
  | _ => none }
def CastOnceWrongFalsely : Prop := castOnceRow.holds Try.pinned (OpenSpec.ofChange castOnceWrong)

/-- 'sandglasslaw20.CastAgrees': WHATEVER THE INPUT: true; the input reads as it did. -/
def castAgreesSpec : ChangeSpec := { name := "castAgrees", fn := fun _ => fun
  | [d1, d2] => { results := [.lit (.bool true)], args := [d1, d2] }
  | _ => none }
def castAgreesRow : OpenClaim := { program := "ytibomfgeemhogaa", sum := "bcdd40168f98b58e177832b574c58ba81b55d8d80dd3abefb34757dfa6db9b9d", func := "sandglass/sandglasslaw20.CastAgrees", spec := "castAgrees", plainKeys := false, apart := false }
def CastAgreesSaid : Prop := castAgreesRow.holds Try.pinned (OpenSpec.ofChange castAgreesSpec)

/-- ITS FALSE NEIGHBOUR: 'it returns false'. Refute it at one input. -/
def castAgreesWrong : ChangeSpec := { name := "castAgrees", fn := fun _ => fun
  | [d1, d2] => { results := [.lit (.bool false)], args := [d1, d2] }
  | _ => none }
def CastAgreesWrongFalsely : Prop := castAgreesRow.holds Try.pinned (OpenSpec.ofChange castAgreesWrong)

/-- 'sandglasslaw20.CastNone': WHATEVER THE INPUT: true; the input reads as it did. -/
def castNoneSpec : ChangeSpec := { name := "castNone", fn := fun _ => fun
  | [d] => { results := [.lit (.bool true)], args := [d] }
  | _ => none }
def castNoneRow : OpenClaim := { program := "ytibomfgeemhogaa", sum := "bcdd40168f98b58e177832b574c58ba81b55d8d80dd3abefb34757dfa6db9b9d", func := "sandglass/sandglasslaw20.CastNone", spec := "castNone", plainKeys := false, apart := false }
def CastNoneSaid : Prop := castNoneRow.holds Try.pinned (OpenSpec.ofChange castNoneSpec)

/-- ITS FALSE NEIGHBOUR: 'it returns false'. Refute it at one input. -/
def castNoneWrong : ChangeSpec := { name := "castNone", fn := fun _ => fun
  | [d] => { results := [.lit (.bool false)], args := [d] }
  | _ => none }
def CastNoneWrongFalsely : Prop := castNoneRow.holds Try.pinned (OpenSpec.ofChange castNoneWrong)

/-- 'sandglasslaw41.CastsPlays': WHATEVER THE INPUT: true; the input reads as it did. -/
def castsPlaysSpec : ChangeSpec := { name := "castsPlays", fn := fun _ => fun
  | [d1, d2, d3] => { results := [.lit (.bool true)], args := [d1, d2, d3] }
  | _ => none }
def castsPlaysRow : OpenClaim := { program := "ytibomfgeemhogaa", sum := "bcdd40168f98b58e177832b574c58ba81b55d8d80dd3abefb34757dfa6db9b9d", func := "sandglass/sandglasslaw41.CastsPlays", spec := "castsPlays", unfollowed := true, recurses := true, plainKeys := false, apart := false }
def CastsPlaysSaid : Prop := castsPlaysRow.holds Try.pinned (OpenSpec.ofChange castsPlaysSpec)

/-- ITS FALSE NEIGHBOUR: 'it returns false'. Refute it at one input. -/
def castsPlaysWrong : ChangeSpec := { name := "castsPlays", fn := fun _ => fun
  | [d1, d2, d3] => { results := [.lit (.bool false)], args := [d1, d2, d3] }
  | _ => none }
def CastsPlaysWrongFalsely : Prop := castsPlaysRow.holds Try.pinned (OpenSpec.ofChange castsPlaysWrong)

/-- 'sandglasslaw41.CastsOrder': WHATEVER THE INPUT: true; the input reads as it did. -/
def castsOrderSpec : ChangeSpec := { name := "castsOrder", fn := fun _ => fun
  | [d1, d2, d3] => { results := [.lit (.bool true)], args := [d1, d2, d3] }
  | _ => none }
def castsOrderRow : OpenClaim := { program := "ytibomfgeemhogaa", sum := "bcdd40168f98b58e177832b574c58ba81b55d8d80dd3abefb34757dfa6db9b9d", func := "sandglass/sandglasslaw41.CastsOrder", spec := "castsOrder", unfollowed := true, recurses := true, plainKeys := false, apart := false }
def CastsOrderSaid : Prop := castsOrderRow.holds Try.pinned (OpenSpec.ofChange castsOrderSpec)

/-- ITS FALSE NEIGHBOUR: 'it returns false'. Refute it at one input. -/
def castsOrderWrong : ChangeSpec := { name := "castsOrder", fn := fun _ => fun
  | [d1, d2, d3] => { results := [.lit (.bool false)], args := [d1, d2, d3] }
  | _ => none }
def CastsOrderWrongFalsely : Prop := castsOrderRow.holds Try.pinned (OpenSpec.ofChange castsOrderWrong)

/-- 'sandglasslaw41.CastsAgree': WHATEVER THE INPUT: true; the input reads as it did. -/
def castsAgreeSpec : ChangeSpec := { name := "castsAgree", fn := fun _ => fun
  | [d1, d2, d3] => { results := [.lit (.bool true)], args := [d1, d2, d3] }
  | _ => none }
def castsAgreeRow : OpenClaim := { program := "ytibomfgeemhogaa", sum := "bcdd40168f98b58e177832b574c58ba81b55d8d80dd3abefb34757dfa6db9b9d", func := "sandglass/sandglasslaw41.CastsAgree", spec := "castsAgree", unfollowed := true, recurses := true, plainKeys := false, apart := false }
def CastsAgreeSaid : Prop := castsAgreeRow.holds Try.pinned (OpenSpec.ofChange castsAgreeSpec)

/-- ITS FALSE NEIGHBOUR: 'it returns false'. Refute it at one input. -/
def castsAgreeWrong : ChangeSpec := { name := "castsAgree", fn := fun _ => fun
  | [d1, d2, d3] => { results := [.lit (.bool false)], args := [d1, d2, d3] }
  | _ => none }
def CastsAgreeWrongFalsely : Prop := castsAgreeRow.holds Try.pinned (OpenSpec.ofChange castsAgreeWrong)

/-- 'sandglasslaw41.CastsNone': WHATEVER THE INPUT: true; the input reads as it did. -/
def castsNoneSpec : ChangeSpec := { name := "castsNone", fn := fun _ => fun
  | [d] => { results := [.lit (.bool true)], args := [d] }
  | _ => none }
def castsNoneRow : OpenClaim := { program := "ytibomfgeemhogaa", sum := "bcdd40168f98b58e177832b574c58ba81b55d8d80dd3abefb34757dfa6db9b9d", func := "sandglass/sandglasslaw41.CastsNone", spec := "castsNone", unfollowed := true, recurses := true, plainKeys := false, apart := false }
def CastsNoneSaid : Prop := castsNoneRow.holds Try.pinned (OpenSpec.ofChange castsNoneSpec)

/-- ITS FALSE NEIGHBOUR: 'it returns false'. Refute it at one input. -/
def castsNoneWrong : ChangeSpec := { name := "castsNone", fn := fun _ => fun
  | [d] => { results := [.lit (.bool false)], args := [d] }
  | _ => none }
def CastsNoneWrongFalsely : Prop := castsNoneRow.holds Try.pinned (OpenSpec.ofChange castsNoneWrong)

/- THE SECOND FORM. 'bulk': how many values and letters a reading holds, each counted each time it is reached (what is shared counts as often as it is met; a slice's spare places count too). A statement '..UptoSaid' is the law's where the arguments, and the package variables that the reading takes, are together of bulk at most 1048576: NARROWER than '..Said'. Prove '..Said' where nothing that the law and all that it calls make is longer than what came in: it says more and counts as full. Else prove '..UptoSaid'. A law counts once. -/
mutual
def uptoBulk {H : Type} : DataW H → Nat
  | .lit (.string bytes) => bytes.length + 1
  | .lit _ => 1
  | .nil => 1
  | .ptr d => uptoBulk d + 1
  | .slice elems spare => uptoBulkAll elems + uptoBulkAll spare + 1
  | .agg parts => uptoBulkAll parts + 1
  | .iface _ d => uptoBulk d + 1
  | .map entries => uptoBulkEntries entries + 1
  | .held _ => 1
def uptoBulkAll {H : Type} : List (DataW H) → Nat
  | [] => 0
  | d :: r => uptoBulk d + uptoBulkAll r
def uptoBulkEntries {H : Type} : List (Lit × DataW H) → Nat
  | [] => 0
  | x :: r => uptoBulkEntry x + uptoBulkEntries r
def uptoBulkEntry {H : Type} : Lit × DataW H → Nat
  | (.string bytes, d) => bytes.length + uptoBulk d + 1
  | (_, d) => uptoBulk d + 1
 end
def uptoSmall : (H : Type) → List (DataW H) → Bool := fun _ ds => decide (uptoBulkAll ds ≤ 1048576)
def OpenSpec.upto (s : _root_.Go.ChangeSpec) : _root_.Go.OpenSpec := { _root_.Go.OpenSpec.ofChange s with cond := some uptoSmall }

/-- 'sandglasslaw20.CastQuorums', WHERE WHAT IT READS IS OF BULK AT MOST 1048576: true; the input reads as it did. -/
def castQuorumsUptoRow : OpenClaim := { program := "ytibomfgeemhogaa", sum := "bcdd40168f98b58e177832b574c58ba81b55d8d80dd3abefb34757dfa6db9b9d", func := "sandglass/sandglasslaw20.CastQuorums", spec := "castQuorums", plainKeys := false, apart := false, narrowed := true }
def CastQuorumsUptoSaid : Prop := castQuorumsUptoRow.holds Try.pinned (OpenSpec.upto castQuorumsSpec)

/-- 'sandglasslaw20.CastPlays', WHERE WHAT IT READS IS OF BULK AT MOST 1048576: true; the input reads as it did. -/
def castPlaysUptoRow : OpenClaim := { program := "ytibomfgeemhogaa", sum := "bcdd40168f98b58e177832b574c58ba81b55d8d80dd3abefb34757dfa6db9b9d", func := "sandglass/sandglasslaw20.CastPlays", spec := "castPlays", plainKeys := false, apart := false, narrowed := true }
def CastPlaysUptoSaid : Prop := castPlaysUptoRow.holds Try.pinned (OpenSpec.upto castPlaysSpec)

/-- 'sandglasslaw20.CastOnce', WHERE WHAT IT READS IS OF BULK AT MOST 1048576: true; the input reads as it did. -/
def castOnceUptoRow : OpenClaim := { program := "ytibomfgeemhogaa", sum := "bcdd40168f98b58e177832b574c58ba81b55d8d80dd3abefb34757dfa6db9b9d", func := "sandglass/sandglasslaw20.CastOnce", spec := "castOnce", plainKeys := false, apart := false, narrowed := true }
def CastOnceUptoSaid : Prop := castOnceUptoRow.holds Try.pinned (OpenSpec.upto castOnceSpec)

/-- 'sandglasslaw20.CastAgrees', WHERE WHAT IT READS IS OF BULK AT MOST 1048576: true; the input reads as it did. -/
def castAgreesUptoRow : OpenClaim := { program := "ytibomfgeemhogaa", sum := "bcdd40168f98b58e177832b574c58ba81b55d8d80dd3abefb34757dfa6db9b9d", func := "sandglass/sandglasslaw20.CastAgrees", spec := "castAgrees", plainKeys := false, apart := false, narrowed := true }
def CastAgreesUptoSaid : Prop := castAgreesUptoRow.holds Try.pinned (OpenSpec.upto castAgreesSpec)

/-- 'sandglasslaw20.CastNone', WHERE WHAT IT READS IS OF BULK AT MOST 1048576: true; the input reads as it did. -/
def castNoneUptoRow : OpenClaim := { program := "ytibomfgeemhogaa", sum := "bcdd40168f98b58e177832b574c58ba81b55d8d80dd3abefb34757dfa6db9b9d", func := "sandglass/sandglasslaw20.CastNone", spec := "castNone", plainKeys := false, apart := false, narrowed := true }
def CastNoneUptoSaid : Prop := castNoneUptoRow.holds Try.pinned (OpenSpec.upto castNoneSpec)

/-- 'sandglasslaw41.CastsPlays', WHERE WHAT IT READS IS OF BULK AT MOST 1048576: true; the input reads as it did. -/
def castsPlaysUptoRow : OpenClaim := { program := "ytibomfgeemhogaa", sum := "bcdd40168f98b58e177832b574c58ba81b55d8d80dd3abefb34757dfa6db9b9d", func := "sandglass/sandglasslaw41.CastsPlays", spec := "castsPlays", unfollowed := true, recurses := true, plainKeys := false, apart := false, narrowed := true }
def CastsPlaysUptoSaid : Prop := castsPlaysUptoRow.holds Try.pinned (OpenSpec.upto castsPlaysSpec)

/-- 'sandglasslaw41.CastsOrder', WHERE WHAT IT READS IS OF BULK AT MOST 1048576: true; the input reads as it did. -/
def castsOrderUptoRow : OpenClaim := { program := "ytibomfgeemhogaa", sum := "bcdd40168f98b58e177832b574c58ba81b55d8d80dd3abefb34757dfa6db9b9d", func := "sandglass/sandglasslaw41.CastsOrder", spec := "castsOrder", unfollowed := true, recurses := true, plainKeys := false, apart := false, narrowed := true }
def CastsOrderUptoSaid : Prop := castsOrderUptoRow.holds Try.pinned (OpenSpec.upto castsOrderSpec)

/-- 'sandglasslaw41.CastsAgree', WHERE WHAT IT READS IS OF BULK AT MOST 1048576: true; the input reads as it did. -/
def castsAgreeUptoRow : OpenClaim := { program := "ytibomfgeemhogaa", sum := "bcdd40168f98b58e177832b574c58ba81b55d8d80dd3abefb34757dfa6db9b9d", func := "sandglass/sandglasslaw41.CastsAgree", spec := "castsAgree", unfollowed := true, recurses := true, plainKeys := false, apart := false, narrowed := true }
def CastsAgreeUptoSaid : Prop := castsAgreeUptoRow.holds Try.pinned (OpenSpec.upto castsAgreeSpec)

/-- 'sandglasslaw41.CastsNone', WHERE WHAT IT READS IS OF BULK AT MOST 1048576: true; the input reads as it did. -/
def castsNoneUptoRow : OpenClaim := { program := "ytibomfgeemhogaa", sum := "bcdd40168f98b58e177832b574c58ba81b55d8d80dd3abefb34757dfa6db9b9d", func := "sandglass/sandglasslaw41.CastsNone", spec := "castsNone", unfollowed := true, recurses := true, plainKeys := false, apart := false, narrowed := true }
def CastsNoneUptoSaid : Prop := castsNoneUptoRow.holds Try.pinned (OpenSpec.upto castsNoneSpec)

end Rows
end Go.Proofs.Ytibomfgeemhogaa
