/-
  No cell of these rows narrows 'for every input' (looked for: loops, veiled, ifaces, maps, wideKeys, modest, calm, conditions, laid).
  DERIVED. THE GIVEN ROWS OF THIS SEAT. 17 by the template 'for every input the law returns true; each argument reads behind the call as it read before'; 0 by the template 'total and deterministic' (their statements: YtboibdmflblphaaTotals.lean).
  GIVEN WITH THE SEED: the statements are not yours to turn. If you find one false, say at which input.
  Laid BY PROGRAM, IN A SANDBOX (cutbox-rows.mjs): the forced cells as the released guide's own fill.sh prints them over the translation 343976bd536ffdc7… (all of the seat's roots in one cut). By AI agents, Wed Nov 11 2026. No macro, syntax, notation, axiom, sorry.
-/
import Derived.Test.YtboibdmflblphaaChecked
import GoSem.Claim
import GoSem.ClaimJoined
import GoSem.ClaimMapViews
import Derived.JoinedTies
import Derived.KernelRfl
namespace Go.Proofs.Ytboibdmflblphaa
/- THE CELL 'sum', in the pinned program and in every row, IS THE sha256 OF THE DUMP (.gsa) THAT YtboibdmflblphaaProg.lean LOADS. Nothing in Lean hashes anything: it is a label: what it is worth is what the hold of that sum in a sandbox is worth. -/
noncomputable def Try.pinned : Pinned := { name := "ytboibdmflblphaa", sum := "343976bd536ffdc7966d784f67891973102776c8f58b0353e6c9655eef88c496", checked := Try.checked }
namespace Rows
def none {H : Type} : Left H := { results := [], args := [] }

/-- 'sandglasslaw21.VotesPlays': WHATEVER THE INPUT: true; the input reads as it did. -/
def votesPlaysSpec : ChangeSpec := { name := "votesPlays", fn := fun _ => fun
  | [d1, d2, d3] => { results := [.lit (.bool true)], args := [d1, d2, d3] }
  | _ => none }
def votesPlaysRow : OpenClaim := { program := "ytboibdmflblphaa", sum := "343976bd536ffdc7966d784f67891973102776c8f58b0353e6c9655eef88c496", func := "sandglass/sandglasslaw21.VotesPlays", spec := "votesPlays", apart := false }
def VotesPlaysSaid : Prop := votesPlaysRow.holds Try.pinned (OpenSpec.ofChange votesPlaysSpec)

/-- ITS FALSE NEIGHBOUR: 'it returns false'. Refute it at one input. -/
def votesPlaysWrong : ChangeSpec := { name := "votesPlays", fn := fun _ => fun
  | [d1, d2, d3] => { results := [.lit (.bool false)], args := [d1, d2, d3] }
  | _ => none }
def VotesPlaysWrongFalsely : Prop := votesPlaysRow.holds Try.pinned (OpenSpec.ofChange votesPlaysWrong)

/-- 'sandglasslaw21.VotesOnce': WHATEVER THE INPUT: true; the input reads as it did. -/
def votesOnceSpec : ChangeSpec := { name := "votesOnce", fn := fun _ => fun
  | [d1, d2, d3] => { results := [.lit (.bool true)], args := [d1, d2, d3] }
  | _ => none }
def votesOnceRow : OpenClaim := { program := "ytboibdmflblphaa", sum := "343976bd536ffdc7966d784f67891973102776c8f58b0353e6c9655eef88c496", func := "sandglass/sandglasslaw21.VotesOnce", spec := "votesOnce", apart := false }
def VotesOnceSaid : Prop := votesOnceRow.holds Try.pinned (OpenSpec.ofChange votesOnceSpec)

/-- ITS FALSE NEIGHBOUR: 'it returns false'. Refute it at one input. -/
def votesOnceWrong : ChangeSpec := { name := "votesOnce", fn := fun _ => fun
  | [d1, d2, d3] => { results := [.lit (.bool false)], args := [d1, d2, d3] }
  | _ => none }
def VotesOnceWrongFalsely : Prop := votesOnceRow.holds Try.pinned (OpenSpec.ofChange votesOnceWrong)

/-- 'sandglasslaw21.VotesMost': WHATEVER THE INPUT: true; the input reads as it did. -/
def votesMostSpec : ChangeSpec := { name := "votesMost", fn := fun _ => fun
  | [d1, d2, d3] => { results := [.lit (.bool true)], args := [d1, d2, d3] }
  | _ => none }
def votesMostRow : OpenClaim := { program := "ytboibdmflblphaa", sum := "343976bd536ffdc7966d784f67891973102776c8f58b0353e6c9655eef88c496", func := "sandglass/sandglasslaw21.VotesMost", spec := "votesMost", apart := false }
def VotesMostSaid : Prop := votesMostRow.holds Try.pinned (OpenSpec.ofChange votesMostSpec)

/-- ITS FALSE NEIGHBOUR: 'it returns false'. Refute it at one input. -/
def votesMostWrong : ChangeSpec := { name := "votesMost", fn := fun _ => fun
  | [d1, d2, d3] => { results := [.lit (.bool false)], args := [d1, d2, d3] }
  | _ => none }
def VotesMostWrongFalsely : Prop := votesMostRow.holds Try.pinned (OpenSpec.ofChange votesMostWrong)

/-- 'sandglasslaw21.VotesNone': WHATEVER THE INPUT: true; the input reads as it did. -/
def votesNoneSpec : ChangeSpec := { name := "votesNone", fn := fun _ => fun
  | [d] => { results := [.lit (.bool true)], args := [d] }
  | _ => none }
def votesNoneRow : OpenClaim := { program := "ytboibdmflblphaa", sum := "343976bd536ffdc7966d784f67891973102776c8f58b0353e6c9655eef88c496", func := "sandglass/sandglasslaw21.VotesNone", spec := "votesNone", apart := false }
def VotesNoneSaid : Prop := votesNoneRow.holds Try.pinned (OpenSpec.ofChange votesNoneSpec)

/-- ITS FALSE NEIGHBOUR: 'it returns false'. Refute it at one input. -/
def votesNoneWrong : ChangeSpec := { name := "votesNone", fn := fun _ => fun
  | [d] => { results := [.lit (.bool false)], args := [d] }
  | _ => none }
def VotesNoneWrongFalsely : Prop := votesNoneRow.holds Try.pinned (OpenSpec.ofChange votesNoneWrong)

/-- 'sandglasslaw22.AgreeLeaders': WHATEVER THE INPUT: true; the input reads as it did. -/
def agreeLeadersSpec : ChangeSpec := { name := "agreeLeaders", fn := fun _ => fun
  | [d1, d2, d3] => { results := [.lit (.bool true)], args := [d1, d2, d3] }
  | _ => none }
def agreeLeadersRow : OpenClaim := { program := "ytboibdmflblphaa", sum := "343976bd536ffdc7966d784f67891973102776c8f58b0353e6c9655eef88c496", func := "sandglass/sandglasslaw22.AgreeLeaders", spec := "agreeLeaders", unfollowed := true, recurses := true, apart := false }
def AgreeLeadersSaid : Prop := agreeLeadersRow.holds Try.pinned (OpenSpec.ofChange agreeLeadersSpec)

/-- ITS FALSE NEIGHBOUR: 'it returns false'. Refute it at one input. -/
def agreeLeadersWrong : ChangeSpec := { name := "agreeLeaders", fn := fun _ => fun
  | [d1, d2, d3] => { results := [.lit (.bool false)], args := [d1, d2, d3] }
  | _ => none }
def AgreeLeadersWrongFalsely : Prop := agreeLeadersRow.holds Try.pinned (OpenSpec.ofChange agreeLeadersWrong)

/-- 'sandglasslaw22.AgreePlays': WHATEVER THE INPUT: true; the input reads as it did. -/
def agreePlaysSpec : ChangeSpec := { name := "agreePlays", fn := fun _ => fun
  | [d1, d2] => { results := [.lit (.bool true)], args := [d1, d2] }
  | _ => none }
def agreePlaysRow : OpenClaim := { program := "ytboibdmflblphaa", sum := "343976bd536ffdc7966d784f67891973102776c8f58b0353e6c9655eef88c496", func := "sandglass/sandglasslaw22.AgreePlays", spec := "agreePlays", unfollowed := true, recurses := true, apart := false }
def AgreePlaysSaid : Prop := agreePlaysRow.holds Try.pinned (OpenSpec.ofChange agreePlaysSpec)

/-- ITS FALSE NEIGHBOUR: 'it returns false'. Refute it at one input. -/
def agreePlaysWrong : ChangeSpec := { name := "agreePlays", fn := fun _ => fun
  | [d1, d2] => { results := [.lit (.bool false)], args := [d1, d2] }
  | _ => none }
def AgreePlaysWrongFalsely : Prop := agreePlaysRow.holds Try.pinned (OpenSpec.ofChange agreePlaysWrong)

/-- 'sandglasslaw22.AgreeOnce': WHATEVER THE INPUT: true; the input reads as it did. -/
def agreeOnceSpec : ChangeSpec := { name := "agreeOnce", fn := fun _ => fun
  | [d1, d2] => { results := [.lit (.bool true)], args := [d1, d2] }
  | _ => none }
def agreeOnceRow : OpenClaim := { program := "ytboibdmflblphaa", sum := "343976bd536ffdc7966d784f67891973102776c8f58b0353e6c9655eef88c496", func := "sandglass/sandglasslaw22.AgreeOnce", spec := "agreeOnce", unfollowed := true, recurses := true, apart := false }
def AgreeOnceSaid : Prop := agreeOnceRow.holds Try.pinned (OpenSpec.ofChange agreeOnceSpec)

/-- ITS FALSE NEIGHBOUR: 'it returns false'. Refute it at one input. -/
def agreeOnceWrong : ChangeSpec := { name := "agreeOnce", fn := fun _ => fun
  | [d1, d2] => { results := [.lit (.bool false)], args := [d1, d2] }
  | _ => none }
def AgreeOnceWrongFalsely : Prop := agreeOnceRow.holds Try.pinned (OpenSpec.ofChange agreeOnceWrong)

/-- 'sandglasslaw22.AgreeLocks': WHATEVER THE INPUT: true; the input reads as it did. -/
def agreeLocksSpec : ChangeSpec := { name := "agreeLocks", fn := fun _ => fun
  | [d1, d2] => { results := [.lit (.bool true)], args := [d1, d2] }
  | _ => none }
def agreeLocksRow : OpenClaim := { program := "ytboibdmflblphaa", sum := "343976bd536ffdc7966d784f67891973102776c8f58b0353e6c9655eef88c496", func := "sandglass/sandglasslaw22.AgreeLocks", spec := "agreeLocks", unfollowed := true, recurses := true, apart := false }
def AgreeLocksSaid : Prop := agreeLocksRow.holds Try.pinned (OpenSpec.ofChange agreeLocksSpec)

/-- ITS FALSE NEIGHBOUR: 'it returns false'. Refute it at one input. -/
def agreeLocksWrong : ChangeSpec := { name := "agreeLocks", fn := fun _ => fun
  | [d1, d2] => { results := [.lit (.bool false)], args := [d1, d2] }
  | _ => none }
def AgreeLocksWrongFalsely : Prop := agreeLocksRow.holds Try.pinned (OpenSpec.ofChange agreeLocksWrong)

/-- 'sandglasslaw22.AgreeNone': WHATEVER THE INPUT: true; the input reads as it did. -/
def agreeNoneSpec : ChangeSpec := { name := "agreeNone", fn := fun _ => fun
  | [d] => { results := [.lit (.bool true)], args := [d] }
  | _ => none }
def agreeNoneRow : OpenClaim := { program := "ytboibdmflblphaa", sum := "343976bd536ffdc7966d784f67891973102776c8f58b0353e6c9655eef88c496", func := "sandglass/sandglasslaw22.AgreeNone", spec := "agreeNone", unfollowed := true, recurses := true, apart := false }
def AgreeNoneSaid : Prop := agreeNoneRow.holds Try.pinned (OpenSpec.ofChange agreeNoneSpec)

/-- ITS FALSE NEIGHBOUR: 'it returns false'. Refute it at one input. -/
def agreeNoneWrong : ChangeSpec := { name := "agreeNone", fn := fun _ => fun
  | [d] => { results := [.lit (.bool false)], args := [d] }
  | _ => none }
def AgreeNoneWrongFalsely : Prop := agreeNoneRow.holds Try.pinned (OpenSpec.ofChange agreeNoneWrong)

/-- 'sandglasslaw23.CouncilCalm': WHATEVER THE INPUT: true; the input reads as it did. -/
def councilCalmSpec : ChangeSpec := { name := "councilCalm", fn := fun _ => fun
  | [d] => { results := [.lit (.bool true)], args := [d] }
  | _ => none }
def councilCalmRow : OpenClaim := { program := "ytboibdmflblphaa", sum := "343976bd536ffdc7966d784f67891973102776c8f58b0353e6c9655eef88c496", func := "sandglass/sandglasslaw23.CouncilCalm", spec := "councilCalm", unfollowed := true, recurses := true, apart := false }
def CouncilCalmSaid : Prop := councilCalmRow.holds Try.pinned (OpenSpec.ofChange councilCalmSpec)

/-- ITS FALSE NEIGHBOUR: 'it returns false'. Refute it at one input. -/
def councilCalmWrong : ChangeSpec := { name := "councilCalm", fn := fun _ => fun
  | [d] => { results := [.lit (.bool false)], args := [d] }
  | _ => none }
def CouncilCalmWrongFalsely : Prop := councilCalmRow.holds Try.pinned (OpenSpec.ofChange councilCalmWrong)

/-- 'sandglasslaw23.CouncilAgrees': WHATEVER THE INPUT: true; the input reads as it did. -/
def councilAgreesSpec : ChangeSpec := { name := "councilAgrees", fn := fun _ => fun
  | [d1, d2] => { results := [.lit (.bool true)], args := [d1, d2] }
  | _ => none }
def councilAgreesRow : OpenClaim := { program := "ytboibdmflblphaa", sum := "343976bd536ffdc7966d784f67891973102776c8f58b0353e6c9655eef88c496", func := "sandglass/sandglasslaw23.CouncilAgrees", spec := "councilAgrees", unfollowed := true, recurses := true, apart := false }
def CouncilAgreesSaid : Prop := councilAgreesRow.holds Try.pinned (OpenSpec.ofChange councilAgreesSpec)

/-- ITS FALSE NEIGHBOUR: 'it returns false'. Refute it at one input. -/
def councilAgreesWrong : ChangeSpec := { name := "councilAgrees", fn := fun _ => fun
  | [d1, d2] => { results := [.lit (.bool false)], args := [d1, d2] }
  | _ => none }
def CouncilAgreesWrongFalsely : Prop := councilAgreesRow.holds Try.pinned (OpenSpec.ofChange councilAgreesWrong)

/-- 'sandglasslaw23.CouncilValid': WHATEVER THE INPUT: true; the input reads as it did. -/
def councilValidSpec : ChangeSpec := { name := "councilValid", fn := fun _ => fun
  | [d1, d2] => { results := [.lit (.bool true)], args := [d1, d2] }
  | _ => none }
def councilValidRow : OpenClaim := { program := "ytboibdmflblphaa", sum := "343976bd536ffdc7966d784f67891973102776c8f58b0353e6c9655eef88c496", func := "sandglass/sandglasslaw23.CouncilValid", spec := "councilValid", unfollowed := true, recurses := true, apart := false }
def CouncilValidSaid : Prop := councilValidRow.holds Try.pinned (OpenSpec.ofChange councilValidSpec)

/-- ITS FALSE NEIGHBOUR: 'it returns false'. Refute it at one input. -/
def councilValidWrong : ChangeSpec := { name := "councilValid", fn := fun _ => fun
  | [d1, d2] => { results := [.lit (.bool false)], args := [d1, d2] }
  | _ => none }
def CouncilValidWrongFalsely : Prop := councilValidRow.holds Try.pinned (OpenSpec.ofChange councilValidWrong)

/-- 'sandglasslaw23.CouncilNone': WHATEVER THE INPUT: true; the input reads as it did. -/
def councilNoneSpec : ChangeSpec := { name := "councilNone", fn := fun _ => fun
  | [d] => { results := [.lit (.bool true)], args := [d] }
  | _ => none }
def councilNoneRow : OpenClaim := { program := "ytboibdmflblphaa", sum := "343976bd536ffdc7966d784f67891973102776c8f58b0353e6c9655eef88c496", func := "sandglass/sandglasslaw23.CouncilNone", spec := "councilNone", unfollowed := true, recurses := true, apart := false }
def CouncilNoneSaid : Prop := councilNoneRow.holds Try.pinned (OpenSpec.ofChange councilNoneSpec)

/-- ITS FALSE NEIGHBOUR: 'it returns false'. Refute it at one input. -/
def councilNoneWrong : ChangeSpec := { name := "councilNone", fn := fun _ => fun
  | [d] => { results := [.lit (.bool false)], args := [d] }
  | _ => none }
def CouncilNoneWrongFalsely : Prop := councilNoneRow.holds Try.pinned (OpenSpec.ofChange councilNoneWrong)

/-- 'sandglasslaw45.ChainCatches': WHATEVER THE INPUT: true; the input reads as it did. -/
def chainCatchesSpec : ChangeSpec := { name := "chainCatches", fn := fun _ => fun
  | [d1, d2, d3] => { results := [.lit (.bool true)], args := [d1, d2, d3] }
  | _ => none }
def chainCatchesRow : OpenClaim := { program := "ytboibdmflblphaa", sum := "343976bd536ffdc7966d784f67891973102776c8f58b0353e6c9655eef88c496", func := "sandglass/sandglasslaw45.ChainCatches", spec := "chainCatches", unfollowed := true, recurses := true, apart := false }
def ChainCatchesSaid : Prop := chainCatchesRow.holds Try.pinned (OpenSpec.ofChange chainCatchesSpec)

/-- ITS FALSE NEIGHBOUR: 'it returns false'. Refute it at one input. -/
def chainCatchesWrong : ChangeSpec := { name := "chainCatches", fn := fun _ => fun
  | [d1, d2, d3] => { results := [.lit (.bool false)], args := [d1, d2, d3] }
  | _ => none }
def ChainCatchesWrongFalsely : Prop := chainCatchesRow.holds Try.pinned (OpenSpec.ofChange chainCatchesWrong)

/-- 'sandglasslaw45.ChainPlays': WHATEVER THE INPUT: true; the input reads as it did. -/
def chainPlaysSpec : ChangeSpec := { name := "chainPlays", fn := fun _ => fun
  | [d1, d2] => { results := [.lit (.bool true)], args := [d1, d2] }
  | _ => none }
def chainPlaysRow : OpenClaim := { program := "ytboibdmflblphaa", sum := "343976bd536ffdc7966d784f67891973102776c8f58b0353e6c9655eef88c496", func := "sandglass/sandglasslaw45.ChainPlays", spec := "chainPlays", unfollowed := true, recurses := true, apart := false }
def ChainPlaysSaid : Prop := chainPlaysRow.holds Try.pinned (OpenSpec.ofChange chainPlaysSpec)

/-- ITS FALSE NEIGHBOUR: 'it returns false'. Refute it at one input. -/
def chainPlaysWrong : ChangeSpec := { name := "chainPlays", fn := fun _ => fun
  | [d1, d2] => { results := [.lit (.bool false)], args := [d1, d2] }
  | _ => none }
def ChainPlaysWrongFalsely : Prop := chainPlaysRow.holds Try.pinned (OpenSpec.ofChange chainPlaysWrong)

/-- 'sandglasslaw45.ChainAgrees': WHATEVER THE INPUT: true; the input reads as it did. -/
def chainAgreesSpec : ChangeSpec := { name := "chainAgrees", fn := fun _ => fun
  | [d1, d2, d3] => { results := [.lit (.bool true)], args := [d1, d2, d3] }
  | _ => none }
def chainAgreesRow : OpenClaim := { program := "ytboibdmflblphaa", sum := "343976bd536ffdc7966d784f67891973102776c8f58b0353e6c9655eef88c496", func := "sandglass/sandglasslaw45.ChainAgrees", spec := "chainAgrees", unfollowed := true, recurses := true, apart := false }
def ChainAgreesSaid : Prop := chainAgreesRow.holds Try.pinned (OpenSpec.ofChange chainAgreesSpec)

/-- ITS FALSE NEIGHBOUR: 'it returns false'. Refute it at one input. -/
def chainAgreesWrong : ChangeSpec := { name := "chainAgrees", fn := fun _ => fun
  | [d1, d2, d3] => { results := [.lit (.bool false)], args := [d1, d2, d3] }
  | _ => none }
def ChainAgreesWrongFalsely : Prop := chainAgreesRow.holds Try.pinned (OpenSpec.ofChange chainAgreesWrong)

/-- 'sandglasslaw45.ChainNone': WHATEVER THE INPUT: true; the input reads as it did. -/
def chainNoneSpec : ChangeSpec := { name := "chainNone", fn := fun _ => fun
  | [d] => { results := [.lit (.bool true)], args := [d] }
  | _ => none }
def chainNoneRow : OpenClaim := { program := "ytboibdmflblphaa", sum := "343976bd536ffdc7966d784f67891973102776c8f58b0353e6c9655eef88c496", func := "sandglass/sandglasslaw45.ChainNone", spec := "chainNone", unfollowed := true, recurses := true, apart := false }
def ChainNoneSaid : Prop := chainNoneRow.holds Try.pinned (OpenSpec.ofChange chainNoneSpec)

/-- ITS FALSE NEIGHBOUR: 'it returns false'. Refute it at one input. -/
def chainNoneWrong : ChangeSpec := { name := "chainNone", fn := fun _ => fun
  | [d] => { results := [.lit (.bool false)], args := [d] }
  | _ => none }
def ChainNoneWrongFalsely : Prop := chainNoneRow.holds Try.pinned (OpenSpec.ofChange chainNoneWrong)

/- THE SECOND FORM. 'bulk': how many values and letters a reading holds, each counted each time it is reached (what is shared counts as often as it is met; a slice's spare places count too). A statement '..UptoSaid' is the law's where the arguments, and the package variables that the reading takes, are together of bulk at most 1048576: NARROWER than '..Said'. Prove '..Said' where nothing that the law and all that it calls make is longer than what came in: it says more and counts as full. Else prove '..UptoSaid'. A law counts once. -/
mutual
def uptoBulk {H : Type} : DataW H → Nat
  | .lit (.string bytes) => bytes.length + 1
  | .lit _ => 1
  | .nil => 1
  | .ptr d => uptoBulk d + 1
  | .slice elems spare => uptoBulkAll elems + uptoBulkAll spare + 1
  | .agg parts => uptoBulkAll parts + 1
  | .iface _ d => uptoBulk d + 1
  | .map entries => uptoBulkEntries entries + 1
  | .held _ => 1
def uptoBulkAll {H : Type} : List (DataW H) → Nat
  | [] => 0
  | d :: r => uptoBulk d + uptoBulkAll r
def uptoBulkEntries {H : Type} : List (Lit × DataW H) → Nat
  | [] => 0
  | x :: r => uptoBulkEntry x + uptoBulkEntries r
def uptoBulkEntry {H : Type} : Lit × DataW H → Nat
  | (.string bytes, d) => bytes.length + uptoBulk d + 1
  | (_, d) => uptoBulk d + 1
 end
def uptoSmall : (H : Type) → List (DataW H) → Bool := fun _ ds => decide (uptoBulkAll ds ≤ 1048576)
def OpenSpec.upto (s : _root_.Go.ChangeSpec) : _root_.Go.OpenSpec := { _root_.Go.OpenSpec.ofChange s with cond := some uptoSmall }

/-- 'sandglasslaw21.VotesPlays', WHERE WHAT IT READS IS OF BULK AT MOST 1048576: true; the input reads as it did. -/
def votesPlaysUptoRow : OpenClaim := { program := "ytboibdmflblphaa", sum := "343976bd536ffdc7966d784f67891973102776c8f58b0353e6c9655eef88c496", func := "sandglass/sandglasslaw21.VotesPlays", spec := "votesPlays", apart := false, narrowed := true }
def VotesPlaysUptoSaid : Prop := votesPlaysUptoRow.holds Try.pinned (OpenSpec.upto votesPlaysSpec)

/-- 'sandglasslaw21.VotesOnce', WHERE WHAT IT READS IS OF BULK AT MOST 1048576: true; the input reads as it did. -/
def votesOnceUptoRow : OpenClaim := { program := "ytboibdmflblphaa", sum := "343976bd536ffdc7966d784f67891973102776c8f58b0353e6c9655eef88c496", func := "sandglass/sandglasslaw21.VotesOnce", spec := "votesOnce", apart := false, narrowed := true }
def VotesOnceUptoSaid : Prop := votesOnceUptoRow.holds Try.pinned (OpenSpec.upto votesOnceSpec)

/-- 'sandglasslaw21.VotesMost', WHERE WHAT IT READS IS OF BULK AT MOST 1048576: true; the input reads as it did. -/
def votesMostUptoRow : OpenClaim := { program := "ytboibdmflblphaa", sum := "343976bd536ffdc7966d784f67891973102776c8f58b0353e6c9655eef88c496", func := "sandglass/sandglasslaw21.VotesMost", spec := "votesMost", apart := false, narrowed := true }
def VotesMostUptoSaid : Prop := votesMostUptoRow.holds Try.pinned (OpenSpec.upto votesMostSpec)

/-- 'sandglasslaw21.VotesNone', WHERE WHAT IT READS IS OF BULK AT MOST 1048576: true; the input reads as it did. -/
def votesNoneUptoRow : OpenClaim := { program := "ytboibdmflblphaa", sum := "343976bd536ffdc7966d784f67891973102776c8f58b0353e6c9655eef88c496", func := "sandglass/sandglasslaw21.VotesNone", spec := "votesNone", apart := false, narrowed := true }
def VotesNoneUptoSaid : Prop := votesNoneUptoRow.holds Try.pinned (OpenSpec.upto votesNoneSpec)

/-- 'sandglasslaw22.AgreeLeaders', WHERE WHAT IT READS IS OF BULK AT MOST 1048576: true; the input reads as it did. -/
def agreeLeadersUptoRow : OpenClaim := { program := "ytboibdmflblphaa", sum := "343976bd536ffdc7966d784f67891973102776c8f58b0353e6c9655eef88c496", func := "sandglass/sandglasslaw22.AgreeLeaders", spec := "agreeLeaders", unfollowed := true, recurses := true, apart := false, narrowed := true }
def AgreeLeadersUptoSaid : Prop := agreeLeadersUptoRow.holds Try.pinned (OpenSpec.upto agreeLeadersSpec)

/-- 'sandglasslaw22.AgreePlays', WHERE WHAT IT READS IS OF BULK AT MOST 1048576: true; the input reads as it did. -/
def agreePlaysUptoRow : OpenClaim := { program := "ytboibdmflblphaa", sum := "343976bd536ffdc7966d784f67891973102776c8f58b0353e6c9655eef88c496", func := "sandglass/sandglasslaw22.AgreePlays", spec := "agreePlays", unfollowed := true, recurses := true, apart := false, narrowed := true }
def AgreePlaysUptoSaid : Prop := agreePlaysUptoRow.holds Try.pinned (OpenSpec.upto agreePlaysSpec)

/-- 'sandglasslaw22.AgreeOnce', WHERE WHAT IT READS IS OF BULK AT MOST 1048576: true; the input reads as it did. -/
def agreeOnceUptoRow : OpenClaim := { program := "ytboibdmflblphaa", sum := "343976bd536ffdc7966d784f67891973102776c8f58b0353e6c9655eef88c496", func := "sandglass/sandglasslaw22.AgreeOnce", spec := "agreeOnce", unfollowed := true, recurses := true, apart := false, narrowed := true }
def AgreeOnceUptoSaid : Prop := agreeOnceUptoRow.holds Try.pinned (OpenSpec.upto agreeOnceSpec)

/-- 'sandglasslaw22.AgreeLocks', WHERE WHAT IT READS IS OF BULK AT MOST 1048576: true; the input reads as it did. -/
def agreeLocksUptoRow : OpenClaim := { program := "ytboibdmflblphaa", sum := "343976bd536ffdc7966d784f67891973102776c8f58b0353e6c9655eef88c496", func := "sandglass/sandglasslaw22.AgreeLocks", spec := "agreeLocks", unfollowed := true, recurses := true, apart := false, narrowed := true }
def AgreeLocksUptoSaid : Prop := agreeLocksUptoRow.holds Try.pinned (OpenSpec.upto agreeLocksSpec)

/-- 'sandglasslaw22.AgreeNone', WHERE WHAT IT READS IS OF BULK AT MOST 1048576: true; the input reads as it did. -/
def agreeNoneUptoRow : OpenClaim := { program := "ytboibdmflblphaa", sum := "343976bd536ffdc7966d784f67891973102776c8f58b0353e6c9655eef88c496", func := "sandglass/sandglasslaw22.AgreeNone", spec := "agreeNone", unfollowed := true, recurses := true, apart := false, narrowed := true }
def AgreeNoneUptoSaid : Prop := agreeNoneUptoRow.holds Try.pinned (OpenSpec.upto agreeNoneSpec)

/-- 'sandglasslaw23.CouncilCalm', WHERE WHAT IT READS IS OF BULK AT MOST 1048576: true; the input reads as it did. -/
def councilCalmUptoRow : OpenClaim := { program := "ytboibdmflblphaa", sum := "343976bd536ffdc7966d784f67891973102776c8f58b0353e6c9655eef88c496", func := "sandglass/sandglasslaw23.CouncilCalm", spec := "councilCalm", unfollowed := true, recurses := true, apart := false, narrowed := true }
def CouncilCalmUptoSaid : Prop := councilCalmUptoRow.holds Try.pinned (OpenSpec.upto councilCalmSpec)

/-- 'sandglasslaw23.CouncilAgrees', WHERE WHAT IT READS IS OF BULK AT MOST 1048576: true; the input reads as it did. -/
def councilAgreesUptoRow : OpenClaim := { program := "ytboibdmflblphaa", sum := "343976bd536ffdc7966d784f67891973102776c8f58b0353e6c9655eef88c496", func := "sandglass/sandglasslaw23.CouncilAgrees", spec := "councilAgrees", unfollowed := true, recurses := true, apart := false, narrowed := true }
def CouncilAgreesUptoSaid : Prop := councilAgreesUptoRow.holds Try.pinned (OpenSpec.upto councilAgreesSpec)

/-- 'sandglasslaw23.CouncilValid', WHERE WHAT IT READS IS OF BULK AT MOST 1048576: true; the input reads as it did. -/
def councilValidUptoRow : OpenClaim := { program := "ytboibdmflblphaa", sum := "343976bd536ffdc7966d784f67891973102776c8f58b0353e6c9655eef88c496", func := "sandglass/sandglasslaw23.CouncilValid", spec := "councilValid", unfollowed := true, recurses := true, apart := false, narrowed := true }
def CouncilValidUptoSaid : Prop := councilValidUptoRow.holds Try.pinned (OpenSpec.upto councilValidSpec)

/-- 'sandglasslaw23.CouncilNone', WHERE WHAT IT READS IS OF BULK AT MOST 1048576: true; the input reads as it did. -/
def councilNoneUptoRow : OpenClaim := { program := "ytboibdmflblphaa", sum := "343976bd536ffdc7966d784f67891973102776c8f58b0353e6c9655eef88c496", func := "sandglass/sandglasslaw23.CouncilNone", spec := "councilNone", unfollowed := true, recurses := true, apart := false, narrowed := true }
def CouncilNoneUptoSaid : Prop := councilNoneUptoRow.holds Try.pinned (OpenSpec.upto councilNoneSpec)

/-- 'sandglasslaw45.ChainCatches', WHERE WHAT IT READS IS OF BULK AT MOST 1048576: true; the input reads as it did. -/
def chainCatchesUptoRow : OpenClaim := { program := "ytboibdmflblphaa", sum := "343976bd536ffdc7966d784f67891973102776c8f58b0353e6c9655eef88c496", func := "sandglass/sandglasslaw45.ChainCatches", spec := "chainCatches", unfollowed := true, recurses := true, apart := false, narrowed := true }
def ChainCatchesUptoSaid : Prop := chainCatchesUptoRow.holds Try.pinned (OpenSpec.upto chainCatchesSpec)

/-- 'sandglasslaw45.ChainPlays', WHERE WHAT IT READS IS OF BULK AT MOST 1048576: true; the input reads as it did. -/
def chainPlaysUptoRow : OpenClaim := { program := "ytboibdmflblphaa", sum := "343976bd536ffdc7966d784f67891973102776c8f58b0353e6c9655eef88c496", func := "sandglass/sandglasslaw45.ChainPlays", spec := "chainPlays", unfollowed := true, recurses := true, apart := false, narrowed := true }
def ChainPlaysUptoSaid : Prop := chainPlaysUptoRow.holds Try.pinned (OpenSpec.upto chainPlaysSpec)

/-- 'sandglasslaw45.ChainAgrees', WHERE WHAT IT READS IS OF BULK AT MOST 1048576: true; the input reads as it did. -/
def chainAgreesUptoRow : OpenClaim := { program := "ytboibdmflblphaa", sum := "343976bd536ffdc7966d784f67891973102776c8f58b0353e6c9655eef88c496", func := "sandglass/sandglasslaw45.ChainAgrees", spec := "chainAgrees", unfollowed := true, recurses := true, apart := false, narrowed := true }
def ChainAgreesUptoSaid : Prop := chainAgreesUptoRow.holds Try.pinned (OpenSpec.upto chainAgreesSpec)

/-- 'sandglasslaw45.ChainNone', WHERE WHAT IT READS IS OF BULK AT MOST 1048576: true; the input reads as it did. -/
def chainNoneUptoRow : OpenClaim := { program := "ytboibdmflblphaa", sum := "343976bd536ffdc7966d784f67891973102776c8f58b0353e6c9655eef88c496", func := "sandglass/sandglasslaw45.ChainNone", spec := "chainNone", unfollowed := true, recurses := true, apart := false, narrowed := true }
def ChainNoneUptoSaid : Prop := chainNoneUptoRow.holds Try.pinned (OpenSpec.upto chainNoneSpec)

end Rows
end Go.Proofs.Ytboibdmflblphaa
