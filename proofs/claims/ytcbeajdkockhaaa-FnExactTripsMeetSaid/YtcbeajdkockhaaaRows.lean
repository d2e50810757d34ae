/-
  No cell of these rows narrows 'for every input' (looked for: loops, veiled, ifaces, maps, wideKeys, modest, calm, conditions, laid).
  DERIVED. THE GIVEN ROWS OF THIS SEAT. 12 by the template 'for every input the law returns true; each argument reads behind the call as it read before'; 0 by the template 'total and deterministic' (their statements: YtcbeajdkockhaaaTotals.lean).
  GIVEN WITH THE SEED: the statements are not yours to turn. If you find one false, say at which input.
  Laid BY PROGRAM, IN A SANDBOX (cutbox-rows.mjs): the forced cells as the released guide's own fill.sh prints them over the translation 701f019834d7fc8e… (all of the seat's roots in one cut). By AI agents, Wed Nov 11 2026. No macro, syntax, notation, axiom, sorry.
-/
import Derived.Test.YtcbeajdkockhaaaChecked
import GoSem.Claim
import GoSem.ClaimJoined
import GoSem.ClaimMapViews
import Derived.JoinedTies
import Derived.KernelRfl
namespace Go.Proofs.Ytcbeajdkockhaaa
/- THE CELL 'sum', in the pinned program and in every row, IS THE sha256 OF THE DUMP (.gsa) THAT YtcbeajdkockhaaaProg.lean LOADS. Nothing in Lean hashes anything: it is a label: what it is worth is what the hold of that sum in a sandbox is worth. -/
noncomputable def Try.pinned : Pinned := { name := "ytcbeajdkockhaaa", sum := "701f019834d7fc8e71aeac082fd6510b6d53ddfe45e96942f4e11d17fada75df", checked := Try.checked }
namespace Rows
def none {H : Type} : Left H := { results := [], args := [] }

/-- 'laws.FnExactTripOk': WHATEVER THE INPUT: true; the input reads as it did. -/
def fnExactTripOkSpec : ChangeSpec := { name := "fnExactTripOk", fn := fun _ => fun
  | [d] => { results := [.lit (.bool true)], args := [d] }
  | _ => none }
def fnExactTripOkRow : OpenClaim := { program := "ytcbeajdkockhaaa", sum := "701f019834d7fc8e71aeac082fd6510b6d53ddfe45e96942f4e11d17fada75df", func := "loop.example/g00072/laws.FnExactTripOk", spec := "fnExactTripOk", apart := false }
def FnExactTripOkSaid : Prop := fnExactTripOkRow.holds Try.pinned (OpenSpec.ofChange fnExactTripOkSpec)

/-- ITS FALSE NEIGHBOUR: 'it returns false'. Refute it at one input. -/
def fnExactTripOkWrong : ChangeSpec := { name := "fnExactTripOk", fn := fun _ => fun
  | [d] => { results := [.lit (.bool false)], args := [d] }
  | _ => none }
def FnExactTripOkWrongFalsely : Prop := fnExactTripOkRow.holds Try.pinned (OpenSpec.ofChange fnExactTripOkWrong)

/-- 'laws.FnExactTripFits': WHATEVER THE INPUT: true; the input reads as it did. -/
def fnExactTripFitsSpec : ChangeSpec := { name := "fnExactTripFits", fn := fun _ => fun
  | [d1, d2, d3, d4, d5] => { results := [.lit (.bool true)], args := [d1, d2, d3, d4, d5] }
  | _ => none }
def fnExactTripFitsRow : OpenClaim := { program := "ytcbeajdkockhaaa", sum := "701f019834d7fc8e71aeac082fd6510b6d53ddfe45e96942f4e11d17fada75df", func := "loop.example/g00072/laws.FnExactTripFits", spec := "fnExactTripFits", apart := false }
def FnExactTripFitsSaid : Prop := fnExactTripFitsRow.holds Try.pinned (OpenSpec.ofChange fnExactTripFitsSpec)

/-- ITS FALSE NEIGHBOUR: 'it returns false'. Refute it at one input. -/
def fnExactTripFitsWrong : ChangeSpec := { name := "fnExactTripFits", fn := fun _ => fun
  | [d1, d2, d3, d4, d5] => { results := [.lit (.bool false)], args := [d1, d2, d3, d4, d5] }
  | _ => none }
def FnExactTripFitsWrongFalsely : Prop := fnExactTripFitsRow.holds Try.pinned (OpenSpec.ofChange fnExactTripFitsWrong)

/-- 'laws.FnExactRoundBound': WHATEVER THE INPUT: true; the input reads as it did. -/
def fnExactRoundBoundSpec : ChangeSpec := { name := "fnExactRoundBound", fn := fun _ => fun
  | [d1, d2, d3] => { results := [.lit (.bool true)], args := [d1, d2, d3] }
  | _ => none }
def fnExactRoundBoundRow : OpenClaim := { program := "ytcbeajdkockhaaa", sum := "701f019834d7fc8e71aeac082fd6510b6d53ddfe45e96942f4e11d17fada75df", func := "loop.example/g00072/laws.FnExactRoundBound", spec := "fnExactRoundBound", unfollowed := true, recurses := true, apart := false }
def FnExactRoundBoundSaid : Prop := fnExactRoundBoundRow.holds Try.pinned (OpenSpec.ofChange fnExactRoundBoundSpec)

/-- ITS FALSE NEIGHBOUR: 'it returns false'. Refute it at one input. -/
def fnExactRoundBoundWrong : ChangeSpec := { name := "fnExactRoundBound", fn := fun _ => fun
  | [d1, d2, d3] => { results := [.lit (.bool false)], args := [d1, d2, d3] }
  | _ => none }
def FnExactRoundBoundWrongFalsely : Prop := fnExactRoundBoundRow.holds Try.pinned (OpenSpec.ofChange fnExactRoundBoundWrong)

/-- 'laws.FnExactTripBound': WHATEVER THE INPUT: true; the input reads as it did. -/
def fnExactTripBoundSpec : ChangeSpec := { name := "fnExactTripBound", fn := fun _ => fun
  | [d1, d2] => { results := [.lit (.bool true)], args := [d1, d2] }
  | _ => none }
def fnExactTripBoundRow : OpenClaim := { program := "ytcbeajdkockhaaa", sum := "701f019834d7fc8e71aeac082fd6510b6d53ddfe45e96942f4e11d17fada75df", func := "loop.example/g00072/laws.FnExactTripBound", spec := "fnExactTripBound", unfollowed := true, recurses := true, apart := false }
def FnExactTripBoundSaid : Prop := fnExactTripBoundRow.holds Try.pinned (OpenSpec.ofChange fnExactTripBoundSpec)

/-- ITS FALSE NEIGHBOUR: 'it returns false'. Refute it at one input. -/
def fnExactTripBoundWrong : ChangeSpec := { name := "fnExactTripBound", fn := fun _ => fun
  | [d1, d2] => { results := [.lit (.bool false)], args := [d1, d2] }
  | _ => none }
def FnExactTripBoundWrongFalsely : Prop := fnExactTripBoundRow.holds Try.pinned (OpenSpec.ofChange fnExactTripBoundWrong)

/-- 'laws.FnExactTripLoss': WHATEVER THE INPUT: true; the input reads as it did. -/
def fnExactTripLossSpec : ChangeSpec := { name := "fnExactTripLoss", fn := fun _ => fun
  | [d1, d2] => { results := [.lit (.bool true)], args := [d1, d2] }
  | _ => none }
def fnExactTripLossRow : OpenClaim := { program := "ytcbeajdkockhaaa", sum := "701f019834d7fc8e71aeac082fd6510b6d53ddfe45e96942f4e11d17fada75df", func := "loop.example/g00072/laws.FnExactTripLoss", spec := "fnExactTripLoss", unfollowed := true, recurses := true, apart := false }
def FnExactTripLossSaid : Prop := fnExactTripLossRow.holds Try.pinned (OpenSpec.ofChange fnExactTripLossSpec)

/-- ITS FALSE NEIGHBOUR: 'it returns false'. Refute it at one input. -/
def fnExactTripLossWrong : ChangeSpec := { name := "fnExactTripLoss", fn := fun _ => fun
  | [d1, d2] => { results := [.lit (.bool false)], args := [d1, d2] }
  | _ => none }
def FnExactTripLossWrongFalsely : Prop := fnExactTripLossRow.holds Try.pinned (OpenSpec.ofChange fnExactTripLossWrong)

/-- 'laws.FnExactWidthAt': WHATEVER THE INPUT: true; the input reads as it did. -/
def fnExactWidthAtSpec : ChangeSpec := { name := "fnExactWidthAt", fn := fun _ => fun
  | [d1, d2, d3] => { results := [.lit (.bool true)], args := [d1, d2, d3] }
  | _ => none }
def fnExactWidthAtRow : OpenClaim := { program := "ytcbeajdkockhaaa", sum := "701f019834d7fc8e71aeac082fd6510b6d53ddfe45e96942f4e11d17fada75df", func := "loop.example/g00072/laws.FnExactWidthAt", spec := "fnExactWidthAt", unfollowed := true, recurses := true, apart := false }
def FnExactWidthAtSaid : Prop := fnExactWidthAtRow.holds Try.pinned (OpenSpec.ofChange fnExactWidthAtSpec)

/-- ITS FALSE NEIGHBOUR: 'it returns false'. Refute it at one input. -/
def fnExactWidthAtWrong : ChangeSpec := { name := "fnExactWidthAt", fn := fun _ => fun
  | [d1, d2, d3] => { results := [.lit (.bool false)], args := [d1, d2, d3] }
  | _ => none }
def FnExactWidthAtWrongFalsely : Prop := fnExactWidthAtRow.holds Try.pinned (OpenSpec.ofChange fnExactWidthAtWrong)

/-- 'laws.FnExactRebase': WHATEVER THE INPUT: true; the input reads as it did. -/
def fnExactRebaseSpec : ChangeSpec := { name := "fnExactRebase", fn := fun _ => fun
  | [d1, d2, d3] => { results := [.lit (.bool true)], args := [d1, d2, d3] }
  | _ => none }
def fnExactRebaseRow : OpenClaim := { program := "ytcbeajdkockhaaa", sum := "701f019834d7fc8e71aeac082fd6510b6d53ddfe45e96942f4e11d17fada75df", func := "loop.example/g00072/laws.FnExactRebase", spec := "fnExactRebase", unfollowed := true, recurses := true, apart := false }
def FnExactRebaseSaid : Prop := fnExactRebaseRow.holds Try.pinned (OpenSpec.ofChange fnExactRebaseSpec)

/-- ITS FALSE NEIGHBOUR: 'it returns false'. Refute it at one input. -/
def fnExactRebaseWrong : ChangeSpec := { name := "fnExactRebase", fn := fun _ => fun
  | [d1, d2, d3] => { results := [.lit (.bool false)], args := [d1, d2, d3] }
  | _ => none }
def FnExactRebaseWrongFalsely : Prop := fnExactRebaseRow.holds Try.pinned (OpenSpec.ofChange fnExactRebaseWrong)

/-- 'laws.FnExactBestTrip': WHATEVER THE INPUT: true; the input reads as it did. -/
def fnExactBestTripSpec : ChangeSpec := { name := "fnExactBestTrip", fn := fun _ => fun
  | [d1, d2] => { results := [.lit (.bool true)], args := [d1, d2] }
  | _ => none }
def fnExactBestTripRow : OpenClaim := { program := "ytcbeajdkockhaaa", sum := "701f019834d7fc8e71aeac082fd6510b6d53ddfe45e96942f4e11d17fada75df", func := "loop.example/g00072/laws.FnExactBestTrip", spec := "fnExactBestTrip", unfollowed := true, recurses := true, apart := false }
def FnExactBestTripSaid : Prop := fnExactBestTripRow.holds Try.pinned (OpenSpec.ofChange fnExactBestTripSpec)

/-- ITS FALSE NEIGHBOUR: 'it returns false'. Refute it at one input. -/
def fnExactBestTripWrong : ChangeSpec := { name := "fnExactBestTrip", fn := fun _ => fun
  | [d1, d2] => { results := [.lit (.bool false)], args := [d1, d2] }
  | _ => none }
def FnExactBestTripWrongFalsely : Prop := fnExactBestTripRow.holds Try.pinned (OpenSpec.ofChange fnExactBestTripWrong)

/-- 'laws.FnExactKnownFor': WHATEVER THE INPUT: true; the input reads as it did. -/
def fnExactKnownForSpec : ChangeSpec := { name := "fnExactKnownFor", fn := fun _ => fun
  | [d1, d2, d3] => { results := [.lit (.bool true)], args := [d1, d2, d3] }
  | _ => none }
def fnExactKnownForRow : OpenClaim := { program := "ytcbeajdkockhaaa", sum := "701f019834d7fc8e71aeac082fd6510b6d53ddfe45e96942f4e11d17fada75df", func := "loop.example/g00072/laws.FnExactKnownFor", spec := "fnExactKnownFor", unfollowed := true, recurses := true, apart := false }
def FnExactKnownForSaid : Prop := fnExactKnownForRow.holds Try.pinned (OpenSpec.ofChange fnExactKnownForSpec)

/-- ITS FALSE NEIGHBOUR: 'it returns false'. Refute it at one input. -/
def fnExactKnownForWrong : ChangeSpec := { name := "fnExactKnownFor", fn := fun _ => fun
  | [d1, d2, d3] => { results := [.lit (.bool false)], args := [d1, d2, d3] }
  | _ => none }
def FnExactKnownForWrongFalsely : Prop := fnExactKnownForRow.holds Try.pinned (OpenSpec.ofChange fnExactKnownForWrong)

/-- 'laws.FnExactNarrow': WHATEVER THE INPUT: true; the input reads as it did. -/
def fnExactNarrowSpec : ChangeSpec := { name := "fnExactNarrow", fn := fun _ => fun
  | [d1, d2, d3, d4] => { results := [.lit (.bool true)], args := [d1, d2, d3, d4] }
  | _ => none }
def fnExactNarrowRow : OpenClaim := { program := "ytcbeajdkockhaaa", sum := "701f019834d7fc8e71aeac082fd6510b6d53ddfe45e96942f4e11d17fada75df", func := "loop.example/g00072/laws.FnExactNarrow", spec := "fnExactNarrow", unfollowed := true, recurses := true, apart := false }
def FnExactNarrowSaid : Prop := fnExactNarrowRow.holds Try.pinned (OpenSpec.ofChange fnExactNarrowSpec)

/-- ITS FALSE NEIGHBOUR: 'it returns false'. Refute it at one input. -/
def fnExactNarrowWrong : ChangeSpec := { name := "fnExactNarrow", fn := fun _ => fun
  | [d1, d2, d3, d4] => { results := [.lit (.bool false)], args := [d1, d2, d3, d4] }
  | _ => none }
def FnExactNarrowWrongFalsely : Prop := fnExactNarrowRow.holds Try.pinned (OpenSpec.ofChange fnExactNarrowWrong)

/-- 'laws.FnExactCarryTrip': WHATEVER THE INPUT: true; the input reads as it did. -/
def fnExactCarryTripSpec : ChangeSpec := { name := "fnExactCarryTrip", fn := fun _ => fun
  | [d1, d2, d3] => { results := [.lit (.bool true)], args := [d1, d2, d3] }
  | _ => none }
def fnExactCarryTripRow : OpenClaim := { program := "ytcbeajdkockhaaa", sum := "701f019834d7fc8e71aeac082fd6510b6d53ddfe45e96942f4e11d17fada75df", func := "loop.example/g00072/laws.FnExactCarryTrip", spec := "fnExactCarryTrip", unfollowed := true, recurses := true, apart := false }
def FnExactCarryTripSaid : Prop := fnExactCarryTripRow.holds Try.pinned (OpenSpec.ofChange fnExactCarryTripSpec)

/-- ITS FALSE NEIGHBOUR: 'it returns false'. Refute it at one input. -/
def fnExactCarryTripWrong : ChangeSpec := { name := "fnExactCarryTrip", fn := fun _ => fun
  | [d1, d2, d3] => { results := [.lit (.bool false)], args := [d1, d2, d3] }
  | _ => none }
def FnExactCarryTripWrongFalsely : Prop := fnExactCarryTripRow.holds Try.pinned (OpenSpec.ofChange fnExactCarryTripWrong)

/-- 'laws.FnExactTripsMeet': WHATEVER THE INPUT: true; the input reads as it did. -/
def fnExactTripsMeetSpec : ChangeSpec := { name := "fnExactTripsMeet", fn := fun _ => fun
  | [d1, d2, d3] => { results := [.lit (.bool true)], args := [d1, d2, d3] }
  | _ => none }
def fnExactTripsMeetRow : OpenClaim := { program := "ytcbeajdkockhaaa", sum := "701f019834d7fc8e71aeac082fd6510b6d53ddfe45e96942f4e11d17fada75df", func := "loop.example/g00072/laws.FnExactTripsMeet", spec := "fnExactTripsMeet", unfollowed := true, recurses := true, apart := false }
def FnExactTripsMeetSaid : Prop := fnExactTripsMeetRow.holds Try.pinned (OpenSpec.ofChange fnExactTripsMeetSpec)

/-- ITS FALSE NEIGHBOUR: 'it returns false'. Refute it at one input. -/
def fnExactTripsMeetWrong : ChangeSpec := { name := "fnExactTripsMeet", fn := fun _ => fun
  | [d1, d2, d3] => { results := [.lit (.bool false)], args := [d1, d2, d3] }
  | _ => none }
def FnExactTripsMeetWrongFalsely : Prop := fnExactTripsMeetRow.holds Try.pinned (OpenSpec.ofChange fnExactTripsMeetWrong)

/- THE SECOND FORM. 'bulk': how many values and letters a reading holds, each counted each time it is reached (what is shared counts as often as it is met; a slice's spare places count too). A statement '..UptoSaid' is the law's where the arguments, and the package variables that the reading takes, are together of bulk at most 1048576: NARROWER than '..Said'. Prove '..Said' where nothing that the law and all that it calls make is longer than what came in: it says more and counts as full. Else prove '..UptoSaid'. A law counts once. -/
mutual
def uptoBulk {H : Type} : DataW H → Nat
  | .lit (.string bytes) => bytes.length + 1
  | .lit _ => 1
  | .nil => 1
  | .ptr d => uptoBulk d + 1
  | .slice elems spare => uptoBulkAll elems + uptoBulkAll spare + 1
  | .agg parts => uptoBulkAll parts + 1
  | .iface _ d => uptoBulk d + 1
  | .map entries => uptoBulkEntries entries + 1
  | .held _ => 1
def uptoBulkAll {H : Type} : List (DataW H) → Nat
  | [] => 0
  | d :: r => uptoBulk d + uptoBulkAll r
def uptoBulkEntries {H : Type} : List (Lit × DataW H) → Nat
  | [] => 0
  | x :: r => uptoBulkEntry x + uptoBulkEntries r
def uptoBulkEntry {H : Type} : Lit × DataW H → Nat
  | (.string bytes, d) => bytes.length + uptoBulk d + 1
  | (_, d) => uptoBulk d + 1
 end
def uptoSmall : (H : Type) → List (DataW H) → Bool := fun _ ds => decide (uptoBulkAll ds ≤ 1048576)
def OpenSpec.upto (s : _root_.Go.ChangeSpec) : _root_.Go.OpenSpec := { _root_.Go.OpenSpec.ofChange s with cond := some uptoSmall }

/-- 'laws.FnExactTripOk', WHERE WHAT IT READS IS OF BULK AT MOST 1048576: true; the input reads as it did. -/
def fnExactTripOkUptoRow : OpenClaim := { program := "ytcbeajdkockhaaa", sum := "701f019834d7fc8e71aeac082fd6510b6d53ddfe45e96942f4e11d17fada75df", func := "loop.example/g00072/laws.FnExactTripOk", spec := "fnExactTripOk", apart := false, narrowed := true }
def FnExactTripOkUptoSaid : Prop := fnExactTripOkUptoRow.holds Try.pinned (OpenSpec.upto fnExactTripOkSpec)

/-- 'laws.FnExactTripFits', WHERE WHAT IT READS IS OF BULK AT MOST 1048576: true; the input reads as it did. -/
def fnExactTripFitsUptoRow : OpenClaim := { program := "ytcbeajdkockhaaa", sum := "701f019834d7fc8e71aeac082fd6510b6d53ddfe45e96942f4e11d17fada75df", func := "loop.example/g00072/laws.FnExactTripFits", spec := "fnExactTripFits", apart := false, narrowed := true }
def FnExactTripFitsUptoSaid : Prop := fnExactTripFitsUptoRow.holds Try.pinned (OpenSpec.upto fnExactTripFitsSpec)

/-- 'laws.FnExactRoundBound', WHERE WHAT IT READS IS OF BULK AT MOST 1048576: true; the input reads as it did. -/
def fnExactRoundBoundUptoRow : OpenClaim := { program := "ytcbeajdkockhaaa", sum := "701f019834d7fc8e71aeac082fd6510b6d53ddfe45e96942f4e11d17fada75df", func := "loop.example/g00072/laws.FnExactRoundBound", spec := "fnExactRoundBound", unfollowed := true, recurses := true, apart := false, narrowed := true }
def FnExactRoundBoundUptoSaid : Prop := fnExactRoundBoundUptoRow.holds Try.pinned (OpenSpec.upto fnExactRoundBoundSpec)

/-- 'laws.FnExactTripBound', WHERE WHAT IT READS IS OF BULK AT MOST 1048576: true; the input reads as it did. -/
def fnExactTripBoundUptoRow : OpenClaim := { program := "ytcbeajdkockhaaa", sum := "701f019834d7fc8e71aeac082fd6510b6d53ddfe45e96942f4e11d17fada75df", func := "loop.example/g00072/laws.FnExactTripBound", spec := "fnExactTripBound", unfollowed := true, recurses := true, apart := false, narrowed := true }
def FnExactTripBoundUptoSaid : Prop := fnExactTripBoundUptoRow.holds Try.pinned (OpenSpec.upto fnExactTripBoundSpec)

/-- 'laws.FnExactTripLoss', WHERE WHAT IT READS IS OF BULK AT MOST 1048576: true; the input reads as it did. -/
def fnExactTripLossUptoRow : OpenClaim := { program := "ytcbeajdkockhaaa", sum := "701f019834d7fc8e71aeac082fd6510b6d53ddfe45e96942f4e11d17fada75df", func := "loop.example/g00072/laws.FnExactTripLoss", spec := "fnExactTripLoss", unfollowed := true, recurses := true, apart := false, narrowed := true }
def FnExactTripLossUptoSaid : Prop := fnExactTripLossUptoRow.holds Try.pinned (OpenSpec.upto fnExactTripLossSpec)

/-- 'laws.FnExactWidthAt', WHERE WHAT IT READS IS OF BULK AT MOST 1048576: true; the input reads as it did. -/
def fnExactWidthAtUptoRow : OpenClaim := { program := "ytcbeajdkockhaaa", sum := "701f019834d7fc8e71aeac082fd6510b6d53ddfe45e96942f4e11d17fada75df", func := "loop.example/g00072/laws.FnExactWidthAt", spec := "fnExactWidthAt", unfollowed := true, recurses := true, apart := false, narrowed := true }
def FnExactWidthAtUptoSaid : Prop := fnExactWidthAtUptoRow.holds Try.pinned (OpenSpec.upto fnExactWidthAtSpec)

/-- 'laws.FnExactRebase', WHERE WHAT IT READS IS OF BULK AT MOST 1048576: true; the input reads as it did. -/
def fnExactRebaseUptoRow : OpenClaim := { program := "ytcbeajdkockhaaa", sum := "701f019834d7fc8e71aeac082fd6510b6d53ddfe45e96942f4e11d17fada75df", func := "loop.example/g00072/laws.FnExactRebase", spec := "fnExactRebase", unfollowed := true, recurses := true, apart := false, narrowed := true }
def FnExactRebaseUptoSaid : Prop := fnExactRebaseUptoRow.holds Try.pinned (OpenSpec.upto fnExactRebaseSpec)

/-- 'laws.FnExactBestTrip', WHERE WHAT IT READS IS OF BULK AT MOST 1048576: true; the input reads as it did. -/
def fnExactBestTripUptoRow : OpenClaim := { program := "ytcbeajdkockhaaa", sum := "701f019834d7fc8e71aeac082fd6510b6d53ddfe45e96942f4e11d17fada75df", func := "loop.example/g00072/laws.FnExactBestTrip", spec := "fnExactBestTrip", unfollowed := true, recurses := true, apart := false, narrowed := true }
def FnExactBestTripUptoSaid : Prop := fnExactBestTripUptoRow.holds Try.pinned (OpenSpec.upto fnExactBestTripSpec)

/-- 'laws.FnExactKnownFor', WHERE WHAT IT READS IS OF BULK AT MOST 1048576: true; the input reads as it did. -/
def fnExactKnownForUptoRow : OpenClaim := { program := "ytcbeajdkockhaaa", sum := "701f019834d7fc8e71aeac082fd6510b6d53ddfe45e96942f4e11d17fada75df", func := "loop.example/g00072/laws.FnExactKnownFor", spec := "fnExactKnownFor", unfollowed := true, recurses := true, apart := false, narrowed := true }
def FnExactKnownForUptoSaid : Prop := fnExactKnownForUptoRow.holds Try.pinned (OpenSpec.upto fnExactKnownForSpec)

/-- 'laws.FnExactNarrow', WHERE WHAT IT READS IS OF BULK AT MOST 1048576: true; the input reads as it did. -/
def fnExactNarrowUptoRow : OpenClaim := { program := "ytcbeajdkockhaaa", sum := "701f019834d7fc8e71aeac082fd6510b6d53ddfe45e96942f4e11d17fada75df", func := "loop.example/g00072/laws.FnExactNarrow", spec := "fnExactNarrow", unfollowed := true, recurses := true, apart := false, narrowed := true }
def FnExactNarrowUptoSaid : Prop := fnExactNarrowUptoRow.holds Try.pinned (OpenSpec.upto fnExactNarrowSpec)

/-- 'laws.FnExactCarryTrip', WHERE WHAT IT READS IS OF BULK AT MOST 1048576: true; the input reads as it did. -/
def fnExactCarryTripUptoRow : OpenClaim := { program := "ytcbeajdkockhaaa", sum := "701f019834d7fc8e71aeac082fd6510b6d53ddfe45e96942f4e11d17fada75df", func := "loop.example/g00072/laws.FnExactCarryTrip", spec := "fnExactCarryTrip", unfollowed := true, recurses := true, apart := false, narrowed := true }
def FnExactCarryTripUptoSaid : Prop := fnExactCarryTripUptoRow.holds Try.pinned (OpenSpec.upto fnExactCarryTripSpec)

/-- 'laws.FnExactTripsMeet', WHERE WHAT IT READS IS OF BULK AT MOST 1048576: true; the input reads as it did. -/
def fnExactTripsMeetUptoRow : OpenClaim := { program := "ytcbeajdkockhaaa", sum := "701f019834d7fc8e71aeac082fd6510b6d53ddfe45e96942f4e11d17fada75df", func := "loop.example/g00072/laws.FnExactTripsMeet", spec := "fnExactTripsMeet", unfollowed := true, recurses := true, apart := false, narrowed := true }
def FnExactTripsMeetUptoSaid : Prop := fnExactTripsMeetUptoRow.holds Try.pinned (OpenSpec.upto fnExactTripsMeetSpec)

end Rows
end Go.Proofs.Ytcbeajdkockhaaa
