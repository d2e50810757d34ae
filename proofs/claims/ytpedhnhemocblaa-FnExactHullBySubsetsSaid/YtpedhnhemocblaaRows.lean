/-
  No cell of these rows narrows 'for every input' (looked for: loops, veiled, ifaces, maps, wideKeys, modest, calm, conditions, laid).
  DERIVED. THE GIVEN ROWS OF THIS SEAT. 12 by the template 'for every input the law returns true; each argument reads behind the call as it read before'; 0 by the template 'total and deterministic' (their statements: YtpedhnhemocblaaTotals.lean).
  GIVEN WITH THE SEED: the statements are not yours to turn. If you find one false, say at which input.
  Laid BY PROGRAM, IN A SANDBOX (cutbox-rows.mjs): the forced cells as the released guide's own fill.sh prints them over the translation 22d870b868137500… (all of the seat's roots in one cut). By AI agents, Wed Nov 11 2026. No macro, syntax, notation, axiom, sorry.
-/
import Derived.Test.YtpedhnhemocblaaChecked
import GoSem.Claim
import GoSem.ClaimJoined
import GoSem.ClaimMapViews
import Derived.JoinedTies
import Derived.KernelRfl
namespace Go.Proofs.Ytpedhnhemocblaa
/- THE CELL 'sum', in the pinned program and in every row, IS THE sha256 OF THE DUMP (.gsa) THAT YtpedhnhemocblaaProg.lean LOADS. Nothing in Lean hashes anything: it is a label: what it is worth is what the hold of that sum in a sandbox is worth. -/
noncomputable def Try.pinned : Pinned := { name := "ytpedhnhemocblaa", sum := "22d870b8681375005b82df7eb45d3e288462b85e51594494c07782785c3cc0bc", checked := Try.checked }
namespace Rows
def none {H : Type} : Left H := { results := [], args := [] }

/-- 'laws.FnExactSourcesOk': WHATEVER THE INPUT: true; the input reads as it did. -/
def fnExactSourcesOkSpec : ChangeSpec := { name := "fnExactSourcesOk", fn := fun _ => fun
  | [d] => { results := [.lit (.bool true)], args := [d] }
  | _ => none }
def fnExactSourcesOkRow : OpenClaim := { program := "ytpedhnhemocblaa", sum := "22d870b8681375005b82df7eb45d3e288462b85e51594494c07782785c3cc0bc", func := "loop.example/g00072/laws.FnExactSourcesOk", spec := "fnExactSourcesOk", unfollowed := true, recurses := true, apart := false }
def FnExactSourcesOkSaid : Prop := fnExactSourcesOkRow.holds Try.pinned (OpenSpec.ofChange fnExactSourcesOkSpec)

/-- ITS FALSE NEIGHBOUR: 'it returns false'. Refute it at one input. -/
def fnExactSourcesOkWrong : ChangeSpec := { name := "fnExactSourcesOk", fn := fun _ => fun
  | [d] => { results := [.lit (.bool false)], args := [d] }
  | _ => none }
def FnExactSourcesOkWrongFalsely : Prop := fnExactSourcesOkRow.holds Try.pinned (OpenSpec.ofChange fnExactSourcesOkWrong)

/-- 'laws.FnExactCoverAt': WHATEVER THE INPUT: true; the input reads as it did. -/
def fnExactCoverAtSpec : ChangeSpec := { name := "fnExactCoverAt", fn := fun _ => fun
  | [d1, d2] => { results := [.lit (.bool true)], args := [d1, d2] }
  | _ => none }
def fnExactCoverAtRow : OpenClaim := { program := "ytpedhnhemocblaa", sum := "22d870b8681375005b82df7eb45d3e288462b85e51594494c07782785c3cc0bc", func := "loop.example/g00072/laws.FnExactCoverAt", spec := "fnExactCoverAt", unfollowed := true, recurses := true, apart := false }
def FnExactCoverAtSaid : Prop := fnExactCoverAtRow.holds Try.pinned (OpenSpec.ofChange fnExactCoverAtSpec)

/-- ITS FALSE NEIGHBOUR: 'it returns false'. Refute it at one input. -/
def fnExactCoverAtWrong : ChangeSpec := { name := "fnExactCoverAt", fn := fun _ => fun
  | [d1, d2] => { results := [.lit (.bool false)], args := [d1, d2] }
  | _ => none }
def FnExactCoverAtWrongFalsely : Prop := fnExactCoverAtRow.holds Try.pinned (OpenSpec.ofChange fnExactCoverAtWrong)

/-- 'laws.FnExactMissing': WHATEVER THE INPUT: true; the input reads as it did. -/
def fnExactMissingSpec : ChangeSpec := { name := "fnExactMissing", fn := fun _ => fun
  | [d1, d2] => { results := [.lit (.bool true)], args := [d1, d2] }
  | _ => none }
def fnExactMissingRow : OpenClaim := { program := "ytpedhnhemocblaa", sum := "22d870b8681375005b82df7eb45d3e288462b85e51594494c07782785c3cc0bc", func := "loop.example/g00072/laws.FnExactMissing", spec := "fnExactMissing", unfollowed := true, recurses := true, apart := false }
def FnExactMissingSaid : Prop := fnExactMissingRow.holds Try.pinned (OpenSpec.ofChange fnExactMissingSpec)

/-- ITS FALSE NEIGHBOUR: 'it returns false'. Refute it at one input. -/
def fnExactMissingWrong : ChangeSpec := { name := "fnExactMissing", fn := fun _ => fun
  | [d1, d2] => { results := [.lit (.bool false)], args := [d1, d2] }
  | _ => none }
def FnExactMissingWrongFalsely : Prop := fnExactMissingRow.holds Try.pinned (OpenSpec.ofChange fnExactMissingWrong)

/-- 'laws.FnExactHullBySubsets': WHATEVER THE INPUT: true; the input reads as it did. -/
def fnExactHullBySubsetsSpec : ChangeSpec := { name := "fnExactHullBySubsets", fn := fun _ => fun
  | [d1, d2] => { results := [.lit (.bool true)], args := [d1, d2] }
  | _ => none }
def fnExactHullBySubsetsRow : OpenClaim := { program := "ytpedhnhemocblaa", sum := "22d870b8681375005b82df7eb45d3e288462b85e51594494c07782785c3cc0bc", func := "loop.example/g00072/laws.FnExactHullBySubsets", spec := "fnExactHullBySubsets", unfollowed := true, recurses := true, apart := false }
def FnExactHullBySubsetsSaid : Prop := fnExactHullBySubsetsRow.holds Try.pinned (OpenSpec.ofChange fnExactHullBySubsetsSpec)

/-- ITS FALSE NEIGHBOUR: 'it returns false'. Refute it at one input. -/
def fnExactHullBySubsetsWrong : ChangeSpec := { name := "fnExactHullBySubsets", fn := fun _ => fun
  | [d1, d2] => { results := [.lit (.bool false)], args := [d1, d2] }
  | _ => none }
def FnExactHullBySubsetsWrongFalsely : Prop := fnExactHullBySubsetsRow.holds Try.pinned (OpenSpec.ofChange fnExactHullBySubsetsWrong)

/-- 'laws.FnExactHullOf': WHATEVER THE INPUT: true; the input reads as it did. -/
def fnExactHullOfSpec : ChangeSpec := { name := "fnExactHullOf", fn := fun _ => fun
  | [d1, d2] => { results := [.lit (.bool true)], args := [d1, d2] }
  | _ => none }
def fnExactHullOfRow : OpenClaim := { program := "ytpedhnhemocblaa", sum := "22d870b8681375005b82df7eb45d3e288462b85e51594494c07782785c3cc0bc", func := "loop.example/g00072/laws.FnExactHullOf", spec := "fnExactHullOf", unfollowed := true, recurses := true, apart := false }
def FnExactHullOfSaid : Prop := fnExactHullOfRow.holds Try.pinned (OpenSpec.ofChange fnExactHullOfSpec)

/-- ITS FALSE NEIGHBOUR: 'it returns false'. Refute it at one input. -/
def fnExactHullOfWrong : ChangeSpec := { name := "fnExactHullOf", fn := fun _ => fun
  | [d1, d2] => { results := [.lit (.bool false)], args := [d1, d2] }
  | _ => none }
def FnExactHullOfWrongFalsely : Prop := fnExactHullOfRow.holds Try.pinned (OpenSpec.ofChange fnExactHullOfWrong)

/-- 'laws.FnExactMostCover': WHATEVER THE INPUT: true; the input reads as it did. -/
def fnExactMostCoverSpec : ChangeSpec := { name := "fnExactMostCover", fn := fun _ => fun
  | [d] => { results := [.lit (.bool true)], args := [d] }
  | _ => none }
def fnExactMostCoverRow : OpenClaim := { program := "ytpedhnhemocblaa", sum := "22d870b8681375005b82df7eb45d3e288462b85e51594494c07782785c3cc0bc", func := "loop.example/g00072/laws.FnExactMostCover", spec := "fnExactMostCover", unfollowed := true, recurses := true, apart := false }
def FnExactMostCoverSaid : Prop := fnExactMostCoverRow.holds Try.pinned (OpenSpec.ofChange fnExactMostCoverSpec)

/-- ITS FALSE NEIGHBOUR: 'it returns false'. Refute it at one input. -/
def fnExactMostCoverWrong : ChangeSpec := { name := "fnExactMostCover", fn := fun _ => fun
  | [d] => { results := [.lit (.bool false)], args := [d] }
  | _ => none }
def FnExactMostCoverWrongFalsely : Prop := fnExactMostCoverRow.holds Try.pinned (OpenSpec.ofChange fnExactMostCoverWrong)

/-- 'laws.FnExactCoverRuns': WHATEVER THE INPUT: true; the input reads as it did. -/
def fnExactCoverRunsSpec : ChangeSpec := { name := "fnExactCoverRuns", fn := fun _ => fun
  | [d1, d2] => { results := [.lit (.bool true)], args := [d1, d2] }
  | _ => none }
def fnExactCoverRunsRow : OpenClaim := { program := "ytpedhnhemocblaa", sum := "22d870b8681375005b82df7eb45d3e288462b85e51594494c07782785c3cc0bc", func := "loop.example/g00072/laws.FnExactCoverRuns", spec := "fnExactCoverRuns", unfollowed := true, recurses := true, apart := false }
def FnExactCoverRunsSaid : Prop := fnExactCoverRunsRow.holds Try.pinned (OpenSpec.ofChange fnExactCoverRunsSpec)

/-- ITS FALSE NEIGHBOUR: 'it returns false'. Refute it at one input. -/
def fnExactCoverRunsWrong : ChangeSpec := { name := "fnExactCoverRuns", fn := fun _ => fun
  | [d1, d2] => { results := [.lit (.bool false)], args := [d1, d2] }
  | _ => none }
def FnExactCoverRunsWrongFalsely : Prop := fnExactCoverRunsRow.holds Try.pinned (OpenSpec.ofChange fnExactCoverRunsWrong)

/-- 'laws.FnExactFuseInto': WHATEVER THE INPUT: true; the input reads as it did. -/
def fnExactFuseIntoSpec : ChangeSpec := { name := "fnExactFuseInto", fn := fun _ => fun
  | [d1, d2, d3, d4, d5] => { results := [.lit (.bool true)], args := [d1, d2, d3, d4, d5] }
  | _ => none }
def fnExactFuseIntoRow : OpenClaim := { program := "ytpedhnhemocblaa", sum := "22d870b8681375005b82df7eb45d3e288462b85e51594494c07782785c3cc0bc", func := "loop.example/g00072/laws.FnExactFuseInto", spec := "fnExactFuseInto", unfollowed := true, recurses := true, apart := false }
def FnExactFuseIntoSaid : Prop := fnExactFuseIntoRow.holds Try.pinned (OpenSpec.ofChange fnExactFuseIntoSpec)

/-- ITS FALSE NEIGHBOUR: 'it returns false'. Refute it at one input. -/
def fnExactFuseIntoWrong : ChangeSpec := { name := "fnExactFuseInto", fn := fun _ => fun
  | [d1, d2, d3, d4, d5] => { results := [.lit (.bool false)], args := [d1, d2, d3, d4, d5] }
  | _ => none }
def FnExactFuseIntoWrongFalsely : Prop := fnExactFuseIntoRow.holds Try.pinned (OpenSpec.ofChange fnExactFuseIntoWrong)

/-- 'laws.FnFuseTruth': WHATEVER THE INPUT: true; the input reads as it did. -/
def fnFuseTruthSpec : ChangeSpec := { name := "fnFuseTruth", fn := fun _ => fun
  | [d] => { results := [.lit (.bool true)], args := [d] }
  | _ => none }
def fnFuseTruthRow : OpenClaim := { program := "ytpedhnhemocblaa", sum := "22d870b8681375005b82df7eb45d3e288462b85e51594494c07782785c3cc0bc", func := "loop.example/g00072/laws.FnFuseTruth", spec := "fnFuseTruth", unfollowed := true, recurses := true, apart := false }
def FnFuseTruthSaid : Prop := fnFuseTruthRow.holds Try.pinned (OpenSpec.ofChange fnFuseTruthSpec)

/-- ITS FALSE NEIGHBOUR: 'it returns false'. Refute it at one input. -/
def fnFuseTruthWrong : ChangeSpec := { name := "fnFuseTruth", fn := fun _ => fun
  | [d] => { results := [.lit (.bool false)], args := [d] }
  | _ => none }
def FnFuseTruthWrongFalsely : Prop := fnFuseTruthRow.holds Try.pinned (OpenSpec.ofChange fnFuseTruthWrong)

/-- 'laws.FnHulls': WHATEVER THE INPUT: true; the input reads as it did. -/
def fnHullsSpec : ChangeSpec := { name := "fnHulls", fn := fun _ => fun
  | [d] => { results := [.lit (.bool true)], args := [d] }
  | _ => none }
def fnHullsRow : OpenClaim := { program := "ytpedhnhemocblaa", sum := "22d870b8681375005b82df7eb45d3e288462b85e51594494c07782785c3cc0bc", func := "loop.example/g00072/laws.FnHulls", spec := "fnHulls", unfollowed := true, recurses := true, apart := false }
def FnHullsSaid : Prop := fnHullsRow.holds Try.pinned (OpenSpec.ofChange fnHullsSpec)

/-- ITS FALSE NEIGHBOUR: 'it returns false'. Refute it at one input. -/
def fnHullsWrong : ChangeSpec := { name := "fnHulls", fn := fun _ => fun
  | [d] => { results := [.lit (.bool false)], args := [d] }
  | _ => none }
def FnHullsWrongFalsely : Prop := fnHullsRow.holds Try.pinned (OpenSpec.ofChange fnHullsWrong)

/-- 'laws.FnRuns': WHATEVER THE INPUT: true; the input reads as it did. -/
def fnRunsSpec : ChangeSpec := { name := "fnRuns", fn := fun _ => fun
  | [d] => { results := [.lit (.bool true)], args := [d] }
  | _ => none }
def fnRunsRow : OpenClaim := { program := "ytpedhnhemocblaa", sum := "22d870b8681375005b82df7eb45d3e288462b85e51594494c07782785c3cc0bc", func := "loop.example/g00072/laws.FnRuns", spec := "fnRuns", unfollowed := true, recurses := true, apart := false }
def FnRunsSaid : Prop := fnRunsRow.holds Try.pinned (OpenSpec.ofChange fnRunsSpec)

/-- ITS FALSE NEIGHBOUR: 'it returns false'. Refute it at one input. -/
def fnRunsWrong : ChangeSpec := { name := "fnRuns", fn := fun _ => fun
  | [d] => { results := [.lit (.bool false)], args := [d] }
  | _ => none }
def FnRunsWrongFalsely : Prop := fnRunsRow.holds Try.pinned (OpenSpec.ofChange fnRunsWrong)

/-- 'laws.FnFuseExact': WHATEVER THE INPUT: true; the input reads as it did. -/
def fnFuseExactSpec : ChangeSpec := { name := "fnFuseExact", fn := fun _ => fun
  | [d] => { results := [.lit (.bool true)], args := [d] }
  | _ => none }
def fnFuseExactRow : OpenClaim := { program := "ytpedhnhemocblaa", sum := "22d870b8681375005b82df7eb45d3e288462b85e51594494c07782785c3cc0bc", func := "loop.example/g00072/laws.FnFuseExact", spec := "fnFuseExact", unfollowed := true, recurses := true, apart := false }
def FnFuseExactSaid : Prop := fnFuseExactRow.holds Try.pinned (OpenSpec.ofChange fnFuseExactSpec)

/-- ITS FALSE NEIGHBOUR: 'it returns false'. Refute it at one input. -/
def fnFuseExactWrong : ChangeSpec := { name := "fnFuseExact", fn := fun _ => fun
  | [d] => { results := [.lit (.bool false)], args := [d] }
  | _ => none }
def FnFuseExactWrongFalsely : Prop := fnFuseExactRow.holds Try.pinned (OpenSpec.ofChange fnFuseExactWrong)

/- THE SECOND FORM. 'bulk': how many values and letters a reading holds, each counted each time it is reached (what is shared counts as often as it is met; a slice's spare places count too). A statement '..UptoSaid' is the law's where the arguments, and the package variables that the reading takes, are together of bulk at most 1048576: NARROWER than '..Said'. Prove '..Said' where nothing that the law and all that it calls make is longer than what came in: it says more and counts as full. Else prove '..UptoSaid'. A law counts once. -/
mutual
def uptoBulk {H : Type} : DataW H → Nat
  | .lit (.string bytes) => bytes.length + 1
  | .lit _ => 1
  | .nil => 1
  | .ptr d => uptoBulk d + 1
  | .slice elems spare => uptoBulkAll elems + uptoBulkAll spare + 1
  | .agg parts => uptoBulkAll parts + 1
  | .iface _ d => uptoBulk d + 1
  | .map entries => uptoBulkEntries entries + 1
  | .held _ => 1
def uptoBulkAll {H : Type} : List (DataW H) → Nat
  | [] => 0
  | d :: r => uptoBulk d + uptoBulkAll r
def uptoBulkEntries {H : Type} : List (Lit × DataW H) → Nat
  | [] => 0
  | x :: r => uptoBulkEntry x + uptoBulkEntries r
def uptoBulkEntry {H : Type} : Lit × DataW H → Nat
  | (.string bytes, d) => bytes.length + uptoBulk d + 1
  | (_, d) => uptoBulk d + 1
 end
def uptoSmall : (H : Type) → List (DataW H) → Bool := fun _ ds => decide (uptoBulkAll ds ≤ 1048576)
def OpenSpec.upto (s : _root_.Go.ChangeSpec) : _root_.Go.OpenSpec := { _root_.Go.OpenSpec.ofChange s with cond := some uptoSmall }

/-- 'laws.FnExactSourcesOk', WHERE WHAT IT READS IS OF BULK AT MOST 1048576: true; the input reads as it did. -/
def fnExactSourcesOkUptoRow : OpenClaim := { program := "ytpedhnhemocblaa", sum := "22d870b8681375005b82df7eb45d3e288462b85e51594494c07782785c3cc0bc", func := "loop.example/g00072/laws.FnExactSourcesOk", spec := "fnExactSourcesOk", unfollowed := true, recurses := true, apart := false, narrowed := true }
def FnExactSourcesOkUptoSaid : Prop := fnExactSourcesOkUptoRow.holds Try.pinned (OpenSpec.upto fnExactSourcesOkSpec)

/-- 'laws.FnExactCoverAt', WHERE WHAT IT READS IS OF BULK AT MOST 1048576: true; the input reads as it did. -/
def fnExactCoverAtUptoRow : OpenClaim := { program := "ytpedhnhemocblaa", sum := "22d870b8681375005b82df7eb45d3e288462b85e51594494c07782785c3cc0bc", func := "loop.example/g00072/laws.FnExactCoverAt", spec := "fnExactCoverAt", unfollowed := true, recurses := true, apart := false, narrowed := true }
def FnExactCoverAtUptoSaid : Prop := fnExactCoverAtUptoRow.holds Try.pinned (OpenSpec.upto fnExactCoverAtSpec)

/-- 'laws.FnExactMissing', WHERE WHAT IT READS IS OF BULK AT MOST 1048576: true; the input reads as it did. -/
def fnExactMissingUptoRow : OpenClaim := { program := "ytpedhnhemocblaa", sum := "22d870b8681375005b82df7eb45d3e288462b85e51594494c07782785c3cc0bc", func := "loop.example/g00072/laws.FnExactMissing", spec := "fnExactMissing", unfollowed := true, recurses := true, apart := false, narrowed := true }
def FnExactMissingUptoSaid : Prop := fnExactMissingUptoRow.holds Try.pinned (OpenSpec.upto fnExactMissingSpec)

/-- 'laws.FnExactHullBySubsets', WHERE WHAT IT READS IS OF BULK AT MOST 1048576: true; the input reads as it did. -/
def fnExactHullBySubsetsUptoRow : OpenClaim := { program := "ytpedhnhemocblaa", sum := "22d870b8681375005b82df7eb45d3e288462b85e51594494c07782785c3cc0bc", func := "loop.example/g00072/laws.FnExactHullBySubsets", spec := "fnExactHullBySubsets", unfollowed := true, recurses := true, apart := false, narrowed := true }
def FnExactHullBySubsetsUptoSaid : Prop := fnExactHullBySubsetsUptoRow.holds Try.pinned (OpenSpec.upto fnExactHullBySubsetsSpec)

/-- 'laws.FnExactHullOf', WHERE WHAT IT READS IS OF BULK AT MOST 1048576: true; the input reads as it did. -/
def fnExactHullOfUptoRow : OpenClaim := { program := "ytpedhnhemocblaa", sum := "22d870b8681375005b82df7eb45d3e288462b85e51594494c07782785c3cc0bc", func := "loop.example/g00072/laws.FnExactHullOf", spec := "fnExactHullOf", unfollowed := true, recurses := true, apart := false, narrowed := true }
def FnExactHullOfUptoSaid : Prop := fnExactHullOfUptoRow.holds Try.pinned (OpenSpec.upto fnExactHullOfSpec)

/-- 'laws.FnExactMostCover', WHERE WHAT IT READS IS OF BULK AT MOST 1048576: true; the input reads as it did. -/
def fnExactMostCoverUptoRow : OpenClaim := { program := "ytpedhnhemocblaa", sum := "22d870b8681375005b82df7eb45d3e288462b85e51594494c07782785c3cc0bc", func := "loop.example/g00072/laws.FnExactMostCover", spec := "fnExactMostCover", unfollowed := true, recurses := true, apart := false, narrowed := true }
def FnExactMostCoverUptoSaid : Prop := fnExactMostCoverUptoRow.holds Try.pinned (OpenSpec.upto fnExactMostCoverSpec)

/-- 'laws.FnExactCoverRuns', WHERE WHAT IT READS IS OF BULK AT MOST 1048576: true; the input reads as it did. -/
def fnExactCoverRunsUptoRow : OpenClaim := { program := "ytpedhnhemocblaa", sum := "22d870b8681375005b82df7eb45d3e288462b85e51594494c07782785c3cc0bc", func := "loop.example/g00072/laws.FnExactCoverRuns", spec := "fnExactCoverRuns", unfollowed := true, recurses := true, apart := false, narrowed := true }
def FnExactCoverRunsUptoSaid : Prop := fnExactCoverRunsUptoRow.holds Try.pinned (OpenSpec.upto fnExactCoverRunsSpec)

/-- 'laws.FnExactFuseInto', WHERE WHAT IT READS IS OF BULK AT MOST 1048576: true; the input reads as it did. -/
def fnExactFuseIntoUptoRow : OpenClaim := { program := "ytpedhnhemocblaa", sum := "22d870b8681375005b82df7eb45d3e288462b85e51594494c07782785c3cc0bc", func := "loop.example/g00072/laws.FnExactFuseInto", spec := "fnExactFuseInto", unfollowed := true, recurses := true, apart := false, narrowed := true }
def FnExactFuseIntoUptoSaid : Prop := fnExactFuseIntoUptoRow.holds Try.pinned (OpenSpec.upto fnExactFuseIntoSpec)

/-- 'laws.FnFuseTruth', WHERE WHAT IT READS IS OF BULK AT MOST 1048576: true; the input reads as it did. -/
def fnFuseTruthUptoRow : OpenClaim := { program := "ytpedhnhemocblaa", sum := "22d870b8681375005b82df7eb45d3e288462b85e51594494c07782785c3cc0bc", func := "loop.example/g00072/laws.FnFuseTruth", spec := "fnFuseTruth", unfollowed := true, recurses := true, apart := false, narrowed := true }
def FnFuseTruthUptoSaid : Prop := fnFuseTruthUptoRow.holds Try.pinned (OpenSpec.upto fnFuseTruthSpec)

/-- 'laws.FnHulls', WHERE WHAT IT READS IS OF BULK AT MOST 1048576: true; the input reads as it did. -/
def fnHullsUptoRow : OpenClaim := { program := "ytpedhnhemocblaa", sum := "22d870b8681375005b82df7eb45d3e288462b85e51594494c07782785c3cc0bc", func := "loop.example/g00072/laws.FnHulls", spec := "fnHulls", unfollowed := true, recurses := true, apart := false, narrowed := true }
def FnHullsUptoSaid : Prop := fnHullsUptoRow.holds Try.pinned (OpenSpec.upto fnHullsSpec)

/-- 'laws.FnRuns', WHERE WHAT IT READS IS OF BULK AT MOST 1048576: true; the input reads as it did. -/
def fnRunsUptoRow : OpenClaim := { program := "ytpedhnhemocblaa", sum := "22d870b8681375005b82df7eb45d3e288462b85e51594494c07782785c3cc0bc", func := "loop.example/g00072/laws.FnRuns", spec := "fnRuns", unfollowed := true, recurses := true, apart := false, narrowed := true }
def FnRunsUptoSaid : Prop := fnRunsUptoRow.holds Try.pinned (OpenSpec.upto fnRunsSpec)

/-- 'laws.FnFuseExact', WHERE WHAT IT READS IS OF BULK AT MOST 1048576: true; the input reads as it did. -/
def fnFuseExactUptoRow : OpenClaim := { program := "ytpedhnhemocblaa", sum := "22d870b8681375005b82df7eb45d3e288462b85e51594494c07782785c3cc0bc", func := "loop.example/g00072/laws.FnFuseExact", spec := "fnFuseExact", unfollowed := true, recurses := true, apart := false, narrowed := true }
def FnFuseExactUptoSaid : Prop := fnFuseExactUptoRow.holds Try.pinned (OpenSpec.upto fnFuseExactSpec)

end Rows
end Go.Proofs.Ytpedhnhemocblaa
