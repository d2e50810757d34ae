/-
  No cell of these rows narrows 'for every input' (looked for: loops, veiled, ifaces, maps, wideKeys, modest, calm, conditions, laid).
  DERIVED. THE GIVEN ROWS OF THIS SEAT. 12 by the template 'for every input the law returns true; each argument reads behind the call as it read before'; 0 by the template 'total and deterministic' (their statements: YthgcceochfjfcaaTotals.lean).
  GIVEN WITH THE SEED: the statements are not yours to turn. If you find one false, say at which input.
  Laid BY PROGRAM, IN A SANDBOX (cutbox-rows.mjs): the forced cells as the released guide's own fill.sh prints them over the translation bbf06f6d570e77a6… (all of the seat's roots in one cut). By AI agents, Wed Nov 11 2026. No macro, syntax, notation, axiom, sorry.
-/
import Derived.Test.YthgcceochfjfcaaChecked
import GoSem.Claim
import GoSem.ClaimJoined
import GoSem.ClaimMapViews
import Derived.JoinedTies
import Derived.KernelRfl
namespace Go.Proofs.Ythgcceochfjfcaa
/- THE CELL 'sum', in the pinned program and in every row, IS THE sha256 OF THE DUMP (.gsa) THAT YthgcceochfjfcaaProg.lean LOADS. Nothing in Lean hashes anything: it is a label: what it is worth is what the hold of that sum in a sandbox is worth. -/
noncomputable def Try.pinned : Pinned := { name := "ythgcceochfjfcaa", sum := "bbf06f6d570e77a607a261f77539a3c7a3e86caecda4f334002aabbbcda67ed9", checked := Try.checked }
namespace Rows
def none {H : Type} : Left H := { results := [], args := [] }

/-- 'laws.FnExactAppOk': WHATEVER THE INPUT: true; the input reads as it did. -/
def fnExactAppOkSpec : ChangeSpec := { name := "fnExactAppOk", fn := fun _ => fun
  | [d] => { results := [.lit (.bool true)], args := [d] }
  | _ => none }
def fnExactAppOkRow : OpenClaim := { program := "ythgcceochfjfcaa", sum := "bbf06f6d570e77a607a261f77539a3c7a3e86caecda4f334002aabbbcda67ed9", func := "loop.example/g00072/laws.FnExactAppOk", spec := "fnExactAppOk", apart := false }
def FnExactAppOkSaid : Prop := fnExactAppOkRow.holds Try.pinned (OpenSpec.ofChange fnExactAppOkSpec)

/-- ITS FALSE NEIGHBOUR: 'it returns false'. Refute it at one input. -/
def fnExactAppOkWrong : ChangeSpec := { name := "fnExactAppOk", fn := fun _ => fun
  | [d] => { results := [.lit (.bool false)], args := [d] }
  | _ => none }
def FnExactAppOkWrongFalsely : Prop := fnExactAppOkRow.holds Try.pinned (OpenSpec.ofChange fnExactAppOkWrong)

/-- 'laws.FnExactAppLag': WHATEVER THE INPUT: true; the input reads as it did. -/
def fnExactAppLagSpec : ChangeSpec := { name := "fnExactAppLag", fn := fun _ => fun
  | [d1, d2] => { results := [.lit (.bool true)], args := [d1, d2] }
  | _ => none }
def fnExactAppLagRow : OpenClaim := { program := "ythgcceochfjfcaa", sum := "bbf06f6d570e77a607a261f77539a3c7a3e86caecda4f334002aabbbcda67ed9", func := "loop.example/g00072/laws.FnExactAppLag", spec := "fnExactAppLag", apart := false }
def FnExactAppLagSaid : Prop := fnExactAppLagRow.holds Try.pinned (OpenSpec.ofChange fnExactAppLagSpec)

/-- ITS FALSE NEIGHBOUR: 'it returns false'. Refute it at one input. -/
def fnExactAppLagWrong : ChangeSpec := { name := "fnExactAppLag", fn := fun _ => fun
  | [d1, d2] => { results := [.lit (.bool false)], args := [d1, d2] }
  | _ => none }
def FnExactAppLagWrongFalsely : Prop := fnExactAppLagRow.holds Try.pinned (OpenSpec.ofChange fnExactAppLagWrong)

/-- 'laws.FnExactAppRead': WHATEVER THE INPUT: true; the input reads as it did. -/
def fnExactAppReadSpec : ChangeSpec := { name := "fnExactAppRead", fn := fun _ => fun
  | [d1, d2, d3] => { results := [.lit (.bool true)], args := [d1, d2, d3] }
  | _ => none }
def fnExactAppReadRow : OpenClaim := { program := "ythgcceochfjfcaa", sum := "bbf06f6d570e77a607a261f77539a3c7a3e86caecda4f334002aabbbcda67ed9", func := "loop.example/g00072/laws.FnExactAppRead", spec := "fnExactAppRead", apart := false }
def FnExactAppReadSaid : Prop := fnExactAppReadRow.holds Try.pinned (OpenSpec.ofChange fnExactAppReadSpec)

/-- ITS FALSE NEIGHBOUR: 'it returns false'. Refute it at one input. -/
def fnExactAppReadWrong : ChangeSpec := { name := "fnExactAppRead", fn := fun _ => fun
  | [d1, d2, d3] => { results := [.lit (.bool false)], args := [d1, d2, d3] }
  | _ => none }
def FnExactAppReadWrongFalsely : Prop := fnExactAppReadRow.holds Try.pinned (OpenSpec.ofChange fnExactAppReadWrong)

/-- 'laws.FnExactReadsOk': WHATEVER THE INPUT: true; the input reads as it did. -/
def fnExactReadsOkSpec : ChangeSpec := { name := "fnExactReadsOk", fn := fun _ => fun
  | [d1, d2] => { results := [.lit (.bool true)], args := [d1, d2] }
  | _ => none }
def fnExactReadsOkRow : OpenClaim := { program := "ythgcceochfjfcaa", sum := "bbf06f6d570e77a607a261f77539a3c7a3e86caecda4f334002aabbbcda67ed9", func := "loop.example/g00072/laws.FnExactReadsOk", spec := "fnExactReadsOk", apart := false }
def FnExactReadsOkSaid : Prop := fnExactReadsOkRow.holds Try.pinned (OpenSpec.ofChange fnExactReadsOkSpec)

/-- ITS FALSE NEIGHBOUR: 'it returns false'. Refute it at one input. -/
def fnExactReadsOkWrong : ChangeSpec := { name := "fnExactReadsOk", fn := fun _ => fun
  | [d1, d2] => { results := [.lit (.bool false)], args := [d1, d2] }
  | _ => none }
def FnExactReadsOkWrongFalsely : Prop := fnExactReadsOkRow.holds Try.pinned (OpenSpec.ofChange fnExactReadsOkWrong)

/-- 'laws.FnExactFracOk': WHATEVER THE INPUT: true; the input reads as it did. -/
def fnExactFracOkSpec : ChangeSpec := { name := "fnExactFracOk", fn := fun _ => fun
  | [d] => { results := [.lit (.bool true)], args := [d] }
  | _ => none }
def fnExactFracOkRow : OpenClaim := { program := "ythgcceochfjfcaa", sum := "bbf06f6d570e77a607a261f77539a3c7a3e86caecda4f334002aabbbcda67ed9", func := "loop.example/g00072/laws.FnExactFracOk", spec := "fnExactFracOk", apart := false }
def FnExactFracOkSaid : Prop := fnExactFracOkRow.holds Try.pinned (OpenSpec.ofChange fnExactFracOkSpec)

/-- ITS FALSE NEIGHBOUR: 'it returns false'. Refute it at one input. -/
def fnExactFracOkWrong : ChangeSpec := { name := "fnExactFracOk", fn := fun _ => fun
  | [d] => { results := [.lit (.bool false)], args := [d] }
  | _ => none }
def FnExactFracOkWrongFalsely : Prop := fnExactFracOkRow.holds Try.pinned (OpenSpec.ofChange fnExactFracOkWrong)

/-- 'laws.FnExactFracOf': WHATEVER THE INPUT: true; the input reads as it did. -/
def fnExactFracOfSpec : ChangeSpec := { name := "fnExactFracOf", fn := fun _ => fun
  | [d1, d2] => { results := [.lit (.bool true)], args := [d1, d2] }
  | _ => none }
def fnExactFracOfRow : OpenClaim := { program := "ythgcceochfjfcaa", sum := "bbf06f6d570e77a607a261f77539a3c7a3e86caecda4f334002aabbbcda67ed9", func := "loop.example/g00072/laws.FnExactFracOf", spec := "fnExactFracOf", apart := false }
def FnExactFracOfSaid : Prop := fnExactFracOfRow.holds Try.pinned (OpenSpec.ofChange fnExactFracOfSpec)

/-- ITS FALSE NEIGHBOUR: 'it returns false'. Refute it at one input. -/
def fnExactFracOfWrong : ChangeSpec := { name := "fnExactFracOf", fn := fun _ => fun
  | [d1, d2] => { results := [.lit (.bool false)], args := [d1, d2] }
  | _ => none }
def FnExactFracOfWrongFalsely : Prop := fnExactFracOfRow.holds Try.pinned (OpenSpec.ofChange fnExactFracOfWrong)

/-- 'laws.FnExactRateOfDrift': WHATEVER THE INPUT: true; the input reads as it did. -/
def fnExactRateOfDriftSpec : ChangeSpec := { name := "fnExactRateOfDrift", fn := fun _ => fun
  | [d] => { results := [.lit (.bool true)], args := [d] }
  | _ => none }
def fnExactRateOfDriftRow : OpenClaim := { program := "ythgcceochfjfcaa", sum := "bbf06f6d570e77a607a261f77539a3c7a3e86caecda4f334002aabbbcda67ed9", func := "loop.example/g00072/laws.FnExactRateOfDrift", spec := "fnExactRateOfDrift", apart := false }
def FnExactRateOfDriftSaid : Prop := fnExactRateOfDriftRow.holds Try.pinned (OpenSpec.ofChange fnExactRateOfDriftSpec)

/-- ITS FALSE NEIGHBOUR: 'it returns false'. Refute it at one input. -/
def fnExactRateOfDriftWrong : ChangeSpec := { name := "fnExactRateOfDrift", fn := fun _ => fun
  | [d] => { results := [.lit (.bool false)], args := [d] }
  | _ => none }
def FnExactRateOfDriftWrongFalsely : Prop := fnExactRateOfDriftRow.holds Try.pinned (OpenSpec.ofChange fnExactRateOfDriftWrong)

/-- 'laws.FnExactRateOf': WHATEVER THE INPUT: true; the input reads as it did. -/
def fnExactRateOfSpec : ChangeSpec := { name := "fnExactRateOf", fn := fun _ => fun
  | [d1, d2, d3, d4] => { results := [.lit (.bool true)], args := [d1, d2, d3, d4] }
  | _ => none }
def fnExactRateOfRow : OpenClaim := { program := "ythgcceochfjfcaa", sum := "bbf06f6d570e77a607a261f77539a3c7a3e86caecda4f334002aabbbcda67ed9", func := "loop.example/g00072/laws.FnExactRateOf", spec := "fnExactRateOf", apart := false }
def FnExactRateOfSaid : Prop := fnExactRateOfRow.holds Try.pinned (OpenSpec.ofChange fnExactRateOfSpec)

/-- ITS FALSE NEIGHBOUR: 'it returns false'. Refute it at one input. -/
def fnExactRateOfWrong : ChangeSpec := { name := "fnExactRateOf", fn := fun _ => fun
  | [d1, d2, d3, d4] => { results := [.lit (.bool false)], args := [d1, d2, d3, d4] }
  | _ => none }
def FnExactRateOfWrongFalsely : Prop := fnExactRateOfRow.holds Try.pinned (OpenSpec.ofChange fnExactRateOfWrong)

/-- 'laws.FnExactRateCarry': WHATEVER THE INPUT: true; the input reads as it did. -/
def fnExactRateCarrySpec : ChangeSpec := { name := "fnExactRateCarry", fn := fun _ => fun
  | [d1, d2, d3] => { results := [.lit (.bool true)], args := [d1, d2, d3] }
  | _ => none }
def fnExactRateCarryRow : OpenClaim := { program := "ythgcceochfjfcaa", sum := "bbf06f6d570e77a607a261f77539a3c7a3e86caecda4f334002aabbbcda67ed9", func := "loop.example/g00072/laws.FnExactRateCarry", spec := "fnExactRateCarry", apart := false }
def FnExactRateCarrySaid : Prop := fnExactRateCarryRow.holds Try.pinned (OpenSpec.ofChange fnExactRateCarrySpec)

/-- ITS FALSE NEIGHBOUR: 'it returns false'. Refute it at one input. -/
def fnExactRateCarryWrong : ChangeSpec := { name := "fnExactRateCarry", fn := fun _ => fun
  | [d1, d2, d3] => { results := [.lit (.bool false)], args := [d1, d2, d3] }
  | _ => none }
def FnExactRateCarryWrongFalsely : Prop := fnExactRateCarryRow.holds Try.pinned (OpenSpec.ofChange fnExactRateCarryWrong)

/-- 'laws.FnExactFracCmp': WHATEVER THE INPUT: true; the input reads as it did. -/
def fnExactFracCmpSpec : ChangeSpec := { name := "fnExactFracCmp", fn := fun _ => fun
  | [d1, d2] => { results := [.lit (.bool true)], args := [d1, d2] }
  | _ => none }
def fnExactFracCmpRow : OpenClaim := { program := "ythgcceochfjfcaa", sum := "bbf06f6d570e77a607a261f77539a3c7a3e86caecda4f334002aabbbcda67ed9", func := "loop.example/g00072/laws.FnExactFracCmp", spec := "fnExactFracCmp", apart := false }
def FnExactFracCmpSaid : Prop := fnExactFracCmpRow.holds Try.pinned (OpenSpec.ofChange fnExactFracCmpSpec)

/-- ITS FALSE NEIGHBOUR: 'it returns false'. Refute it at one input. -/
def fnExactFracCmpWrong : ChangeSpec := { name := "fnExactFracCmp", fn := fun _ => fun
  | [d1, d2] => { results := [.lit (.bool false)], args := [d1, d2] }
  | _ => none }
def FnExactFracCmpWrongFalsely : Prop := fnExactFracCmpRow.holds Try.pinned (OpenSpec.ofChange fnExactFracCmpWrong)

/-- 'laws.FnExactRatesMeet': WHATEVER THE INPUT: true; the input reads as it did. -/
def fnExactRatesMeetSpec : ChangeSpec := { name := "fnExactRatesMeet", fn := fun _ => fun
  | [d1, d2, d3, d4] => { results := [.lit (.bool true)], args := [d1, d2, d3, d4] }
  | _ => none }
def fnExactRatesMeetRow : OpenClaim := { program := "ythgcceochfjfcaa", sum := "bbf06f6d570e77a607a261f77539a3c7a3e86caecda4f334002aabbbcda67ed9", func := "loop.example/g00072/laws.FnExactRatesMeet", spec := "fnExactRatesMeet", apart := false }
def FnExactRatesMeetSaid : Prop := fnExactRatesMeetRow.holds Try.pinned (OpenSpec.ofChange fnExactRatesMeetSpec)

/-- ITS FALSE NEIGHBOUR: 'it returns false'. Refute it at one input. -/
def fnExactRatesMeetWrong : ChangeSpec := { name := "fnExactRatesMeet", fn := fun _ => fun
  | [d1, d2, d3, d4] => { results := [.lit (.bool false)], args := [d1, d2, d3, d4] }
  | _ => none }
def FnExactRatesMeetWrongFalsely : Prop := fnExactRatesMeetRow.holds Try.pinned (OpenSpec.ofChange fnExactRatesMeetWrong)

/-- 'laws.FnExactRateBroken': WHATEVER THE INPUT: true; the input reads as it did. -/
def fnExactRateBrokenSpec : ChangeSpec := { name := "fnExactRateBroken", fn := fun _ => fun
  | [d1, d2, d3, d4, d5] => { results := [.lit (.bool true)], args := [d1, d2, d3, d4, d5] }
  | _ => none }
def fnExactRateBrokenRow : OpenClaim := { program := "ythgcceochfjfcaa", sum := "bbf06f6d570e77a607a261f77539a3c7a3e86caecda4f334002aabbbcda67ed9", func := "loop.example/g00072/laws.FnExactRateBroken", spec := "fnExactRateBroken", apart := false }
def FnExactRateBrokenSaid : Prop := fnExactRateBrokenRow.holds Try.pinned (OpenSpec.ofChange fnExactRateBrokenSpec)

/-- ITS FALSE NEIGHBOUR: 'it returns false'. Refute it at one input. -/
def fnExactRateBrokenWrong : ChangeSpec := { name := "fnExactRateBroken", fn := fun _ => fun
  | [d1, d2, d3, d4, d5] => { results := [.lit (.bool false)], args := [d1, d2, d3, d4, d5] }
  | _ => none }
def FnExactRateBrokenWrongFalsely : Prop := fnExactRateBrokenRow.holds Try.pinned (OpenSpec.ofChange fnExactRateBrokenWrong)

/- THE SECOND FORM. 'bulk': how many values and letters a reading holds, each counted each time it is reached (what is shared counts as often as it is met; a slice's spare places count too). A statement '..UptoSaid' is the law's where the arguments, and the package variables that the reading takes, are together of bulk at most 1048576: NARROWER than '..Said'. Prove '..Said' where nothing that the law and all that it calls make is longer than what came in: it says more and counts as full. Else prove '..UptoSaid'. A law counts once. -/
mutual
def uptoBulk {H : Type} : DataW H → Nat
  | .lit (.string bytes) => bytes.length + 1
  | .lit _ => 1
  | .nil => 1
  | .ptr d => uptoBulk d + 1
  | .slice elems spare => uptoBulkAll elems + uptoBulkAll spare + 1
  | .agg parts => uptoBulkAll parts + 1
  | .iface _ d => uptoBulk d + 1
  | .map entries => uptoBulkEntries entries + 1
  | .held _ => 1
def uptoBulkAll {H : Type} : List (DataW H) → Nat
  | [] => 0
  | d :: r => uptoBulk d + uptoBulkAll r
def uptoBulkEntries {H : Type} : List (Lit × DataW H) → Nat
  | [] => 0
  | x :: r => uptoBulkEntry x + uptoBulkEntries r
def uptoBulkEntry {H : Type} : Lit × DataW H → Nat
  | (.string bytes, d) => bytes.length + uptoBulk d + 1
  | (_, d) => uptoBulk d + 1
 end
def uptoSmall : (H : Type) → List (DataW H) → Bool := fun _ ds => decide (uptoBulkAll ds ≤ 1048576)
def OpenSpec.upto (s : _root_.Go.ChangeSpec) : _root_.Go.OpenSpec := { _root_.Go.OpenSpec.ofChange s with cond := some uptoSmall }

/-- 'laws.FnExactAppOk', WHERE WHAT IT READS IS OF BULK AT MOST 1048576: true; the input reads as it did. -/
def fnExactAppOkUptoRow : OpenClaim := { program := "ythgcceochfjfcaa", sum := "bbf06f6d570e77a607a261f77539a3c7a3e86caecda4f334002aabbbcda67ed9", func := "loop.example/g00072/laws.FnExactAppOk", spec := "fnExactAppOk", apart := false, narrowed := true }
def FnExactAppOkUptoSaid : Prop := fnExactAppOkUptoRow.holds Try.pinned (OpenSpec.upto fnExactAppOkSpec)

/-- 'laws.FnExactAppLag', WHERE WHAT IT READS IS OF BULK AT MOST 1048576: true; the input reads as it did. -/
def fnExactAppLagUptoRow : OpenClaim := { program := "ythgcceochfjfcaa", sum := "bbf06f6d570e77a607a261f77539a3c7a3e86caecda4f334002aabbbcda67ed9", func := "loop.example/g00072/laws.FnExactAppLag", spec := "fnExactAppLag", apart := false, narrowed := true }
def FnExactAppLagUptoSaid : Prop := fnExactAppLagUptoRow.holds Try.pinned (OpenSpec.upto fnExactAppLagSpec)

/-- 'laws.FnExactAppRead', WHERE WHAT IT READS IS OF BULK AT MOST 1048576: true; the input reads as it did. -/
def fnExactAppReadUptoRow : OpenClaim := { program := "ythgcceochfjfcaa", sum := "bbf06f6d570e77a607a261f77539a3c7a3e86caecda4f334002aabbbcda67ed9", func := "loop.example/g00072/laws.FnExactAppRead", spec := "fnExactAppRead", apart := false, narrowed := true }
def FnExactAppReadUptoSaid : Prop := fnExactAppReadUptoRow.holds Try.pinned (OpenSpec.upto fnExactAppReadSpec)

/-- 'laws.FnExactReadsOk', WHERE WHAT IT READS IS OF BULK AT MOST 1048576: true; the input reads as it did. -/
def fnExactReadsOkUptoRow : OpenClaim := { program := "ythgcceochfjfcaa", sum := "bbf06f6d570e77a607a261f77539a3c7a3e86caecda4f334002aabbbcda67ed9", func := "loop.example/g00072/laws.FnExactReadsOk", spec := "fnExactReadsOk", apart := false, narrowed := true }
def FnExactReadsOkUptoSaid : Prop := fnExactReadsOkUptoRow.holds Try.pinned (OpenSpec.upto fnExactReadsOkSpec)

/-- 'laws.FnExactFracOk', WHERE WHAT IT READS IS OF BULK AT MOST 1048576: true; the input reads as it did. -/
def fnExactFracOkUptoRow : OpenClaim := { program := "ythgcceochfjfcaa", sum := "bbf06f6d570e77a607a261f77539a3c7a3e86caecda4f334002aabbbcda67ed9", func := "loop.example/g00072/laws.FnExactFracOk", spec := "fnExactFracOk", apart := false, narrowed := true }
def FnExactFracOkUptoSaid : Prop := fnExactFracOkUptoRow.holds Try.pinned (OpenSpec.upto fnExactFracOkSpec)

/-- 'laws.FnExactFracOf', WHERE WHAT IT READS IS OF BULK AT MOST 1048576: true; the input reads as it did. -/
def fnExactFracOfUptoRow : OpenClaim := { program := "ythgcceochfjfcaa", sum := "bbf06f6d570e77a607a261f77539a3c7a3e86caecda4f334002aabbbcda67ed9", func := "loop.example/g00072/laws.FnExactFracOf", spec := "fnExactFracOf", apart := false, narrowed := true }
def FnExactFracOfUptoSaid : Prop := fnExactFracOfUptoRow.holds Try.pinned (OpenSpec.upto fnExactFracOfSpec)

/-- 'laws.FnExactRateOfDrift', WHERE WHAT IT READS IS OF BULK AT MOST 1048576: true; the input reads as it did. -/
def fnExactRateOfDriftUptoRow : OpenClaim := { program := "ythgcceochfjfcaa", sum := "bbf06f6d570e77a607a261f77539a3c7a3e86caecda4f334002aabbbcda67ed9", func := "loop.example/g00072/laws.FnExactRateOfDrift", spec := "fnExactRateOfDrift", apart := false, narrowed := true }
def FnExactRateOfDriftUptoSaid : Prop := fnExactRateOfDriftUptoRow.holds Try.pinned (OpenSpec.upto fnExactRateOfDriftSpec)

/-- 'laws.FnExactRateOf', WHERE WHAT IT READS IS OF BULK AT MOST 1048576: true; the input reads as it did. -/
def fnExactRateOfUptoRow : OpenClaim := { program := "ythgcceochfjfcaa", sum := "bbf06f6d570e77a607a261f77539a3c7a3e86caecda4f334002aabbbcda67ed9", func := "loop.example/g00072/laws.FnExactRateOf", spec := "fnExactRateOf", apart := false, narrowed := true }
def FnExactRateOfUptoSaid : Prop := fnExactRateOfUptoRow.holds Try.pinned (OpenSpec.upto fnExactRateOfSpec)

/-- 'laws.FnExactRateCarry', WHERE WHAT IT READS IS OF BULK AT MOST 1048576: true; the input reads as it did. -/
def fnExactRateCarryUptoRow : OpenClaim := { program := "ythgcceochfjfcaa", sum := "bbf06f6d570e77a607a261f77539a3c7a3e86caecda4f334002aabbbcda67ed9", func := "loop.example/g00072/laws.FnExactRateCarry", spec := "fnExactRateCarry", apart := false, narrowed := true }
def FnExactRateCarryUptoSaid : Prop := fnExactRateCarryUptoRow.holds Try.pinned (OpenSpec.upto fnExactRateCarrySpec)

/-- 'laws.FnExactFracCmp', WHERE WHAT IT READS IS OF BULK AT MOST 1048576: true; the input reads as it did. -/
def fnExactFracCmpUptoRow : OpenClaim := { program := "ythgcceochfjfcaa", sum := "bbf06f6d570e77a607a261f77539a3c7a3e86caecda4f334002aabbbcda67ed9", func := "loop.example/g00072/laws.FnExactFracCmp", spec := "fnExactFracCmp", apart := false, narrowed := true }
def FnExactFracCmpUptoSaid : Prop := fnExactFracCmpUptoRow.holds Try.pinned (OpenSpec.upto fnExactFracCmpSpec)

/-- 'laws.FnExactRatesMeet', WHERE WHAT IT READS IS OF BULK AT MOST 1048576: true; the input reads as it did. -/
def fnExactRatesMeetUptoRow : OpenClaim := { program := "ythgcceochfjfcaa", sum := "bbf06f6d570e77a607a261f77539a3c7a3e86caecda4f334002aabbbcda67ed9", func := "loop.example/g00072/laws.FnExactRatesMeet", spec := "fnExactRatesMeet", apart := false, narrowed := true }
def FnExactRatesMeetUptoSaid : Prop := fnExactRatesMeetUptoRow.holds Try.pinned (OpenSpec.upto fnExactRatesMeetSpec)

/-- 'laws.FnExactRateBroken', WHERE WHAT IT READS IS OF BULK AT MOST 1048576: true; the input reads as it did. -/
def fnExactRateBrokenUptoRow : OpenClaim := { program := "ythgcceochfjfcaa", sum := "bbf06f6d570e77a607a261f77539a3c7a3e86caecda4f334002aabbbcda67ed9", func := "loop.example/g00072/laws.FnExactRateBroken", spec := "fnExactRateBroken", apart := false, narrowed := true }
def FnExactRateBrokenUptoSaid : Prop := fnExactRateBrokenUptoRow.holds Try.pinned (OpenSpec.upto fnExactRateBrokenSpec)

end Rows
end Go.Proofs.Ythgcceochfjfcaa
