/-
  No cell of these rows narrows 'for every input' (looked for: loops, veiled, ifaces, maps, wideKeys, modest, calm, conditions, laid).
  DERIVED. THE GIVEN ROWS OF THIS SEAT. 7 by the template 'for every input the law returns true; each argument reads behind the call as it read before'; 0 by the template 'total and deterministic' (their statements: YtomfappebadllaaTotals.lean).
  GIVEN WITH THE SEED: the statements are not yours to turn. If you find one false, say at which input.
  Laid BY PROGRAM, IN A SANDBOX (cutbox-rows.mjs): the forced cells as the released guide's own fill.sh prints them over the translation c8dad3d5730c4176… (all of the seat's roots in one cut). By AI agents, Wed Nov 11 2026. No macro, syntax, notation, axiom, sorry.
-/
import Derived.Test.YtomfappebadllaaChecked
import GoSem.Claim
import GoSem.ClaimJoined
import GoSem.ClaimMapViews
import Derived.JoinedTies
import Derived.KernelRfl
namespace Go.Proofs.Ytomfappebadllaa
/- THE CELL 'sum', in the pinned program and in every row, IS THE sha256 OF THE DUMP (.gsa) THAT YtomfappebadllaaProg.lean LOADS. Nothing in Lean hashes anything: it is a label: what it is worth is what the hold of that sum in a sandbox is worth. -/
noncomputable def Try.pinned : Pinned := { name := "ytomfappebadllaa", sum := "c8dad3d5730c4176c2fcc0eee6460cd7f1d737feb9c41a98973eff07455b42a5", checked := Try.checked }
namespace Rows
def none {H : Type} : Left H := { results := [], args := [] }

/-- 'laws.FnExactNonceOf': WHATEVER THE INPUT: true; the input reads as it did. -/
def fnExactNonceOfSpec : ChangeSpec := { name := "fnExactNonceOf", fn := fun _ => fun
  | [d1, d2] => { results := [.lit (.bool true)], args := [d1, d2] }
  | _ => none }
def fnExactNonceOfRow : OpenClaim := { program := "ytomfappebadllaa", sum := "c8dad3d5730c4176c2fcc0eee6460cd7f1d737feb9c41a98973eff07455b42a5", func := "loop.example/g00072/laws.FnExactNonceOf", spec := "fnExactNonceOf", apart := false }
def FnExactNonceOfSaid : Prop := fnExactNonceOfRow.holds Try.pinned (OpenSpec.ofChange fnExactNonceOfSpec)

/-- ITS FALSE NEIGHBOUR: 'it returns false'. Refute it at one input. -/
def fnExactNonceOfWrong : ChangeSpec := { name := "fnExactNonceOf", fn := fun _ => fun
  | [d1, d2] => { results := [.lit (.bool false)], args := [d1, d2] }
  | _ => none }
def FnExactNonceOfWrongFalsely : Prop := fnExactNonceOfRow.holds Try.pinned (OpenSpec.ofChange fnExactNonceOfWrong)

/-- 'laws.FnExactNonceParts': WHATEVER THE INPUT: true; the input reads as it did. -/
def fnExactNoncePartsSpec : ChangeSpec := { name := "fnExactNonceParts", fn := fun _ => fun
  | [d] => { results := [.lit (.bool true)], args := [d] }
  | _ => none }
def fnExactNoncePartsRow : OpenClaim := { program := "ytomfappebadllaa", sum := "c8dad3d5730c4176c2fcc0eee6460cd7f1d737feb9c41a98973eff07455b42a5", func := "loop.example/g00072/laws.FnExactNonceParts", spec := "fnExactNonceParts", apart := false }
def FnExactNoncePartsSaid : Prop := fnExactNoncePartsRow.holds Try.pinned (OpenSpec.ofChange fnExactNoncePartsSpec)

/-- ITS FALSE NEIGHBOUR: 'it returns false'. Refute it at one input. -/
def fnExactNoncePartsWrong : ChangeSpec := { name := "fnExactNonceParts", fn := fun _ => fun
  | [d] => { results := [.lit (.bool false)], args := [d] }
  | _ => none }
def FnExactNoncePartsWrongFalsely : Prop := fnExactNoncePartsRow.holds Try.pinned (OpenSpec.ofChange fnExactNoncePartsWrong)

/-- 'laws.FnExactTableOk': WHATEVER THE INPUT: true; the input reads as it did. -/
def fnExactTableOkSpec : ChangeSpec := { name := "fnExactTableOk", fn := fun _ => fun
  | [d] => { results := [.lit (.bool true)], args := [d] }
  | _ => none }
def fnExactTableOkRow : OpenClaim := { program := "ytomfappebadllaa", sum := "c8dad3d5730c4176c2fcc0eee6460cd7f1d737feb9c41a98973eff07455b42a5", func := "loop.example/g00072/laws.FnExactTableOk", spec := "fnExactTableOk", apart := false }
def FnExactTableOkSaid : Prop := fnExactTableOkRow.holds Try.pinned (OpenSpec.ofChange fnExactTableOkSpec)

/-- ITS FALSE NEIGHBOUR: 'it returns false'. Refute it at one input. -/
def fnExactTableOkWrong : ChangeSpec := { name := "fnExactTableOk", fn := fun _ => fun
  | [d] => { results := [.lit (.bool false)], args := [d] }
  | _ => none }
def FnExactTableOkWrongFalsely : Prop := fnExactTableOkRow.holds Try.pinned (OpenSpec.ofChange fnExactTableOkWrong)

/-- 'laws.FnExactWaits': WHATEVER THE INPUT: true; the input reads as it did. -/
def fnExactWaitsSpec : ChangeSpec := { name := "fnExactWaits", fn := fun _ => fun
  | [d1, d2] => { results := [.lit (.bool true)], args := [d1, d2] }
  | _ => none }
def fnExactWaitsRow : OpenClaim := { program := "ytomfappebadllaa", sum := "c8dad3d5730c4176c2fcc0eee6460cd7f1d737feb9c41a98973eff07455b42a5", func := "loop.example/g00072/laws.FnExactWaits", spec := "fnExactWaits", unfollowed := true, recurses := true, apart := false }
def FnExactWaitsSaid : Prop := fnExactWaitsRow.holds Try.pinned (OpenSpec.ofChange fnExactWaitsSpec)

/-- ITS FALSE NEIGHBOUR: 'it returns false'. Refute it at one input. -/
def fnExactWaitsWrong : ChangeSpec := { name := "fnExactWaits", fn := fun _ => fun
  | [d1, d2] => { results := [.lit (.bool false)], args := [d1, d2] }
  | _ => none }
def FnExactWaitsWrongFalsely : Prop := fnExactWaitsRow.holds Try.pinned (OpenSpec.ofChange fnExactWaitsWrong)

/-- 'laws.FnExactReboot': WHATEVER THE INPUT: true; the input reads as it did. -/
def fnExactRebootSpec : ChangeSpec := { name := "fnExactReboot", fn := fun _ => fun
  | [d1, d2] => { results := [.lit (.bool true)], args := [d1, d2] }
  | _ => none }
def fnExactRebootRow : OpenClaim := { program := "ytomfappebadllaa", sum := "c8dad3d5730c4176c2fcc0eee6460cd7f1d737feb9c41a98973eff07455b42a5", func := "loop.example/g00072/laws.FnExactReboot", spec := "fnExactReboot", apart := false }
def FnExactRebootSaid : Prop := fnExactRebootRow.holds Try.pinned (OpenSpec.ofChange fnExactRebootSpec)

/-- ITS FALSE NEIGHBOUR: 'it returns false'. Refute it at one input. -/
def fnExactRebootWrong : ChangeSpec := { name := "fnExactReboot", fn := fun _ => fun
  | [d1, d2] => { results := [.lit (.bool false)], args := [d1, d2] }
  | _ => none }
def FnExactRebootWrongFalsely : Prop := fnExactRebootRow.holds Try.pinned (OpenSpec.ofChange fnExactRebootWrong)

/-- 'laws.FnExactExpireAsks': WHATEVER THE INPUT: true; the input reads as it did. -/
def fnExactExpireAsksSpec : ChangeSpec := { name := "fnExactExpireAsks", fn := fun _ => fun
  | [d1, d2, d3] => { results := [.lit (.bool true)], args := [d1, d2, d3] }
  | _ => none }
def fnExactExpireAsksRow : OpenClaim := { program := "ytomfappebadllaa", sum := "c8dad3d5730c4176c2fcc0eee6460cd7f1d737feb9c41a98973eff07455b42a5", func := "loop.example/g00072/laws.FnExactExpireAsks", spec := "fnExactExpireAsks", apart := false }
def FnExactExpireAsksSaid : Prop := fnExactExpireAsksRow.holds Try.pinned (OpenSpec.ofChange fnExactExpireAsksSpec)

/-- ITS FALSE NEIGHBOUR: 'it returns false'. Refute it at one input. -/
def fnExactExpireAsksWrong : ChangeSpec := { name := "fnExactExpireAsks", fn := fun _ => fun
  | [d1, d2, d3] => { results := [.lit (.bool false)], args := [d1, d2, d3] }
  | _ => none }
def FnExactExpireAsksWrongFalsely : Prop := fnExactExpireAsksRow.holds Try.pinned (OpenSpec.ofChange fnExactExpireAsksWrong)

/-- 'laws.FnExactAgain': WHATEVER THE INPUT: true; the input reads as it did. -/
def fnExactAgainSpec : ChangeSpec := { name := "fnExactAgain", fn := fun _ => fun
  | [d1, d2, d3] => { results := [.lit (.bool true)], args := [d1, d2, d3] }
  | _ => none }
def fnExactAgainRow : OpenClaim := { program := "ytomfappebadllaa", sum := "c8dad3d5730c4176c2fcc0eee6460cd7f1d737feb9c41a98973eff07455b42a5", func := "loop.example/g00072/laws.FnExactAgain", spec := "fnExactAgain", apart := false }
def FnExactAgainSaid : Prop := fnExactAgainRow.holds Try.pinned (OpenSpec.ofChange fnExactAgainSpec)

/-- ITS FALSE NEIGHBOUR: 'it returns false'. Refute it at one input. -/
def fnExactAgainWrong : ChangeSpec := { name := "fnExactAgain", fn := fun _ => fun
  | [d1, d2, d3] => { results := [.lit (.bool false)], args := [d1, d2, d3] }
  | _ => none }
def FnExactAgainWrongFalsely : Prop := fnExactAgainRow.holds Try.pinned (OpenSpec.ofChange fnExactAgainWrong)

/- THE SECOND FORM. 'bulk': how many values and letters a reading holds, each counted each time it is reached (what is shared counts as often as it is met; a slice's spare places count too). A statement '..UptoSaid' is the law's where the arguments, and the package variables that the reading takes, are together of bulk at most 1048576: NARROWER than '..Said'. Prove '..Said' where nothing that the law and all that it calls make is longer than what came in: it says more and counts as full. Else prove '..UptoSaid'. A law counts once. -/
mutual
def uptoBulk {H : Type} : DataW H → Nat
  | .lit (.string bytes) => bytes.length + 1
  | .lit _ => 1
  | .nil => 1
  | .ptr d => uptoBulk d + 1
  | .slice elems spare => uptoBulkAll elems + uptoBulkAll spare + 1
  | .agg parts => uptoBulkAll parts + 1
  | .iface _ d => uptoBulk d + 1
  | .map entries => uptoBulkEntries entries + 1
  | .held _ => 1
def uptoBulkAll {H : Type} : List (DataW H) → Nat
  | [] => 0
  | d :: r => uptoBulk d + uptoBulkAll r
def uptoBulkEntries {H : Type} : List (Lit × DataW H) → Nat
  | [] => 0
  | x :: r => uptoBulkEntry x + uptoBulkEntries r
def uptoBulkEntry {H : Type} : Lit × DataW H → Nat
  | (.string bytes, d) => bytes.length + uptoBulk d + 1
  | (_, d) => uptoBulk d + 1
 end
def uptoSmall : (H : Type) → List (DataW H) → Bool := fun _ ds => decide (uptoBulkAll ds ≤ 1048576)
def OpenSpec.upto (s : _root_.Go.ChangeSpec) : _root_.Go.OpenSpec := { _root_.Go.OpenSpec.ofChange s with cond := some uptoSmall }

/-- 'laws.FnExactNonceOf', WHERE WHAT IT READS IS OF BULK AT MOST 1048576: true; the input reads as it did. -/
def fnExactNonceOfUptoRow : OpenClaim := { program := "ytomfappebadllaa", sum := "c8dad3d5730c4176c2fcc0eee6460cd7f1d737feb9c41a98973eff07455b42a5", func := "loop.example/g00072/laws.FnExactNonceOf", spec := "fnExactNonceOf", apart := false, narrowed := true }
def FnExactNonceOfUptoSaid : Prop := fnExactNonceOfUptoRow.holds Try.pinned (OpenSpec.upto fnExactNonceOfSpec)

/-- 'laws.FnExactNonceParts', WHERE WHAT IT READS IS OF BULK AT MOST 1048576: true; the input reads as it did. -/
def fnExactNoncePartsUptoRow : OpenClaim := { program := "ytomfappebadllaa", sum := "c8dad3d5730c4176c2fcc0eee6460cd7f1d737feb9c41a98973eff07455b42a5", func := "loop.example/g00072/laws.FnExactNonceParts", spec := "fnExactNonceParts", apart := false, narrowed := true }
def FnExactNoncePartsUptoSaid : Prop := fnExactNoncePartsUptoRow.holds Try.pinned (OpenSpec.upto fnExactNoncePartsSpec)

/-- 'laws.FnExactTableOk', WHERE WHAT IT READS IS OF BULK AT MOST 1048576: true; the input reads as it did. -/
def fnExactTableOkUptoRow : OpenClaim := { program := "ytomfappebadllaa", sum := "c8dad3d5730c4176c2fcc0eee6460cd7f1d737feb9c41a98973eff07455b42a5", func := "loop.example/g00072/laws.FnExactTableOk", spec := "fnExactTableOk", apart := false, narrowed := true }
def FnExactTableOkUptoSaid : Prop := fnExactTableOkUptoRow.holds Try.pinned (OpenSpec.upto fnExactTableOkSpec)

/-- 'laws.FnExactWaits', WHERE WHAT IT READS IS OF BULK AT MOST 1048576: true; the input reads as it did. -/
def fnExactWaitsUptoRow : OpenClaim := { program := "ytomfappebadllaa", sum := "c8dad3d5730c4176c2fcc0eee6460cd7f1d737feb9c41a98973eff07455b42a5", func := "loop.example/g00072/laws.FnExactWaits", spec := "fnExactWaits", unfollowed := true, recurses := true, apart := false, narrowed := true }
def FnExactWaitsUptoSaid : Prop := fnExactWaitsUptoRow.holds Try.pinned (OpenSpec.upto fnExactWaitsSpec)

/-- 'laws.FnExactReboot', WHERE WHAT IT READS IS OF BULK AT MOST 1048576: true; the input reads as it did. -/
def fnExactRebootUptoRow : OpenClaim := { program := "ytomfappebadllaa", sum := "c8dad3d5730c4176c2fcc0eee6460cd7f1d737feb9c41a98973eff07455b42a5", func := "loop.example/g00072/laws.FnExactReboot", spec := "fnExactReboot", apart := false, narrowed := true }
def FnExactRebootUptoSaid : Prop := fnExactRebootUptoRow.holds Try.pinned (OpenSpec.upto fnExactRebootSpec)

/-- 'laws.FnExactExpireAsks', WHERE WHAT IT READS IS OF BULK AT MOST 1048576: true; the input reads as it did. -/
def fnExactExpireAsksUptoRow : OpenClaim := { program := "ytomfappebadllaa", sum := "c8dad3d5730c4176c2fcc0eee6460cd7f1d737feb9c41a98973eff07455b42a5", func := "loop.example/g00072/laws.FnExactExpireAsks", spec := "fnExactExpireAsks", apart := false, narrowed := true }
def FnExactExpireAsksUptoSaid : Prop := fnExactExpireAsksUptoRow.holds Try.pinned (OpenSpec.upto fnExactExpireAsksSpec)

/-- 'laws.FnExactAgain', WHERE WHAT IT READS IS OF BULK AT MOST 1048576: true; the input reads as it did. -/
def fnExactAgainUptoRow : OpenClaim := { program := "ytomfappebadllaa", sum := "c8dad3d5730c4176c2fcc0eee6460cd7f1d737feb9c41a98973eff07455b42a5", func := "loop.example/g00072/laws.FnExactAgain", spec := "fnExactAgain", apart := false, narrowed := true }
def FnExactAgainUptoSaid : Prop := fnExactAgainUptoRow.holds Try.pinned (OpenSpec.upto fnExactAgainSpec)

end Rows
end Go.Proofs.Ytomfappebadllaa
