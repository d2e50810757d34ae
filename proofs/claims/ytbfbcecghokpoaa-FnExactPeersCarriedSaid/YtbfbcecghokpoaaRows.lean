/-
  No cell of these rows narrows 'for every input' (looked for: loops, veiled, ifaces, maps, wideKeys, modest, calm, conditions, laid).
  DERIVED. THE GIVEN ROWS OF THIS SEAT. 11 by the template 'for every input the law returns true; each argument reads behind the call as it read before'; 0 by the template 'total and deterministic' (their statements: YtbfbcecghokpoaaTotals.lean).
  GIVEN WITH THE SEED: the statements are not yours to turn. If you find one false, say at which input.
  Laid BY PROGRAM, IN A SANDBOX (cutbox-rows.mjs): the forced cells as the released guide's own fill.sh prints them over the translation a6d85b4021ee2812… (all of the seat's roots in one cut). By AI agents, Wed Nov 11 2026. No macro, syntax, notation, axiom, sorry.
-/
import Derived.Test.YtbfbcecghokpoaaChecked
import GoSem.Claim
import GoSem.ClaimJoined
import GoSem.ClaimMapViews
import Derived.JoinedTies
import Derived.KernelRfl
namespace Go.Proofs.Ytbfbcecghokpoaa
/- THE CELL 'sum', in the pinned program and in every row, IS THE sha256 OF THE DUMP (.gsa) THAT YtbfbcecghokpoaaProg.lean LOADS. Nothing in Lean hashes anything: it is a label: what it is worth is what the hold of that sum in a sandbox is worth. -/
noncomputable def Try.pinned : Pinned := { name := "ytbfbcecghokpoaa", sum := "a6d85b4021ee2812bd4212091a19c21ee99d03e8c2abbcb0fcfdf144c7251702", checked := Try.checked }
namespace Rows
def none {H : Type} : Left H := { results := [], args := [] }

/-- 'laws.FnExactPeersOk': WHATEVER THE INPUT: true; the input reads as it did. -/
def fnExactPeersOkSpec : ChangeSpec := { name := "fnExactPeersOk", fn := fun _ => fun
  | [d] => { results := [.lit (.bool true)], args := [d] }
  | _ => none }
def fnExactPeersOkRow : OpenClaim := { program := "ytbfbcecghokpoaa", sum := "a6d85b4021ee2812bd4212091a19c21ee99d03e8c2abbcb0fcfdf144c7251702", func := "loop.example/g00072/laws.FnExactPeersOk", spec := "fnExactPeersOk", apart := false }
def FnExactPeersOkSaid : Prop := fnExactPeersOkRow.holds Try.pinned (OpenSpec.ofChange fnExactPeersOkSpec)

/-- ITS FALSE NEIGHBOUR: 'it returns false'. Refute it at one input. -/
def fnExactPeersOkWrong : ChangeSpec := { name := "fnExactPeersOk", fn := fun _ => fun
  | [d] => { results := [.lit (.bool false)], args := [d] }
  | _ => none }
def FnExactPeersOkWrongFalsely : Prop := fnExactPeersOkRow.holds Try.pinned (OpenSpec.ofChange fnExactPeersOkWrong)

/-- 'laws.FnExactPeersSure': WHATEVER THE INPUT: true; the input reads as it did. -/
def fnExactPeersSureSpec : ChangeSpec := { name := "fnExactPeersSure", fn := fun _ => fun
  | [d] => { results := [.lit (.bool true)], args := [d] }
  | _ => none }
def fnExactPeersSureRow : OpenClaim := { program := "ytbfbcecghokpoaa", sum := "a6d85b4021ee2812bd4212091a19c21ee99d03e8c2abbcb0fcfdf144c7251702", func := "loop.example/g00072/laws.FnExactPeersSure", spec := "fnExactPeersSure", apart := false }
def FnExactPeersSureSaid : Prop := fnExactPeersSureRow.holds Try.pinned (OpenSpec.ofChange fnExactPeersSureSpec)

/-- ITS FALSE NEIGHBOUR: 'it returns false'. Refute it at one input. -/
def fnExactPeersSureWrong : ChangeSpec := { name := "fnExactPeersSure", fn := fun _ => fun
  | [d] => { results := [.lit (.bool false)], args := [d] }
  | _ => none }
def FnExactPeersSureWrongFalsely : Prop := fnExactPeersSureRow.holds Try.pinned (OpenSpec.ofChange fnExactPeersSureWrong)

/-- 'laws.FnExactPeersFresh': WHATEVER THE INPUT: true; the input reads as it did. -/
def fnExactPeersFreshSpec : ChangeSpec := { name := "fnExactPeersFresh", fn := fun _ => fun
  | [d1, d2, d3] => { results := [.lit (.bool true)], args := [d1, d2, d3] }
  | _ => none }
def fnExactPeersFreshRow : OpenClaim := { program := "ytbfbcecghokpoaa", sum := "a6d85b4021ee2812bd4212091a19c21ee99d03e8c2abbcb0fcfdf144c7251702", func := "loop.example/g00072/laws.FnExactPeersFresh", spec := "fnExactPeersFresh", unfollowed := true, recurses := true, apart := false }
def FnExactPeersFreshSaid : Prop := fnExactPeersFreshRow.holds Try.pinned (OpenSpec.ofChange fnExactPeersFreshSpec)

/-- ITS FALSE NEIGHBOUR: 'it returns false'. Refute it at one input. -/
def fnExactPeersFreshWrong : ChangeSpec := { name := "fnExactPeersFresh", fn := fun _ => fun
  | [d1, d2, d3] => { results := [.lit (.bool false)], args := [d1, d2, d3] }
  | _ => none }
def FnExactPeersFreshWrongFalsely : Prop := fnExactPeersFreshRow.holds Try.pinned (OpenSpec.ofChange fnExactPeersFreshWrong)

/-- 'laws.FnExactPeerAge': WHATEVER THE INPUT: true; the input reads as it did. -/
def fnExactPeerAgeSpec : ChangeSpec := { name := "fnExactPeerAge", fn := fun _ => fun
  | [d1, d2, d3] => { results := [.lit (.bool true)], args := [d1, d2, d3] }
  | _ => none }
def fnExactPeerAgeRow : OpenClaim := { program := "ytbfbcecghokpoaa", sum := "a6d85b4021ee2812bd4212091a19c21ee99d03e8c2abbcb0fcfdf144c7251702", func := "loop.example/g00072/laws.FnExactPeerAge", spec := "fnExactPeerAge", unfollowed := true, recurses := true, apart := false }
def FnExactPeerAgeSaid : Prop := fnExactPeerAgeRow.holds Try.pinned (OpenSpec.ofChange fnExactPeerAgeSpec)

/-- ITS FALSE NEIGHBOUR: 'it returns false'. Refute it at one input. -/
def fnExactPeerAgeWrong : ChangeSpec := { name := "fnExactPeerAge", fn := fun _ => fun
  | [d1, d2, d3] => { results := [.lit (.bool false)], args := [d1, d2, d3] }
  | _ => none }
def FnExactPeerAgeWrongFalsely : Prop := fnExactPeerAgeRow.holds Try.pinned (OpenSpec.ofChange fnExactPeerAgeWrong)

/-- 'laws.FnExactPeerDrop': WHATEVER THE INPUT: true; the input reads as it did. -/
def fnExactPeerDropSpec : ChangeSpec := { name := "fnExactPeerDrop", fn := fun _ => fun
  | [d1, d2] => { results := [.lit (.bool true)], args := [d1, d2] }
  | _ => none }
def fnExactPeerDropRow : OpenClaim := { program := "ytbfbcecghokpoaa", sum := "a6d85b4021ee2812bd4212091a19c21ee99d03e8c2abbcb0fcfdf144c7251702", func := "loop.example/g00072/laws.FnExactPeerDrop", spec := "fnExactPeerDrop", unfollowed := true, recurses := true, apart := false }
def FnExactPeerDropSaid : Prop := fnExactPeerDropRow.holds Try.pinned (OpenSpec.ofChange fnExactPeerDropSpec)

/-- ITS FALSE NEIGHBOUR: 'it returns false'. Refute it at one input. -/
def fnExactPeerDropWrong : ChangeSpec := { name := "fnExactPeerDrop", fn := fun _ => fun
  | [d1, d2] => { results := [.lit (.bool false)], args := [d1, d2] }
  | _ => none }
def FnExactPeerDropWrongFalsely : Prop := fnExactPeerDropRow.holds Try.pinned (OpenSpec.ofChange fnExactPeerDropWrong)

/-- 'laws.FnExactPeerPut': WHATEVER THE INPUT: true; the input reads as it did. -/
def fnExactPeerPutSpec : ChangeSpec := { name := "fnExactPeerPut", fn := fun _ => fun
  | [d1, d2, d3, d4] => { results := [.lit (.bool true)], args := [d1, d2, d3, d4] }
  | _ => none }
def fnExactPeerPutRow : OpenClaim := { program := "ytbfbcecghokpoaa", sum := "a6d85b4021ee2812bd4212091a19c21ee99d03e8c2abbcb0fcfdf144c7251702", func := "loop.example/g00072/laws.FnExactPeerPut", spec := "fnExactPeerPut", inPlace := ["slices.overlaps[loop.example/g00072/impl.Peer]"], unfollowed := true, recurses := true, apart := false }
def FnExactPeerPutSaid : Prop := fnExactPeerPutRow.holds Try.pinned (OpenSpec.ofChange fnExactPeerPutSpec)

/-- ITS FALSE NEIGHBOUR: 'it returns false'. Refute it at one input. -/
def fnExactPeerPutWrong : ChangeSpec := { name := "fnExactPeerPut", fn := fun _ => fun
  | [d1, d2, d3, d4] => { results := [.lit (.bool false)], args := [d1, d2, d3, d4] }
  | _ => none }
def FnExactPeerPutWrongFalsely : Prop := fnExactPeerPutRow.holds Try.pinned (OpenSpec.ofChange fnExactPeerPutWrong)

/-- 'laws.FnExactPeersCarried': WHATEVER THE INPUT: true; the input reads as it did. -/
def fnExactPeersCarriedSpec : ChangeSpec := { name := "fnExactPeersCarried", fn := fun _ => fun
  | [d1, d2, d3, d4] => { results := [.lit (.bool true)], args := [d1, d2, d3, d4] }
  | _ => none }
def fnExactPeersCarriedRow : OpenClaim := { program := "ytbfbcecghokpoaa", sum := "a6d85b4021ee2812bd4212091a19c21ee99d03e8c2abbcb0fcfdf144c7251702", func := "loop.example/g00072/laws.FnExactPeersCarried", spec := "fnExactPeersCarried", unfollowed := true, recurses := true, apart := false }
def FnExactPeersCarriedSaid : Prop := fnExactPeersCarriedRow.holds Try.pinned (OpenSpec.ofChange fnExactPeersCarriedSpec)

/-- ITS FALSE NEIGHBOUR: 'it returns false'. Refute it at one input. -/
def fnExactPeersCarriedWrong : ChangeSpec := { name := "fnExactPeersCarried", fn := fun _ => fun
  | [d1, d2, d3, d4] => { results := [.lit (.bool false)], args := [d1, d2, d3, d4] }
  | _ => none }
def FnExactPeersCarriedWrongFalsely : Prop := fnExactPeersCarriedRow.holds Try.pinned (OpenSpec.ofChange fnExactPeersCarriedWrong)

/-- 'laws.FnExactPeersMark': WHATEVER THE INPUT: true; the input reads as it did. -/
def fnExactPeersMarkSpec : ChangeSpec := { name := "fnExactPeersMark", fn := fun _ => fun
  | [d1, d2, d3, d4, d5] => { results := [.lit (.bool true)], args := [d1, d2, d3, d4, d5] }
  | _ => none }
def fnExactPeersMarkRow : OpenClaim := { program := "ytbfbcecghokpoaa", sum := "a6d85b4021ee2812bd4212091a19c21ee99d03e8c2abbcb0fcfdf144c7251702", func := "loop.example/g00072/laws.FnExactPeersMark", spec := "fnExactPeersMark", unfollowed := true, recurses := true, apart := false }
def FnExactPeersMarkSaid : Prop := fnExactPeersMarkRow.holds Try.pinned (OpenSpec.ofChange fnExactPeersMarkSpec)

/-- ITS FALSE NEIGHBOUR: 'it returns false'. Refute it at one input. -/
def fnExactPeersMarkWrong : ChangeSpec := { name := "fnExactPeersMark", fn := fun _ => fun
  | [d1, d2, d3, d4, d5] => { results := [.lit (.bool false)], args := [d1, d2, d3, d4, d5] }
  | _ => none }
def FnExactPeersMarkWrongFalsely : Prop := fnExactPeersMarkRow.holds Try.pinned (OpenSpec.ofChange fnExactPeersMarkWrong)

/-- 'laws.FnPutDrop': WHATEVER THE INPUT: true; the input reads as it did. -/
def fnPutDropSpec : ChangeSpec := { name := "fnPutDrop", fn := fun _ => fun
  | [d] => { results := [.lit (.bool true)], args := [d] }
  | _ => none }
def fnPutDropRow : OpenClaim := { program := "ytbfbcecghokpoaa", sum := "a6d85b4021ee2812bd4212091a19c21ee99d03e8c2abbcb0fcfdf144c7251702", func := "loop.example/g00072/laws.FnPutDrop", spec := "fnPutDrop", inPlace := ["slices.overlaps[loop.example/g00072/impl.Peer]"], unfollowed := true, recurses := true, apart := false }
def FnPutDropSaid : Prop := fnPutDropRow.holds Try.pinned (OpenSpec.ofChange fnPutDropSpec)

/-- ITS FALSE NEIGHBOUR: 'it returns false'. Refute it at one input. -/
def fnPutDropWrong : ChangeSpec := { name := "fnPutDrop", fn := fun _ => fun
  | [d] => { results := [.lit (.bool false)], args := [d] }
  | _ => none }
def FnPutDropWrongFalsely : Prop := fnPutDropRow.holds Try.pinned (OpenSpec.ofChange fnPutDropWrong)

/-- 'laws.FnMarked': WHATEVER THE INPUT: true; the input reads as it did. -/
def fnMarkedSpec : ChangeSpec := { name := "fnMarked", fn := fun _ => fun
  | [d] => { results := [.lit (.bool true)], args := [d] }
  | _ => none }
def fnMarkedRow : OpenClaim := { program := "ytbfbcecghokpoaa", sum := "a6d85b4021ee2812bd4212091a19c21ee99d03e8c2abbcb0fcfdf144c7251702", func := "loop.example/g00072/laws.FnMarked", spec := "fnMarked", unfollowed := true, recurses := true, apart := false }
def FnMarkedSaid : Prop := fnMarkedRow.holds Try.pinned (OpenSpec.ofChange fnMarkedSpec)

/-- ITS FALSE NEIGHBOUR: 'it returns false'. Refute it at one input. -/
def fnMarkedWrong : ChangeSpec := { name := "fnMarked", fn := fun _ => fun
  | [d] => { results := [.lit (.bool false)], args := [d] }
  | _ => none }
def FnMarkedWrongFalsely : Prop := fnMarkedRow.holds Try.pinned (OpenSpec.ofChange fnMarkedWrong)

/-- 'laws.FnPeersTruth': WHATEVER THE INPUT: true; the input reads as it did. -/
def fnPeersTruthSpec : ChangeSpec := { name := "fnPeersTruth", fn := fun _ => fun
  | [d] => { results := [.lit (.bool true)], args := [d] }
  | _ => none }
def fnPeersTruthRow : OpenClaim := { program := "ytbfbcecghokpoaa", sum := "a6d85b4021ee2812bd4212091a19c21ee99d03e8c2abbcb0fcfdf144c7251702", func := "loop.example/g00072/laws.FnPeersTruth", spec := "fnPeersTruth", inPlace := ["slices.overlaps[loop.example/g00072/impl.Peer]"], unfollowed := true, recurses := true, apart := false }
def FnPeersTruthSaid : Prop := fnPeersTruthRow.holds Try.pinned (OpenSpec.ofChange fnPeersTruthSpec)

/-- ITS FALSE NEIGHBOUR: 'it returns false'. Refute it at one input. -/
def fnPeersTruthWrong : ChangeSpec := { name := "fnPeersTruth", fn := fun _ => fun
  | [d] => { results := [.lit (.bool false)], args := [d] }
  | _ => none }
def FnPeersTruthWrongFalsely : Prop := fnPeersTruthRow.holds Try.pinned (OpenSpec.ofChange fnPeersTruthWrong)

/- THE SECOND FORM. 'bulk': how many values and letters a reading holds, each counted each time it is reached (what is shared counts as often as it is met; a slice's spare places count too). A statement '..UptoSaid' is the law's where the arguments, and the package variables that the reading takes, are together of bulk at most 1048576: NARROWER than '..Said'. Prove '..Said' where nothing that the law and all that it calls make is longer than what came in: it says more and counts as full. Else prove '..UptoSaid'. A law counts once. -/
mutual
def uptoBulk {H : Type} : DataW H → Nat
  | .lit (.string bytes) => bytes.length + 1
  | .lit _ => 1
  | .nil => 1
  | .ptr d => uptoBulk d + 1
  | .slice elems spare => uptoBulkAll elems + uptoBulkAll spare + 1
  | .agg parts => uptoBulkAll parts + 1
  | .iface _ d => uptoBulk d + 1
  | .map entries => uptoBulkEntries entries + 1
  | .held _ => 1
def uptoBulkAll {H : Type} : List (DataW H) → Nat
  | [] => 0
  | d :: r => uptoBulk d + uptoBulkAll r
def uptoBulkEntries {H : Type} : List (Lit × DataW H) → Nat
  | [] => 0
  | x :: r => uptoBulkEntry x + uptoBulkEntries r
def uptoBulkEntry {H : Type} : Lit × DataW H → Nat
  | (.string bytes, d) => bytes.length + uptoBulk d + 1
  | (_, d) => uptoBulk d + 1
 end
def uptoSmall : (H : Type) → List (DataW H) → Bool := fun _ ds => decide (uptoBulkAll ds ≤ 1048576)
def OpenSpec.upto (s : _root_.Go.ChangeSpec) : _root_.Go.OpenSpec := { _root_.Go.OpenSpec.ofChange s with cond := some uptoSmall }

/-- 'laws.FnExactPeersOk', WHERE WHAT IT READS IS OF BULK AT MOST 1048576: true; the input reads as it did. -/
def fnExactPeersOkUptoRow : OpenClaim := { program := "ytbfbcecghokpoaa", sum := "a6d85b4021ee2812bd4212091a19c21ee99d03e8c2abbcb0fcfdf144c7251702", func := "loop.example/g00072/laws.FnExactPeersOk", spec := "fnExactPeersOk", apart := false, narrowed := true }
def FnExactPeersOkUptoSaid : Prop := fnExactPeersOkUptoRow.holds Try.pinned (OpenSpec.upto fnExactPeersOkSpec)

/-- 'laws.FnExactPeersSure', WHERE WHAT IT READS IS OF BULK AT MOST 1048576: true; the input reads as it did. -/
def fnExactPeersSureUptoRow : OpenClaim := { program := "ytbfbcecghokpoaa", sum := "a6d85b4021ee2812bd4212091a19c21ee99d03e8c2abbcb0fcfdf144c7251702", func := "loop.example/g00072/laws.FnExactPeersSure", spec := "fnExactPeersSure", apart := false, narrowed := true }
def FnExactPeersSureUptoSaid : Prop := fnExactPeersSureUptoRow.holds Try.pinned (OpenSpec.upto fnExactPeersSureSpec)

/-- 'laws.FnExactPeersFresh', WHERE WHAT IT READS IS OF BULK AT MOST 1048576: true; the input reads as it did. -/
def fnExactPeersFreshUptoRow : OpenClaim := { program := "ytbfbcecghokpoaa", sum := "a6d85b4021ee2812bd4212091a19c21ee99d03e8c2abbcb0fcfdf144c7251702", func := "loop.example/g00072/laws.FnExactPeersFresh", spec := "fnExactPeersFresh", unfollowed := true, recurses := true, apart := false, narrowed := true }
def FnExactPeersFreshUptoSaid : Prop := fnExactPeersFreshUptoRow.holds Try.pinned (OpenSpec.upto fnExactPeersFreshSpec)

/-- 'laws.FnExactPeerAge', WHERE WHAT IT READS IS OF BULK AT MOST 1048576: true; the input reads as it did. -/
def fnExactPeerAgeUptoRow : OpenClaim := { program := "ytbfbcecghokpoaa", sum := "a6d85b4021ee2812bd4212091a19c21ee99d03e8c2abbcb0fcfdf144c7251702", func := "loop.example/g00072/laws.FnExactPeerAge", spec := "fnExactPeerAge", unfollowed := true, recurses := true, apart := false, narrowed := true }
def FnExactPeerAgeUptoSaid : Prop := fnExactPeerAgeUptoRow.holds Try.pinned (OpenSpec.upto fnExactPeerAgeSpec)

/-- 'laws.FnExactPeerDrop', WHERE WHAT IT READS IS OF BULK AT MOST 1048576: true; the input reads as it did. -/
def fnExactPeerDropUptoRow : OpenClaim := { program := "ytbfbcecghokpoaa", sum := "a6d85b4021ee2812bd4212091a19c21ee99d03e8c2abbcb0fcfdf144c7251702", func := "loop.example/g00072/laws.FnExactPeerDrop", spec := "fnExactPeerDrop", unfollowed := true, recurses := true, apart := false, narrowed := true }
def FnExactPeerDropUptoSaid : Prop := fnExactPeerDropUptoRow.holds Try.pinned (OpenSpec.upto fnExactPeerDropSpec)

/-- 'laws.FnExactPeerPut', WHERE WHAT IT READS IS OF BULK AT MOST 1048576: true; the input reads as it did. -/
def fnExactPeerPutUptoRow : OpenClaim := { program := "ytbfbcecghokpoaa", sum := "a6d85b4021ee2812bd4212091a19c21ee99d03e8c2abbcb0fcfdf144c7251702", func := "loop.example/g00072/laws.FnExactPeerPut", spec := "fnExactPeerPut", inPlace := ["slices.overlaps[loop.example/g00072/impl.Peer]"], unfollowed := true, recurses := true, apart := false, narrowed := true }
def FnExactPeerPutUptoSaid : Prop := fnExactPeerPutUptoRow.holds Try.pinned (OpenSpec.upto fnExactPeerPutSpec)

/-- 'laws.FnExactPeersCarried', WHERE WHAT IT READS IS OF BULK AT MOST 1048576: true; the input reads as it did. -/
def fnExactPeersCarriedUptoRow : OpenClaim := { program := "ytbfbcecghokpoaa", sum := "a6d85b4021ee2812bd4212091a19c21ee99d03e8c2abbcb0fcfdf144c7251702", func := "loop.example/g00072/laws.FnExactPeersCarried", spec := "fnExactPeersCarried", unfollowed := true, recurses := true, apart := false, narrowed := true }
def FnExactPeersCarriedUptoSaid : Prop := fnExactPeersCarriedUptoRow.holds Try.pinned (OpenSpec.upto fnExactPeersCarriedSpec)

/-- 'laws.FnExactPeersMark', WHERE WHAT IT READS IS OF BULK AT MOST 1048576: true; the input reads as it did. -/
def fnExactPeersMarkUptoRow : OpenClaim := { program := "ytbfbcecghokpoaa", sum := "a6d85b4021ee2812bd4212091a19c21ee99d03e8c2abbcb0fcfdf144c7251702", func := "loop.example/g00072/laws.FnExactPeersMark", spec := "fnExactPeersMark", unfollowed := true, recurses := true, apart := false, narrowed := true }
def FnExactPeersMarkUptoSaid : Prop := fnExactPeersMarkUptoRow.holds Try.pinned (OpenSpec.upto fnExactPeersMarkSpec)

/-- 'laws.FnPutDrop', WHERE WHAT IT READS IS OF BULK AT MOST 1048576: true; the input reads as it did. -/
def fnPutDropUptoRow : OpenClaim := { program := "ytbfbcecghokpoaa", sum := "a6d85b4021ee2812bd4212091a19c21ee99d03e8c2abbcb0fcfdf144c7251702", func := "loop.example/g00072/laws.FnPutDrop", spec := "fnPutDrop", inPlace := ["slices.overlaps[loop.example/g00072/impl.Peer]"], unfollowed := true, recurses := true, apart := false, narrowed := true }
def FnPutDropUptoSaid : Prop := fnPutDropUptoRow.holds Try.pinned (OpenSpec.upto fnPutDropSpec)

/-- 'laws.FnMarked', WHERE WHAT IT READS IS OF BULK AT MOST 1048576: true; the input reads as it did. -/
def fnMarkedUptoRow : OpenClaim := { program := "ytbfbcecghokpoaa", sum := "a6d85b4021ee2812bd4212091a19c21ee99d03e8c2abbcb0fcfdf144c7251702", func := "loop.example/g00072/laws.FnMarked", spec := "fnMarked", unfollowed := true, recurses := true, apart := false, narrowed := true }
def FnMarkedUptoSaid : Prop := fnMarkedUptoRow.holds Try.pinned (OpenSpec.upto fnMarkedSpec)

/-- 'laws.FnPeersTruth', WHERE WHAT IT READS IS OF BULK AT MOST 1048576: true; the input reads as it did. -/
def fnPeersTruthUptoRow : OpenClaim := { program := "ytbfbcecghokpoaa", sum := "a6d85b4021ee2812bd4212091a19c21ee99d03e8c2abbcb0fcfdf144c7251702", func := "loop.example/g00072/laws.FnPeersTruth", spec := "fnPeersTruth", inPlace := ["slices.overlaps[loop.example/g00072/impl.Peer]"], unfollowed := true, recurses := true, apart := false, narrowed := true }
def FnPeersTruthUptoSaid : Prop := fnPeersTruthUptoRow.holds Try.pinned (OpenSpec.upto fnPeersTruthSpec)

end Rows
end Go.Proofs.Ytbfbcecghokpoaa
