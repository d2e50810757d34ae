/-
  Chapter 10: peers as plain functions of lists.
  No statement of the seat is proved here.
-/
import Derived.Test.YtbfbcecghokpoaaSl
namespace Go.Proofs.Ytbfbcecghokpoaa
open Go.RowKit
namespace Pu
def peersFrom : Option Int → List Peer → Bool
  | _, [] => true
  | prev, x :: xs => isNode x.id && (IvalOk x.bound && (isTime x.pt && ((match prev with | none => true | some q => decide (q < x.id)) && peersFrom (some x.id) xs)))
def PeersOk (l : List Peer) : Bool := decide (l.length ≤ 8) && peersFrom none l
/-- The Id ahead of place k. -/
def prevId (l : List Peer) : Nat → Option Int
  | 0 => none
  | k + 1 => (l[k]?).map (·.id)
theorem peersFrom_drop {l : List Peer} {k : Nat} {x : Peer} (hx : l[k]? = some x) : peersFrom (prevId l k) (l.drop k) =
    (isNode x.id && (IvalOk x.bound && (isTime x.pt && ((match prevId l k with | none => true | some q => decide (q < x.id)) && peersFrom (prevId l (k + 1)) (l.drop (k + 1)))))) := by
  rw [drop_cons hx]
  have : prevId l (k + 1) = some x.id := by simp [prevId, hx]
  rw [this]; rfl
theorem PeersOk_bd {l : List Peer} (h : PeersOk l = true) : l.length ≤ 8 := by simp only [PeersOk, Bool.and_eq_true, decide_eq_true_eq] at h; omega
/-- The mark of place i. -/
def mkPeer (i : Nat) : Peer := ⟨1 + 5 * (i : Int), ⟨1 + 5 * (i : Int) + 1, 1 + 5 * (i : Int) + 1 + 1⟩, 1 + 5 * (i : Int) + 1 + 1 + 1, (1 + 5 * (i : Int) + 1 + 1 + 1 + 1) % 3 == 0⟩
theorem mark_set (xs : List Peer) (i : Nat) (h : i < xs.length) : ((List.range' 0 i).map mkPeer ++ xs.drop i).set i (mkPeer i) = (List.range' 0 (i + 1)).map mkPeer ++ xs.drop (i + 1) := by
  have hl : ((List.range' 0 i).map mkPeer).length = i := by simp
  rw [List.drop_eq_getElem_cons h, List.set_append_right _ _ (by omega), hl, Nat.sub_self, List.set_cons_zero, List.range'_1_concat, List.map_append]
  simp
end Pu
end Go.Proofs.Ytbfbcecghokpoaa
