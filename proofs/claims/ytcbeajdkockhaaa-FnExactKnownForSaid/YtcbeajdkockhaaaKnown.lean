/-
  Chapter 6: for how many counts a bound stays narrow enough, as a plain function; the search from above and the search from below tell the same.
  No statement of the seat is proved here.
-/
import Derived.Test.YtcbeajdkockhaaaPure
namespace Go.Proofs.Ytcbeajdkockhaaa
open Go.RowKit
theorem junk_none (w : World) : w = junk w #[] w.drawn := by simp [junk]
namespace Pu
/-- The greatest number below k of which ok holds; -1 if there is none. -/
def lastOk (ok : Nat → Bool) : Nat → Int
  | 0 => -1
  | k + 1 => if ok k = true then (k : Int) else lastOk ok k
theorem lastOk_bd (ok : Nat → Bool) (k : Nat) : -1 ≤ lastOk ok k ∧ lastOk ok k < k := by
  induction k with
  | zero => simp [lastOk]
  | succ k ih => unfold lastOk; split <;> omega
def narrow (l : Local) (d : Drift) (most : Int) (n : Nat) : Bool := In (WidthAt l d (wrap64 (l.pt + n))) 0 most
def KnownFor (l : Local) (d : Drift) (most : Int) : Int × Bool :=
  if l.known = true ∧ 0 ≤ lastOk (narrow l d most) 4001 then (lastOk (narrow l d most) 4001, true) else (0, false)
theorem WidthAt_bad {l : Local} {d : Drift} {c : Int} (h : LocalOk l = false) : WidthAt l d c = -1 := by
  unfold WidthAt CarryOn; simp [h]
theorem lastOk_none {ok : Nat → Bool} (h : ∀ n, ok n = false) : ∀ k, lastOk ok k = -1
  | 0 => rfl
  | k + 1 => by unfold lastOk; simp [h k, lastOk_none h k]
theorem KnownFor_bad {l : Local} {d : Drift} {most : Int} (h : LocalOk l = false) : KnownFor l d most = (0, false) := by
  unfold KnownFor
  rw [lastOk_none (fun n => by unfold narrow; rw [WidthAt_bad h]; simp [In])]
  simp
end Pu
end Go.Proofs.Ytcbeajdkockhaaa
