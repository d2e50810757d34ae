/-
  Chapter 11: fractions and rates as plain functions; greatest common divisors, exact quotients, and the order of two fractions.
  No statement of the seat is proved here.
-/
import Derived.Test.YtbfbcecghokpoaaPure
namespace Go.Proofs.Ytbfbcecghokpoaa
open Go.RowKit
namespace Pu
def Cmp (x y : Int) : Int := if x < y then -1 else if y < x then 1 else 0
def FracCmp (a b : Frac) : Int := if FracOk a = true ∧ FracOk b = true then Cmp (a.num * b.den) (b.num * a.den) else 0
def RateOf (a : Ival) (ca : Int) (b : Ival) (cb : Int) : Frac × Frac × Bool :=
  if IvalOk a = true ∧ IvalOk b = true ∧ 0 ≤ ca ∧ ca < cb ∧ cb ≤ 1000000000000 ∧ a.lo ≤ b.hi then
    ((FracOf (max 0 (b.lo - a.hi)) (cb - ca)).1, (FracOf (b.hi - a.lo) (cb - ca)).1, true) else (⟨0, 0⟩, ⟨0, 0⟩, false)
def RateOfDrift (d : Drift) : Frac × Frac × Bool :=
  if DriftOk d = true then ((FracOf d.den (d.den + d.num)).1, (FracOf d.den (d.den - d.num)).1, true) else (⟨0, 0⟩, ⟨0, 0⟩, false)
def RatesMeet (lo hi low high : Frac) : Frac × Frac × Bool :=
  if FracOk lo = true ∧ FracOk hi = true ∧ FracOk low = true ∧ FracOk high = true then
    if 0 < FracCmp (if 0 < FracCmp low lo then low else lo) (if FracCmp high hi < 0 then high else hi) then (⟨0, 0⟩, ⟨0, 0⟩, false)
    else ((if 0 < FracCmp low lo then low else lo), (if FracCmp high hi < 0 then high else hi), true)
  else (⟨0, 0⟩, ⟨0, 0⟩, false)
def RateCarry (lo hi : Frac) (count : Int) : Ival × Bool :=
  if FracOk lo = true ∧ FracOk hi = true ∧ 0 ≤ lo.num ∧ In count 0 1000000 = true then Told (up (count * lo.num) lo.den) (count * hi.num / hi.den) else (⟨0, 0⟩, false)
def RateBroken (d : Drift) (a : Ival) (ca : Int) (b : Ival) (cb : Int) : Bool :=
  (RateOf a ca b cb).2.2 && ((RateOfDrift d).2.2 && !(RatesMeet (RateOf a ca b cb).1 (RateOf a ca b cb).2.1 (RateOfDrift d).1 (RateOfDrift d).2.1).2.2)

/-! The greatest common divisor. -/
theorem gcd_step (x y : Int) : Int.gcd y (x.tmod y) = Int.gcd x y := by
  unfold Int.gcd
  rw [Int.natAbs_tmod, Nat.gcd_comm x.natAbs, Nat.gcd_rec y.natAbs x.natAbs, Nat.gcd_comm]
theorem gcd_stop (x : Int) : (Int.gcd x 0 : Int) = if x < 0 then -x else x := by
  rw [Int.gcd_zero_right]; split <;> omega
theorem gcd_size (x y : Int) : Int.gcd (max x (-x)) y = Int.gcd x y := by
  unfold Int.gcd
  have : (max x (-x)).natAbs = x.natAbs := by omega
  rw [this]
theorem tmod_lt (x y : Int) (h : y ≠ 0) : (x.tmod y).natAbs < y.natAbs := by
  rw [Int.natAbs_tmod]; exact Nat.mod_lt _ (by omega)
theorem tmod_bd (x y b : Int) (h0 : -b ≤ x) (h1 : x ≤ b) : -b ≤ x.tmod y ∧ x.tmod y ≤ b := by
  have h : (x.tmod y).natAbs ≤ x.natAbs := by rw [Int.natAbs_tmod]; exact Nat.mod_le _ _
  omega
theorem gcd_pos {x y : Int} (h : y ≠ 0) : 1 ≤ (Int.gcd x y : Int) := by
  have : 0 < Int.gcd x y := Int.gcd_pos_of_ne_zero_right x h
  omega
theorem gcd_le {x y : Int} (h : y ≠ 0) : (Int.gcd x y : Int) ≤ y.natAbs := by
  have := Nat.le_of_dvd (by omega) (Int.gcd_dvd_natAbs_right x y)
  omega

theorem one_beq (n : Nat) : ((n : Int) == 1) = decide (n = 1) := by rw [Bool.eq_iff_iff]; simp; omega

/-! Exact quotients. -/
theorem quo_pos {n g : Int} (hd : g ∣ n) : n.tdiv g = n / g := Int.tdiv_eq_ediv_of_dvd hd
theorem quo_neg {n g : Int} (hd : g ∣ n) : n.tdiv (-g) = (-n) / g := by
  rw [Int.tdiv_neg, Int.tdiv_eq_ediv_of_dvd hd, Int.neg_ediv_of_dvd hd]
theorem quo_bd {n g b : Int} (hg : 1 ≤ g) (h0 : -b ≤ n) (h1 : n ≤ b) : -b - 1 ≤ n / g ∧ n / g ≤ b := ediv_bd n g b hg h0 h1

/-! What 'FracOf' needs of its divisor: bounds, and exact quotients. -/
theorem FracOf_facts (num den : Int) :
    (den = 0 ∨ (1 ≤ (Int.gcd num den : Int) ∧ (Int.gcd num den : Int) ≤ den.natAbs)) ∧
    (den = 0 ∨ num < -4000000000000 ∨ 4000000000000 < num ∨ (-4000000000001 ≤ num.tdiv (Int.gcd num den) ∧ num.tdiv (Int.gcd num den) ≤ 4000000000001)) ∧
    (den = 0 ∨ den < -4000000000000 ∨ 4000000000000 < den ∨ (-4000000000001 ≤ den.tdiv (Int.gcd num den) ∧ den.tdiv (Int.gcd num den) ≤ 4000000000001)) := by
  by_cases hz : den = 0
  · exact ⟨.inl hz, .inl hz, .inl hz⟩
  have h1 := gcd_pos (x := num) hz
  have h2 := gcd_le (x := num) hz
  refine ⟨.inr ⟨h1, h2⟩, ?_, ?_⟩
  · by_cases ha : num < -4000000000000 ∨ 4000000000000 < num
    · omega
    · have := tdiv_bd num (Int.gcd num den) 4000000000000 h1 (by omega) (by omega); omega
  · by_cases ha : den < -4000000000000 ∨ 4000000000000 < den
    · omega
    · have := tdiv_bd den (Int.gcd num den) 4000000000000 h1 (by omega) (by omega); omega
theorem gcd_flip (num den : Int) : Int.gcd (max (-num) (num)) (-den) = Int.gcd num den := by
  rw [show max (-num) num = max num (-num) by omega, gcd_size, Int.gcd_neg]
theorem FracOf_quo (num den : Int) :
    num.tdiv (Int.gcd num den) = num / (Int.gcd num den : Int) ∧ den.tdiv (Int.gcd num den) = den / (Int.gcd num den : Int) ∧
    -num / (Int.gcd num den : Int) = -(num / (Int.gcd num den : Int)) ∧ -den / (Int.gcd num den : Int) = -(den / (Int.gcd num den : Int)) ∧
    Int.gcd (max num (-num)) den = Int.gcd num den ∧ Int.gcd (max (-num) num) den = Int.gcd num den :=
  ⟨quo_pos (Int.gcd_dvd_left ..), quo_pos (Int.gcd_dvd_right ..), Int.neg_ediv_of_dvd (Int.gcd_dvd_left ..), Int.neg_ediv_of_dvd (Int.gcd_dvd_right ..), gcd_size .., by rw [show max (-num) num = max num (-num) by omega, gcd_size]⟩

theorem FracOk_bd {a : Frac} (h : FracOk a = true) : 1 ≤ a.den ∧ a.den ≤ 4000000000000 ∧ -4000000000000 ≤ a.num ∧ a.num ≤ 4000000000000 := by
  simp only [FracOk, Bool.and_eq_true, In_iff] at h; omega

/-! The order of two fractions. -/
theorem Cmp_pos {x y k : Int} (hk : 0 < k) : Cmp (x * k) (y * k) = Cmp x y := by
  unfold Cmp
  have h1 : x * k < y * k ↔ x < y := ⟨fun h => Int.lt_of_mul_lt_mul_right h (by omega), fun h => Int.mul_lt_mul_of_pos_right h hk⟩
  have h2 : y * k < x * k ↔ y < x := ⟨fun h => Int.lt_of_mul_lt_mul_right h (by omega), fun h => Int.mul_lt_mul_of_pos_right h hk⟩
  simp only [h1, h2]
theorem Cmp_add (x y k : Int) : Cmp (x + k) (y + k) = Cmp x y := by
  unfold Cmp; simp only [Int.add_lt_add_iff_right]
theorem Cmp_neg (x y : Int) : Cmp (-x) (-y) = -Cmp x y := by
  unfold Cmp; split <;> split <;> (try split) <;> (try split) <;> omega
theorem Cmp_swap (x y : Int) : Cmp x y = -Cmp y x := by
  unfold Cmp; split <;> split <;> (try split) <;> omega
end Pu
end Go.Proofs.Ytbfbcecghokpoaa
