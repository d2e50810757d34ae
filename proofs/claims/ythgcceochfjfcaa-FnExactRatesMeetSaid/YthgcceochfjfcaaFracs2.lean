/-
  Chapter 11: the order of two fractions by whole parts and what is left.
  No statement of the seat is proved here.
-/
import Derived.Test.YthgcceochfjfcaaFracs
namespace Go.Proofs.Ythgcceochfjfcaa
open Go.RowKit
namespace Pu
theorem Cmp_facts (a b p q : Int) (hb : 1 ≤ b) (hq : 1 ≤ q) (ha0 : -4000000000000 ≤ a) (ha1 : a ≤ 4000000000000) (hp0 : -4000000000000 ≤ p) (hp1 : p ≤ 4000000000000) :
    a / b * b = a - a % b ∧ p / q * q = p - p % q ∧ 0 ≤ a % b ∧ a % b < b ∧ 0 ≤ p % q ∧ p % q < q ∧
    (-4000000000001 ≤ a / b ∧ a / b ≤ 4000000000000) ∧ (-4000000000001 ≤ p / q ∧ p / q ≤ 4000000000000) ∧ a - a / b * b = a % b ∧ p - p / q * q = p % q := by
  have e1 := Int.mul_ediv_add_emod a b
  have e2 := Int.mul_ediv_add_emod p q
  have e3 := Int.mul_comm b (a / b)
  have e4 := Int.mul_comm q (p / q)
  have m1 := Int.emod_nonneg a (show b ≠ 0 by omega)
  have m2 := Int.emod_lt_of_pos a (show 0 < b by omega)
  have m3 := Int.emod_nonneg p (show q ≠ 0 by omega)
  have m4 := Int.emod_lt_of_pos p (show 0 < q by omega)
  have b1 := ediv_bd a b 4000000000000 hb ha0 ha1
  have b2 := ediv_bd p q 4000000000000 hq hp0 hp1
  omega
/-- One step: whole parts first; where these are one, what is left decides. -/
theorem Cmp_step (a b p q : Int) (hb : 1 ≤ b) (hq : 1 ≤ q) :
    Cmp (a * q) (p * b) = if a / b = p / q then Cmp (a % b * q) (p % q * b) else Cmp (a / b) (p / q) := by
  have e1 := Int.mul_ediv_add_emod a b
  have e2 := Int.mul_ediv_add_emod p q
  have m1 := Int.emod_nonneg a (show b ≠ 0 by omega)
  have m2 := Int.emod_lt_of_pos a (show 0 < b by omega)
  have m3 := Int.emod_nonneg p (show q ≠ 0 by omega)
  have m4 := Int.emod_lt_of_pos p (show 0 < q by omega)
  generalize a / b = x at *
  generalize p / q = y at *
  generalize a % b = r at *
  generalize p % q = s at *
  subst e1 e2
  have k1 : (b * x + r) * q = r * q + x * (b * q) := by rw [Int.add_mul, Int.add_comm, Int.mul_comm b x, Int.mul_assoc]
  have k2 : (q * y + s) * b = s * b + y * (b * q) := by rw [Int.add_mul, Int.add_comm, Int.mul_comm q y, Int.mul_assoc, Int.mul_comm q b]
  rw [k1, k2]
  have hbq : 0 < b * q := Int.mul_pos (by omega) (by omega)
  have r0 : 0 ≤ r * q := Int.mul_nonneg m1 (by omega)
  have s0 : 0 ≤ s * b := Int.mul_nonneg m3 (by omega)
  have r1 : r * q < b * q := Int.mul_lt_mul_of_pos_right m2 (by omega)
  have s1 : s * b < b * q := by rw [Int.mul_comm b q]; exact Int.mul_lt_mul_of_pos_right m4 (by omega)
  by_cases hxy : x = y
  · subst hxy; rw [if_pos rfl, Cmp_add]
  · rw [if_neg hxy]
    rcases Int.lt_or_gt_of_ne hxy with h | h
    · have : (x + 1) * (b * q) ≤ y * (b * q) := Int.mul_le_mul_of_nonneg_right (by omega) (by omega)
      rw [Int.add_mul, Int.one_mul] at this
      unfold Cmp; rw [if_pos h, if_pos (by omega)]
    · have : (y + 1) * (b * q) ≤ x * (b * q) := Int.mul_le_mul_of_nonneg_right (by omega) (by omega)
      rw [Int.add_mul, Int.one_mul] at this
      unfold Cmp; rw [if_neg (by omega), if_pos (by omega), if_neg (by omega), if_pos (by omega)]
theorem Cmp_ends (a b p q : Int) (hb : 1 ≤ b) (hq : 1 ≤ q) :
    (a / b < p / q → Cmp (a * q) (p * b) = -1) ∧ (p / q < a / b → Cmp (a * q) (p * b) = 1) ∧
    (a / b = p / q → a % b = 0 → p % q = 0 → Cmp (a * q) (p * b) = 0) ∧ (a / b = p / q → a % b = 0 → p % q ≠ 0 → Cmp (a * q) (p * b) = -1) ∧
    (a / b = p / q → a % b ≠ 0 → p % q = 0 → Cmp (a * q) (p * b) = 1) ∧ (a / b = p / q → Cmp (a * q) (p * b) = Cmp (q * (a % b)) (b * (p % q))) := by
  have m1 := Int.emod_nonneg a (show b ≠ 0 by omega)
  have m3 := Int.emod_nonneg p (show q ≠ 0 by omega)
  rw [Cmp_step a b p q hb hq]
  generalize a / b = x at *
  generalize p / q = y at *
  generalize a % b = r at *
  generalize p % q = s at *
  refine ⟨fun h => ?_, fun h => ?_, fun h h1 h2 => ?_, fun h h1 h2 => ?_, fun h h1 h2 => ?_, fun h => ?_⟩
  · rw [if_neg (by omega)]; unfold Cmp; rw [if_pos (by omega)]
  · rw [if_neg (by omega)]; unfold Cmp; rw [if_neg (by omega), if_pos (by omega)]
  · rw [if_pos h, h1, h2]; unfold Cmp; rw [if_neg (by omega), if_neg (by omega)]
  · have := Int.mul_pos (show 0 < s by omega) (show 0 < b by omega)
    rw [if_pos h, h1]; unfold Cmp; rw [if_pos (by omega)]
  · have := Int.mul_pos (show 0 < r by omega) (show 0 < q by omega)
    rw [if_pos h, h2]; unfold Cmp; rw [if_neg (by omega), if_pos (by omega)]
  · rw [if_pos h, Int.mul_comm r q, Int.mul_comm s b]
theorem Cmp_bd (x y : Int) : -1 ≤ Cmp x y ∧ Cmp x y ≤ 1 := by unfold Cmp; split <;> (try split) <;> omega
theorem Cmp_wide (x y n : Int) (hn : 0 < n) : Cmp x y = if Cmp (x / n) (y / n) = 0 then Cmp (x % n) (y % n) else Cmp (x / n) (y / n) := by
  have e1 := Int.mul_ediv_add_emod x n
  have e2 := Int.mul_ediv_add_emod y n
  have m1 := Int.emod_nonneg x (show n ≠ 0 by omega)
  have m2 := Int.emod_lt_of_pos x hn
  have m3 := Int.emod_nonneg y (show n ≠ 0 by omega)
  have m4 := Int.emod_lt_of_pos y hn
  generalize x / n = p at *
  generalize y / n = q at *
  generalize x % n = r at *
  generalize y % n = s at *
  by_cases h : p = q
  · subst h; rw [if_pos (by unfold Cmp; simp)]; subst e1 e2
    rw [Int.add_comm _ r, Int.add_comm _ s, Cmp_add]
  · rcases Int.lt_or_gt_of_ne h with h | h
    · have : n * (p + 1) ≤ n * q := Int.mul_le_mul_of_nonneg_left (by omega) (by omega)
      rw [Int.mul_add, Int.mul_one] at this
      have hc : Cmp p q = -1 := by unfold Cmp; rw [if_pos h]
      rw [hc, if_neg (by omega)]; unfold Cmp; rw [if_pos (by omega)]
    · have : n * (q + 1) ≤ n * p := Int.mul_le_mul_of_nonneg_left (by omega) (by omega)
      rw [Int.mul_add, Int.mul_one] at this
      have hc : Cmp p q = 1 := by unfold Cmp; rw [if_neg (by omega), if_pos h]
      rw [hc, if_neg (by omega)]; unfold Cmp; rw [if_neg (by omega), if_pos (by omega)]
theorem Cmp_sign (a c : Int) : (Cmp (Cmp a 0) (Cmp c 0) = -1 ∧ ((a < 0 ∧ 0 ≤ c) ∨ (a = 0 ∧ 0 < c))) ∨ (Cmp (Cmp a 0) (Cmp c 0) = 1 ∧ ((0 < a ∧ c ≤ 0) ∨ (a = 0 ∧ c < 0))) ∨
    (Cmp (Cmp a 0) (Cmp c 0) = 0 ∧ ((a < 0 ∧ c < 0) ∨ (a = 0 ∧ c = 0) ∨ (0 < a ∧ 0 < c))) := by
  have h : ∀ x : Int, (Cmp x 0 = -1 ∧ x < 0) ∨ (Cmp x 0 = 0 ∧ x = 0) ∨ (Cmp x 0 = 1 ∧ 0 < x) := by
    intro x; unfold Cmp; split <;> (try split) <;> omega
  rcases h a with ⟨h1, h2⟩ | ⟨h1, h2⟩ | ⟨h1, h2⟩ <;> rcases h c with ⟨h3, h4⟩ | ⟨h3, h4⟩ | ⟨h3, h4⟩ <;> rw [h1, h3] <;> simp [Cmp] <;> omega
/-- Products by the signs of the first factors, and then by their sizes, upper halves first. -/
theorem Cmp_prods (a b c e : Int) (hb : 1 ≤ b) (he : 1 ≤ e) :
    (Cmp (Cmp a 0) (Cmp c 0) ≠ 0 → Cmp (a * b) (c * e) = Cmp (Cmp a 0) (Cmp c 0)) ∧
    (Cmp (Cmp a 0) (Cmp c 0) = 0 → a < 0 → Cmp (a * b) (c * e) = -(if Cmp (max a (-a) * b / 18446744073709551616) (max c (-c) * e / 18446744073709551616) = 0 then Cmp (max a (-a) * b % 18446744073709551616) (max c (-c) * e % 18446744073709551616) else Cmp (max a (-a) * b / 18446744073709551616) (max c (-c) * e / 18446744073709551616))) ∧
    (Cmp (Cmp a 0) (Cmp c 0) = 0 → 0 ≤ a → Cmp (a * b) (c * e) = if Cmp (max a (-a) * b / 18446744073709551616) (max c (-c) * e / 18446744073709551616) = 0 then Cmp (max a (-a) * b % 18446744073709551616) (max c (-c) * e % 18446744073709551616) else Cmp (max a (-a) * b / 18446744073709551616) (max c (-c) * e / 18446744073709551616)) := by
  have hs := Cmp_sign a c
  rw [← Cmp_wide _ _ _ (by omega)]
  refine ⟨fun h => ?_, fun h h0 => ?_, fun h h0 => ?_⟩
  · rcases hs with ⟨hk, hh⟩ | ⟨hk, hh⟩ | ⟨hk, -⟩
    · rw [hk]
      have : a * b < c * e := by
        rcases hh with ⟨h1, h2⟩ | ⟨h1, h2⟩
        · have := Int.mul_neg_of_neg_of_pos h1 (show 0 < b by omega); have := Int.mul_nonneg h2 (show 0 ≤ e by omega); omega
        · have := Int.mul_pos h2 (show 0 < e by omega); subst h1; omega
      unfold Cmp; rw [if_pos this]
    · rw [hk]
      have : c * e < a * b := by
        rcases hh with ⟨h1, h2⟩ | ⟨h1, h2⟩
        · have := Int.mul_pos h1 (show 0 < b by omega)
          have := Int.mul_nonneg (show 0 ≤ -c by omega) (show 0 ≤ e by omega)
          rw [Int.neg_mul] at this; omega
        · have := Int.mul_neg_of_neg_of_pos h2 (show 0 < e by omega); subst h1; omega
      unfold Cmp; rw [if_neg (by omega), if_pos this]
    · exact absurd hk h
  · have e1 : max a (-a) = -a := by omega
    have e2 : max c (-c) = -c := by omega
    rw [e1, e2, Int.neg_mul, Int.neg_mul, Cmp_neg, Int.neg_neg]
  · have e1 : max a (-a) = a := by omega
    have e2 : max c (-c) = c := by omega
    rw [e1, e2]
end Pu
end Go.Proofs.Ythgcceochfjfcaa
