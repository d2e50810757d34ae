/-
  Chapter 12: the readings of a clock: the reference and the program tell the same of each two lists. Plain lists, no memory.
  No statement of the seat is proved here.
-/
import Derived.Test.YthgcceochfjfcaaPRx
namespace Go.Proofs.Ythgcceochfjfcaa.PR
open Go.RowKit Go.Proofs.YthgcceochfjfcaaW.PrintWords
set_option linter.unusedVariables false

theorem Ev.ite {α : Type} {c : Prop} [Decidable c] {f g : Nat → Option α} {r : α} (h1 : c → Ev f r) (h2 : ¬ c → Ev g r) : Ev (fun k => if c then f k else g k) r := by
  by_cases h : c
  · simpa only [if_pos h] using h1 h
  · simpa only [if_neg h] using h2 h
theorem Ev.bindSome {α β : Type} {a : α} {f : Nat → α → Option β} {r : β} (h : Ev (fun k => f k a) r) : Ev (fun k => (some a).bind (f k)) r := h
theorem Ev.val {α : Type} {a r : α} (h : a = r) : Ev (fun _ => some a) r := h ▸ Ev.now a

def rdsFrom : Bool → Int → List S84 → List S86 → Bool
  | has, last, x :: xs, y :: ys =>
    if x.f0 = true ∧ Pu.IvalOk ⟨x.f1.f0, x.f1.f1⟩ = false then false
    else if y.f2 = 2 then (if x.f0 = false ∧ has = false ∧ y.f0 = 0 ∧ y.f1 = false then rdsFrom has last xs ys else false)
    else if y.f2 = 0 then
      if x.f0 = true then
        if y.f1 = true then (if has = true ∧ y.f0 = last ∧ x.f1.f1 < y.f0 then rdsFrom true y.f0 xs ys else false)
        else (if Pu.Holds ⟨x.f1.f0, x.f1.f1⟩ y.f0 = true ∧ (has = false ∨ last ≤ y.f0) then rdsFrom true y.f0 xs ys else false)
      else (if y.f1 = true ∧ has = true ∧ y.f0 = last then rdsFrom true y.f0 xs ys else false)
    else false
  | _, _, _, _ => true

theorem spec_loop (a : List S84) (b : List S86) (hab : a.length = b.length) (hn : a.length ≤ 200) (d : Nat) : ∀ (i : Nat) (has : Bool) (last : Int), i + d = a.length →
    Ev (fun k => spec_ReadsOk.l0 k a b has last (i : Int)) (rdsFrom has last (a.drop i) (b.drop i)) := by
  induction d with
  | zero =>
    intro i has last hi
    refine Ev.step (fun k => by rw [spec_ReadsOk.l0]) ?_
    refine Ev.ite (fun h => absurd h (by omega)) (fun _ => Ev.val ?_)
    rw [List.drop_eq_nil_of_le (by omega)]; simp [rdsFrom]
  | succ d ih =>
    intro i has last hi
    have h1 : i < a.length := by omega
    have h2 : i < b.length := by omega
    have hw : wrap64 ((i : Int) + 1) = ((i + 1 : Nat) : Int) := by unfold wrap64; omega
    have ea : rd_T84 a (i : Int) = a[i] := by simp [rd_T84, List.getD_eq_getElem?_getD, h1]
    have eb : rd_T86 b (i : Int) = b[i] := by simp [rd_T86, List.getD_eq_getElem?_getD, h2]
    rw [List.drop_eq_getElem_cons h1, List.drop_eq_getElem_cons h2]
    generalize hx : a[i] = x at *
    generalize hy : b[i] = y at *
    have hih := fun has last => ih (i + 1) has last (by omega)
    rw [rdsFrom]
    refine Ev.step (fun k => by rw [spec_ReadsOk.l0]) ?_
    simp only [ea, eb, hw, spec_IvalOk.f, spec_Holds.f, Option.bind_some]
    repeat' first | (with_reducible refine Ev.ite (fun h => ?_) (fun h => ?_)) | (with_reducible refine Ev.bindSome ?_) | (with_reducible refine Ev.step (fun k => by rw [spec_ReadsOk.j2]) ?_) | (with_reducible refine Ev.step (fun k => by rw [spec_ReadsOk.j3]) ?_) | (simp only [spec_Holds.f, spec_IvalOk.f])
    all_goals first
      | (exfalso; omega)
      | (refine Ev.val ?_; simp_all; done)
      | (refine Ev.val ?_; simp_all; rcases h with h | h <;> simp_all; done)
      | (refine Ev.val ?_; simp_all; omega)
      | (have e := hih has last; simp_all; done)
      | (have e := hih true y.f0; simp_all; done)
theorem impl_loop (a : List S84) (b : List S86) (hab : a.length = b.length) (hn : a.length ≤ 200) (d : Nat) : ∀ (i : Nat) (has : Bool) (last : Int), i + d = a.length →
    Ev (fun k => impl_ReadsOk.l0 k b has last a (a.length : Int) (i : Int)) (rdsFrom has last (a.drop i) (b.drop i)) := by
  induction d with
  | zero =>
    intro i has last hi
    refine Ev.step (fun k => by rw [impl_ReadsOk.l0]) ?_
    refine Ev.ite (fun h => absurd h (by omega)) (fun _ => Ev.val ?_)
    rw [List.drop_eq_nil_of_le (by omega)]; simp [rdsFrom]
  | succ d ih =>
    intro i has last hi
    have h1 : i < a.length := by omega
    have h2 : i < b.length := by omega
    have hw : wrap64 ((i : Int) + 1) = ((i + 1 : Nat) : Int) := by unfold wrap64; omega
    have ea : rd_T84 a (i : Int) = a[i] := by simp [rd_T84, List.getD_eq_getElem?_getD, h1]
    have eb : rd_T86 b (i : Int) = b[i] := by simp [rd_T86, List.getD_eq_getElem?_getD, h2]
    rw [List.drop_eq_getElem_cons h1, List.drop_eq_getElem_cons h2]
    generalize hx : a[i] = x at *
    generalize hy : b[i] = y at *
    have hih := fun has last => ih (i + 1) has last (by omega)
    rw [rdsFrom]
    refine Ev.step (fun k => by rw [impl_ReadsOk.l0]) ?_
    simp only [ea, eb, hw, impl_IvalOk.f, impl_Holds.f, Option.bind_some]
    repeat' first | (with_reducible refine Ev.ite (fun h => ?_) (fun h => ?_)) | (with_reducible refine Ev.bindSome ?_) | (with_reducible refine Ev.step (fun k => by rw [impl_ReadsOk.j2]) ?_) | (with_reducible refine Ev.step (fun k => by rw [impl_ReadsOk.j3]) ?_) | (simp only [impl_Holds.f, impl_IvalOk.f])
    all_goals first
      | (exfalso; omega)
      | (refine Ev.val ?_; simp_all; done)
      | (refine Ev.val ?_; simp_all; rcases h with h | h <;> simp_all; done)
      | (refine Ev.val ?_; simp_all; omega)
      | (have e := hih has last; simp_all; done)
      | (have e := hih true y.f0; simp_all; done)

theorem spec_all (a : List S84) (b : List S86) : Ev (fun k => spec_ReadsOk.f k a b) (decide (a.length = b.length ∧ a.length ≤ 200) && rdsFrom false 0 a b) := by
  unfold spec_ReadsOk.f
  by_cases hab : a.length = b.length
  · by_cases hn : a.length ≤ 200
    · have hl := spec_loop a b hab hn a.length 0 false 0 (by omega)
      repeat' first | (with_reducible refine Ev.ite (fun h => ?_) (fun h => ?_)) | (with_reducible refine Ev.bindSome ?_) | (with_reducible refine Ev.step (fun k => by rw [spec_ReadsOk.j0]) ?_)
      all_goals first | (exfalso; omega) | (exfalso; simp_all; done) | (exfalso; simp_all; omega) | (refine Ev.val ?_; simp [hn]; done) | (refine Ev.val ?_; simp [hab]; done) | (have h3 := hn; (try rw [hab] at h3); simpa [hab, hn, h3] using hl)
    · repeat' first | (with_reducible refine Ev.ite (fun h => ?_) (fun h => ?_)) | (with_reducible refine Ev.bindSome ?_) | (with_reducible refine Ev.step (fun k => by rw [spec_ReadsOk.j0]) ?_)
      all_goals first | (exfalso; omega) | (exfalso; simp_all; done) | (exfalso; simp_all; omega) | (refine Ev.val ?_; simp [hn]; done) | (refine Ev.val ?_; simp [hab]; done) | (have h3 := hn; (try rw [hab] at h3); simpa [hab, hn, h3] using hl)
  · repeat' first | (with_reducible refine Ev.ite (fun h => ?_) (fun h => ?_)) | (with_reducible refine Ev.bindSome ?_) | (with_reducible refine Ev.step (fun k => by rw [spec_ReadsOk.j0]) ?_)
    all_goals first | (exfalso; omega) | (exfalso; simp_all; done) | (exfalso; simp_all; omega) | (refine Ev.val ?_; simp [hn]; done) | (refine Ev.val ?_; simp [hab]; done) | (have h3 := hn; (try rw [hab] at h3); simpa [hab, hn, h3] using hl)
theorem impl_all (a : List S84) (b : List S86) : Ev (fun k => impl_ReadsOk.f k a b) (decide (a.length = b.length ∧ a.length ≤ 200) && rdsFrom false 0 a b) := by
  unfold impl_ReadsOk.f
  by_cases hab : a.length = b.length
  · by_cases hn : a.length ≤ 200
    · have hl := impl_loop a b hab hn a.length 0 false 0 (by omega)
      repeat' first | (with_reducible refine Ev.ite (fun h => ?_) (fun h => ?_)) | (with_reducible refine Ev.bindSome ?_) | (with_reducible refine Ev.step (fun k => by rw [impl_ReadsOk.j0]) ?_)
      all_goals first | (exfalso; omega) | (exfalso; simp_all; done) | (exfalso; simp_all; omega) | (refine Ev.val ?_; simp [hn]; done) | (refine Ev.val ?_; simp [hab]; done) | (have h3 := hn; (try rw [hab] at h3); simpa [hab, hn, h3] using hl)
    · repeat' first | (with_reducible refine Ev.ite (fun h => ?_) (fun h => ?_)) | (with_reducible refine Ev.bindSome ?_) | (with_reducible refine Ev.step (fun k => by rw [impl_ReadsOk.j0]) ?_)
      all_goals first | (exfalso; omega) | (exfalso; simp_all; done) | (exfalso; simp_all; omega) | (refine Ev.val ?_; simp [hn]; done) | (refine Ev.val ?_; simp [hab]; done) | (have h3 := hn; (try rw [hab] at h3); simpa [hab, hn, h3] using hl)
  · repeat' first | (with_reducible refine Ev.ite (fun h => ?_) (fun h => ?_)) | (with_reducible refine Ev.bindSome ?_) | (with_reducible refine Ev.step (fun k => by rw [impl_ReadsOk.j0]) ?_)
    all_goals first | (exfalso; omega) | (exfalso; simp_all; done) | (exfalso; simp_all; omega) | (refine Ev.val ?_; simp [hn]; done) | (refine Ev.val ?_; simp [hab]; done) | (have h3 := hn; (try rw [hab] at h3); simpa [hab, hn, h3] using hl)
theorem sz_small {n : Nat} {x : Int} (h : (n : Int) ≤ x) : Pu.sz x n = x - n := by unfold Pu.sz; rw [if_neg (by omega)]
theorem sz_big {n : Nat} {x : Int} (h : x < n) : Pu.sz x n = -1 := by unfold Pu.sz; rw [if_pos (by omega)]
/-- What is left of the statement: over lists alone. -/
theorem pure_FnExactReadsOk (a : List S90) (b : List S92) : ∃ k, laws_FnExactReadsOk.f k a b = some true := by
  apply Ev.rounds
  unfold laws_FnExactReadsOk.f
  have p1 : (0 : Int) ≤ 1048576 ∧ (1048576 : Int) ≤ 1048576 := by omega
  simp only [laws_szLookS.f, laws_szReadingS.f, laws_toLookS.f, laws_toReadingS.f, laws_eqLookS.f, laws_eqReadingS.f, if_pos p1]
  by_cases ha : a.length ≤ 1048576
  · rw [sz_small (by omega)]
    have p2 : 0 ≤ 1048576 - (a.length : Int) ∧ 1048576 - (a.length : Int) ≤ 1048576 := by omega
    have p3 : ¬ (1048576 - (a.length : Int) < 0) := by omega
    simp only [Option.bind_some, if_neg p3, if_pos p2]
    by_cases hb : b.length ≤ 1048576 - a.length
    · have hb' : b.length ≤ 1048576 := by omega
      have hs := spec_all ((a.map cv90).map vc84) ((b.map cv92).map vc86)
      have hi := impl_all ((a.map cv90).map vc84) ((b.map cv92).map vc86)
      rw [sz_small (by omega)]
      simp only [if_pos ha, if_pos hb', eqS_Look, eqS_Reading]
      repeat' first | (with_reducible refine Ev.ite (fun h => ?_) (fun h => ?_)) | (with_reducible refine Ev.bindSome ?_) | (with_reducible refine Ev.bind hs ?_) | (with_reducible refine Ev.bind hi ?_)
      all_goals first | (exfalso; omega) | (exact absurd (eqS_Reading _) h) | (exact absurd (eqS_Look _) h) | (exfalso; simp_all; done) | (refine Ev.val ?_; simp; done)
    · rw [sz_big (n := b.length) (by omega)]
      repeat' first | (with_reducible refine Ev.ite (fun h => ?_) (fun h => ?_)) | (with_reducible refine Ev.bindSome ?_)
      all_goals first | (exfalso; omega) | (refine Ev.val ?_; simp; done)
  · rw [sz_big (n := a.length) (by omega)]
    repeat' first | (with_reducible refine Ev.ite (fun h => ?_) (fun h => ?_)) | (with_reducible refine Ev.bindSome ?_)
    all_goals first | (exfalso; omega) | (refine Ev.val ?_; simp; done)
end Go.Proofs.Ythgcceochfjfcaa.PR
