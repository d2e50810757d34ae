/-
  Chapter 8: the narrowest of some answers: the reference and the program tell the same place. Plain lists, no memory.
  No statement of the seat is proved here.
-/
import Derived.Test.YtcbeajdkockhaaaPBestTripx
namespace Go.Proofs.Ytcbeajdkockhaaa.PBestTrip
open Go.RowKit Go.Proofs.YtcbeajdkockhaaaW.PrintWords
set_option linter.unusedVariables false
theorem Ev.ite {α : Type} {c : Prop} [Decidable c] {f g : Nat → Option α} {r : α} (h1 : c → Ev f r) (h2 : ¬ c → Ev g r) : Ev (fun k => if c then f k else g k) r := by
  by_cases h : c
  · simpa only [if_pos h] using h1 h
  · simpa only [if_neg h] using h2 h
theorem Ev.shift {α : Type} {g : Nat → Option α} {r : α} (h : Ev (fun k => g (k + 1)) r) : Ev g r := Ev.step (fun _ => rfl) h
theorem Ev.bindSome {α β : Type} {a : α} {f : Nat → α → Option β} {r : β} (h : Ev (fun k => f k a) r) : Ev (fun k => (some a).bind (f k)) r := h
theorem Ev.up {α : Type} {g : Nat → Option α} {r : α} (h : Ev g r) : Ev (fun k => g (k + 1)) r := by
  obtain ⟨K, h⟩ := h
  exact ⟨K, fun k hk => h (k + 1) (by omega)⟩
theorem Ev.bindIte {α β : Type} {c : Prop} [Decidable c] {f g : Nat → Option α} {h : Nat → α → Option β} {r : β} (h1 : c → Ev (fun k => (f k).bind (h k)) r) (h2 : ¬ c → Ev (fun k => (g k).bind (h k)) r) : Ev (fun k => (if c then f k else g k).bind (h k)) r := by
  by_cases hc : c
  · simpa only [if_pos hc] using h1 hc
  · simpa only [if_neg hc] using h2 hc
theorem Ev.pos {α : Type} {c : Prop} [Decidable c] {f g : Nat → Option α} {r : α} (hc : c) (h : Ev f r) : Ev (fun k => if c then f k else g k) r := by simpa only [if_pos hc] using h
theorem Ev.neg {α : Type} {c : Prop} [Decidable c] {f g : Nat → Option α} {r : α} (hc : ¬ c) (h : Ev g r) : Ev (fun k => if c then f k else g k) r := by simpa only [if_neg hc] using h
theorem Ev.bindPos {α β : Type} {c : Prop} [Decidable c] {f g : Nat → Option α} {h : Nat → α → Option β} {r : β} (hc : c) (h1 : Ev (fun k => (f k).bind (h k)) r) : Ev (fun k => (if c then f k else g k).bind (h k)) r := by simpa only [if_pos hc] using h1
theorem Ev.bindNeg {α β : Type} {c : Prop} [Decidable c] {f g : Nat → Option α} {h : Nat → α → Option β} {r : β} (hc : ¬ c) (h1 : Ev (fun k => (g k).bind (h k)) r) : Ev (fun k => (if c then f k else g k).bind (h k)) r := by simpa only [if_neg hc] using h1
theorem Ev.val {α : Type} {a r : α} (h : a = r) : Ev (fun _ => some a) r := h ▸ Ev.now a
theorem sz_small {n : Nat} {x : Int} (h : (n : Int) ≤ x) : Pu.sz x n = x - n := by unfold Pu.sz; rw [if_neg (by omega)]
theorem sz_big {n : Nat} {x : Int} (h : x < n) : Pu.sz x n = -1 := by unfold Pu.sz; rw [if_pos (by omega)]
/-- All of d places from i on. -/
def allFrom (c : Nat → Bool) : Nat → Nat → Bool
  | _, 0 => true
  | i, d + 1 => c i && allFrom c (i + 1) d
/-- The best place of d places from i on; best, least: what was found before. -/
def bestFrom (dn dd : Int) (a : List S29) : Int → Int → Nat → Nat → Int
  | best, _, _, 0 => best
  | best, least, i, d + 1 =>
    let x := rd_T29 a (i : Int)
    let b := Pu.TripBound ⟨dn, dd⟩ ⟨x.f0, ⟨x.f1.f0, x.f1.f1⟩, x.f2, x.f3⟩
    if b.2 = 0 ∧ (best < 0 ∨ Pu.Wide b.1 < least) then bestFrom dn dd a i (Pu.Wide b.1) (i + 1) d else bestFrom dn dd a best least (i + 1) d
def bestOf (dn dd : Int) (a : List S29) : Int := if a.length ≤ 20 then bestFrom dn dd a (-1) 0 0 a.length else -1
theorem spec_best_loop (dn dd : Int) (a : List S29) (hn : a.length ≤ 20) (d : Nat) : ∀ (i : Nat) (best least : Int), i + d = a.length →
    Ev (fun k => spec_BestTrip.l0 k a best least (i : Int) dn dd) (bestFrom dn dd a best least i d) := by
  induction d with
  | zero =>
    intro i best least hi
    refine Ev.shift ?_; simp only [spec_BestTrip.l0]
    refine Ev.neg (by omega) ?_
    refine Ev.shift ?_; simp only [spec_BestTrip.j1]
    exact Ev.neg (by simp) (Ev.val rfl)
  | succ d ih =>
    intro i best least hi
    have hw : wrap64 ((i : Int) + 1) = ((i + 1 : Nat) : Int) := by unfold wrap64; omega
    have hih := fun b l => ih (i + 1) b l (by omega)
    rw [bestFrom]
    refine Ev.shift ?_; simp only [spec_BestTrip.l0]
    refine Ev.pos (by omega) ?_
    refine Ev.shift ?_; simp only [spec_BestTrip.j1, spec_TripBound.f, spec_Wide.f, Option.bind_some, hw]
    refine Ev.pos (by simp; omega) (Ev.pos (by omega) (Ev.pos (by omega) ?_))
    generalize Pu.TripBound _ _ = B at *
    have eW : Pu.Wide ⟨B.1.lo, B.1.hi⟩ = Pu.Wide B.1 := rfl
    simp only [eW]
    repeat' first | (with_reducible refine Ev.ite (fun h => ?_) (fun h => ?_))
    all_goals first
      | (rw [if_pos ⟨by assumption, by first | exact .inl (by assumption) | exact .inr (by assumption)⟩]; exact hih _ _)
      | (rw [if_neg (by intro hc; omega)]; exact hih _ _)
theorem impl_best_loop (dn dd : Int) (a : List S29) (hn : a.length ≤ 20) (d : Nat) : ∀ (i : Nat) (best least : Int), i + d = a.length →
    Ev (fun k => impl_BestTrip.l0 k best least a (a.length : Int) (i : Int) dn dd) (bestFrom dn dd a best least i d) := by
  induction d with
  | zero =>
    intro i best least hi
    refine Ev.shift ?_; simp only [impl_BestTrip.l0]
    exact Ev.neg (by omega) (Ev.val rfl)
  | succ d ih =>
    intro i best least hi
    have hw : wrap64 ((i : Int) + 1) = ((i + 1 : Nat) : Int) := by unfold wrap64; omega
    have hih := fun b l => ih (i + 1) b l (by omega)
    rw [bestFrom]
    refine Ev.shift ?_; simp only [impl_BestTrip.l0, impl_TripBound.f, impl_Wide.f, Option.bind_some, hw]
    refine Ev.pos (by omega) (Ev.pos (by omega) (Ev.pos (by omega) ?_))
    generalize Pu.TripBound _ _ = B at *
    have eW : Pu.Wide ⟨B.1.lo, B.1.hi⟩ = Pu.Wide B.1 := rfl
    simp only [eW]
    repeat' first | (with_reducible refine Ev.ite (fun h => ?_) (fun h => ?_))
    all_goals first
      | (rw [if_pos ⟨by assumption, by first | exact .inl (by assumption) | exact .inr (by assumption)⟩]; exact hih _ _)
      | (rw [if_neg (by intro hc; omega)]; exact hih _ _)
theorem spec_best (dn dd : Int) (a : List S29) : Ev (fun k => spec_BestTrip.f k dn dd a) (bestOf dn dd a) := by
  unfold spec_BestTrip.f bestOf
  by_cases hn : a.length ≤ 20
  · rw [if_pos hn]; exact spec_best_loop dn dd a hn a.length 0 (-1) 0 (by omega)
  · rw [if_neg hn]
    refine Ev.shift ?_; simp only [spec_BestTrip.l0]
    refine Ev.ite (fun _ => ?_) (fun _ => ?_)
    all_goals (refine Ev.shift ?_; simp only [spec_BestTrip.j1]; exact Ev.neg (by simp; try omega) (Ev.val rfl))
theorem impl_best (dn dd : Int) (a : List S29) : Ev (fun k => impl_BestTrip.f k dn dd a) (bestOf dn dd a) := by
  unfold impl_BestTrip.f bestOf
  by_cases hn : a.length ≤ 20
  · rw [if_pos hn]; exact Ev.neg (by omega) (impl_best_loop dn dd a hn a.length 0 (-1) 0 (by omega))
  · rw [if_neg hn]; exact Ev.pos (by omega) (Ev.val rfl)
/-- What is left of the statement: over lists alone. -/
theorem pure_FnExactBestTrip (dn dd : Int) (l : List S25) : ∃ k, laws_FnExactBestTrip.f k dn dd l = some true := by
  apply Ev.rounds
  unfold laws_FnExactBestTrip.f
  have p1 : (0 : Int) ≤ 1048576 ∧ (1048576 : Int) ≤ 1048576 := by omega
  simp only [laws_szTripS.f, if_pos p1]
  by_cases ha : l.length ≤ 1048576
  · rw [sz_small (by omega)]
    have hs := spec_best dn dd ((l.map cv25).map vc29)
    have hi := impl_best dn dd ((l.map cv25).map vc29)
    have p3 : ¬ (1048576 - (l.length : Int) < 0) := by omega
    simp only [Option.bind_some, if_neg p3, laws_toTripS.f, laws_toDrift.f, if_pos ha, laws_eqTripS.f, eqS_Trip]
    repeat' first | (with_reducible refine Ev.bindSome ?_) | (with_reducible refine Ev.pos (by first | omega | exact eqS_Trip _ | (simp; done) | assumption) ?_) | (with_reducible refine Ev.neg (by first | omega | exact eqS_Trip _ | (simp; done) | assumption) ?_) | (with_reducible refine Ev.bindPos (by first | omega | exact eqS_Trip _ | (simp; done) | assumption) ?_) | (with_reducible refine Ev.bindNeg (by first | omega | exact eqS_Trip _ | (simp; done) | assumption) ?_) | (with_reducible refine Ev.ite (fun h => ?_) (fun h => ?_)) | (with_reducible refine Ev.bindIte (fun h => ?_) (fun h => ?_)) | (with_reducible refine Ev.bind hs ?_) | (with_reducible refine Ev.bind hi ?_) | (simp only [laws_toTripS.f, laws_toDrift.f, laws_eqTripS.f, if_pos ha, eqS_Trip, Option.bind_some, Option.bind_assoc, ↓reduceIte])
    all_goals first | (exfalso; omega) | (refine Ev.val ?_; simp; done) | (exfalso; simp_all; done)
  · rw [sz_big (n := l.length) (by omega)]
    exact ⟨0, fun k _ => by simp⟩
end Go.Proofs.Ytcbeajdkockhaaa.PBestTrip
