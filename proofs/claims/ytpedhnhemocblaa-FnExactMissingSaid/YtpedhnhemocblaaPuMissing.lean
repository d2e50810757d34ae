/-
  Chapter 9: the sources that do not meet an interval: the reference and the program tell the same places; what was handed in is not turned, and the answer is one's own. Plain lists, no memory.
  No statement of the seat is proved here.
-/
import Derived.Test.YtpedhnhemocblaaPMissingx
namespace Go.Proofs.Ytpedhnhemocblaa.PMissing
open Go.RowKit Go.Proofs.YtpedhnhemocblaaW.PrintWords
set_option linter.unusedVariables false
theorem Ev.ite {α : Type} {c : Prop} [Decidable c] {f g : Nat → Option α} {r : α} (h1 : c → Ev f r) (h2 : ¬ c → Ev g r) : Ev (fun k => if c then f k else g k) r := by
  by_cases h : c
  · simpa only [if_pos h] using h1 h
  · simpa only [if_neg h] using h2 h
theorem Ev.shift {α : Type} {g : Nat → Option α} {r : α} (h : Ev (fun k => g (k + 1)) r) : Ev g r := Ev.step (fun _ => rfl) h
theorem Ev.bindSome {α β : Type} {a : α} {f : Nat → α → Option β} {r : β} (h : Ev (fun k => f k a) r) : Ev (fun k => (some a).bind (f k)) r := h
theorem Ev.up {α : Type} {g : Nat → Option α} {r : α} (h : Ev g r) : Ev (fun k => g (k + 1)) r := by
  obtain ⟨K, h⟩ := h
  exact ⟨K, fun k hk => h (k + 1) (by omega)⟩
theorem Ev.bindIte {α β : Type} {c : Prop} [Decidable c] {f g : Nat → Option α} {h : Nat → α → Option β} {r : β} (h1 : c → Ev (fun k => (f k).bind (h k)) r) (h2 : ¬ c → Ev (fun k => (g k).bind (h k)) r) : Ev (fun k => (if c then f k else g k).bind (h k)) r := by
  by_cases hc : c
  · simpa only [if_pos hc] using h1 hc
  · simpa only [if_neg hc] using h2 hc
theorem Ev.pos {α : Type} {c : Prop} [Decidable c] {f g : Nat → Option α} {r : α} (hc : c) (h : Ev f r) : Ev (fun k => if c then f k else g k) r := by simpa only [if_pos hc] using h
theorem Ev.neg {α : Type} {c : Prop} [Decidable c] {f g : Nat → Option α} {r : α} (hc : ¬ c) (h : Ev g r) : Ev (fun k => if c then f k else g k) r := by simpa only [if_neg hc] using h
theorem Ev.bindPos {α β : Type} {c : Prop} [Decidable c] {f g : Nat → Option α} {h : Nat → α → Option β} {r : β} (hc : c) (h1 : Ev (fun k => (f k).bind (h k)) r) : Ev (fun k => (if c then f k else g k).bind (h k)) r := by simpa only [if_pos hc] using h1
theorem Ev.bindNeg {α β : Type} {c : Prop} [Decidable c] {f g : Nat → Option α} {h : Nat → α → Option β} {r : β} (hc : ¬ c) (h1 : Ev (fun k => (g k).bind (h k)) r) : Ev (fun k => (if c then f k else g k).bind (h k)) r := by simpa only [if_neg hc] using h1
theorem Ev.val {α : Type} {a r : α} (h : a = r) : Ev (fun _ => some a) r := h ▸ Ev.now a
theorem sz_small {n : Nat} {x : Int} (h : (n : Int) ≤ x) : Pu.sz x n = x - n := by unfold Pu.sz; rw [if_neg (by omega)]
theorem sz_big {n : Nat} {x : Int} (h : x < n) : Pu.sz x n = -1 := by unfold Pu.sz; rw [if_pos (by omega)]
/-- All of d places from i on. -/
def allFrom (c : Nat → Bool) : Nat → Nat → Bool
  | _, 0 => true
  | i, d + 1 => c i && allFrom c (i + 1) d
/-! marks: Ival -/
def mkIval (j : Nat) : S35 := ⟨1 + 2 * (j : Int) + 0, 1 + 2 * (j : Int) + 1⟩
theorem rdsetIval (a : List S35) (i : Nat) (v : S35) (h : i < a.length) : rd_T35 (a.set i v) (i : Int) = v := by simp [rd_T35, List.getD_eq_getElem?_getD, h]
theorem markIval_loop (n : Nat) (hn : n ≤ 3000000) (d : Nat) : ∀ (i : Nat) (a : List S35), i + d = n → a.length = n → Ev (fun k => laws_markIvalS.l0 k a (1 + 2 * (i : Int)) (i : Int)) ((1 + 2 * (n : Int)), a.take i ++ (List.range' i d).map mkIval) := by
  induction d with
  | zero =>
    intro i a hi ha
    refine Ev.shift ?_; simp only [laws_markIvalS.l0]
    refine Ev.ite (fun h => absurd h (by omega)) (fun _ => Ev.val ?_)
    obtain rfl : i = n := by omega
    rw [List.take_of_length_le (by omega)]; simp
  | succ d ih =>
    intro i a hi ha
    have hw : wrap64 ((i : Int) + 1) = ((i + 1 : Nat) : Int) := by unfold wrap64; omega
    have hw0 : wrap64 (1 + 2 * (i : Int) + 1) = 1 + 2 * (i : Int) + 1 := by unfold wrap64; omega
    have hw1 : wrap64 (1 + 2 * (i : Int) + 1 + 1) = 1 + 2 * (i : Int) + 2 := by unfold wrap64; omega
    have hl : i < a.length := by omega
    have hih := ih (i + 1) (a.set i (mkIval i)) (by omega) (by simpa using ha)
    refine Ev.shift ?_; simp only [laws_markIvalS.l0]
    refine Ev.ite (fun _ => ?_) (fun h => absurd (by omega) h)
    refine Ev.ite (fun _ => ?_) (fun h => absurd (by omega) h)
    repeat' (with_reducible refine Ev.bindSome ?_)
    simp only [Int.toNat_natCast]
    simp (disch := simp [hl]) only [rdsetIval, List.set_set, hw, hw0, hw1]
    have e : (1 + 2 * ((i + 1 : Nat) : Int)) = 1 + 2 * (i : Int) + 2 := by omega
    rw [e] at hih
    have e2 : (a.set i (mkIval i)).take (i + 1) ++ (List.range' (i + 1) d).map mkIval = a.take i ++ (List.range' i (d + 1)).map mkIval := by
      rw [List.range'_succ, List.map_cons, List.take_set, List.take_add_one, List.getElem?_eq_getElem hl]
      rw [List.set_append_right _ _ (by simp; omega)]
      have : i - (a.take i).length = 0 := by simp; omega
      rw [this]; simp
    rw [e2] at hih
    simpa [mkIval] using hih
theorem markIval_ev (a : List S35) (hn : a.length ≤ 3000000) : Ev (fun k => laws_markIvalS.f k a 1) ((1 + 2 * (a.length : Int)), (List.range' 0 a.length).map mkIval) := by
  have h := markIval_loop a.length hn a.length 0 a (by omega) rfl
  unfold laws_markIvalS.f
  simpa using h
/-! marks: Int -/
def mkInt (j : Nat) : Int := 1 + 1 * (j : Int) + 0
theorem rdsetInt (a : List Int) (i : Nat) (v : Int) (h : i < a.length) : rd (a.set i v) (i : Int) = v := by simp [rd, List.getD_eq_getElem?_getD, h]
theorem markInt_loop (n : Nat) (hn : n ≤ 3000000) (d : Nat) : ∀ (i : Nat) (a : List Int), i + d = n → a.length = n → Ev (fun k => laws_markIntS.l0 k a (1 + 1 * (i : Int)) (i : Int)) ((1 + 1 * (n : Int)), a.take i ++ (List.range' i d).map mkInt) := by
  induction d with
  | zero =>
    intro i a hi ha
    refine Ev.shift ?_; simp only [laws_markIntS.l0]
    refine Ev.ite (fun h => absurd h (by omega)) (fun _ => Ev.val ?_)
    obtain rfl : i = n := by omega
    rw [List.take_of_length_le (by omega)]; simp
  | succ d ih =>
    intro i a hi ha
    have hw : wrap64 ((i : Int) + 1) = ((i + 1 : Nat) : Int) := by unfold wrap64; omega
    have hw0 : wrap64 (1 + 1 * (i : Int) + 1) = 1 + 1 * (i : Int) + 1 := by unfold wrap64; omega
    have hl : i < a.length := by omega
    have hih := ih (i + 1) (a.set i (mkInt i)) (by omega) (by simpa using ha)
    refine Ev.shift ?_; simp only [laws_markIntS.l0]
    refine Ev.ite (fun _ => ?_) (fun h => absurd (by omega) h)
    refine Ev.ite (fun _ => ?_) (fun h => absurd (by omega) h)
    repeat' (with_reducible refine Ev.bindSome ?_)
    simp only [Int.toNat_natCast]
    simp (disch := simp [hl]) only [rdsetInt, List.set_set, hw, hw0]
    have e : (1 + 1 * ((i + 1 : Nat) : Int)) = 1 + 1 * (i : Int) + 1 := by omega
    rw [e] at hih
    have e2 : (a.set i (mkInt i)).take (i + 1) ++ (List.range' (i + 1) d).map mkInt = a.take i ++ (List.range' i (d + 1)).map mkInt := by
      rw [List.range'_succ, List.map_cons, List.take_set, List.take_add_one, List.getElem?_eq_getElem hl]
      rw [List.set_append_right _ _ (by simp; omega)]
      have : i - (a.take i).length = 0 := by simp; omega
      rw [this]; simp
    rw [e2] at hih
    simpa [mkInt] using hih
theorem markInt_ev (a : List Int) (hn : a.length ≤ 3000000) : Ev (fun k => laws_markIntS.f k a 1) ((1 + 1 * (a.length : Int)), (List.range' 0 a.length).map mkInt) := by
  have h := markInt_loop a.length hn a.length 0 a (by omega) rfl
  unfold laws_markIntS.f
  simpa using h
theorem heldInt_loop (n : Nat) (hn : n ≤ 3000000) (d : Nat) : ∀ (i : Nat), i + d = n → Ev (fun k => laws_heldIntS.l0 k ((List.range' 0 n).map mkInt) (1 + 1 * (i : Int)) (i : Int)) (1 + 1 * (n : Int)) := by
  induction d with
  | zero =>
    intro i hi
    refine Ev.shift ?_; simp only [laws_heldIntS.l0]
    refine Ev.ite (fun h => absurd h (by simp; omega)) (fun _ => Ev.val ?_)
    omega
  | succ d ih =>
    intro i hi
    have hw : wrap64 ((i : Int) + 1) = ((i + 1 : Nat) : Int) := by unfold wrap64; omega
    have hw0 : wrap64 (1 + 1 * (i : Int) + 1) = 1 + 1 * (i : Int) + 1 := by unfold wrap64; omega
    have hr : rd ((List.range' 0 n).map mkInt) (i : Int) = mkInt i := by simp [rd, List.getD_eq_getElem?_getD, show i < n by omega]
    have hih := ih (i + 1) (by omega)
    have e : (1 + 1 * ((i + 1 : Nat) : Int)) = 1 + 1 * (i : Int) + 1 := by omega
    rw [e] at hih
    refine Ev.shift ?_; simp only [laws_heldIntS.l0, hr, hw, hw0]
    repeat' (with_reducible refine Ev.ite (fun h => ?_) (fun h => ?_))
    all_goals first | exact hih | (exfalso; simp at h; omega) | (exfalso; apply h; simp [mkInt]; done) | (exfalso; apply h; simp [mkInt]; omega) | (exfalso; omega)
theorem heldInt_ev (n : Nat) (hn : n ≤ 3000000) : Ev (fun k => laws_heldIntS.f k ((List.range' 0 n).map mkInt) 1) (1 + 1 * (n : Int)) := by
  have h := heldInt_loop n hn n 0 (by omega)
  unfold laws_heldIntS.f
  simpa using h
theorem eqInt_loop (a : List Int) (hn : a.length ≤ 3000000) (d : Nat) : ∀ (i : Nat), i + d = a.length → Ev (fun k => laws_eqIntS.l0 k a a (i : Int)) true := by
  induction d with
  | zero => intro i hi; refine Ev.shift ?_; simp only [laws_eqIntS.l0]; exact Ev.ite (fun h => absurd h (by omega)) (fun _ => Ev.val rfl)
  | succ d ih =>
    intro i hi
    have hw : wrap64 ((i : Int) + 1) = ((i + 1 : Nat) : Int) := by unfold wrap64; omega
    refine Ev.shift ?_; simp only [laws_eqIntS.l0, hw, ↓reduceIte]
    exact Ev.pos (by omega) (Ev.pos (by omega) (Ev.pos (by omega) (ih (i + 1) (by omega))))
theorem eqInt_ev (a : List Int) (hn : a.length ≤ 3000000) : Ev (fun k => laws_eqIntS.f k a a) true := by
  unfold laws_eqIntS.f
  exact Ev.pos rfl (eqInt_loop a hn a.length 0 (by omega))
theorem Apart_comm (a b : Ival) : Pu.Apart a b = Pu.Apart b a := by
  unfold Pu.Apart
  by_cases h : Pu.IvalOk a = true ∧ Pu.IvalOk b = true
  · rw [if_pos h, if_pos ⟨h.2, h.1⟩]; omega
  · rw [if_neg h, if_neg (fun k => h ⟨k.2, k.1⟩)]
def mst (a : Ival) : Ival → Bool := fun b => decide (0 < Pu.Apart a b)
theorem places_len_le {α : Type} (p : α → Bool) (i : Nat) (l : List α) : (Pu.places p i l).length ≤ l.length := by
  rw [Pu.places_len]; exact List.countP_le_length
theorem spec_miss_loop (a : List S35) (hn : a.length ≤ 12) (b : Ival) (hok : Pu.SourcesOk (a.map cv35) = true) (d : Nat) : ∀ (i : Nat) (acc : List Int), i + d = a.length → acc.length ≤ i →
    Ev (fun k => spec_Missing.l0 k a acc (i : Int) b.lo b.hi) (acc ++ Pu.places (mst b) i ((a.map cv35).drop i)) := by
  induction d with
  | zero =>
    intro i acc hi hac
    refine Ev.shift ?_; simp only [spec_Missing.l0]
    refine Ev.neg (by omega) ?_
    refine Ev.shift ?_; simp only [spec_Missing.j1]
    rw [List.drop_eq_nil_of_le (by simp; omega)]
    exact Ev.neg (by simp) (Ev.val (by simp [Pu.places]))
  | succ d ih =>
    intro i acc hi hac
    have hl : i < a.length := by omega
    have hw : wrap64 ((i : Int) + 1) = ((i + 1 : Nat) : Int) := by unfold wrap64; omega
    have ea : rd_T35 a (i : Int) = a[i] := by simp [rd_T35, List.getD_eq_getElem?_getD, hl]
    rw [List.drop_eq_getElem_cons (by simpa using hl), Pu.places]
    have hx : ((a.map cv35)[i]'(by simpa using hl)) = ⟨a[i].f0, a[i].f1⟩ := by simp [cv35]
    rw [hx]
    have h1 := ih (i + 1) (acc ++ [(i : Int)]) (by omega) (by simp; omega)
    have h2 := ih (i + 1) acc (by omega) (by omega)
    refine Ev.shift ?_; simp only [spec_Missing.l0]
    refine Ev.pos (by omega) ?_
    simp only [spec_SourcesOk.f, hok, Option.bind_some]
    refine Ev.shift ?_; simp only [spec_Missing.j1]
    refine Ev.pos (by simp) (Ev.pos (by omega) (Ev.pos (by omega) ?_))
    simp only [ea, spec_Apart.f, Option.bind_some]
    have hc : mst b ⟨a[i].f0, a[i].f1⟩ = decide (Pu.Apart ⟨a[i].f0, a[i].f1⟩ ⟨b.lo, b.hi⟩ > 0) := by unfold mst; rw [Apart_comm]
    rw [hc]
    by_cases hp : Pu.Apart ⟨a[i].f0, a[i].f1⟩ ⟨b.lo, b.hi⟩ > 0
    · refine Ev.pos hp (Ev.pos (by omega) ?_)
      rw [hw]; simpa [hp] using h1
    · refine Ev.neg hp ?_
      rw [hw]; simpa [hp] using h2
theorem spec_miss (a : List S35) (b : Ival) (hn : a.length ≤ 3000000) : Ev (fun k => spec_Missing.f k a b.lo b.hi) (Pu.Missing (a.map cv35) b) := by
  unfold spec_Missing.f
  by_cases hok : Pu.SourcesOk (a.map cv35) = true
  · have hb := Pu.SourcesOk_bd hok
    have h := spec_miss_loop a (by simpa using hb) b hok a.length 0 [] (by omega) (by simp)
    by_cases hv : Pu.IvalOk b = true
    · rw [Pu.Missing_ok hok hv]
      have h' : Ev (fun k => spec_Missing.l0 k a [] 0 b.lo b.hi) (Pu.places (mst b) 0 (List.map cv35 a)) := by simpa using h
      exact h'
    · have hv' : Pu.IvalOk b = false := by simpa using hv
      rw [Pu.Missing_bad (.inr hv')]
      have : ∀ i (l : List Ival), Pu.places (mst b) i l = [] := by
        intro i l
        induction l generalizing i with
        | nil => rfl
        | cons x l ih => unfold Pu.places; rw [if_neg (by simp [mst, Pu.Apart, hv']), ih]
      rw [this] at h; simpa using h
  · have hok' : Pu.SourcesOk (a.map cv35) = false := by simpa using hok
    rw [Pu.Missing_bad (.inl hok')]
    refine Ev.shift ?_; simp only [spec_Missing.l0, spec_SourcesOk.f, hok', Option.bind_some]
    refine Ev.ite (fun _ => ?_) (fun _ => ?_)
    all_goals (refine Ev.shift ?_; simp only [spec_Missing.j1]; exact Ev.neg (by simp) (Ev.val rfl))
/-- What is left of the statement: over lists alone. -/
theorem pure_FnExactMissing (l : List S32) (lo hi : Int) : ∃ k, laws_FnExactMissing.f k l lo hi = some true := by
  apply Ev.rounds
  unfold laws_FnExactMissing.f
  have p1 : (0 : Int) ≤ 1048576 ∧ (1048576 : Int) ≤ 1048576 := by omega
  simp only [laws_szIvalS.f, if_pos p1]
  by_cases ha : l.length ≤ 1048576
  · rw [sz_small (by omega)]
    have hs := spec_miss ((l.map cv32).map vc35) ⟨lo, hi⟩ (by simp; omega)
    have hm := markIval_ev ((l.map cv32).map vc35) (by simp; omega)
    have hr : (Pu.Missing (((l.map cv32).map vc35).map cv35) ⟨lo, hi⟩).length ≤ 3000000 := by
      unfold Pu.Missing; split
      · have := places_len_le (fun b => decide (0 < Pu.Apart ⟨lo, hi⟩ b)) 0 (((l.map cv32).map vc35).map cv35); simp at this ⊢; omega
      · simp
    have p3 : ¬ (1048576 - (l.length : Int) < 0) := by omega
    simp only [Option.bind_some, if_neg p3, laws_toIvalS.f, laws_toIval.f, if_pos ha, impl_Missing.f]
    generalize hR : Pu.Missing (((l.map cv32).map vc35).map cv35) ⟨lo, hi⟩ = R at *
    have hm2 := markInt_ev R hr
    have hh := heldInt_ev R.length hr
    have hq := eqInt_ev R hr
    simp only [List.length_map] at *
    repeat' first | (with_reducible refine Ev.bindSome ?_) | (with_reducible refine Ev.pos (by first | omega | exact eqS_Ival _ | (simp; done) | assumption) ?_) | (with_reducible refine Ev.neg (by first | omega | exact eqS_Ival _ | (simp; done) | assumption) ?_) | (with_reducible refine Ev.bindPos (by first | omega | exact eqS_Ival _ | (simp; done) | assumption) ?_) | (with_reducible refine Ev.bindNeg (by first | omega | exact eqS_Ival _ | (simp; done) | assumption) ?_) | (with_reducible refine Ev.ite (fun h => ?_) (fun h => ?_)) | (with_reducible refine Ev.bindIte (fun h => ?_) (fun h => ?_)) | (with_reducible refine Ev.bind hs ?_) | (with_reducible refine Ev.bind hm ?_) | (with_reducible refine Ev.bind hm2 ?_) | (with_reducible refine Ev.bind hh ?_) | (with_reducible refine Ev.bind hq ?_) | (with_reducible refine Ev.bind (Ev.up hs) ?_) | (with_reducible refine Ev.bind (Ev.up hm) ?_) | (with_reducible refine Ev.bind (Ev.up hm2) ?_) | (with_reducible refine Ev.bind (Ev.up hh) ?_) | (with_reducible refine Ev.bind (Ev.up hq) ?_) | (with_reducible refine Ev.bind (Ev.up (Ev.up hs)) ?_) | (with_reducible refine Ev.bind (Ev.up (Ev.up hm)) ?_) | (with_reducible refine Ev.bind (Ev.up (Ev.up hm2)) ?_) | (with_reducible refine Ev.bind (Ev.up (Ev.up hh)) ?_) | (with_reducible refine Ev.bind (Ev.up (Ev.up hq)) ?_) | (with_reducible refine Ev.bind (Ev.up (Ev.up (Ev.up hs))) ?_) | (with_reducible refine Ev.bind (Ev.up (Ev.up (Ev.up hm))) ?_) | (with_reducible refine Ev.bind (Ev.up (Ev.up (Ev.up hm2))) ?_) | (with_reducible refine Ev.bind (Ev.up (Ev.up (Ev.up hh))) ?_) | (with_reducible refine Ev.bind (Ev.up (Ev.up (Ev.up hq))) ?_) | (simp only [laws_toIvalS.f, laws_toIval.f, laws_eqIvalS.f, impl_Missing.f, if_pos ha, eqS_Ival, hR, Option.bind_some, Option.bind_assoc, ↓reduceIte]) | (with_reducible refine Ev.shift ?_; simp only [laws_FnExactMissing.j0])
    all_goals first | (exfalso; omega) | (refine Ev.val ?_; simp; done) | (exfalso; simp_all; done) | (exfalso; simp_all; omega)
  · rw [sz_big (n := l.length) (by omega)]
    exact ⟨0, fun k _ => by simp⟩
end Go.Proofs.Ytpedhnhemocblaa.PMissing
