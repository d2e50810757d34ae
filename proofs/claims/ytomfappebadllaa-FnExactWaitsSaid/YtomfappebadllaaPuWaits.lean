/-
  Chapter 7: how many asks went to a node: the reference and the program tell the same. Plain lists, no memory.
  No statement of the seat is proved here.
-/
import Derived.Test.YtomfappebadllaaPWaitsx
namespace Go.Proofs.Ytomfappebadllaa.PWaits
open Go.RowKit Go.Proofs.YtomfappebadllaaW.PrintWords
set_option linter.unusedVariables false
theorem Ev.ite {α : Type} {c : Prop} [Decidable c] {f g : Nat → Option α} {r : α} (h1 : c → Ev f r) (h2 : ¬ c → Ev g r) : Ev (fun k => if c then f k else g k) r := by
  by_cases h : c
  · simpa only [if_pos h] using h1 h
  · simpa only [if_neg h] using h2 h
theorem Ev.shift {α : Type} {g : Nat → Option α} {r : α} (h : Ev (fun k => g (k + 1)) r) : Ev g r := Ev.step (fun _ => rfl) h
theorem Ev.bindSome {α β : Type} {a : α} {f : Nat → α → Option β} {r : β} (h : Ev (fun k => f k a) r) : Ev (fun k => (some a).bind (f k)) r := h
theorem Ev.up {α : Type} {g : Nat → Option α} {r : α} (h : Ev g r) : Ev (fun k => g (k + 1)) r := by
  obtain ⟨K, h⟩ := h
  exact ⟨K, fun k hk => h (k + 1) (by omega)⟩
theorem Ev.bindIte {α β : Type} {c : Prop} [Decidable c] {f g : Nat → Option α} {h : Nat → α → Option β} {r : β} (h1 : c → Ev (fun k => (f k).bind (h k)) r) (h2 : ¬ c → Ev (fun k => (g k).bind (h k)) r) : Ev (fun k => (if c then f k else g k).bind (h k)) r := by
  by_cases hc : c
  · simpa only [if_pos hc] using h1 hc
  · simpa only [if_neg hc] using h2 hc
theorem Ev.pos {α : Type} {c : Prop} [Decidable c] {f g : Nat → Option α} {r : α} (hc : c) (h : Ev f r) : Ev (fun k => if c then f k else g k) r := by simpa only [if_pos hc] using h
theorem Ev.neg {α : Type} {c : Prop} [Decidable c] {f g : Nat → Option α} {r : α} (hc : ¬ c) (h : Ev g r) : Ev (fun k => if c then f k else g k) r := by simpa only [if_neg hc] using h
theorem Ev.bindPos {α β : Type} {c : Prop} [Decidable c] {f g : Nat → Option α} {h : Nat → α → Option β} {r : β} (hc : c) (h1 : Ev (fun k => (f k).bind (h k)) r) : Ev (fun k => (if c then f k else g k).bind (h k)) r := by simpa only [if_pos hc] using h1
theorem Ev.bindNeg {α β : Type} {c : Prop} [Decidable c] {f g : Nat → Option α} {h : Nat → α → Option β} {r : β} (hc : ¬ c) (h1 : Ev (fun k => (g k).bind (h k)) r) : Ev (fun k => (if c then f k else g k).bind (h k)) r := by simpa only [if_neg hc] using h1
theorem Ev.val {α : Type} {a r : α} (h : a = r) : Ev (fun _ => some a) r := h ▸ Ev.now a
theorem sz_small {n : Nat} {x : Int} (h : (n : Int) ≤ x) : Pu.sz x n = x - n := by unfold Pu.sz; rw [if_neg (by omega)]
theorem sz_big {n : Nat} {x : Int} (h : x < n) : Pu.sz x n = -1 := by unfold Pu.sz; rw [if_pos (by omega)]
/-- All of d places from i on. -/
def allFrom (c : Nat → Bool) : Nat → Nat → Bool
  | _, 0 => true
  | i, d + 1 => c i && allFrom c (i + 1) d
/-! Asks: what makes a table one. -/
theorem rdAsk (a : List S53) (i : Nat) (h : i < a.length) : rd_T53 a (i : Int) = a[i] := by simp [rd_T53, List.getD_eq_getElem?_getD, h]
def askOk (e u : Int) (a : List S53) (i : Nat) : Bool :=
  let x := rd_T53 a (i : Int)
  (Pu.NonceParts x.f0).2.2 && (decide ((Pu.NonceParts x.f0).1 = e) && (decide ((Pu.NonceParts x.f0).2.1 < u) && ((decide (i = 0) || decide ((rd_T53 a ((i : Int) - 1)).f0 < x.f0)) && (Pu.isNode x.f1 && (Pu.isTime x.f2 && Pu.In x.f3 1 4)))))
def tabOk (e u : Int) (a : List S53) : Bool := Pu.In e 0 100000 && (Pu.In u 0 1000 && (decide (a.length ≤ 16) && allFrom (askOk e u a) 0 a.length))
theorem tab_small {e u : Int} {a : List S53} (h : tabOk e u a = true) : a.length ≤ 16 ∧ Pu.In e 0 100000 = true ∧ Pu.In u 0 1000 = true := by
  simp only [tabOk, Bool.and_eq_true, decide_eq_true_eq] at h; exact ⟨h.2.2.1, h.1, h.2.1⟩
theorem spec_tab_loop (e u : Int) (a : List S53) (hn : a.length ≤ 16) (d : Nat) : ∀ (i : Nat), i + d = a.length →
    Ev (fun k => spec_TableOk.l0 k (i : Int) e u a) (allFrom (askOk e u a) i d) := by
  induction d with
  | zero =>
    intro i hi
    refine Ev.step (fun k => by rw [spec_TableOk.l0]) ?_
    exact Ev.ite (fun h => absurd h (by omega)) (fun _ => Ev.val rfl)
  | succ d ih =>
    intro i hi
    have hw : wrap64 ((i : Int) + 1) = ((i + 1 : Nat) : Int) := by unfold wrap64; omega
    have hw' : wrap64 ((i : Int) - 1) = (i : Int) - 1 := by unfold wrap64; omega
    have hih := ih (i + 1) (by omega)
    rw [allFrom, askOk]
    refine Ev.step (fun k => by rw [spec_TableOk.l0]) ?_
    simp only [hw', spec_NonceParts.f, Option.bind_some]
    generalize rd_T53 a (i : Int) = x at *
    generalize rd_T53 a ((i : Int) - 1) = y at *
    repeat' first | (with_reducible refine Ev.ite (fun h => ?_) (fun h => ?_)) | (with_reducible refine Ev.bindSome ?_) | (with_reducible refine Ev.shift ?_; simp only [spec_TableOk.j2]) | (simp only [spec_l4Node.f, spec_l2Time.f, spec_l1In.f])
    all_goals (try rw [hw])
    all_goals first
      | (exfalso; omega)
      | (refine Ev.val ?_; simp_all; done)
      | (refine Ev.val ?_; simp_all; omega)
      | (simp_all; done)
      | (have hz : i = 0 := by omega
         subst hz; simp_all; done)
theorem impl_tab_loop (e u : Int) (a : List S53) (hn : a.length ≤ 16) (d : Nat) : ∀ (i : Nat), i + d = a.length →
    Ev (fun k => impl_TableOk.l0 k a (a.length : Int) (i : Int) e u a) (allFrom (askOk e u a) i d) := by
  induction d with
  | zero =>
    intro i hi
    refine Ev.step (fun k => by rw [impl_TableOk.l0]) ?_
    exact Ev.ite (fun h => absurd h (by omega)) (fun _ => Ev.val rfl)
  | succ d ih =>
    intro i hi
    have hw : wrap64 ((i : Int) + 1) = ((i + 1 : Nat) : Int) := by unfold wrap64; omega
    have hw' : wrap64 ((i : Int) - 1) = (i : Int) - 1 := by unfold wrap64; omega
    have hih := ih (i + 1) (by omega)
    rw [allFrom, askOk]
    refine Ev.step (fun k => by rw [impl_TableOk.l0]) ?_
    simp only [hw', impl_NonceParts.f, Option.bind_some]
    generalize rd_T53 a (i : Int) = x at *
    generalize rd_T53 a ((i : Int) - 1) = y at *
    repeat' first | (with_reducible refine Ev.ite (fun h => ?_) (fun h => ?_)) | (with_reducible refine Ev.bindSome ?_) | (with_reducible refine Ev.shift ?_; simp only [impl_TableOk.j2]) | (simp only [impl_isNode.f, impl_isTime.f, impl_in.f])
    all_goals (try rw [hw])
    all_goals first
      | (exfalso; omega)
      | (refine Ev.val ?_; simp_all; done)
      | (refine Ev.val ?_; simp_all; omega)
      | (simp_all; done)
      | (have hz : i = 0 := by omega
         subst hz; simp_all; done)
theorem spec_tab (e u : Int) (a : List S53) : Ev (fun k => spec_TableOk.f k e u a) (tabOk e u a) := by
  unfold spec_TableOk.f tabOk
  by_cases hn : a.length ≤ 16
  · have hl := spec_tab_loop e u a hn a.length 0 (by omega)
    repeat' first | (with_reducible refine Ev.ite (fun h => ?_) (fun h => ?_)) | (with_reducible refine Ev.bindSome ?_) | (with_reducible refine Ev.shift ?_; simp only [spec_TableOk.j0]) | (simp only [spec_l1In.f])
    all_goals first | (exfalso; omega) | (refine Ev.val ?_; simp_all; done) | (refine Ev.val ?_; simp_all; omega) | (exfalso; simp_all; done) | (exfalso; simp_all; omega) | (simp_all; done)
  · repeat' first | (with_reducible refine Ev.ite (fun h => ?_) (fun h => ?_)) | (with_reducible refine Ev.bindSome ?_) | (with_reducible refine Ev.shift ?_; simp only [spec_TableOk.j0]) | (simp only [spec_l1In.f])
    all_goals first | (exfalso; omega) | (refine Ev.val ?_; simp_all; done) | (refine Ev.val ?_; simp_all; omega) | (exfalso; simp_all; done) | (exfalso; simp_all; omega)
theorem impl_tab (e u : Int) (a : List S53) : Ev (fun k => impl_TableOk.f k e u a) (tabOk e u a) := by
  unfold impl_TableOk.f tabOk
  by_cases hn : a.length ≤ 16
  · have hl := impl_tab_loop e u a hn a.length 0 (by omega)
    repeat' first | (with_reducible refine Ev.ite (fun h => ?_) (fun h => ?_)) | (with_reducible refine Ev.bindSome ?_) | (with_reducible refine Ev.shift ?_; simp only [impl_TableOk.j0]) | (simp only [impl_in.f])
    all_goals first | (exfalso; omega) | (refine Ev.val ?_; simp_all; done) | (refine Ev.val ?_; simp_all; omega) | (exfalso; simp_all; done) | (exfalso; simp_all; omega) | (simp_all; done)
  · repeat' first | (with_reducible refine Ev.ite (fun h => ?_) (fun h => ?_)) | (with_reducible refine Ev.bindSome ?_) | (with_reducible refine Ev.shift ?_; simp only [impl_TableOk.j0]) | (simp only [impl_in.f])
    all_goals first | (exfalso; omega) | (refine Ev.val ?_; simp_all; done) | (refine Ev.val ?_; simp_all; omega) | (exfalso; simp_all; done) | (exfalso; simp_all; omega)
def waitsOf (e u : Int) (a : List S53) (t : Int) : Int := if tabOk e u a = true then ((a.countP fun x => x.f1 == t : Nat) : Int) else 0
theorem spec_waits_loop (e u : Int) (a : List S53) (t : Int) (hok : tabOk e u a = true) (hn : a.length ≤ 16) (d : Nat) : ∀ (i m : Nat), i + d = a.length → m ≤ i →
    Ev (fun k => spec_Waits.l0 k t (m : Int) (i : Int) e u a) ((m + (a.drop i).countP fun x => x.f1 == t : Nat) : Int) := by
  induction d with
  | zero =>
    intro i m hi hm
    refine Ev.shift ?_; simp only [spec_Waits.l0]
    refine Ev.neg (by omega) ?_
    refine Ev.shift ?_; simp only [spec_Waits.j1]
    rw [List.drop_eq_nil_of_le (by omega)]
    exact Ev.neg (by simp) (Ev.val (by simp))
  | succ d ih =>
    intro i m hi hm
    have hl : i < a.length := by omega
    have hw : wrap64 ((i : Int) + 1) = ((i + 1 : Nat) : Int) := by unfold wrap64; omega
    have hw2 : wrap64 ((m : Int) + 1) = ((m + 1 : Nat) : Int) := by unfold wrap64; omega
    have h1 := ih (i + 1) (m + 1) (by omega) (by omega)
    have h2 := ih (i + 1) m (by omega) (by omega)
    rw [List.drop_eq_getElem_cons hl, List.countP_cons]
    refine Ev.shift ?_; simp only [spec_Waits.l0]
    refine Ev.pos (by omega) ?_
    refine Ev.bind (spec_tab e u a) ?_
    refine Ev.shift ?_; simp only [spec_Waits.j1, rdAsk a i hl, hw, hw2, hok]
    refine Ev.pos (by simp) (Ev.pos (by omega) (Ev.pos (by omega) ?_))
    refine Ev.ite (fun h => ?_) (fun h => ?_)
    · have e3 : (m + ((a.drop (i + 1)).countP (fun x => x.f1 == t) + if (a[i].f1 == t) = true then 1 else 0)) = m + 1 + (a.drop (i + 1)).countP (fun x => x.f1 == t) := by rw [if_pos (by simpa using h)]; omega
      rw [e3]; exact h1
    · have e3 : (m + ((a.drop (i + 1)).countP (fun x => x.f1 == t) + if (a[i].f1 == t) = true then 1 else 0)) = m + (a.drop (i + 1)).countP (fun x => x.f1 == t) := by rw [if_neg (by simpa using h)]; omega
      rw [e3]; exact h2
theorem spec_waits (e u : Int) (a : List S53) (t : Int) : Ev (fun k => spec_Waits.f k e u a t) (waitsOf e u a t) := by
  unfold spec_Waits.f waitsOf
  by_cases hok : tabOk e u a = true
  · rw [if_pos hok]
    have h := spec_waits_loop e u a t hok (tab_small hok).1 a.length 0 0 (by omega) (by omega)
    simpa using h
  · rw [if_neg hok]
    have hok' : tabOk e u a = false := by simpa using hok
    refine Ev.shift ?_; simp only [spec_Waits.l0]
    refine Ev.ite (fun _ => ?_) (fun _ => ?_)
    · refine Ev.bind (spec_tab e u a) ?_
      refine Ev.shift ?_; simp only [spec_Waits.j1, hok']
      exact Ev.neg (by simp) (Ev.val rfl)
    · refine Ev.shift ?_; simp only [spec_Waits.j1]
      exact Ev.neg (by simp) (Ev.val rfl)
theorem impl_waits (e u : Int) (a : List S53) (t : Int) : Ev (fun k => impl_Waits.f k e u a t) (waitsOf e u a t) := by
  unfold impl_Waits.f waitsOf
  refine Ev.bind (impl_tab e u a) ?_
  refine Ev.ite (fun h => ?_) (fun h => ?_)
  · rw [if_pos h]; exact Ev.pos (tab_small h).1 (Ev.val rfl)
  · rw [if_neg h]; exact Ev.val rfl
/-- What is left of the statement: over lists alone. -/
theorem pure_FnExactWaits (e u : Int) (l : List S64) (t : Int) : ∃ k, laws_FnExactWaits.f k e u l t = some true := by
  apply Ev.rounds
  unfold laws_FnExactWaits.f
  have p1 : (0 : Int) ≤ 1048576 ∧ (1048576 : Int) ≤ 1048576 := by omega
  simp only [laws_szTable.f, laws_szAskS.f, laws_toTable.f, laws_toAskS.f, laws_eqTable.f, laws_eqAskS.f, if_pos p1]
  by_cases ha : l.length ≤ 1048576
  · rw [sz_small (by omega)]
    have hs := spec_waits e u ((l.map cv64).map vc53) t
    have hi := impl_waits e u ((l.map cv64).map vc53) t
    have p3 : ¬ (1048576 - (l.length : Int) < 0) := by omega
    simp only [if_pos ha, Option.bind_some, if_neg p3]
    repeat' first | (with_reducible refine Ev.bindSome ?_) | (with_reducible refine Ev.pos (by first | omega | exact eqS_Ask _ | (simp; done) | assumption) ?_) | (with_reducible refine Ev.neg (by first | omega | exact eqS_Ask _ | (simp; done) | assumption) ?_) | (with_reducible refine Ev.bindPos (by first | omega | exact eqS_Ask _ | (simp; done) | assumption) ?_) | (with_reducible refine Ev.bindNeg (by first | omega | exact eqS_Ask _ | (simp; done) | assumption) ?_) | (with_reducible refine Ev.ite (fun h => ?_) (fun h => ?_)) | (with_reducible refine Ev.bindIte (fun h => ?_) (fun h => ?_)) | (with_reducible refine Ev.bind hs ?_) | (with_reducible refine Ev.bind hi ?_) | (simp only [laws_toTable.f, laws_toAskS.f, laws_eqTable.f, laws_eqAskS.f, if_pos ha, eqS_Ask, Option.bind_some, Option.bind_assoc, ↓reduceIte])
    all_goals first | (exfalso; omega) | (refine Ev.val ?_; simp; done) | (exfalso; simp_all; done)
  · rw [sz_big (n := l.length) (by omega)]
    exact ⟨0, fun k _ => by simp⟩
end Go.Proofs.Ytomfappebadllaa.PWaits
