/-
  Chapter 7: tables of asks: the reference and the program tell the same of each table. Plain lists, no memory.
  No statement of the seat is proved here.
-/
import Derived.Test.YtomfappebadllaaPTableOkx
namespace Go.Proofs.Ytomfappebadllaa.PTableOk
open Go.RowKit Go.Proofs.YtomfappebadllaaW.PrintWords
set_option linter.unusedVariables false
theorem Ev.ite {α : Type} {c : Prop} [Decidable c] {f g : Nat → Option α} {r : α} (h1 : c → Ev f r) (h2 : ¬ c → Ev g r) : Ev (fun k => if c then f k else g k) r := by
  by_cases h : c
  · simpa only [if_pos h] using h1 h
  · simpa only [if_neg h] using h2 h
theorem Ev.shift {α : Type} {g : Nat → Option α} {r : α} (h : Ev (fun k => g (k + 1)) r) : Ev g r := Ev.step (fun _ => rfl) h
theorem Ev.bindSome {α β : Type} {a : α} {f : Nat → α → Option β} {r : β} (h : Ev (fun k => f k a) r) : Ev (fun k => (some a).bind (f k)) r := h
theorem Ev.val {α : Type} {a r : α} (h : a = r) : Ev (fun _ => some a) r := h ▸ Ev.now a
theorem sz_small {n : Nat} {x : Int} (h : (n : Int) ≤ x) : Pu.sz x n = x - n := by unfold Pu.sz; rw [if_neg (by omega)]
theorem sz_big {n : Nat} {x : Int} (h : x < n) : Pu.sz x n = -1 := by unfold Pu.sz; rw [if_pos (by omega)]
/-- All of d places from i on. -/
def allFrom (c : Nat → Bool) : Nat → Nat → Bool
  | _, 0 => true
  | i, d + 1 => c i && allFrom c (i + 1) d
/-! Asks: what makes a table one. -/
theorem rdAsk (a : List S53) (i : Nat) (h : i < a.length) : rd_T53 a (i : Int) = a[i] := by simp [rd_T53, List.getD_eq_getElem?_getD, h]
def askOk (e u : Int) (a : List S53) (i : Nat) : Bool :=
  let x := rd_T53 a (i : Int)
  (Pu.NonceParts x.f0).2.2 && (decide ((Pu.NonceParts x.f0).1 = e) && (decide ((Pu.NonceParts x.f0).2.1 < u) && ((decide (i = 0) || decide ((rd_T53 a ((i : Int) - 1)).f0 < x.f0)) && (Pu.isNode x.f1 && (Pu.isTime x.f2 && Pu.In x.f3 1 4)))))
def tabOk (e u : Int) (a : List S53) : Bool := Pu.In e 0 100000 && (Pu.In u 0 1000 && (decide (a.length ≤ 16) && allFrom (askOk e u a) 0 a.length))
theorem tab_small {e u : Int} {a : List S53} (h : tabOk e u a = true) : a.length ≤ 16 ∧ Pu.In e 0 100000 = true ∧ Pu.In u 0 1000 = true := by
  simp only [tabOk, Bool.and_eq_true, decide_eq_true_eq] at h; exact ⟨h.2.2.1, h.1, h.2.1⟩
theorem spec_tab_loop (e u : Int) (a : List S53) (hn : a.length ≤ 16) (d : Nat) : ∀ (i : Nat), i + d = a.length →
    Ev (fun k => spec_TableOk.l0 k (i : Int) e u a) (allFrom (askOk e u a) i d) := by
  induction d with
  | zero =>
    intro i hi
    refine Ev.step (fun k => by rw [spec_TableOk.l0]) ?_
    exact Ev.ite (fun h => absurd h (by omega)) (fun _ => Ev.val rfl)
  | succ d ih =>
    intro i hi
    have hw : wrap64 ((i : Int) + 1) = ((i + 1 : Nat) : Int) := by unfold wrap64; omega
    have hw' : wrap64 ((i : Int) - 1) = (i : Int) - 1 := by unfold wrap64; omega
    have hih := ih (i + 1) (by omega)
    rw [allFrom, askOk]
    refine Ev.step (fun k => by rw [spec_TableOk.l0]) ?_
    simp only [hw', spec_NonceParts.f, Option.bind_some]
    generalize rd_T53 a (i : Int) = x at *
    generalize rd_T53 a ((i : Int) - 1) = y at *
    repeat' first | (with_reducible refine Ev.ite (fun h => ?_) (fun h => ?_)) | (with_reducible refine Ev.bindSome ?_) | (with_reducible refine Ev.shift ?_; simp only [spec_TableOk.j2]) | (simp only [spec_l4Node.f, spec_l2Time.f, spec_l1In.f])
    all_goals (try rw [hw])
    all_goals first
      | (exfalso; omega)
      | (refine Ev.val ?_; simp_all; done)
      | (refine Ev.val ?_; simp_all; omega)
      | (simp_all; done)
      | (have hz : i = 0 := by omega
         subst hz; simp_all; done)
theorem impl_tab_loop (e u : Int) (a : List S53) (hn : a.length ≤ 16) (d : Nat) : ∀ (i : Nat), i + d = a.length →
    Ev (fun k => impl_TableOk.l0 k a (a.length : Int) (i : Int) e u a) (allFrom (askOk e u a) i d) := by
  induction d with
  | zero =>
    intro i hi
    refine Ev.step (fun k => by rw [impl_TableOk.l0]) ?_
    exact Ev.ite (fun h => absurd h (by omega)) (fun _ => Ev.val rfl)
  | succ d ih =>
    intro i hi
    have hw : wrap64 ((i : Int) + 1) = ((i + 1 : Nat) : Int) := by unfold wrap64; omega
    have hw' : wrap64 ((i : Int) - 1) = (i : Int) - 1 := by unfold wrap64; omega
    have hih := ih (i + 1) (by omega)
    rw [allFrom, askOk]
    refine Ev.step (fun k => by rw [impl_TableOk.l0]) ?_
    simp only [hw', impl_NonceParts.f, Option.bind_some]
    generalize rd_T53 a (i : Int) = x at *
    generalize rd_T53 a ((i : Int) - 1) = y at *
    repeat' first | (with_reducible refine Ev.ite (fun h => ?_) (fun h => ?_)) | (with_reducible refine Ev.bindSome ?_) | (with_reducible refine Ev.shift ?_; simp only [impl_TableOk.j2]) | (simp only [impl_isNode.f, impl_isTime.f, impl_in.f])
    all_goals (try rw [hw])
    all_goals first
      | (exfalso; omega)
      | (refine Ev.val ?_; simp_all; done)
      | (refine Ev.val ?_; simp_all; omega)
      | (simp_all; done)
      | (have hz : i = 0 := by omega
         subst hz; simp_all; done)
theorem spec_tab (e u : Int) (a : List S53) : Ev (fun k => spec_TableOk.f k e u a) (tabOk e u a) := by
  unfold spec_TableOk.f tabOk
  by_cases hn : a.length ≤ 16
  · have hl := spec_tab_loop e u a hn a.length 0 (by omega)
    repeat' first | (with_reducible refine Ev.ite (fun h => ?_) (fun h => ?_)) | (with_reducible refine Ev.bindSome ?_) | (with_reducible refine Ev.shift ?_; simp only [spec_TableOk.j0]) | (simp only [spec_l1In.f])
    all_goals first | (exfalso; omega) | (refine Ev.val ?_; simp_all; done) | (refine Ev.val ?_; simp_all; omega) | (exfalso; simp_all; done) | (exfalso; simp_all; omega) | (simp_all; done)
  · repeat' first | (with_reducible refine Ev.ite (fun h => ?_) (fun h => ?_)) | (with_reducible refine Ev.bindSome ?_) | (with_reducible refine Ev.shift ?_; simp only [spec_TableOk.j0]) | (simp only [spec_l1In.f])
    all_goals first | (exfalso; omega) | (refine Ev.val ?_; simp_all; done) | (refine Ev.val ?_; simp_all; omega) | (exfalso; simp_all; done) | (exfalso; simp_all; omega)
theorem impl_tab (e u : Int) (a : List S53) : Ev (fun k => impl_TableOk.f k e u a) (tabOk e u a) := by
  unfold impl_TableOk.f tabOk
  by_cases hn : a.length ≤ 16
  · have hl := impl_tab_loop e u a hn a.length 0 (by omega)
    repeat' first | (with_reducible refine Ev.ite (fun h => ?_) (fun h => ?_)) | (with_reducible refine Ev.bindSome ?_) | (with_reducible refine Ev.shift ?_; simp only [impl_TableOk.j0]) | (simp only [impl_in.f])
    all_goals first | (exfalso; omega) | (refine Ev.val ?_; simp_all; done) | (refine Ev.val ?_; simp_all; omega) | (exfalso; simp_all; done) | (exfalso; simp_all; omega) | (simp_all; done)
  · repeat' first | (with_reducible refine Ev.ite (fun h => ?_) (fun h => ?_)) | (with_reducible refine Ev.bindSome ?_) | (with_reducible refine Ev.shift ?_; simp only [impl_TableOk.j0]) | (simp only [impl_in.f])
    all_goals first | (exfalso; omega) | (refine Ev.val ?_; simp_all; done) | (refine Ev.val ?_; simp_all; omega) | (exfalso; simp_all; done) | (exfalso; simp_all; omega)
/-- What is left of the statement: over lists alone. -/
theorem pure_FnExactTableOk (e u : Int) (l : List S64) : ∃ k, laws_FnExactTableOk.f k e u l = some true := by
  apply Ev.rounds
  unfold laws_FnExactTableOk.f
  have p1 : (0 : Int) ≤ 1048576 ∧ (1048576 : Int) ≤ 1048576 := by omega
  simp only [laws_szTable.f, laws_szAskS.f, laws_toTable.f, laws_toAskS.f, laws_eqTable.f, laws_eqAskS.f, if_pos p1]
  by_cases ha : l.length ≤ 1048576
  · rw [sz_small (by omega)]
    have hs := spec_tab e u ((l.map cv64).map vc53)
    have hi := impl_tab e u ((l.map cv64).map vc53)
    simp only [if_pos ha, Option.bind_some, eqS_Ask]
    have p3 : ¬ (1048576 - (l.length : Int) < 0) := by omega
    simp only [if_neg p3, Option.bind_some]
    repeat' first | (with_reducible refine Ev.ite (fun h => ?_) (fun h => ?_)) | (with_reducible refine Ev.bindSome ?_) | (with_reducible refine Ev.bind hs ?_) | (with_reducible refine Ev.bind hi ?_)
    all_goals first | (exfalso; omega) | (exfalso; simp_all; done) | (refine Ev.val ?_; simp; done)
  · rw [sz_big (n := l.length) (by omega)]
    exact ⟨0, fun k _ => by simp⟩
end Go.Proofs.Ytomfappebadllaa.PTableOk
