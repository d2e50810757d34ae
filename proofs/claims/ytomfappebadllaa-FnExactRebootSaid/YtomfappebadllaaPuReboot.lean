/-
  Chapter 7: a table behind a reboot: the reference and the program tell the same; what was handed in is not turned, and the answer is one's own. Plain lists, no memory.
  No statement of the seat is proved here.
-/
import Derived.Test.YtomfappebadllaaPRebootx
namespace Go.Proofs.Ytomfappebadllaa.PReboot
open Go.RowKit Go.Proofs.YtomfappebadllaaW.PrintWords
set_option linter.unusedVariables false
theorem Ev.ite {α : Type} {c : Prop} [Decidable c] {f g : Nat → Option α} {r : α} (h1 : c → Ev f r) (h2 : ¬ c → Ev g r) : Ev (fun k => if c then f k else g k) r := by
  by_cases h : c
  · simpa only [if_pos h] using h1 h
  · simpa only [if_neg h] using h2 h
theorem Ev.shift {α : Type} {g : Nat → Option α} {r : α} (h : Ev (fun k => g (k + 1)) r) : Ev g r := Ev.step (fun _ => rfl) h
theorem Ev.bindSome {α β : Type} {a : α} {f : Nat → α → Option β} {r : β} (h : Ev (fun k => f k a) r) : Ev (fun k => (some a).bind (f k)) r := h
theorem Ev.up {α : Type} {g : Nat → Option α} {r : α} (h : Ev g r) : Ev (fun k => g (k + 1)) r := by
  obtain ⟨K, h⟩ := h
  exact ⟨K, fun k hk => h (k + 1) (by omega)⟩
theorem Ev.bindIte {α β : Type} {c : Prop} [Decidable c] {f g : Nat → Option α} {h : Nat → α → Option β} {r : β} (h1 : c → Ev (fun k => (f k).bind (h k)) r) (h2 : ¬ c → Ev (fun k => (g k).bind (h k)) r) : Ev (fun k => (if c then f k else g k).bind (h k)) r := by
  by_cases hc : c
  · simpa only [if_pos hc] using h1 hc
  · simpa only [if_neg hc] using h2 hc
theorem Ev.pos {α : Type} {c : Prop} [Decidable c] {f g : Nat → Option α} {r : α} (hc : c) (h : Ev f r) : Ev (fun k => if c then f k else g k) r := by simpa only [if_pos hc] using h
theorem Ev.neg {α : Type} {c : Prop} [Decidable c] {f g : Nat → Option α} {r : α} (hc : ¬ c) (h : Ev g r) : Ev (fun k => if c then f k else g k) r := by simpa only [if_neg hc] using h
theorem Ev.bindPos {α β : Type} {c : Prop} [Decidable c] {f g : Nat → Option α} {h : Nat → α → Option β} {r : β} (hc : c) (h1 : Ev (fun k => (f k).bind (h k)) r) : Ev (fun k => (if c then f k else g k).bind (h k)) r := by simpa only [if_pos hc] using h1
theorem Ev.bindNeg {α β : Type} {c : Prop} [Decidable c] {f g : Nat → Option α} {h : Nat → α → Option β} {r : β} (hc : ¬ c) (h1 : Ev (fun k => (g k).bind (h k)) r) : Ev (fun k => (if c then f k else g k).bind (h k)) r := by simpa only [if_neg hc] using h1
theorem Ev.val {α : Type} {a r : α} (h : a = r) : Ev (fun _ => some a) r := h ▸ Ev.now a
theorem sz_small {n : Nat} {x : Int} (h : (n : Int) ≤ x) : Pu.sz x n = x - n := by unfold Pu.sz; rw [if_neg (by omega)]
theorem sz_big {n : Nat} {x : Int} (h : x < n) : Pu.sz x n = -1 := by unfold Pu.sz; rw [if_pos (by omega)]
/-- All of d places from i on. -/
def allFrom (c : Nat → Bool) : Nat → Nat → Bool
  | _, 0 => true
  | i, d + 1 => c i && allFrom c (i + 1) d
/-! Asks: what makes a table one. -/
theorem rdAsk (a : List S53) (i : Nat) (h : i < a.length) : rd_T53 a (i : Int) = a[i] := by simp [rd_T53, List.getD_eq_getElem?_getD, h]
def askOk (e u : Int) (a : List S53) (i : Nat) : Bool :=
  let x := rd_T53 a (i : Int)
  (Pu.NonceParts x.f0).2.2 && (decide ((Pu.NonceParts x.f0).1 = e) && (decide ((Pu.NonceParts x.f0).2.1 < u) && ((decide (i = 0) || decide ((rd_T53 a ((i : Int) - 1)).f0 < x.f0)) && (Pu.isNode x.f1 && (Pu.isTime x.f2 && Pu.In x.f3 1 4)))))
def tabOk (e u : Int) (a : List S53) : Bool := Pu.In e 0 100000 && (Pu.In u 0 1000 && (decide (a.length ≤ 16) && allFrom (askOk e u a) 0 a.length))
theorem tab_small {e u : Int} {a : List S53} (h : tabOk e u a = true) : a.length ≤ 16 ∧ Pu.In e 0 100000 = true ∧ Pu.In u 0 1000 = true := by
  simp only [tabOk, Bool.and_eq_true, decide_eq_true_eq] at h; exact ⟨h.2.2.1, h.1, h.2.1⟩
theorem spec_tab_loop (e u : Int) (a : List S53) (hn : a.length ≤ 16) (d : Nat) : ∀ (i : Nat), i + d = a.length →
    Ev (fun k => spec_TableOk.l0 k (i : Int) e u a) (allFrom (askOk e u a) i d) := by
  induction d with
  | zero =>
    intro i hi
    refine Ev.step (fun k => by rw [spec_TableOk.l0]) ?_
    exact Ev.ite (fun h => absurd h (by omega)) (fun _ => Ev.val rfl)
  | succ d ih =>
    intro i hi
    have hw : wrap64 ((i : Int) + 1) = ((i + 1 : Nat) : Int) := by unfold wrap64; omega
    have hw' : wrap64 ((i : Int) - 1) = (i : Int) - 1 := by unfold wrap64; omega
    have hih := ih (i + 1) (by omega)
    rw [allFrom, askOk]
    refine Ev.step (fun k => by rw [spec_TableOk.l0]) ?_
    simp only [hw', spec_NonceParts.f, Option.bind_some]
    generalize rd_T53 a (i : Int) = x at *
    generalize rd_T53 a ((i : Int) - 1) = y at *
    repeat' first | (with_reducible refine Ev.ite (fun h => ?_) (fun h => ?_)) | (with_reducible refine Ev.bindSome ?_) | (with_reducible refine Ev.shift ?_; simp only [spec_TableOk.j2]) | (simp only [spec_l4Node.f, spec_l2Time.f, spec_l1In.f])
    all_goals (try rw [hw])
    all_goals first
      | (exfalso; omega)
      | (refine Ev.val ?_; simp_all; done)
      | (refine Ev.val ?_; simp_all; omega)
      | (simp_all; done)
      | (have hz : i = 0 := by omega
         subst hz; simp_all; done)
theorem impl_tab_loop (e u : Int) (a : List S53) (hn : a.length ≤ 16) (d : Nat) : ∀ (i : Nat), i + d = a.length →
    Ev (fun k => impl_TableOk.l0 k a (a.length : Int) (i : Int) e u a) (allFrom (askOk e u a) i d) := by
  induction d with
  | zero =>
    intro i hi
    refine Ev.step (fun k => by rw [impl_TableOk.l0]) ?_
    exact Ev.ite (fun h => absurd h (by omega)) (fun _ => Ev.val rfl)
  | succ d ih =>
    intro i hi
    have hw : wrap64 ((i : Int) + 1) = ((i + 1 : Nat) : Int) := by unfold wrap64; omega
    have hw' : wrap64 ((i : Int) - 1) = (i : Int) - 1 := by unfold wrap64; omega
    have hih := ih (i + 1) (by omega)
    rw [allFrom, askOk]
    refine Ev.step (fun k => by rw [impl_TableOk.l0]) ?_
    simp only [hw', impl_NonceParts.f, Option.bind_some]
    generalize rd_T53 a (i : Int) = x at *
    generalize rd_T53 a ((i : Int) - 1) = y at *
    repeat' first | (with_reducible refine Ev.ite (fun h => ?_) (fun h => ?_)) | (with_reducible refine Ev.bindSome ?_) | (with_reducible refine Ev.shift ?_; simp only [impl_TableOk.j2]) | (simp only [impl_isNode.f, impl_isTime.f, impl_in.f])
    all_goals (try rw [hw])
    all_goals first
      | (exfalso; omega)
      | (refine Ev.val ?_; simp_all; done)
      | (refine Ev.val ?_; simp_all; omega)
      | (simp_all; done)
      | (have hz : i = 0 := by omega
         subst hz; simp_all; done)
theorem spec_tab (e u : Int) (a : List S53) : Ev (fun k => spec_TableOk.f k e u a) (tabOk e u a) := by
  unfold spec_TableOk.f tabOk
  by_cases hn : a.length ≤ 16
  · have hl := spec_tab_loop e u a hn a.length 0 (by omega)
    repeat' first | (with_reducible refine Ev.ite (fun h => ?_) (fun h => ?_)) | (with_reducible refine Ev.bindSome ?_) | (with_reducible refine Ev.shift ?_; simp only [spec_TableOk.j0]) | (simp only [spec_l1In.f])
    all_goals first | (exfalso; omega) | (refine Ev.val ?_; simp_all; done) | (refine Ev.val ?_; simp_all; omega) | (exfalso; simp_all; done) | (exfalso; simp_all; omega) | (simp_all; done)
  · repeat' first | (with_reducible refine Ev.ite (fun h => ?_) (fun h => ?_)) | (with_reducible refine Ev.bindSome ?_) | (with_reducible refine Ev.shift ?_; simp only [spec_TableOk.j0]) | (simp only [spec_l1In.f])
    all_goals first | (exfalso; omega) | (refine Ev.val ?_; simp_all; done) | (refine Ev.val ?_; simp_all; omega) | (exfalso; simp_all; done) | (exfalso; simp_all; omega)
theorem impl_tab (e u : Int) (a : List S53) : Ev (fun k => impl_TableOk.f k e u a) (tabOk e u a) := by
  unfold impl_TableOk.f tabOk
  by_cases hn : a.length ≤ 16
  · have hl := impl_tab_loop e u a hn a.length 0 (by omega)
    repeat' first | (with_reducible refine Ev.ite (fun h => ?_) (fun h => ?_)) | (with_reducible refine Ev.bindSome ?_) | (with_reducible refine Ev.shift ?_; simp only [impl_TableOk.j0]) | (simp only [impl_in.f])
    all_goals first | (exfalso; omega) | (refine Ev.val ?_; simp_all; done) | (refine Ev.val ?_; simp_all; omega) | (exfalso; simp_all; done) | (exfalso; simp_all; omega) | (simp_all; done)
  · repeat' first | (with_reducible refine Ev.ite (fun h => ?_) (fun h => ?_)) | (with_reducible refine Ev.bindSome ?_) | (with_reducible refine Ev.shift ?_; simp only [impl_TableOk.j0]) | (simp only [impl_in.f])
    all_goals first | (exfalso; omega) | (refine Ev.val ?_; simp_all; done) | (refine Ev.val ?_; simp_all; omega) | (exfalso; simp_all; done) | (exfalso; simp_all; omega)
/-! marks: Ask -/
def mkAsk (j : Nat) : S53 := ⟨1 + 4 * (j : Int) + 0, 1 + 4 * (j : Int) + 1, 1 + 4 * (j : Int) + 2, 1 + 4 * (j : Int) + 3⟩
theorem rdsetAsk (a : List S53) (i : Nat) (v : S53) (h : i < a.length) : rd_T53 (a.set i v) (i : Int) = v := by simp [rd_T53, List.getD_eq_getElem?_getD, h]
theorem markAsk_loop (n : Nat) (hn : n ≤ 3000000) (d : Nat) : ∀ (i : Nat) (a : List S53), i + d = n → a.length = n → Ev (fun k => laws_markAskS.l0 k a (1 + 4 * (i : Int)) (i : Int)) ((1 + 4 * (n : Int)), a.take i ++ (List.range' i d).map mkAsk) := by
  induction d with
  | zero =>
    intro i a hi ha
    refine Ev.shift ?_; simp only [laws_markAskS.l0]
    refine Ev.ite (fun h => absurd h (by omega)) (fun _ => Ev.val ?_)
    obtain rfl : i = n := by omega
    rw [List.take_of_length_le (by omega)]; simp
  | succ d ih =>
    intro i a hi ha
    have hw : wrap64 ((i : Int) + 1) = ((i + 1 : Nat) : Int) := by unfold wrap64; omega
    have hw0 : wrap64 (1 + 4 * (i : Int) + 1) = 1 + 4 * (i : Int) + 1 := by unfold wrap64; omega
    have hw1 : wrap64 (1 + 4 * (i : Int) + 1 + 1) = 1 + 4 * (i : Int) + 2 := by unfold wrap64; omega
    have hw2 : wrap64 (1 + 4 * (i : Int) + 2 + 1) = 1 + 4 * (i : Int) + 3 := by unfold wrap64; omega
    have hw3 : wrap64 (1 + 4 * (i : Int) + 3 + 1) = 1 + 4 * (i : Int) + 4 := by unfold wrap64; omega
    have hl : i < a.length := by omega
    have hih := ih (i + 1) (a.set i (mkAsk i)) (by omega) (by simpa using ha)
    refine Ev.shift ?_; simp only [laws_markAskS.l0]
    refine Ev.ite (fun _ => ?_) (fun h => absurd (by omega) h)
    refine Ev.ite (fun _ => ?_) (fun h => absurd (by omega) h)
    repeat' (with_reducible refine Ev.bindSome ?_)
    simp only [Int.toNat_natCast]
    simp (disch := simp [hl]) only [rdsetAsk, List.set_set, hw, hw0, hw1, hw2, hw3]
    have e : (1 + 4 * ((i + 1 : Nat) : Int)) = 1 + 4 * (i : Int) + 4 := by omega
    rw [e] at hih
    have e2 : (a.set i (mkAsk i)).take (i + 1) ++ (List.range' (i + 1) d).map mkAsk = a.take i ++ (List.range' i (d + 1)).map mkAsk := by
      rw [List.range'_succ, List.map_cons, List.take_set, List.take_add_one, List.getElem?_eq_getElem hl]
      rw [List.set_append_right _ _ (by simp; omega)]
      have : i - (a.take i).length = 0 := by simp; omega
      rw [this]; simp
    rw [e2] at hih
    simpa [mkAsk] using hih
theorem markAsk_ev (a : List S53) (hn : a.length ≤ 3000000) : Ev (fun k => laws_markAskS.f k a 1) ((1 + 4 * (a.length : Int)), (List.range' 0 a.length).map mkAsk) := by
  have h := markAsk_loop a.length hn a.length 0 a (by omega) rfl
  unfold laws_markAskS.f
  simpa using h
theorem heldAsk_loop (n : Nat) (hn : n ≤ 3000000) (d : Nat) : ∀ (i : Nat), i + d = n → Ev (fun k => laws_heldAskS.l0 k ((List.range' 0 n).map mkAsk) (1 + 4 * (i : Int)) (i : Int)) (1 + 4 * (n : Int)) := by
  induction d with
  | zero =>
    intro i hi
    refine Ev.shift ?_; simp only [laws_heldAskS.l0]
    refine Ev.ite (fun h => absurd h (by simp; omega)) (fun _ => Ev.val ?_)
    omega
  | succ d ih =>
    intro i hi
    have hw : wrap64 ((i : Int) + 1) = ((i + 1 : Nat) : Int) := by unfold wrap64; omega
    have hw0 : wrap64 (1 + 4 * (i : Int) + 1) = 1 + 4 * (i : Int) + 1 := by unfold wrap64; omega
    have hw1 : wrap64 (1 + 4 * (i : Int) + 1 + 1) = 1 + 4 * (i : Int) + 2 := by unfold wrap64; omega
    have hw2 : wrap64 (1 + 4 * (i : Int) + 2 + 1) = 1 + 4 * (i : Int) + 3 := by unfold wrap64; omega
    have hw3 : wrap64 (1 + 4 * (i : Int) + 3 + 1) = 1 + 4 * (i : Int) + 4 := by unfold wrap64; omega
    have hr : rd_T53 ((List.range' 0 n).map mkAsk) (i : Int) = mkAsk i := by simp [rd_T53, List.getD_eq_getElem?_getD, show i < n by omega]
    have hih := ih (i + 1) (by omega)
    have e : (1 + 4 * ((i + 1 : Nat) : Int)) = 1 + 4 * (i : Int) + 4 := by omega
    rw [e] at hih
    refine Ev.shift ?_; simp only [laws_heldAskS.l0, hr, hw, hw0, hw1, hw2, hw3]
    repeat' (with_reducible refine Ev.ite (fun h => ?_) (fun h => ?_))
    all_goals first | exact hih | (exfalso; simp at h; omega) | (exfalso; apply h; simp [mkAsk]; done) | (exfalso; apply h; simp [mkAsk]; omega) | (exfalso; omega)
theorem heldAsk_ev (n : Nat) (hn : n ≤ 3000000) : Ev (fun k => laws_heldAskS.f k ((List.range' 0 n).map mkAsk) 1) (1 + 4 * (n : Int)) := by
  have h := heldAsk_loop n hn n 0 (by omega)
  unfold laws_heldAskS.f
  simpa using h
def rebOf (e u ep : Int) (a : List S53) : Int × Int × List S53 × Int := if tabOk e u a = true ∧ Pu.In ep 1 100000 = true ∧ e < ep then (ep, 0, [], 0) else (0, 0, [], 1)
theorem spec_reb (e u ep : Int) (a : List S53) : Ev (fun k => spec_Reboot.f k e u a ep) (rebOf e u ep a) := by
  have ht := spec_tab e u a
  unfold spec_Reboot.f rebOf
  refine Ev.bind ht ?_
  repeat' first | (with_reducible refine Ev.ite (fun h => ?_) (fun h => ?_)) | (with_reducible refine Ev.bindSome ?_) | (with_reducible refine Ev.shift ?_; simp only [spec_Reboot.j0]) | (simp only [spec_l1In.f])
  all_goals first | (exfalso; omega) | (refine Ev.val ?_; simp_all; done) | (refine Ev.val ?_; simp_all; omega) | (exfalso; simp_all; done) | (exfalso; simp_all; omega)
theorem impl_reb (e u ep : Int) (a : List S53) : Ev (fun k => impl_Reboot.f k e u a ep) (rebOf e u ep a) := by
  have ht := impl_tab e u a
  unfold impl_Reboot.f rebOf
  refine Ev.bind ht ?_
  repeat' first | (with_reducible refine Ev.ite (fun h => ?_) (fun h => ?_)) | (with_reducible refine Ev.bindSome ?_) | (with_reducible refine Ev.shift ?_; simp only [impl_Reboot.j0]) | (simp only [impl_in.f])
  all_goals first | (exfalso; omega) | (refine Ev.val ?_; simp_all; done) | (refine Ev.val ?_; simp_all; omega) | (exfalso; simp_all; done) | (exfalso; simp_all; omega)
/-- What is left of the statement: over lists alone. -/
theorem pure_FnExactReboot (e u : Int) (l : List S64) (ep : Int) : ∃ k, laws_FnExactReboot.f k e u l ep = some true := by
  apply Ev.rounds
  unfold laws_FnExactReboot.f
  have p1 : (0 : Int) ≤ 1048576 ∧ (1048576 : Int) ≤ 1048576 := by omega
  simp only [laws_szTable.f, laws_szAskS.f, laws_toTable.f, laws_toAskS.f, laws_eqTable.f, laws_eqAskS.f, if_pos p1]
  by_cases ha : l.length ≤ 1048576
  · rw [sz_small (by omega)]
    have hs := spec_reb e u ep ((l.map cv64).map vc53)
    have hi := impl_reb e u ep ((l.map cv64).map vc53)
    have hm := markAsk_ev ((l.map cv64).map vc53) (by simp; omega)
    have hr : (rebOf e u ep ((l.map cv64).map vc53)).2.2.1 = [] := by unfold rebOf; split <;> rfl
    have hm2 := markAsk_ev ([] : List S53) (by simp)
    have hh := heldAsk_ev 0 (by simp)
    generalize rebOf e u ep ((l.map cv64).map vc53) = R at *
    obtain ⟨R1, R2, R3, R4⟩ := R
    simp only at hr
    subst hr
    have p3 : ¬ (1048576 - (l.length : Int) < 0) := by omega
    simp only [if_pos ha, Option.bind_some, if_neg p3, List.length_nil, List.length_map] at *
    repeat' first | (with_reducible refine Ev.bindSome ?_) | (with_reducible refine Ev.pos (by first | omega | exact eqS_Ask _ | (simp; done) | assumption) ?_) | (with_reducible refine Ev.neg (by first | omega | exact eqS_Ask _ | (simp; done) | assumption) ?_) | (with_reducible refine Ev.bindPos (by first | omega | exact eqS_Ask _ | (simp; done) | assumption) ?_) | (with_reducible refine Ev.bindNeg (by first | omega | exact eqS_Ask _ | (simp; done) | assumption) ?_) | (with_reducible refine Ev.ite (fun h => ?_) (fun h => ?_)) | (with_reducible refine Ev.bindIte (fun h => ?_) (fun h => ?_)) | (with_reducible refine Ev.bind hs ?_) | (with_reducible refine Ev.bind hi ?_) | (with_reducible refine Ev.bind hm ?_) | (with_reducible refine Ev.bind hm2 ?_) | (with_reducible refine Ev.bind hh ?_) | (with_reducible refine Ev.bind (Ev.up hs) ?_) | (with_reducible refine Ev.bind (Ev.up hi) ?_) | (with_reducible refine Ev.bind (Ev.up hm) ?_) | (with_reducible refine Ev.bind (Ev.up hm2) ?_) | (with_reducible refine Ev.bind (Ev.up hh) ?_) | (with_reducible refine Ev.bind (Ev.up (Ev.up hs)) ?_) | (with_reducible refine Ev.bind (Ev.up (Ev.up hi)) ?_) | (with_reducible refine Ev.bind (Ev.up (Ev.up hm)) ?_) | (with_reducible refine Ev.bind (Ev.up (Ev.up hm2)) ?_) | (with_reducible refine Ev.bind (Ev.up (Ev.up hh)) ?_) | (with_reducible refine Ev.bind (Ev.up (Ev.up (Ev.up hs))) ?_) | (with_reducible refine Ev.bind (Ev.up (Ev.up (Ev.up hi))) ?_) | (with_reducible refine Ev.bind (Ev.up (Ev.up (Ev.up hm))) ?_) | (with_reducible refine Ev.bind (Ev.up (Ev.up (Ev.up hm2))) ?_) | (with_reducible refine Ev.bind (Ev.up (Ev.up (Ev.up hh))) ?_) | (simp only [laws_markTable.f, laws_heldTable.f, laws_toTable.f, laws_toAskS.f, laws_eqTable.f, laws_eqAskS.f, if_pos ha, eqS_Ask, Option.bind_some, Option.bind_assoc, ↓reduceIte]) | (with_reducible refine Ev.shift ?_; simp only [laws_FnExactReboot.j0]) | (with_reducible refine Ev.shift ?_; simp only [laws_FnExactReboot.j1]) | (with_reducible refine Ev.shift ?_; simp only [laws_FnExactReboot.j2])
    all_goals first | (exfalso; omega) | (refine Ev.val ?_; simp; done) | (exfalso; simp_all; done) | (exfalso; simp_all; omega)
  · rw [sz_big (n := l.length) (by omega)]
    exact ⟨0, fun k _ => by simp⟩
end Go.Proofs.Ytomfappebadllaa.PReboot
