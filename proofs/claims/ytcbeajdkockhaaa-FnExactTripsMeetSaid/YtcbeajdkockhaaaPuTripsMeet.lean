/-
  Chapter 8: what some answers have in common: the reference and the program tell the same. Plain lists, no memory.
  No statement of the seat is proved here.
-/
import Derived.Test.YtcbeajdkockhaaaPTripsMeetx
namespace Go.Proofs.Ytcbeajdkockhaaa.PTripsMeet
open Go.RowKit Go.Proofs.YtcbeajdkockhaaaW.PrintWords
set_option linter.unusedVariables false
theorem Ev.ite {α : Type} {c : Prop} [Decidable c] {f g : Nat → Option α} {r : α} (h1 : c → Ev f r) (h2 : ¬ c → Ev g r) : Ev (fun k => if c then f k else g k) r := by
  by_cases h : c
  · simpa only [if_pos h] using h1 h
  · simpa only [if_neg h] using h2 h
theorem Ev.shift {α : Type} {g : Nat → Option α} {r : α} (h : Ev (fun k => g (k + 1)) r) : Ev g r := Ev.step (fun _ => rfl) h
theorem Ev.bindSome {α β : Type} {a : α} {f : Nat → α → Option β} {r : β} (h : Ev (fun k => f k a) r) : Ev (fun k => (some a).bind (f k)) r := h
theorem Ev.up {α : Type} {g : Nat → Option α} {r : α} (h : Ev g r) : Ev (fun k => g (k + 1)) r := by
  obtain ⟨K, h⟩ := h
  exact ⟨K, fun k hk => h (k + 1) (by omega)⟩
theorem Ev.bindIte {α β : Type} {c : Prop} [Decidable c] {f g : Nat → Option α} {h : Nat → α → Option β} {r : β} (h1 : c → Ev (fun k => (f k).bind (h k)) r) (h2 : ¬ c → Ev (fun k => (g k).bind (h k)) r) : Ev (fun k => (if c then f k else g k).bind (h k)) r := by
  by_cases hc : c
  · simpa only [if_pos hc] using h1 hc
  · simpa only [if_neg hc] using h2 hc
theorem Ev.pos {α : Type} {c : Prop} [Decidable c] {f g : Nat → Option α} {r : α} (hc : c) (h : Ev f r) : Ev (fun k => if c then f k else g k) r := by simpa only [if_pos hc] using h
theorem Ev.neg {α : Type} {c : Prop} [Decidable c] {f g : Nat → Option α} {r : α} (hc : ¬ c) (h : Ev g r) : Ev (fun k => if c then f k else g k) r := by simpa only [if_neg hc] using h
theorem Ev.bindPos {α β : Type} {c : Prop} [Decidable c] {f g : Nat → Option α} {h : Nat → α → Option β} {r : β} (hc : c) (h1 : Ev (fun k => (f k).bind (h k)) r) : Ev (fun k => (if c then f k else g k).bind (h k)) r := by simpa only [if_pos hc] using h1
theorem Ev.bindNeg {α β : Type} {c : Prop} [Decidable c] {f g : Nat → Option α} {h : Nat → α → Option β} {r : β} (hc : ¬ c) (h1 : Ev (fun k => (g k).bind (h k)) r) : Ev (fun k => (if c then f k else g k).bind (h k)) r := by simpa only [if_neg hc] using h1
theorem Ev.val {α : Type} {a r : α} (h : a = r) : Ev (fun _ => some a) r := h ▸ Ev.now a
theorem sz_small {n : Nat} {x : Int} (h : (n : Int) ≤ x) : Pu.sz x n = x - n := by unfold Pu.sz; rw [if_neg (by omega)]
theorem sz_big {n : Nat} {x : Int} (h : x < n) : Pu.sz x n = -1 := by unfold Pu.sz; rw [if_pos (by omega)]
/-- All of d places from i on. -/
def allFrom (c : Nat → Bool) : Nat → Nat → Bool
  | _, 0 => true
  | i, d + 1 => c i && allFrom c (i + 1) d
/-! What a list of intervals has in common: the reference's way. -/
theorem l1All_loop (a : List S27) (hn : a.length ≤ 64) (d : Nat) : ∀ (i : Nat), i + d = a.length → Ev (fun k => spec_l1All.l0 k a (i : Int)) (((a.map cv27).drop i).all Pu.IvalOk) := by
  induction d with
  | zero =>
    intro i hi
    refine Ev.shift ?_; simp only [spec_l1All.l0]
    rw [List.drop_eq_nil_of_le (by simp; omega)]
    exact Ev.neg (by omega) (Ev.val rfl)
  | succ d ih =>
    intro i hi
    have hl : i < a.length := by omega
    have hw : wrap64 ((i : Int) + 1) = ((i + 1 : Nat) : Int) := by unfold wrap64; omega
    have ea : rd_T27 a (i : Int) = a[i] := by simp [rd_T27, List.getD_eq_getElem?_getD, hl]
    have hih := ih (i + 1) (by omega)
    rw [List.drop_eq_getElem_cons (by simpa using hl)]
    have hx : ((a.map cv27)[i]'(by simpa using hl)) = ⟨a[i].f0, a[i].f1⟩ := by simp [cv27]
    rw [hx, List.all_cons]
    refine Ev.shift ?_; simp only [spec_l1All.l0, spec_IvalOk.f, Option.bind_some, ea, hw]
    refine Ev.pos (by omega) (Ev.pos (by omega) (Ev.ite (fun h => ?_) (fun h => ?_)))
    · rw [h]; simpa using hih
    · have h' : Pu.IvalOk ⟨a[i].f0, a[i].f1⟩ = false := by simpa using h
      rw [h']; exact Ev.val rfl
theorem Told_of {x : Ival} (h : Pu.IvalOk x = true) : Pu.Told x.lo x.hi = (x, true) := by unfold Pu.Told; rw [if_pos h]
theorem meet_rest (l : List Ival) : ∀ (o : Ival), Pu.IvalOk o = true → l.all Pu.IvalOk = true →
    (Pu.Told (l.foldl Pu.putMeetAll o).lo (l.foldl Pu.putMeetAll o).hi) = (match l with | [] => (o, true) | x :: xs => if (Pu.Meet o x).2 = true then Pu.Told (xs.foldl Pu.putMeetAll (Pu.Meet o x).1).lo (xs.foldl Pu.putMeetAll (Pu.Meet o x).1).hi else (⟨0, 0⟩, false)) := by
  intro o ho hl
  cases l with
  | nil => exact Told_of ho
  | cons x xs =>
    simp only [List.all_cons, Bool.and_eq_true] at hl
    simp only [List.foldl_cons]
    have e : Pu.Meet o x = Pu.Told (max o.lo x.lo) (min o.hi x.hi) := by unfold Pu.Meet; rw [if_pos ⟨ho, hl.1⟩]
    by_cases h : Pu.IvalOk ⟨max o.lo x.lo, min o.hi x.hi⟩ = true
    · have e2 : Pu.Meet o x = (Pu.putMeetAll o x, true) := by rw [e]; exact Told_of h
      rw [e2]; simp
    · have e2 : Pu.Meet o x = (⟨0, 0⟩, false) := by rw [e]; unfold Pu.Told; rw [if_neg h]
      rw [e2]; simp only [Bool.false_eq_true, if_false]
      have hlo : ∀ (ys : List Ival) (p : Ival), p.lo ≤ (ys.foldl Pu.putMeetAll p).lo ∧ (ys.foldl Pu.putMeetAll p).hi ≤ p.hi := by
        intro ys
        induction ys with
        | nil => intro p; simp
        | cons y ys ih => intro p; have := ih (Pu.putMeetAll p y); simp only [List.foldl_cons]; simp only [Pu.putMeetAll] at *; omega
      have h2 := hlo xs (Pu.putMeetAll o x)
      unfold Pu.Told
      rw [if_neg]
      intro hc
      apply h
      rw [Pu.IvalOk_iff] at hc ⊢
      have ha := (Pu.IvalOk_iff o).1 ho
      have hb := (Pu.IvalOk_iff x).1 hl.1
      simp only [Pu.putMeetAll] at *
      omega
theorem meet_loop (a : List S27) (hn : a.length ≤ 64) (hall : (a.map cv27).all Pu.IvalOk = true) (d : Nat) : ∀ (i : Nat) (o : Ival), i + d = a.length → Pu.IvalOk o = true →
    Ev (fun k => spec_MeetAll.l0 k a (i : Int) o.lo o.hi) ((fun m : Ival × Bool => (m.1.lo, m.1.hi, m.2)) (Pu.Told (((a.map cv27).drop i).foldl Pu.putMeetAll o).lo (((a.map cv27).drop i).foldl Pu.putMeetAll o).hi)) := by
  induction d with
  | zero =>
    intro i o hi ho
    refine Ev.shift ?_; simp only [spec_MeetAll.l0]
    rw [List.drop_eq_nil_of_le (by simp; omega), List.foldl_nil, Told_of ho]
    exact Ev.neg (by omega) (Ev.val rfl)
  | succ d ih =>
    intro i o hi ho
    have hl : i < a.length := by omega
    have hw : wrap64 ((i : Int) + 1) = ((i + 1 : Nat) : Int) := by unfold wrap64; omega
    have ea : rd_T27 a (i : Int) = a[i] := by simp [rd_T27, List.getD_eq_getElem?_getD, hl]
    have hd : ((a.map cv27).drop i).all Pu.IvalOk = true := by
      rw [List.all_eq_true] at *; exact fun x hx => hall x (List.mem_of_mem_drop hx)
    have hr := meet_rest ((a.map cv27).drop i) o ho hd
    rw [List.drop_eq_getElem_cons (by simpa using hl)] at hr ⊢
    have hx : ((a.map cv27)[i]'(by simpa using hl)) = ⟨a[i].f0, a[i].f1⟩ := by simp [cv27]
    rw [hx] at hr ⊢
    rw [hr]
    refine Ev.shift ?_; simp only [spec_MeetAll.l0, spec_Meet.f, Option.bind_some, ea, hw]
    refine Ev.pos (by omega) (Ev.pos (by omega) (Ev.ite (fun h => ?_) (fun h => ?_)))
    · rw [if_pos h]
      refine ih (i + 1) _ (by omega) ?_
      unfold Pu.Meet at h ⊢
      split at h
      · rename_i hc; rw [if_pos hc]; exact (Pu.Told_ok h).1
      · cases h
    · rw [if_neg h]; exact Ev.val rfl
theorem spec_all (a : List S27) (hb : a.length ≤ 3000000) : Ev (fun k => spec_MeetAll.f k a) ((Pu.folded Pu.putMeetAll (a.map cv27)).1.lo, (Pu.folded Pu.putMeetAll (a.map cv27)).1.hi, (Pu.folded Pu.putMeetAll (a.map cv27)).2) := by
  unfold spec_MeetAll.f
  cases ha : a with
  | nil => refine Ev.pos rfl ?_; refine Ev.shift ?_; simp only [spec_MeetAll.j0]; exact Ev.pos (by simp) (Ev.val rfl)
  | cons x xs =>
    rw [← ha]
    have hlen : a.length = xs.length + 1 := by rw [ha]; rfl
    refine Ev.neg (by omega) ?_
    by_cases hn : a.length ≤ 64
    · have h1 : Ev (fun k => spec_l1All.f k a 64) ((a.map cv27).all Pu.IvalOk) := by
        unfold spec_l1All.f
        refine Ev.neg (by omega) ?_
        simpa using l1All_loop a hn a.length 0 (by omega)
      refine Ev.bind h1 ?_
      refine Ev.shift ?_; simp only [spec_MeetAll.j0]
      have hx : rd_T27 a 0 = x := by rw [ha]; rfl
      have hf : Pu.folded Pu.putMeetAll (a.map cv27) = if (a.map cv27).all Pu.IvalOk = true then Pu.Told ((a.map cv27).foldl Pu.putMeetAll (cv27 x)).lo ((a.map cv27).foldl Pu.putMeetAll (cv27 x)).hi else (⟨0, 0⟩, false) := by
        rw [Pu.folded_rest (x := cv27 x) (by rw [ha]; rfl) (by simpa using hn), Pu.foldRest_eq]
      rw [hf]
      by_cases hall : (a.map cv27).all Pu.IvalOk = true
      · rw [if_pos hall]
        refine Ev.neg (by simp [hall]) (Ev.pos (by omega) ?_)
        rw [hx]
        have hox : Pu.IvalOk (cv27 x) = true := by
          rw [List.all_eq_true] at hall; exact hall _ (by rw [ha]; simp)
        have h2 := meet_loop a hn hall xs.length 1 (cv27 x) (by omega) hox
        have e : ((a.map cv27).drop 1).foldl Pu.putMeetAll (cv27 x) = (a.map cv27).foldl Pu.putMeetAll (cv27 x) := by
          rw [ha]; simp [Pu.putMeetAll]
        rw [e] at h2
        exact h2
      · rw [if_neg hall]
        exact Ev.pos (by simpa using hall) (Ev.val rfl)
    · have h1 : Ev (fun k => spec_l1All.f k a 64) false := by
        unfold spec_l1All.f
        exact Ev.pos (by omega) (Ev.val rfl)
      refine Ev.bind h1 ?_
      refine Ev.shift ?_; simp only [spec_MeetAll.j0]
      rw [Pu.folded_none (by simp; omega)]
      exact Ev.pos (by simp) (Ev.val rfl)
def trOf (a : List S29) (i : Nat) : Trip := let x := rd_T29 a (i : Int); ⟨x.f0, ⟨x.f1.f0, x.f1.f1⟩, x.f2, x.f3⟩
def fin3 (m : Ival × Bool) (over : Bool) : Int × Int × Int := if over = true then (0, 0, 2) else if m.2 = true then (m.1.lo, m.1.hi, 0) else (0, 0, 3)
/-- What d answers from place i on come to, behind those that were met. -/
def meetFrom (dn dd pt : Int) (a : List S29) : List S27 → Bool → Nat → Nat → Int × Int × Int
  | acc, over, _, 0 => fin3 (Pu.folded Pu.putMeetAll (acc.map cv27)) over
  | acc, over, i, d + 1 =>
    let b := Pu.CarryTrip ⟨dn, dd⟩ (trOf a i) pt
    if b.2 = 1 ∨ Pu.In pt (trOf a i).got 1000000000000 = false then (0, 0, 1)
    else meetFrom dn dd pt a (acc ++ [⟨b.1.lo, b.1.hi⟩]) (over || b.2 == 2) (i + 1) d
theorem spec_trips_loop (dn dd pt : Int) (a : List S29) (hn : a.length ≤ 20) (d : Nat) : ∀ (i : Nat) (acc : List S27) (over : Bool), i + d = a.length → acc.length = i →
    Ev (fun k => spec_TripsMeet.l0 k a pt acc over (i : Int) dn dd) (meetFrom dn dd pt a acc over i d) := by
  induction d with
  | zero =>
    intro i acc over hi hac
    rw [meetFrom]
    refine Ev.shift ?_; simp only [spec_TripsMeet.l0]
    refine Ev.neg (by omega) ?_
    unfold fin3
    cases over
    · with_reducible refine Ev.neg (by simp) ?_
      rw [if_neg (by simp)]
      refine Ev.bind (spec_all acc (by omega)) ?_
      exact Ev.ite (fun h => by rw [if_pos h]; exact Ev.val rfl) (fun h => by rw [if_neg h]; exact Ev.val rfl)
    · with_reducible refine Ev.pos (by simp) ?_
      exact Ev.val rfl
  | succ d ih =>
    intro i acc over hi hac
    have hw : wrap64 ((i : Int) + 1) = ((i + 1 : Nat) : Int) := by unfold wrap64; omega
    have hih := fun x o => ih (i + 1) (acc ++ [x]) o (by omega) (by simp; omega)
    rw [meetFrom]
    refine Ev.shift ?_; simp only [spec_TripsMeet.l0, spec_CarryTrip.f, spec_l1In.f, Option.bind_some, hw]
    refine Ev.pos (by omega) (Ev.pos (by omega) ?_)
    have e : Pu.CarryTrip ⟨dn, dd⟩ (trOf a i) pt = Pu.CarryTrip ⟨dn, dd⟩ ⟨(rd_T29 a (i : Int)).f0, ⟨(rd_T29 a (i : Int)).f1.f0, (rd_T29 a (i : Int)).f1.f1⟩, (rd_T29 a (i : Int)).f2, (rd_T29 a (i : Int)).f3⟩ pt := rfl
    have e2 : (trOf a i).got = (rd_T29 a (i : Int)).f3 := rfl
    rw [e, e2]
    generalize Pu.CarryTrip _ _ _ = B at *
    refine Ev.ite (fun h => ?_) (fun h => ?_)
    · rw [if_pos (.inl h)]; exact Ev.val rfl
    · refine Ev.ite (fun h2 => ?_) (fun h2 => ?_)
      · rw [if_neg (by intro hc; rcases hc with hc | hc; exact h hc; rw [h2] at hc; cases hc)]
        refine Ev.ite (fun h3 => ?_) (fun h3 => ?_)
        · subst h3; exact Ev.pos (by omega) (by simpa using hih _ _)
        · have h3' : over = false := by simpa using h3
          subst h3'; exact Ev.pos (by omega) (by simpa using hih _ _)
      · rw [if_pos (.inr (by simpa using h2))]; exact Ev.val rfl
theorem impl_trips_loop (dn dd pt : Int) (a : List S29) (hn : a.length ≤ 20) (d : Nat) : ∀ (i : Nat) (acc : List S27) (over : Bool), i + d = a.length → acc.length = i →
    Ev (fun k => impl_TripsMeet.l0 k pt acc over a (a.length : Int) (i : Int) dn dd) (meetFrom dn dd pt a acc over i d) := by
  induction d with
  | zero =>
    intro i acc over hi hac
    rw [meetFrom]
    refine Ev.shift ?_; simp only [impl_TripsMeet.l0, impl_MeetAll.f, Option.bind_some]
    refine Ev.neg (by omega) ?_
    unfold fin3
    cases over
    · simp only [Bool.false_eq_true, if_false]
      exact Ev.ite (fun h => by rw [if_pos h]; exact Ev.val rfl) (fun h => by rw [if_neg h]; exact Ev.val rfl)
    · with_reducible refine Ev.pos (by simp) ?_
      exact Ev.val rfl
  | succ d ih =>
    intro i acc over hi hac
    have hw : wrap64 ((i : Int) + 1) = ((i + 1 : Nat) : Int) := by unfold wrap64; omega
    have hih := fun x o => ih (i + 1) (acc ++ [x]) o (by omega) (by simp; omega)
    rw [meetFrom]
    refine Ev.shift ?_; simp only [impl_TripsMeet.l0, impl_CarryTrip.f, impl_in.f, Option.bind_some, hw]
    refine Ev.pos (by omega) (Ev.pos (by omega) (Ev.pos (by omega) ?_))
    have e : Pu.CarryTrip ⟨dn, dd⟩ (trOf a i) pt = Pu.CarryTrip ⟨dn, dd⟩ ⟨(rd_T29 a (i : Int)).f0, ⟨(rd_T29 a (i : Int)).f1.f0, (rd_T29 a (i : Int)).f1.f1⟩, (rd_T29 a (i : Int)).f2, (rd_T29 a (i : Int)).f3⟩ pt := rfl
    have e2 : (trOf a i).got = (rd_T29 a (i : Int)).f3 := rfl
    rw [e, e2]
    generalize Pu.CarryTrip _ _ _ = B at *
    refine Ev.ite (fun h => ?_) (fun h => ?_)
    · rw [if_pos (.inl h)]; exact Ev.val rfl
    · refine Ev.ite (fun h2 => ?_) (fun h2 => ?_)
      · rw [if_neg (by intro hc; rcases hc with hc | hc; exact h hc; rw [h2] at hc; cases hc)]
        refine Ev.ite (fun h3 => ?_) (fun h3 => ?_)
        · subst h3; exact Ev.pos (by omega) (by simpa using hih _ _)
        · have h3' : over = false := by simpa using h3
          subst h3'; exact Ev.pos (by omega) (by simpa using hih _ _)
      · rw [if_pos (.inr (by simpa using h2))]; exact Ev.val rfl
def meetOf (dn dd pt : Int) (a : List S29) : Int × Int × Int := if Pu.In (a.length : Int) 1 20 = true then meetFrom dn dd pt a [] false 0 a.length else (0, 0, 1)
theorem spec_trips (dn dd pt : Int) (a : List S29) : Ev (fun k => spec_TripsMeet.f k dn dd a pt) (meetOf dn dd pt a) := by
  unfold spec_TripsMeet.f meetOf
  simp only [spec_l1In.f, Option.bind_some]
  refine Ev.ite (fun h => ?_) (fun h => ?_)
  · rw [if_pos h]; have := (Pu.In_iff _ _ _).1 h; exact spec_trips_loop dn dd pt a (by omega) a.length 0 [] false (by omega) rfl
  · rw [if_neg h]; exact Ev.val rfl
theorem impl_trips (dn dd pt : Int) (a : List S29) : Ev (fun k => impl_TripsMeet.f k dn dd a pt) (meetOf dn dd pt a) := by
  unfold impl_TripsMeet.f meetOf
  simp only [impl_in.f, Option.bind_some]
  refine Ev.ite (fun h => ?_) (fun h => ?_)
  · rw [if_pos h]; have := (Pu.In_iff _ _ _).1 h; exact impl_trips_loop dn dd pt a (by omega) a.length 0 [] false (by omega) rfl
  · rw [if_neg h]; exact Ev.val rfl
/-- What is left of the statement: over lists alone. -/
theorem pure_FnExactTripsMeet (dn dd : Int) (l : List S25) (pt : Int) : ∃ k, laws_FnExactTripsMeet.f k dn dd l pt = some true := by
  apply Ev.rounds
  unfold laws_FnExactTripsMeet.f
  have p1 : (0 : Int) ≤ 1048576 ∧ (1048576 : Int) ≤ 1048576 := by omega
  simp only [laws_szTripS.f, if_pos p1]
  by_cases ha : l.length ≤ 1048576
  · rw [sz_small (by omega)]
    have hs := spec_trips dn dd pt ((l.map cv25).map vc29)
    have hi := impl_trips dn dd pt ((l.map cv25).map vc29)
    have p3 : ¬ (1048576 - (l.length : Int) < 0) := by omega
    simp only [Option.bind_some, if_neg p3, laws_toTripS.f, laws_toDrift.f, if_pos ha, laws_eqTripS.f, eqS_Trip, laws_eqIval.f]
    repeat' first | (with_reducible refine Ev.bindSome ?_) | (with_reducible refine Ev.pos (by first | omega | exact eqS_Trip _ | (simp; done) | assumption) ?_) | (with_reducible refine Ev.neg (by first | omega | exact eqS_Trip _ | (simp; done) | assumption) ?_) | (with_reducible refine Ev.bindPos (by first | omega | exact eqS_Trip _ | (simp; done) | assumption) ?_) | (with_reducible refine Ev.bindNeg (by first | omega | exact eqS_Trip _ | (simp; done) | assumption) ?_) | (with_reducible refine Ev.ite (fun h => ?_) (fun h => ?_)) | (with_reducible refine Ev.bindIte (fun h => ?_) (fun h => ?_)) | (with_reducible refine Ev.bind hs ?_) | (with_reducible refine Ev.bind hi ?_) | (with_reducible refine Ev.bind (Ev.up hs) ?_) | (with_reducible refine Ev.bind (Ev.up hi) ?_) | (with_reducible refine Ev.bind (Ev.up (Ev.up hs)) ?_) | (with_reducible refine Ev.bind (Ev.up (Ev.up hi)) ?_) | (with_reducible refine Ev.bind (Ev.up (Ev.up (Ev.up hs))) ?_) | (with_reducible refine Ev.bind (Ev.up (Ev.up (Ev.up hi))) ?_) | (simp only [laws_toTripS.f, laws_toDrift.f, laws_eqTripS.f, laws_eqIval.f, Pu.eqIval_self, if_pos ha, eqS_Trip, Option.bind_some, Option.bind_assoc, ↓reduceIte]) | (with_reducible refine Ev.shift ?_; simp only [laws_FnExactTripsMeet.j0])
    all_goals first | (exfalso; omega) | (refine Ev.val ?_; simp; done) | (exfalso; simp_all; done)
  · rw [sz_big (n := l.length) (by omega)]
    exact ⟨0, fun k _ => by simp⟩
end Go.Proofs.Ytcbeajdkockhaaa.PTripsMeet
