/-
  Chapter 1: what is put together out of a list of intervals, as plain functions.
  No statement of the seat is proved here.
-/
import Derived.Test.YtpedhnhemocblaaSl
namespace Go.Proofs.Ytpedhnhemocblaa
open Go.RowKit
theorem add_nought (a : Addr) : a.add 0 = a := by cases a; unfold Addr.add; split <;> simp_all
open Go.Proofs.YtpedhnhemocblaaW.PrintWords in
theorem two_C (W : World) (B e : Nat) (a b : Ival) (hB : W.heap.size = B) : Kd.C kIval (W.alloc (.cells #[.int .i64 a.lo, .int .i64 a.hi, .int .i64 b.lo, .int .i64 b.hi] e)) (some ⟨B, 0, none⟩) 2 [a, b] := by
  subst hB
  refine ⟨rfl, by omega, fun _ => ⟨_, rfl, fun j p hj => ?_⟩⟩
  rcases j with _ | _ | j
  · simp at hj; subst hj
    refine ⟨[.int .i64 a.lo, .int .i64 a.hi], rfl, kIval_mk _ a, fun i u hu => ?_⟩
    rcases i with _ | _ | i
    · simp at hu; subst hu; simp [go_sem, Addr.add]
    · simp at hu; subst hu; simp [go_sem, Addr.add]
    · simp at hu
  · simp at hj; subst hj
    refine ⟨[.int .i64 b.lo, .int .i64 b.hi], rfl, kIval_mk _ b, fun i u hu => ?_⟩
    rcases i with _ | _ | i
    · simp at hu; subst hu
      have e : kIval.sz = 2 := rfl
      rw [e]; simp [go_sem, Addr.add]
    · simp at hu; subst hu
      have e : kIval.sz = 2 := rfl
      rw [e]; simp [go_sem, Addr.add]
    · simp at hu
  · simp at hj
namespace Pu
def putMeetAll (o a : Ival) : Ival := ⟨max o.lo a.lo, min o.hi a.hi⟩
def putJoinAll (o a : Ival) : Ival := ⟨min o.lo a.lo, max o.hi a.hi⟩
/-- All of a list, put together from its first one on. -/
def folded (put : Ival → Ival → Ival) : List Ival → Ival × Bool
  | [] => (⟨0, 0⟩, false)
  | x :: xs => if (x :: xs).length ≤ 64 ∧ (x :: xs).all IvalOk = true then Told ((x :: xs).foldl put x).lo ((x :: xs).foldl put x).hi else (⟨0, 0⟩, false)
/-- What is left to be put to o. -/
def foldRest (put : Ival → Ival → Ival) : Ival → List Ival → Ival × Bool
  | o, [] => Told o.lo o.hi
  | o, x :: xs => if IvalOk x = true then foldRest put (put o x) xs else (⟨0, 0⟩, false)
theorem foldRest_eq (put : Ival → Ival → Ival) : ∀ (l : List Ival) (o : Ival), foldRest put o l = if l.all IvalOk = true then Told (l.foldl put o).lo (l.foldl put o).hi else (⟨0, 0⟩, false)
  | [], o => by simp [foldRest]
  | x :: xs, o => by
    unfold foldRest
    rw [foldRest_eq put xs (put o x)]
    by_cases h : IvalOk x = true <;> simp [h]
theorem folded_rest {put : Ival → Ival → Ival} {l : List Ival} {x : Ival} (hx : l[0]? = some x) (hn : l.length ≤ 64) : folded put l = foldRest put x l := by
  cases l with
  | nil => cases hx
  | cons y ys =>
    simp at hx; subst hx
    have e : folded put (y :: ys) = if (y :: ys).length ≤ 64 ∧ (y :: ys).all IvalOk = true then Told ((y :: ys).foldl put y).lo ((y :: ys).foldl put y).hi else (⟨0, 0⟩, false) := rfl
    rw [foldRest_eq, e]
    by_cases h : (y :: ys).all IvalOk = true
    · rw [if_pos ⟨hn, h⟩, if_pos h]
    · rw [if_neg (fun k => h k.2), if_neg h]
theorem folded_none {put : Ival → Ival → Ival} {l : List Ival} (h : ¬ (1 ≤ l.length ∧ l.length ≤ 64)) : folded put l = (⟨0, 0⟩, false) := by
  cases l with
  | nil => rfl
  | cons y ys =>
    have e : folded put (y :: ys) = if (y :: ys).length ≤ 64 ∧ (y :: ys).all IvalOk = true then Told ((y :: ys).foldl put y).lo ((y :: ys).foldl put y).hi else (⟨0, 0⟩, false) := rfl
    rw [e, if_neg (fun k => h ⟨by simp, k.1⟩)]
theorem folded_Meet (a b : Ival) : folded putMeetAll [a, b] = Meet a b := by
  have e : folded putMeetAll [a, b] = if [a, b].length ≤ 64 ∧ [a, b].all IvalOk = true then Told ([a, b].foldl putMeetAll a).lo ([a, b].foldl putMeetAll a).hi else (⟨0, 0⟩, false) := rfl
  rw [e]; unfold Meet
  by_cases h : IvalOk a = true ∧ IvalOk b = true
  · rw [if_pos h, if_pos ⟨by simp, by simp [h.1, h.2]⟩]
    have h1 : ([a, b].foldl putMeetAll a).lo = max a.lo b.lo := by simp [putMeetAll]
    have h2 : ([a, b].foldl putMeetAll a).hi = min a.hi b.hi := by simp [putMeetAll]
    rw [h1, h2]
  · rw [if_neg h, if_neg (fun k => h (by simpa using k.2))]
theorem folded_Join (a b : Ival) : folded putJoinAll [a, b] = Join a b := by
  have e : folded putJoinAll [a, b] = if [a, b].length ≤ 64 ∧ [a, b].all IvalOk = true then Told ([a, b].foldl putJoinAll a).lo ([a, b].foldl putJoinAll a).hi else (⟨0, 0⟩, false) := rfl
  rw [e]; unfold Join
  by_cases h : IvalOk a = true ∧ IvalOk b = true
  · rw [if_pos h, if_pos ⟨by simp, by simp [h.1, h.2]⟩]
    have h1 : ([a, b].foldl putJoinAll a).lo = min a.lo b.lo := by simp [putJoinAll]
    have h2 : ([a, b].foldl putJoinAll a).hi = max a.hi b.hi := by simp [putJoinAll]
    rw [h1, h2]
  · rw [if_neg h, if_neg (fun k => h (by simpa using k.2))]
def Narrow (l : Local) (d : Drift) (c : Int) (wi : Ival) : Local × Int :=
  if (CarryOn l d c).2 = 1 ∨ IvalOk wi = false then (⟨false, ⟨0, 0⟩, 0⟩, 1)
  else if (CarryOn l d c).2 = 2 then (⟨true, wi, c⟩, 0)
  else if (CarryOn l d c).2 = 0 then
    if (Meet (CarryOn l d c).1 wi).2 = true then (⟨true, (Meet (CarryOn l d c).1 wi).1, c⟩, 0) else (⟨false, ⟨0, 0⟩, 0⟩, 5)
  else (⟨false, ⟨0, 0⟩, 0⟩, (CarryOn l d c).2)
end Pu
end Go.Proofs.Ytpedhnhemocblaa
