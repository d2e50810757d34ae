/-
  The plain functions that the Go functions of chapters 1, 2, 6, 7, 8, 11 and 12 compute, over whole numbers, and what is known of their tests.
  No statement of the seat is proved here.
-/
import Derived.Test.YtbfbcecghokpoaaBase
namespace Go.Proofs.Ytbfbcecghokpoaa

structure Ival where
  lo : Int
  hi : Int
structure Drift where
  num : Int
  den : Int
structure Frac where
  num : Int
  den : Int
structure App where
  has : Bool
  last : Int
structure Trip where
  src : Int
  said : Ival
  sent : Int
  got : Int
structure Local where
  known : Bool
  bound : Ival
  pt : Int
structure Mark where
  time : Int
  count : Int
structure Stride where
  by_ : Int
  want : Int
structure Osc where
  drift : Drift
  time : Int
  count : Int
structure Look where
  known : Bool
  now : Ival
structure Reading where
  value : Int
  holds : Bool
  code : Int

namespace Pu
theorem Ival.eta (x : Ival) : Ival.mk x.lo x.hi = x := rfl
theorem Drift.eta (x : Drift) : Drift.mk x.num x.den = x := rfl
theorem Frac.eta (x : Frac) : Frac.mk x.num x.den = x := rfl
attribute [simp] Ival.eta Drift.eta Frac.eta

def In (x lo hi : Int) : Bool := decide (lo ≤ x) && decide (x ≤ hi)
def IvalOk (a : Ival) : Bool := decide (-1000000000000 ≤ a.lo) && decide (a.lo ≤ a.hi) && decide (a.hi ≤ 1000000000000)
def Told (lo hi : Int) : Ival × Bool := if IvalOk ⟨lo, hi⟩ = true then (⟨lo, hi⟩, true) else (⟨0, 0⟩, false)
def Wide (a : Ival) : Int := if IvalOk a = true then a.hi - a.lo else -1
def Holds (a : Ival) (t : Int) : Bool := IvalOk a && In t a.lo a.hi
def Within (a b : Ival) : Bool := IvalOk a && (IvalOk b && (decide (b.lo ≤ a.lo) && decide (a.hi ≤ b.hi)))
def Spread (a : Ival) (low high : Int) : Ival × Bool :=
  if IvalOk a = true ∧ In low 0 2000000000000 = true ∧ In high 0 2000000000000 = true then Told (a.lo - low) (a.hi + high) else (⟨0, 0⟩, false)
def up (a b : Int) : Int := -((-a) / b)
def Apart (a b : Ival) : Int := if IvalOk a = true ∧ IvalOk b = true then max 0 (max (b.lo - a.hi) (a.lo - b.hi)) else -1
def Middle (a : Ival) : Int × Bool := if IvalOk a = true then ((a.lo + a.hi) / 2, true) else (0, false)
def Nearest (a : Ival) (t : Int) : Int × Bool := if IvalOk a = true then (max a.lo (min a.hi t), true) else (0, false)
def PlusIval (a b : Ival) : Ival × Bool := if IvalOk a = true ∧ IvalOk b = true then Told (a.lo + b.lo) (a.hi + b.hi) else (⟨0, 0⟩, false)
def LessIval (a b : Ival) : Ival × Bool := if IvalOk a = true ∧ IvalOk b = true then Told (a.lo - b.hi) (a.hi - b.lo) else (⟨0, 0⟩, false)
def Meet (a b : Ival) : Ival × Bool := if IvalOk a = true ∧ IvalOk b = true then Told (max a.lo b.lo) (min a.hi b.hi) else (⟨0, 0⟩, false)
def Join (a b : Ival) : Ival × Bool := if IvalOk a = true ∧ IvalOk b = true then Told (min a.lo b.lo) (max a.hi b.hi) else (⟨0, 0⟩, false)
def DriftOk (d : Drift) : Bool := In d.den 1 1000000 && (In d.num 0 d.den && decide (2 * d.num ≤ d.den))
def isTime (t : Int) : Bool := In t 0 1000000000000
def isNode (t : Int) : Bool := In t 0 7
def MayCount (d : Drift) (t n : Int) : Bool :=
  DriftOk d && (isTime t && (isTime n && (decide (t * (d.den - d.num) ≤ n * d.den) && decide (n * d.den ≤ t * (d.den + d.num)))))
def Told2 (x : Int) : Int × Bool := if x ≤ 1000000000000 then (x, true) else (0, false)
def LeastTime (d : Drift) (c : Int) : Int × Bool := if DriftOk d = true ∧ isTime c = true then Told2 (up (c * d.den) (d.den + d.num)) else (0, false)
def MostTime (d : Drift) (c : Int) : Int × Bool := if DriftOk d = true ∧ isTime c = true then Told2 (c * d.den / (d.den - d.num)) else (0, false)
def LeastCount (d : Drift) (t : Int) : Int × Bool := if DriftOk d = true ∧ isTime t = true then Told2 (up (t * (d.den - d.num)) d.den) else (0, false)
def MostCount (d : Drift) (t : Int) : Int × Bool := if DriftOk d = true ∧ isTime t = true then Told2 (t * (d.den + d.num) / d.den) else (0, false)
def Between (d : Drift) (c : Int) : Ival × Bool :=
  if (LeastTime d c).2 = true ∧ (MostTime d c).2 = true then (⟨(LeastTime d c).1, (MostTime d c).1⟩, true) else (⟨0, 0⟩, false)
def LocalOk (l : Local) : Bool := if l.known = true then IvalOk l.bound && isTime l.pt else l.bound.lo == 0 && (l.bound.hi == 0 && l.pt == 0)
def CarryOn (l : Local) (d : Drift) (c : Int) : Ival × Int :=
  if LocalOk l = true ∧ DriftOk d = true ∧ isTime c = true then
    if l.known = false then (⟨0, 0⟩, 2)
    else if c < l.pt then (⟨0, 0⟩, 3)
    else if (Between d (c - l.pt)).2 = true ∧ (PlusIval l.bound (Between d (c - l.pt)).1).2 = true then ((PlusIval l.bound (Between d (c - l.pt)).1).1, 0)
    else (⟨0, 0⟩, 4)
  else (⟨0, 0⟩, 1)
def WidthAt (l : Local) (d : Drift) (c : Int) : Int := if (CarryOn l d c).2 = 0 then Wide (CarryOn l d c).1 else -1
def Rebase (l : Local) (d : Drift) (c : Int) : Local × Int :=
  if (CarryOn l d c).2 = 0 then (⟨true, (CarryOn l d c).1, c⟩, (CarryOn l d c).2) else (⟨false, ⟨0, 0⟩, 0⟩, (CarryOn l d c).2)
def RoundBound (d : Drift) (said : Ival) (trip : Int) : Ival × Int :=
  if DriftOk d = true ∧ IvalOk said = true ∧ isTime trip = true then
    if (MostTime d trip).2 = true ∧ (Spread said 0 (MostTime d trip).1).2 = true then ((Spread said 0 (MostTime d trip).1).1, 0) else (⟨0, 0⟩, 2)
  else (⟨0, 0⟩, 1)
def TripOk (t : Trip) : Bool := isNode t.src && (IvalOk t.said && (In t.sent 0 t.got && decide (t.got ≤ 1000000000000)))
def TripBound (d : Drift) (t : Trip) : Ival × Int := if TripOk t = true then RoundBound d t.said (t.got - t.sent) else (⟨0, 0⟩, 1)
def TripLoss (d : Drift) (t : Trip) : Int := if (TripBound d t).2 = 0 then RowKit.wrap64 (Wide (TripBound d t).1 - Wide t.said) else -1
def TripFits (d : Drift) (t : Trip) (sent made got : Int) : Bool :=
  TripOk t && (DriftOk d && (decide (0 ≤ sent) && (decide (sent ≤ made) && (decide (made ≤ got) && (decide (got ≤ 1000000000000) && (Holds t.said made && MayCount d (got - sent) (t.got - t.sent)))))))
def CarryTrip (d : Drift) (t : Trip) (pt : Int) : Ival × Int :=
  if (TripBound d t).2 = 0 then
    if In pt t.got 1000000000000 = true then
      if (CarryOn ⟨true, (TripBound d t).1, t.got⟩ d pt).2 = 0 then ((CarryOn ⟨true, (TripBound d t).1, t.got⟩ d pt).1, 0) else (⟨0, 0⟩, 2)
    else (⟨0, 0⟩, 1)
  else (⟨0, 0⟩, (TripBound d t).2)
def NonceOf (e k : Int) : Int × Bool := if In e 0 100000 = true ∧ In k 0 999 = true then (e * 1000 + k, true) else (0, false)
def NonceParts (n : Int) : Int × Int × Bool := if In n 0 100000999 = true then (n / 1000, n % 1000, true) else (0, 0, false)
def AppOk (a : App) : Bool := In a.last (-1000000000000) 1000000000000 && (a.has || a.last == 0)
def AppLag (a : App) (now : Ival) : Int := if AppOk a = true ∧ a.has = true ∧ IvalOk now = true then max 0 (a.last - now.hi) else 0
def FracOk (a : Frac) : Bool := In a.den 1 4000000000000 && (In a.num (-4000000000000) 4000000000000 && decide (Int.gcd a.num a.den = 1))
def FracOf (num den : Int) : Frac × Bool :=
  if den ≠ 0 ∧ In num (-4000000000000) 4000000000000 = true ∧ In den (-4000000000000) 4000000000000 = true then
    if den < 0 then (⟨(-num) / (Int.gcd num den : Int), (-den) / (Int.gcd num den : Int)⟩, true) else (⟨num / (Int.gcd num den : Int), den / (Int.gcd num den : Int)⟩, true)
  else (⟨0, 0⟩, false)

def AppRead (a : App) (known : Bool) (now : Ival) : App × Int × Bool × Int :=
  if AppOk a = false ∨ (known = true ∧ IvalOk now = false) then (⟨false, 0⟩, 0, false, 1)
  else if known = false ∧ a.has = false then (a, 0, false, 2)
  else if known = false ∨ (a.has = true ∧ a.last > now.hi) then (a, a.last, true, 0)
  else if a.has = true then (⟨true, max ((now.lo + now.hi) / 2) a.last⟩, max ((now.lo + now.hi) / 2) a.last, false, 0)
  else (⟨true, (now.lo + now.hi) / 2⟩, (now.lo + now.hi) / 2, false, 0)
def eqApp (a b : App) : Bool := decide (a.has = b.has) && decide (a.last = b.last)
def eqIval (a b : Ival) : Bool := decide (a.lo = b.lo) && decide (a.hi = b.hi)
def eqDrift (a b : Drift) : Bool := decide (a.num = b.num) && decide (a.den = b.den)
def eqFrac (a b : Frac) : Bool := decide (a.num = b.num) && decide (a.den = b.den)
def eqLocal (a b : Local) : Bool := decide (a.known = b.known) && (eqIval a.bound b.bound && decide (a.pt = b.pt))
def eqTrip (a b : Trip) : Bool := decide (a.src = b.src) && (eqIval a.said b.said && (decide (a.sent = b.sent) && decide (a.got = b.got)))
def eqLook (a b : Look) : Bool := decide (a.known = b.known) && eqIval a.now b.now
def eqReading (a b : Reading) : Bool := decide (a.value = b.value) && (decide (a.holds = b.holds) && decide (a.code = b.code))
@[simp, go_sem] theorem eqApp_self (a : App) : eqApp a a = true := by simp [eqApp]
@[simp, go_sem] theorem eqIval_self (a : Ival) : eqIval a a = true := by simp [eqIval]
@[simp, go_sem] theorem eqDrift_self (a : Drift) : eqDrift a a = true := by simp [eqDrift]
@[simp, go_sem] theorem eqFrac_self (a : Frac) : eqFrac a a = true := by simp [eqFrac]
@[simp, go_sem] theorem eqLocal_self (a : Local) : eqLocal a a = true := by simp [eqLocal]
@[simp, go_sem] theorem eqTrip_self (a : Trip) : eqTrip a a = true := by simp [eqTrip]
@[simp, go_sem] theorem eqLook_self (a : Look) : eqLook a a = true := by simp [eqLook]
@[simp, go_sem] theorem eqReading_self (a : Reading) : eqReading a a = true := by simp [eqReading]

/-! What the tests tell. -/
theorem In_cases (x lo hi : Int) : (In x lo hi = true ∧ lo ≤ x ∧ x ≤ hi) ∨ In x lo hi = false := by
  unfold In; by_cases h : lo ≤ x ∧ x ≤ hi
  · left; simp [h.1, h.2]
  · right; simp only [Bool.and_eq_false_iff, decide_eq_false_iff_not]; omega
theorem In_iff (x lo hi : Int) : In x lo hi = true ↔ lo ≤ x ∧ x ≤ hi := by simp [In]
theorem no_of {b : Bool} {p : Prop} (h : b = true ↔ p) (hb : b = false) : ¬ p := fun hp => by rw [h.2 hp] at hb; cases hb
theorem AppOk_iff (a : App) : AppOk a = true ↔ -1000000000000 ≤ a.last ∧ a.last ≤ 1000000000000 ∧ (a.has = true ∨ a.last = 0) := by simp [AppOk, In, and_assoc]
theorem IvalOk_iff (a : Ival) : IvalOk a = true ↔ -1000000000000 ≤ a.lo ∧ a.lo ≤ a.hi ∧ a.hi ≤ 1000000000000 := by simp [IvalOk, and_assoc]
theorem DriftOk_iff (d : Drift) : DriftOk d = true ↔ 1 ≤ d.den ∧ d.den ≤ 1000000 ∧ 0 ≤ d.num ∧ d.num ≤ d.den ∧ 2 * d.num ≤ d.den := by
  simp [DriftOk, In, and_assoc]
theorem isTime_iff (t : Int) : isTime t = true ↔ 0 ≤ t ∧ t ≤ 1000000000000 := In_iff _ _ _
theorem isNode_iff (t : Int) : isNode t = true ↔ 0 ≤ t ∧ t ≤ 7 := In_iff _ _ _
theorem LocalOk_iff (l : Local) : LocalOk l = true ↔ (l.known = true → (-1000000000000 ≤ l.bound.lo ∧ l.bound.lo ≤ l.bound.hi ∧ l.bound.hi ≤ 1000000000000) ∧ 0 ≤ l.pt ∧ l.pt ≤ 1000000000000) ∧ (l.known = false → l.bound.lo = 0 ∧ l.bound.hi = 0 ∧ l.pt = 0) := by
  cases h : l.known <;> simp [LocalOk, h, IvalOk_iff, isTime_iff]
theorem LocalOk_bd {l : Local} (h : LocalOk l = true) : -1000000000000 ≤ l.bound.lo ∧ l.bound.lo ≤ l.bound.hi ∧ l.bound.hi ≤ 1000000000000 ∧ 0 ≤ l.pt ∧ l.pt ≤ 1000000000000 := by
  have := (LocalOk_iff l).1 h
  cases hk : l.known <;> simp only [hk, true_implies, Bool.false_eq_true, false_implies, reduceCtorEq, true_and, and_true] at this <;> omega
theorem TripOk_iff (t : Trip) : TripOk t = true ↔ (-1000000000000 ≤ t.said.lo ∧ t.said.lo ≤ t.said.hi ∧ t.said.hi ≤ 1000000000000) ∧ 0 ≤ t.sent ∧ t.sent ≤ t.got ∧ t.got ≤ 1000000000000 ∧ 0 ≤ t.src ∧ t.src ≤ 7 := by
  simp only [TripOk, Bool.and_eq_true, isNode_iff, IvalOk_iff, In_iff, decide_eq_true_eq]; omega

/-! Quotients, down. -/
theorem tdiv_cases (x n : Int) (hn : 1 ≤ n) : (x.tmod n < 0 ∧ x / n = x.tdiv n - 1) ∨ (0 ≤ x.tmod n ∧ x / n = x.tdiv n) := by
  have e := Int.mul_tdiv_add_tmod x n
  have f := Int.mul_ediv_add_emod x n
  have h0 := Int.emod_nonneg x (show n ≠ 0 by omega)
  have h1 := Int.emod_lt_of_pos x (show 0 < n by omega)
  by_cases hx : 0 ≤ x
  · right
    rw [Int.tmod_eq_emod_of_nonneg hx, Int.tdiv_eq_ediv_of_nonneg hx]
    exact ⟨h0, rfl⟩
  · have hm : x.tmod n ≤ 0 := by
      have := Int.tmod_nonneg (a := -x) n (by omega)
      rw [Int.neg_tmod] at this; omega
    have hm2 : -n < x.tmod n := by
      have := Int.tmod_lt_of_pos (-x) (show 0 < n by omega)
      rw [Int.neg_tmod] at this; omega
    rcases Int.lt_or_eq_of_le hm with hm | hm
    · left
      refine ⟨hm, ?_⟩
      have : n * (x / n) + x % n = n * (x.tdiv n) + x.tmod n := by omega
      have hd : n * (x.tdiv n - x / n) = x % n - x.tmod n := by rw [Int.mul_sub]; omega
      have h2 : n * 0 < n * (x.tdiv n - x / n) := by omega
      have h3 : n * (x.tdiv n - x / n) < n * 2 := by omega
      have h4 : 0 < x.tdiv n - x / n := Int.lt_of_mul_lt_mul_left h2 (by omega)
      have h5 : x.tdiv n - x / n < 2 := Int.lt_of_mul_lt_mul_left h3 (by omega)
      omega
    · right
      refine ⟨by omega, ?_⟩
      have hd : n * (x.tdiv n - x / n) = x % n := by rw [Int.mul_sub]; omega
      have h3 : n * (x.tdiv n - x / n) < n * 1 := by omega
      have h3' : n * 0 ≤ n * (x.tdiv n - x / n) := by omega
      have h4 : x.tdiv n - x / n < 1 := Int.lt_of_mul_lt_mul_left h3 (by omega)
      have h5 : 0 ≤ x.tdiv n - x / n := Int.le_of_mul_le_mul_left h3' (by omega)
      omega
theorem tdiv_bd (x n b : Int) (hn : 1 ≤ n) (h0 : -b ≤ x) (h1 : x ≤ b) : -b ≤ x.tdiv n ∧ x.tdiv n ≤ b := by
  have h : ∀ y : Int, 0 ≤ y → y ≤ b → 0 ≤ y.tdiv n ∧ y.tdiv n ≤ b := by
    intro y hy hb
    rw [Int.tdiv_eq_ediv_of_nonneg hy]
    have := Int.ediv_nonneg hy (show 0 ≤ n by omega)
    have := Int.ediv_le_self n hy
    omega
  by_cases hx : 0 ≤ x
  · have := h x hx h1; omega
  · have := h (-x) (by omega) (by omega)
    rw [Int.neg_tdiv] at this; omega
theorem ediv_bd (x n b : Int) (hn : 1 ≤ n) (h0 : -b ≤ x) (h1 : x ≤ b) : -b - 1 ≤ x / n ∧ x / n ≤ b := by
  have := tdiv_bd x n b hn h0 h1
  rcases tdiv_cases x n hn with ⟨_, h⟩ | ⟨_, h⟩ <;> omega
theorem mul_bd {x y a b : Int} (hx0 : 0 ≤ x) (hx : x ≤ a) (hy0 : 0 ≤ y) (hy : y ≤ b) : 0 ≤ x * y ∧ x * y ≤ a * b :=
  ⟨Int.mul_nonneg hx0 hy0, Int.mul_le_mul hx hy hy0 (by omega)⟩
/-! Two ways to the same. -/
def SpecCarryTrip (d : Drift) (t : Trip) (pt : Int) : Ival × Int :=
  if (TripBound d t).2 = 0 then
    if (CarryOn ⟨true, (TripBound d t).1, t.got⟩ d pt).2 = 0 then ((CarryOn ⟨true, (TripBound d t).1, t.got⟩ d pt).1, 0)
    else if (CarryOn ⟨true, (TripBound d t).1, t.got⟩ d pt).2 = 4 then (⟨0, 0⟩, 2) else (⟨0, 0⟩, 1)
  else (⟨0, 0⟩, (TripBound d t).2)
theorem Told_ok {lo hi : Int} (h : (Told lo hi).2 = true) : IvalOk (Told lo hi).1 = true ∧ (Told lo hi).1 = ⟨lo, hi⟩ := by
  unfold Told at *; split at h <;> simp_all
theorem Spread_ok {a : Ival} {l u : Int} (h : (Spread a l u).2 = true) : IvalOk (Spread a l u).1 = true ∧ (Spread a l u).1 = ⟨a.lo - l, a.hi + u⟩ := by
  unfold Spread at *; split at h
  · rename_i hc; rw [if_pos hc]; exact Told_ok h
  · cases h
theorem RoundBound_ok {d : Drift} {a : Ival} {n : Int} (h : (RoundBound d a n).2 = 0) : DriftOk d = true ∧ IvalOk (RoundBound d a n).1 = true := by
  unfold RoundBound at *
  split at h
  · rename_i hc
    rw [if_pos hc]
    split at h
    · rename_i hd
      rw [if_pos hd]
      exact ⟨hc.1, (Spread_ok hd.2).1⟩
    · simp at h
  · simp at h
theorem TripBound_ok {d : Drift} {t : Trip} (h : (TripBound d t).2 = 0) : TripOk t = true ∧ DriftOk d = true ∧ IvalOk (TripBound d t).1 = true := by
  unfold TripBound at *
  split at h
  · rename_i hc; rw [if_pos hc]; exact ⟨hc, RoundBound_ok h⟩
  · simp at h
theorem CarryOn_code {b : Ival} {d : Drift} {p c : Int} (hb : IvalOk b = true) (hd : DriftOk d = true) (hp : isTime p = true) :
    (In c p 1000000000000 = true ∧ ((CarryOn ⟨true, b, p⟩ d c).2 = 0 ∨ (CarryOn ⟨true, b, p⟩ d c).2 = 4)) ∨ (In c p 1000000000000 = false ∧ ((CarryOn ⟨true, b, p⟩ d c).2 = 1 ∨ (CarryOn ⟨true, b, p⟩ d c).2 = 3)) := by
  have hl : LocalOk ⟨true, b, p⟩ = true := by simp [LocalOk, hb, hp]
  have hp' := (isTime_iff _).1 hp
  unfold CarryOn
  by_cases hc : isTime c = true
  · have hc' := (isTime_iff _).1 hc
    rw [if_pos ⟨hl, hd, hc⟩, if_neg (by simp)]
    by_cases hlt : c < p
    · right
      rw [if_pos hlt]
      exact ⟨by simp only [In, Bool.and_eq_false_iff, decide_eq_false_iff_not]; omega, .inr rfl⟩
    · left
      rw [if_neg hlt]
      refine ⟨(In_iff _ _ _).2 (by omega), ?_⟩
      split
      · exact .inl rfl
      · exact .inr rfl
  · right
    rw [if_neg (by simp [hc])]
    refine ⟨?_, .inl rfl⟩
    have : ¬ (0 ≤ c ∧ c ≤ 1000000000000) := fun h => hc ((isTime_iff _).2 h)
    simp only [In, Bool.and_eq_false_iff, decide_eq_false_iff_not]; omega
theorem SpecCarryTrip_eq (d : Drift) (t : Trip) (pt : Int) : SpecCarryTrip d t pt = CarryTrip d t pt := by
  unfold SpecCarryTrip CarryTrip
  by_cases h : (TripBound d t).2 = 0
  · rw [if_pos h, if_pos h]
    obtain ⟨h1, h2, h3⟩ := TripBound_ok h
    have ht := (TripOk_iff t).1 h1
    rcases CarryOn_code (c := pt) h3 h2 ((isTime_iff t.got).2 (by omega)) with ⟨hi, h4 | h4⟩ | ⟨hi, h4 | h4⟩ <;> simp [hi, h4]
  · rw [if_neg h, if_neg h]

/-- Products of what is bounded, each under its conditions. -/
theorem mul18 (x y : Int) : 0 ≤ x → x ≤ 1000000000000 → 0 ≤ y → y ≤ 2000000 → 0 ≤ x * y ∧ x * y ≤ 2000000000000000000 := by
  intro h0 h1 h2 h3
  exact mul_bd h0 h1 h2 h3
theorem mulDen (x y : Int) : 0 ≤ x → x ≤ 1000000 → -4000000000000 ≤ y → y ≤ 4000000000000 → -4000000000000000000 ≤ x * y ∧ x * y ≤ 4000000000000000000 := by
  intro h0 h1 h2 h3
  by_cases hy : 0 ≤ y
  · have := mul_bd h0 h1 hy h3; omega
  · have := mul_bd (y := -y) (b := 4000000000000) h0 h1 (by omega) (by omega)
    rw [Int.mul_neg] at this; omega
end Pu
end Go.Proofs.Ytbfbcecghokpoaa
