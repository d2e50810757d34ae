/-
  Chapter 9: the hull by all choices of sources: the reference goes through them by places, the program by the bits of a number; both tell the least and the greatest number. Plain lists, no memory.
  No statement of the seat is proved here.
-/
import Derived.Test.YtpedhnhemocblaaPHullBySubsetsx
namespace Go.Proofs.Ytpedhnhemocblaa.PHullBySubsets
open Go Go.RowKit Go.Proofs.YtpedhnhemocblaaW.PrintWords
set_option linter.unusedVariables false
theorem Ev.ite {α : Type} {c : Prop} [Decidable c] {f g : Nat → Option α} {r : α} (h1 : c → Ev f r) (h2 : ¬ c → Ev g r) : Ev (fun k => if c then f k else g k) r := by
  by_cases h : c
  · simpa only [if_pos h] using h1 h
  · simpa only [if_neg h] using h2 h
theorem Ev.shift {α : Type} {g : Nat → Option α} {r : α} (h : Ev (fun k => g (k + 1)) r) : Ev g r := Ev.step (fun _ => rfl) h
theorem Ev.bindSome {α β : Type} {a : α} {f : Nat → α → Option β} {r : β} (h : Ev (fun k => f k a) r) : Ev (fun k => (some a).bind (f k)) r := h
theorem Ev.up {α : Type} {g : Nat → Option α} {r : α} (h : Ev g r) : Ev (fun k => g (k + 1)) r := by
  obtain ⟨K, h⟩ := h
  exact ⟨K, fun k hk => h (k + 1) (by omega)⟩
theorem Ev.bindIte {α β : Type} {c : Prop} [Decidable c] {f g : Nat → Option α} {h : Nat → α → Option β} {r : β} (h1 : c → Ev (fun k => (f k).bind (h k)) r) (h2 : ¬ c → Ev (fun k => (g k).bind (h k)) r) : Ev (fun k => (if c then f k else g k).bind (h k)) r := by
  by_cases hc : c
  · simpa only [if_pos hc] using h1 hc
  · simpa only [if_neg hc] using h2 hc
theorem Ev.pos {α : Type} {c : Prop} [Decidable c] {f g : Nat → Option α} {r : α} (hc : c) (h : Ev f r) : Ev (fun k => if c then f k else g k) r := by simpa only [if_pos hc] using h
theorem Ev.neg {α : Type} {c : Prop} [Decidable c] {f g : Nat → Option α} {r : α} (hc : ¬ c) (h : Ev g r) : Ev (fun k => if c then f k else g k) r := by simpa only [if_neg hc] using h
theorem Ev.bindPos {α β : Type} {c : Prop} [Decidable c] {f g : Nat → Option α} {h : Nat → α → Option β} {r : β} (hc : c) (h1 : Ev (fun k => (f k).bind (h k)) r) : Ev (fun k => (if c then f k else g k).bind (h k)) r := by simpa only [if_pos hc] using h1
theorem Ev.bindNeg {α β : Type} {c : Prop} [Decidable c] {f g : Nat → Option α} {h : Nat → α → Option β} {r : β} (hc : ¬ c) (h1 : Ev (fun k => (g k).bind (h k)) r) : Ev (fun k => (if c then f k else g k).bind (h k)) r := by simpa only [if_neg hc] using h1
theorem Ev.val {α : Type} {a r : α} (h : a = r) : Ev (fun _ => some a) r := h ▸ Ev.now a
theorem sz_small {n : Nat} {x : Int} (h : (n : Int) ≤ x) : Pu.sz x n = x - n := by unfold Pu.sz; rw [if_neg (by omega)]
theorem sz_big {n : Nat} {x : Int} (h : x < n) : Pu.sz x n = -1 := by unfold Pu.sz; rw [if_pos (by omega)]
/-- All of d places from i on. -/
def allFrom (c : Nat → Bool) : Nat → Nat → Bool
  | _, 0 => true
  | i, d + 1 => c i && allFrom c (i + 1) d
abbrev SI := S35
/-! sets of sources as the bits of a number -/
def pop : Nat → Nat → Nat
  | 0, _ => 0
  | f + 1, x => x % 2 + pop f (x / 2)
def pick {α : Type} : List α → Nat → List α
  | [], _ => []
  | a :: l, m => if m % 2 = 1 then a :: pick l (m / 2) else pick l (m / 2)
theorem pick_sub {α : Type} : ∀ (l : List α) (m : Nat), (pick l m).Sublist l
  | [], _ => List.Sublist.slnil
  | a :: l, m => by
    unfold pick; split
    · exact (pick_sub l _).cons_cons a
    · exact (pick_sub l _).cons a
theorem pop_zero : ∀ f, pop f 0 = 0
  | 0 => rfl
  | f + 1 => by simp [pop, pop_zero f]
theorem pick_len {α : Type} : ∀ (l : List α) (m f : Nat), m < 2 ^ l.length → l.length ≤ f → (pick l m).length = pop f m
  | [], m, f, h, _ => by
    obtain rfl : m = 0 := by simp at h; omega
    simp [pick, pop_zero]
  | a :: l, m, 0, _, h => by simp at h
  | a :: l, m, f + 1, h, hf => by
    have h2 : m / 2 < 2 ^ l.length := by rw [List.length_cons, Nat.pow_succ] at h; omega
    have ih := pick_len l (m / 2) f h2 (by simp at hf; omega)
    unfold pick pop; split
    · rw [List.length_cons, ih]; omega
    · rw [ih]; omega
theorem sub_pick {α : Type} {s l : List α} (h : s.Sublist l) : ∃ m, m < 2 ^ l.length ∧ pick l m = s := by
  induction h with
  | slnil => exact ⟨0, by simp, rfl⟩
  | cons a _ ih =>
    obtain ⟨m, h1, h2⟩ := ih
    refine ⟨2 * m, by rw [List.length_cons, Nat.pow_succ]; omega, ?_⟩
    unfold pick; rw [if_neg (by omega), show 2 * m / 2 = m by omega, h2]
  | cons_cons a _ ih =>
    obtain ⟨m, h1, h2⟩ := ih
    refine ⟨2 * m + 1, by rw [List.length_cons, Nat.pow_succ]; omega, ?_⟩
    unfold pick; rw [if_pos (by omega), show (2 * m + 1) / 2 = m by omega, h2]
theorem ones_fin : ∀ a b : Fin 64, bits_OnesCount.f ((64 * a.val + b.val : Nat) : Int) = some (pop 12 (64 * a.val + b.val) : Int) := by decide +kernel
theorem ones {m : Nat} (h : m < 4096) : bits_OnesCount.f (m : Int) = some (pop 12 m : Int) := by
  have := ones_fin ⟨m / 64, by omega⟩ ⟨m % 64, by omega⟩
  simpa only [show 64 * (m / 64) + m % 64 = m by omega] using this
theorem bit_fin : ∀ a b : Fin 64, Go.bits .and .u64 ((64 * a.val + b.val : Nat) : Int) 1 = (((64 * a.val + b.val) % 2 : Nat) : Int) := by decide +kernel
theorem bit {m i : Nat} (h : m < 4096) (hi : i ≤ 12) : Go.bits .and .u64 (shr .u64 (m : Int) (i : Int)) 1 = ((m / 2 ^ i % 2 : Nat) : Int) := by
  have hm : m / 2 ^ i < 4096 := Nat.lt_of_le_of_lt (Nat.div_le_self _ _) h
  have e : shr .u64 (m : Int) (i : Int) = ((m / 2 ^ i : Nat) : Int) := by
    unfold shr
    rw [Int.toNat_natCast, show min i IntKind.u64.bits = i from Nat.min_eq_left (by show i ≤ 64; omega)]
    simp
  rw [e]
  have := bit_fin ⟨m / 2 ^ i / 64, by omega⟩ ⟨m / 2 ^ i % 64, by omega⟩
  simpa only [show 64 * (m / 2 ^ i / 64) + m / 2 ^ i % 64 = m / 2 ^ i by omega] using this
theorem shl_fin : ∀ i : Fin 13, shl .u64 1 (i.val : Int) = ((2 ^ i.val : Nat) : Int) := by decide +kernel
theorem wrapu {m : Nat} (h : m < 4096) : IntKind.u64.wrap ((m : Int) + 1) = ((m + 1 : Nat) : Int) := by
  have e : IntKind.u64.wrap ((m : Int) + 1) = ((m : Int) + 1) % 18446744073709551616 := rfl
  rw [e]; omega
/-! the hull of all intervals of a kind -/
def Hu (Q : Ival → Prop) (r : Int × Int × Bool) : Prop :=
  (r = (0, 0, false) ∧ ∀ m, ¬ Q m) ∨ (r.2.2 = true ∧ (∃ m, Q m ∧ m.lo = r.1) ∧ (∃ m, Q m ∧ m.hi = r.2.1) ∧ ∀ m, Q m → r.1 ≤ m.lo ∧ m.hi ≤ r.2.1)
theorem Hu_one {Q : Ival → Prop} {r r' : Int × Int × Bool} (h : Hu Q r) (h' : Hu Q r') : r = r' := by
  obtain ⟨a, b, c⟩ := r; obtain ⟨a', b', c'⟩ := r'
  rcases h with ⟨e, h⟩ | ⟨e, ⟨m, hm, e1⟩, ⟨n, hn, e2⟩, hb⟩ <;> rcases h' with ⟨e', h'⟩ | ⟨e', ⟨m', hm', e1'⟩, ⟨n', hn', e2'⟩, hb'⟩
  · rw [e, e']
  · exact absurd hm' (h _)
  · exact absurd hm (h' _)
  · have p1 := (hb m' hm').1; have p2 := (hb n' hn').2; have p3 := (hb' m hm).1; have p4 := (hb' n hn).2
    simp only at *
    subst e e'
    have : a = a' := by omega
    have : b = b' := by omega
    simp [*]
theorem Hu_congr {Q Q' : Ival → Prop} {r : Int × Int × Bool} (h : ∀ m, Q m ↔ Q' m) (hr : Hu Q r) : Hu Q' r := by
  have : Q = Q' := funext fun m => propext (h m)
  rwa [← this]
/-- One more interval is put to a hull. -/
def addH (r : Int × Int × Bool) (m : Ival) : Int × Int × Bool :=
  if r.2.2 = true then ((Pu.Join ⟨r.1, r.2.1⟩ m).1.lo, (Pu.Join ⟨r.1, r.2.1⟩ m).1.hi, true) else (m.lo, m.hi, true)
theorem Hu_add {Q : Ival → Prop} {r : Int × Int × Bool} {m : Ival} (h : Hu Q r) (hQ : ∀ m, Q m → Pu.IvalOk m = true) (hm : Pu.IvalOk m = true) : Hu (fun n => Q n ∨ n = m) (addH r m) := by
  obtain ⟨a, b, c⟩ := r
  rcases h with ⟨e, h⟩ | ⟨e, ⟨x, hx, e1⟩, ⟨y, hy, e2⟩, hb⟩
  · obtain ⟨rfl, rfl, rfl⟩ : a = 0 ∧ b = 0 ∧ c = false := by simpa using e
    refine .inr ⟨rfl, ⟨m, .inr rfl, rfl⟩, ⟨m, .inr rfl, rfl⟩, fun n hn => ?_⟩
    rcases hn with hn | rfl
    · exact absurd hn (h n)
    · exact ⟨Int.le_refl _, Int.le_refl _⟩
  · simp only at e e1 e2 hb
    subst e
    have kx := (Pu.IvalOk_iff _).1 (hQ x hx); have ky := (Pu.IvalOk_iff _).1 (hQ y hy); have km := (Pu.IvalOk_iff _).1 hm
    have bx := hb x hx; have byy := hb y hy
    have ok : Pu.IvalOk ⟨a, b⟩ = true := (Pu.IvalOk_iff _).2 (by simp only; omega)
    have eJ : (Pu.Join ⟨a, b⟩ m).1 = ⟨min a m.lo, max b m.hi⟩ := by
      unfold Pu.Join; rw [if_pos ⟨ok, hm⟩]; unfold Pu.Told; rw [if_pos ((Pu.IvalOk_iff _).2 (by simp only; omega))]
    have e : addH (a, b, true) m = (min a m.lo, max b m.hi, true) := by
      unfold addH; rw [if_pos rfl]; simp only [eJ]
    rw [e]
    refine .inr ⟨rfl, ?_, ?_, fun n hn => ?_⟩
    · by_cases hlt : a ≤ m.lo
      · exact ⟨x, .inl hx, by simp only; omega⟩
      · exact ⟨m, .inr rfl, by simp only; omega⟩
    · by_cases hlt : m.hi ≤ b
      · exact ⟨y, .inl hy, by simp only; omega⟩
      · exact ⟨m, .inr rfl, by simp only; omega⟩
    · rcases hn with hn | rfl
      · have := hb n hn; simp only; omega
      · simp only; omega
/-! what chosen sources have in common -/
def cap : Option Ival → List SI → Option Ival
  | o, [] => o
  | none, x :: xs => cap (some (cv35 x)) xs
  | some o, x :: xs => cap (some (Pu.putMeetAll o (cv35 x))) xs
theorem cap_some : ∀ (xs : List SI) (o : Ival), cap (some o) xs = some ((xs.map cv35).foldl Pu.putMeetAll o)
  | [], _ => rfl
  | x :: xs, o => by unfold cap; rw [cap_some xs]; rfl
theorem fold_in : ∀ (xs : List Ival) (o : Ival), o.lo ≤ (xs.foldl Pu.putMeetAll o).lo ∧ (xs.foldl Pu.putMeetAll o).hi ≤ o.hi
  | [], o => ⟨Int.le_refl _, Int.le_refl _⟩
  | x :: xs, o => by
    have := fold_in xs (Pu.putMeetAll o x)
    simp only [List.foldl_cons]
    simp only [Pu.putMeetAll] at *; omega
def nx (o : Option Ival) (x : Ival) : Ival := match o with | none => x | some o => Pu.putMeetAll o x
theorem cap_cons (o : Option Ival) (x : SI) (xs : List SI) : cap o (x :: xs) = cap (some (nx o (cv35 x))) xs := by cases o <;> rfl
/-- The first one of those met is a whole one already, if all are. -/
theorem nx_ok {o : Option Ival} {x m : Ival} {xs : List SI} (ho : ∀ y, o = some y → Pu.IvalOk y = true) (hx : Pu.IvalOk x = true) (h : cap (some (nx o x)) xs = some m) (hm : Pu.IvalOk m = true) : Pu.IvalOk (nx o x) = true := by
  rw [cap_some] at h
  have e := fold_in (xs.map cv35) (nx o x)
  rw [Option.some.inj h] at e
  cases o with
  | none => exact hx
  | some y =>
    have k1 := (Pu.IvalOk_iff _).1 (ho y rfl); have k2 := (Pu.IvalOk_iff _).1 hx; have k3 := (Pu.IvalOk_iff _).1 hm
    refine (Pu.IvalOk_iff _).2 ?_
    simp only [nx, Pu.putMeetAll] at *
    omega
theorem folded_cap {s : List SI} {m : Ival} (hs : s ≠ []) (hn : s.length ≤ 64) (hall : (s.map cv35).all Pu.IvalOk = true) : Pu.folded Pu.putMeetAll (s.map cv35) = (m, true) ↔ cap none s = some m ∧ Pu.IvalOk m = true := by
  cases s with
  | nil => exact absurd rfl hs
  | cons x xs =>
    rw [Pu.folded_rest (x := cv35 x) rfl (by simpa using hn), Pu.foldRest_eq, if_pos hall, cap_cons, cap_some]
    have e : ((x :: xs).map cv35).foldl Pu.putMeetAll (cv35 x) = (xs.map cv35).foldl Pu.putMeetAll (nx none (cv35 x)) := by simp [Pu.putMeetAll, nx]
    rw [e]
    generalize (xs.map cv35).foldl Pu.putMeetAll (nx none (cv35 x)) = z
    unfold Pu.Told
    by_cases hz : Pu.IvalOk ⟨z.lo, z.hi⟩ = true
    · rw [if_pos hz]
      constructor
      · intro h; obtain ⟨rfl, _⟩ := Prod.mk.inj h; exact ⟨rfl, hz⟩
      · rintro ⟨h, _⟩; obtain rfl := Option.some.inj h; rfl
    · rw [if_neg hz]
      constructor
      · intro h; cases (Prod.mk.inj h).2
      · rintro ⟨h, hk⟩; obtain rfl := Option.some.inj h; exact absurd hk hz
/-- What k of the sources from place i on have in common, with what was met. -/
def Cm (a : List SI) (i k : Nat) (o : Option Ival) (m : Ival) : Prop := ∃ s, s.Sublist (a.drop i) ∧ s.length = k ∧ cap o s = some m ∧ Pu.IvalOk m = true
theorem Cm_zero (a : List SI) (i : Nat) (o m : Ival) (ho : Pu.IvalOk o = true) : Cm a i 0 (some o) m ↔ m = o := by
  constructor
  · rintro ⟨s, _, hl, hc, _⟩
    rw [List.length_eq_zero_iff.1 hl] at hc
    exact (Option.some.inj hc).symm
  · rintro rfl; exact ⟨[], List.nil_sublist _, rfl, rfl, ho⟩
theorem Cm_far {a : List SI} {i k : Nat} {o : Option Ival} {m : Ival} (h : a.length < i + k) (hi : i ≤ a.length) : ¬ Cm a i k o m := by
  rintro ⟨s, hs, hl, _⟩
  have := hs.length_le
  rw [List.length_drop] at this; omega
theorem Cm_step {a : List SI} {i k : Nat} {o : Option Ival} {m : Ival} (hi : i < a.length) (ho : ∀ y, o = some y → Pu.IvalOk y = true) (hx : Pu.IvalOk (cv35 a[i]) = true) :
    Cm a i (k + 1) o m ↔ (Pu.IvalOk (nx o (cv35 a[i])) = true ∧ Cm a (i + 1) k (some (nx o (cv35 a[i]))) m) ∨ Cm a (i + 1) (k + 1) o m := by
  constructor
  · rintro ⟨s, hs, hl, hc, hm⟩
    rw [List.drop_eq_getElem_cons hi] at hs
    cases hs with
    | cons _ hs => exact .inr ⟨s, hs, hl, hc, hm⟩
    | cons_cons _ hs =>
      rw [cap_cons] at hc
      exact .inl ⟨nx_ok ho hx hc hm, _, hs, by simpa using hl, hc, hm⟩
  · rintro (⟨_, s, hs, hl, hc, hm⟩ | ⟨s, hs, hl, hc, hm⟩)
    · exact ⟨a[i] :: s, by rw [List.drop_eq_getElem_cons hi]; exact hs.cons_cons _, by simpa using hl, by rw [cap_cons]; exact hc, hm⟩
    · exact ⟨s, by rw [List.drop_eq_getElem_cons hi]; exact hs.cons _, hl, hc, hm⟩
def optI (some_ : Bool) (l h : Int) : Option Ival := if some_ = true then some ⟨l, h⟩ else none
theorem rdI {a : List SI} {i : Nat} (h : i < a.length) : rd_T35 a (i : Int) = a[i] := by simp [rd_T35, List.getD_eq_getElem?_getD, h]
theorem Cm_ok {a : List SI} {i k : Nat} {o : Option Ival} {m : Ival} (h : Cm a i k o m) : Pu.IvalOk m = true := h.choose_spec.2.2.2
theorem spec_choose (a : List SI) (hn : a.length ≤ 12) (hok : ∀ i (h : i < a.length), Pu.IvalOk (cv35 a[i]) = true) : ∀ (kk : Nat) (hk : kk ≤ 12),
    (∀ (i : Nat) (b : Bool) (l h : Int) (Q : Ival → Prop) (r : Int × Int × Bool), i ≤ a.length → (kk = 0 → b = true) → (∀ y, optI b l h = some y → Pu.IvalOk y = true) → (∀ m, Q m → Pu.IvalOk m = true) → Hu Q r →
      ∃ R, Ev (fun k => spec_l9Choose.f k a (i : Int) (kk : Int) l h b r.1 r.2.1 r.2.2) R ∧ Hu (fun m => Q m ∨ Cm a i kk (optI b l h) m) R) := by
  intro kk
  induction kk with
  | zero =>
    intro hk i b l h Q r hi hb ho hQ hr
    obtain rfl := hb rfl
    have hlh : Pu.IvalOk ⟨l, h⟩ = true := ho _ rfl
    refine ⟨addH r ⟨l, h⟩, ?_, Hu_congr (fun m => by rw [show optI true l h = some ⟨l, h⟩ from rfl, Cm_zero _ _ _ _ hlh]) (Hu_add hr hQ hlh)⟩
    refine Ev.shift ?_; simp only [spec_l9Choose.f, spec_Join.f, Option.bind_some]
    refine Ev.pos (by simp) ?_
    unfold addH
    exact Ev.ite (fun e => by rw [if_pos e]; exact Ev.val rfl) (fun e => by rw [if_neg e]; exact Ev.val rfl)
  | succ kk ihk =>
    intro hk
    have ihf := ihk (by omega)
    have loop : ∀ (d i : Nat) (b : Bool) (l h : Int) (Q : Ival → Prop) (r : Int × Int × Bool), i + d = a.length → (∀ y, optI b l h = some y → Pu.IvalOk y = true) → (∀ m, Q m → Pu.IvalOk m = true) → Hu Q r →
        ∃ R, Ev (fun k => spec_l9Choose.l0 k a ((kk + 1 : Nat) : Int) b r.2.2 (i : Int) l h r.1 r.2.1) R ∧ Hu (fun m => Q m ∨ Cm a i (kk + 1) (optI b l h) m) R := by
      intro d
      induction d with
      | zero =>
        intro i b l h Q r hi ho hQ hr
        have hw : wrap64 ((i : Int) + ((kk + 1 : Nat) : Int)) = ((i + (kk + 1) : Nat) : Int) := by unfold wrap64; omega
        refine ⟨r, ?_, Hu_congr (fun m => ⟨.inl, fun h => h.resolve_right (Cm_far (by omega) (by omega))⟩) hr⟩
        refine Ev.shift ?_; simp only [spec_l9Choose.l0, hw]
        exact Ev.neg (by omega) (Ev.val rfl)
      | succ d ihd =>
        intro i b l h Q r hi ho hQ hr
        have hw : wrap64 ((i : Int) + ((kk + 1 : Nat) : Int)) = ((i + (kk + 1) : Nat) : Int) := by unfold wrap64; omega
        have hw1 : wrap64 ((i : Int) + 1) = ((i + 1 : Nat) : Int) := by unfold wrap64; omega
        have hw2 : wrap64 (((kk + 1 : Nat) : Int) - 1) = (kk : Int) := by unfold wrap64; omega
        have hl : i < a.length := by omega
        by_cases hfar : a.length < i + (kk + 1)
        · refine ⟨r, ?_, Hu_congr (fun m => ⟨.inl, fun h => h.resolve_right (Cm_far (by omega) (by omega))⟩) hr⟩
          refine Ev.shift ?_; simp only [spec_l9Choose.l0, hw]
          exact Ev.neg (by omega) (Ev.val rfl)
        · have hx := hok i hl
          have hst := fun m => Cm_step (k := kk) (m := m) hl ho hx
          have hcv : cv35 a[i] = ⟨a[i].f0, a[i].f1⟩ := rfl
          by_cases hnx : Pu.IvalOk (nx (optI b l h) (cv35 a[i])) = true
          · obtain ⟨R1, h1, g1⟩ := ihf (i + 1) true (nx (optI b l h) (cv35 a[i])).lo (nx (optI b l h) (cv35 a[i])).hi Q r (by omega) (fun _ => rfl) (by intro y hy; obtain rfl := Option.some.inj hy; exact hnx) hQ hr
            obtain ⟨R2, h2, g2⟩ := ihd (i + 1) b l h _ R1 (by omega) ho (by rintro m (hm | hm); exact hQ m hm; exact Cm_ok hm) g1
            refine ⟨R2, ?_, Hu_congr (fun m => ?_) g2⟩
            · refine Ev.shift ?_; simp only [spec_l9Choose.l0, hw, hw1, hw2, rdI hl]
              refine Ev.pos (by omega) (Ev.pos (by omega) (Ev.pos (by omega) ?_))
              cases b with
              | true =>
                have hlh : Pu.IvalOk ⟨l, h⟩ = true := ho _ rfl
                have eM : Pu.Meet ⟨l, h⟩ ⟨a[i].f0, a[i].f1⟩ = (nx (optI true l h) (cv35 a[i]), true) := by
                  unfold Pu.Meet; rw [if_pos ⟨hlh, hx⟩]; unfold Pu.Told; exact if_pos hnx
                with_reducible refine Ev.pos rfl ?_
                simp only [spec_Meet.f, eM, Option.bind_some, ↓reduceIte]
                exact Ev.bind h1 h2
              | false =>
                with_reducible refine Ev.neg (by simp) ?_
                exact Ev.bind h1 h2
            · rw [hst m]
              have e : optI true (nx (optI b l h) (cv35 a[i])).lo (nx (optI b l h) (cv35 a[i])).hi = some (nx (optI b l h) (cv35 a[i])) := rfl
              rw [e]
              constructor
              · rintro ((h | h) | h)
                · exact .inl h
                · exact .inr (.inl ⟨hnx, h⟩)
                · exact .inr (.inr h)
              · rintro (h | ⟨_, h⟩ | h)
                · exact .inl (.inl h)
                · exact .inl (.inr h)
                · exact .inr h
          · obtain ⟨R2, h2, g2⟩ := ihd (i + 1) b l h Q r (by omega) ho hQ hr
            refine ⟨R2, ?_, Hu_congr (fun m => ?_) g2⟩
            · refine Ev.shift ?_; simp only [spec_l9Choose.l0, hw, hw1, hw2, rdI hl]
              refine Ev.pos (by omega) (Ev.pos (by omega) (Ev.pos (by omega) ?_))
              cases b with
              | true =>
                have hlh : Pu.IvalOk ⟨l, h⟩ = true := ho _ rfl
                have eM : Pu.Meet ⟨l, h⟩ ⟨a[i].f0, a[i].f1⟩ = (⟨0, 0⟩, false) := by
                  unfold Pu.Meet; rw [if_pos ⟨hlh, hx⟩]; unfold Pu.Told; exact if_neg hnx
                with_reducible refine Ev.pos rfl ?_
                simp only [spec_Meet.f, eM, Option.bind_some, Bool.false_eq_true, if_false]
                exact h2
              | false => exact absurd hx hnx
            · rw [hst m]
              constructor
              · rintro (h | h)
                · exact .inl h
                · exact .inr (.inr h)
              · rintro (h | ⟨h, _⟩ | h)
                · exact .inl h
                · exact absurd h hnx
                · exact .inr h
    intro i b l h Q r hi _ ho hQ hr
    obtain ⟨R, h1, h2⟩ := loop (a.length - i) i b l h Q r (by omega) ho hQ hr
    refine ⟨R, ?_, h2⟩
    refine Ev.shift ?_; simp only [spec_l9Choose.f]
    exact Ev.neg (by omega) h1
/-! the program's way -/
def nextH (r : Int × Int × Bool) (c : List SI) : Int × Int × Bool :=
  if (Pu.folded Pu.putMeetAll (c.map cv35)).2 = true then addH r (Pu.folded Pu.putMeetAll (c.map cv35)).1 else r
theorem impl_pick (a : List SI) (hn : a.length ≤ 12) (x1 : Int) (t n : Nat) (ht : t < 4096) (r R : Int × Int × Bool) (d : Nat) : ∀ (i : Nat) (acc : List SI), i + d = a.length → acc.length ≤ i →
    Ev (fun k => impl_HullBySubsets.l0 k a x1 (nextH r (acc ++ pick (a.drop i) (t / 2 ^ i))).2.2 (n : Int) ((t + 1 : Nat) : Int) (nextH r (acc ++ pick (a.drop i) (t / 2 ^ i))).1 (nextH r (acc ++ pick (a.drop i) (t / 2 ^ i))).2.1) R →
    Ev (fun k => impl_HullBySubsets.l1 k a x1 r.2.2 (t : Int) acc (n : Int) (t : Int) a (a.length : Int) (i : Int) r.1 r.2.1) R := by
  induction d with
  | zero =>
    intro i acc hi hac h
    rw [List.drop_eq_nil_of_le (by omega), pick, List.append_nil] at h
    refine Ev.shift ?_; simp only [impl_HullBySubsets.l1, impl_MeetAll.f, Option.bind_some]
    refine Ev.neg (by omega) ?_
    unfold nextH at h
    refine Ev.ite (fun e => ?_) (fun e => ?_)
    · rw [e, if_pos rfl] at h
      refine Ev.shift ?_; simp only [impl_HullBySubsets.j3, impl_Join.f, Option.bind_some, wrapu ht]
      unfold addH at h
      obtain ⟨r1, r2, r3⟩ := r
      cases r3 with
      | true =>
        with_reducible refine Ev.neg (by simp) (Ev.pos e ?_)
        simpa using h
      | false =>
        with_reducible refine Ev.pos rfl ?_
        simpa using h
    · rw [if_neg e] at h
      have e' : (Pu.folded Pu.putMeetAll (acc.map cv35)).2 = false := by simpa using e
      refine Ev.shift ?_; simp only [impl_HullBySubsets.j3, impl_Join.f, Option.bind_some, wrapu ht, e']
      with_reducible refine Ev.neg (by simp) (Ev.neg (by simp) ?_)
      exact h
  | succ d ih =>
    intro i acc hi hac h
    have hl : i < a.length := by omega
    have hw : wrap64 ((i : Int) + 1) = ((i + 1 : Nat) : Int) := by unfold wrap64; omega
    have e2 : t / 2 ^ (i + 1) = t / 2 ^ i / 2 := by rw [Nat.pow_succ, Nat.div_div_eq_div_mul]
    rw [List.drop_eq_getElem_cons hl, pick] at h
    refine Ev.shift ?_; simp only [impl_HullBySubsets.l1, hw, bit ht (show i ≤ 12 by omega), rdI hl]
    refine Ev.pos (by omega) (Ev.pos (by omega) (Ev.pos (by omega) ?_))
    by_cases hb : t / 2 ^ i % 2 = 1
    · refine Ev.pos (by omega) (Ev.pos (by omega) (ih (i + 1) _ (by omega) (by simp; omega) ?_))
      rw [if_pos hb] at h
      have e3 : (⟨a[i].f0, a[i].f1⟩ : SI) = a[i] := rfl
      rw [e2, e3, List.append_assoc]; exact h
    · refine Ev.neg (by omega) (ih (i + 1) _ (by omega) (by omega) ?_)
      rw [if_neg hb] at h
      rw [e2]; exact h
/-- What the sets up to a number have in common. -/
def Qm (a : List SI) (x1 : Int) (t : Nat) (m : Ival) : Prop := ∃ u, u < t ∧ ((pick a u).length : Int) = x1 ∧ Pu.folded Pu.putMeetAll ((pick a u).map cv35) = (m, true)
theorem fold_ok {l : List Ival} {m : Ival} (h : Pu.folded Pu.putMeetAll l = (m, true)) : Pu.IvalOk m = true := by
  cases l with
  | nil => cases (Prod.mk.inj (show ((⟨0, 0⟩ : Ival), false) = (m, true) from h)).2
  | cons x xs =>
    have e : Pu.folded Pu.putMeetAll (x :: xs) = if (x :: xs).length ≤ 64 ∧ (x :: xs).all Pu.IvalOk = true then Pu.Told ((x :: xs).foldl Pu.putMeetAll x).lo ((x :: xs).foldl Pu.putMeetAll x).hi else (⟨0, 0⟩, false) := rfl
    rw [e] at h
    split at h
    · have := Pu.Told_ok (by rw [h] : (Pu.Told ((x :: xs).foldl Pu.putMeetAll x).lo ((x :: xs).foldl Pu.putMeetAll x).hi).2 = true)
      rw [h] at this; exact this.1
    · cases (Prod.mk.inj h).2
theorem impl_sets (a : List SI) (hn : a.length ≤ 12) (x1 : Int) (d : Nat) : ∀ (t : Nat) (r : Int × Int × Bool), t + d = 2 ^ a.length → Hu (Qm a x1 t) r →
    ∃ R, Ev (fun k => impl_HullBySubsets.l0 k a x1 r.2.2 ((2 ^ a.length : Nat) : Int) (t : Int) r.1 r.2.1) R ∧ Hu (Qm a x1 (2 ^ a.length)) R := by
  have hb : 2 ^ a.length ≤ 4096 := Nat.pow_le_pow_right (n := 2) (by omega) hn
  induction d with
  | zero =>
    intro t r ht hr
    obtain rfl : t = 2 ^ a.length := by omega
    refine ⟨r, ?_, hr⟩
    refine Ev.shift ?_; simp only [impl_HullBySubsets.l0]
    exact Ev.neg (by omega) (Ev.val rfl)
  | succ d ih =>
    intro t r ht hr
    have hlt : t < 4096 := by omega
    have hpop := pick_len a t 12 (by omega) hn
    have step : Hu (Qm a x1 (t + 1)) (if ((pick a t).length : Int) = x1 then nextH r (pick a t) else r) := by
      by_cases hk : ((pick a t).length : Int) = x1
      · rw [if_pos hk]; unfold nextH
        by_cases hm : (Pu.folded Pu.putMeetAll ((pick a t).map cv35)).2 = true
        · rw [if_pos hm]
          have e : Pu.folded Pu.putMeetAll ((pick a t).map cv35) = ((Pu.folded Pu.putMeetAll ((pick a t).map cv35)).1, true) := by rw [← hm]
          refine Hu_congr (fun m => ?_) (Hu_add hr (by rintro m ⟨u, _, _, h⟩; exact fold_ok h) (fold_ok e))
          constructor
          · rintro (⟨u, h1, h2, h3⟩ | rfl)
            · exact ⟨u, by omega, h2, h3⟩
            · exact ⟨t, by omega, hk, e⟩
          · rintro ⟨u, h1, h2, h3⟩
            by_cases hu : u = t
            · subst hu; right; rw [h3]
            · exact .inl ⟨u, by omega, h2, h3⟩
        · rw [if_neg hm]
          refine Hu_congr (fun m => ?_) hr
          constructor
          · rintro ⟨u, h1, h2, h3⟩; exact ⟨u, by omega, h2, h3⟩
          · rintro ⟨u, h1, h2, h3⟩
            by_cases hu : u = t
            · subst hu; exact absurd (by rw [h3]) hm
            · exact ⟨u, by omega, h2, h3⟩
      · rw [if_neg hk]
        refine Hu_congr (fun m => ?_) hr
        constructor
        · rintro ⟨u, h1, h2, h3⟩; exact ⟨u, by omega, h2, h3⟩
        · rintro ⟨u, h1, h2, h3⟩
          by_cases hu : u = t
          · subst hu; exact absurd h2 hk
          · exact ⟨u, by omega, h2, h3⟩
    obtain ⟨R, h1, h2⟩ := ih (t + 1) _ (by omega) step
    refine ⟨R, ?_, h2⟩
    refine Ev.shift ?_; simp only [impl_HullBySubsets.l0, ones hlt, Option.bind_some, wrapu hlt]
    refine Ev.pos (by omega) ?_
    by_cases hk : ((pick a t).length : Int) = x1
    · rw [if_pos hk] at h1
      refine Ev.pos (by omega) ?_
      refine impl_pick a hn x1 t _ hlt r R a.length 0 [] (by omega) (by simp) ?_
      simpa using h1
    · rw [if_neg hk] at h1
      exact Ev.neg (by omega) h1
theorem both_ways (a : List SI) (x1 : Int) (hx : -9223372036854775808 ≤ x1 ∧ x1 ≤ 9223372036854775807) : ∃ R, Ev (fun k => spec_HullBySubsets.f k a x1) R ∧ Ev (fun k => impl_HullBySubsets.f k a x1) R := by
  unfold spec_HullBySubsets.f impl_HullBySubsets.f
  simp only [spec_SourcesOk.f, impl_SourcesOk.f, Option.bind_some]
  by_cases hok : Pu.SourcesOk (a.map cv35) = true
  · by_cases hk : x1 < 1
    · refine ⟨(0, 0, false), Ev.pos hok ?_, Ev.pos hok ?_⟩
      · refine Ev.shift ?_; simp only [spec_HullBySubsets.j0]; exact Ev.pos (by simp [hk]) (Ev.val rfl)
      · refine Ev.shift ?_; simp only [impl_HullBySubsets.j0]; exact Ev.pos (by simp [hk]) (Ev.val rfl)
    · have hn : a.length ≤ 12 := by have := Pu.SourcesOk_bd hok; simpa using this
      have hel : ∀ i (h : i < a.length), Pu.IvalOk (cv35 a[i]) = true := fun i h => Pu.SourcesOk_el hok (k := i) (by simp [h])
      have hall : (a.map cv35).all Pu.IvalOk = true := by
        simp only [Pu.SourcesOk, Pu.AllOk, Bool.and_eq_true] at hok; exact hok.2
      obtain ⟨RI, i1, i2⟩ := impl_sets a hn x1 (2 ^ a.length) 0 (0, 0, false) (by omega) (.inl ⟨rfl, by rintro m ⟨u, hu, _⟩; omega⟩)
      have hI : Ev (fun k => impl_HullBySubsets.j0 k a x1 (decide (x1 < 1))) RI := by
        refine Ev.shift ?_; simp only [impl_HullBySubsets.j0]
        refine Ev.neg (by simp [hk]) ?_
        have := shl_fin ⟨a.length, by omega⟩
        simp only at this
        rw [this]; simpa using i1
      -- what the sets have in common
      have hQ : ∀ m, Qm a x1 (2 ^ a.length) m ↔ Cm a 0 x1.toNat none m := by
        intro m
        constructor
        · rintro ⟨u, _, hl, hf⟩
          have hs := pick_sub a u
          have hne : pick a u ≠ [] := by intro hc; rw [hc] at hl; simp at hl; omega
          have := (folded_cap hne (by have := hs.length_le; omega) (by rw [List.all_eq_true] at hall ⊢; intro z hz; exact hall z ((hs.map _).subset hz))).1 hf
          exact ⟨_, by simpa using hs, by omega, this.1, this.2⟩
        · rintro ⟨s, hs, hl, hc, hm⟩
          rw [List.drop_zero] at hs
          obtain ⟨u, hu, rfl⟩ := sub_pick hs
          have hne : pick a u ≠ [] := by intro hc; rw [hc] at hl; simp at hl; omega
          exact ⟨u, hu, by omega, (folded_cap hne (by have := hs.length_le; omega) (by rw [List.all_eq_true] at hall ⊢; intro z hz; exact hall z ((hs.map _).subset hz))).2 ⟨hc, hm⟩⟩
      have hS : ∃ R, Ev (fun k => spec_l9Choose.f k a 0 x1 0 0 false 0 0 false) R ∧ Hu (Cm a 0 x1.toNat none) R := by
        by_cases hbig : x1 ≤ 12
        · obtain ⟨kk, rfl⟩ : ∃ kk : Nat, x1 = (kk : Int) := ⟨x1.toNat, by omega⟩
          obtain ⟨R, h1, h2⟩ := spec_choose a hn hel kk (by omega) 0 false 0 0 (fun _ => False) (0, 0, false) (by omega) (by omega) (by intro y hy; cases hy) (by intro m hm; exact hm.elim) (.inl ⟨rfl, fun _ h => h⟩)
          exact ⟨R, by simpa using h1, Hu_congr (fun m => by simp [optI]) h2⟩
        · refine ⟨(0, 0, false), ?_, .inl ⟨rfl, fun m => Cm_far (by omega) (by omega)⟩⟩
          refine Ev.shift ?_; simp only [spec_l9Choose.f]
          refine Ev.neg (by omega) ?_
          refine Ev.shift ?_; simp only [spec_l9Choose.l0]
          have hw : wrap64 (0 + x1) = x1 := by unfold wrap64; omega
          rw [hw]
          exact Ev.neg (by omega) (Ev.val rfl)
      obtain ⟨RS, s1, s2⟩ := hS
      obtain rfl : RS = RI := Hu_one s2 (Hu_congr hQ i2)
      refine ⟨RS, Ev.pos hok ?_, Ev.pos hok hI⟩
      refine Ev.shift ?_; simp only [spec_HullBySubsets.j0]
      refine Ev.neg (by simp [hk]) (Ev.bind s1 ?_)
      rcases s2 with ⟨rfl, _⟩ | ⟨e, _⟩
      · with_reducible refine Ev.neg (by simp) (Ev.val rfl)
      · refine Ev.pos e (Ev.val ?_)
        rw [← e]
  · refine ⟨(0, 0, false), Ev.neg hok ?_, Ev.neg hok ?_⟩
    · refine Ev.shift ?_; simp only [spec_HullBySubsets.j0]; exact Ev.pos trivial (Ev.val rfl)
    · refine Ev.shift ?_; simp only [impl_HullBySubsets.j0]; exact Ev.pos trivial (Ev.val rfl)
/-- What is left of the statement: over lists alone. -/
theorem pure_FnExactHullBySubsets (l : List S32) (x1 : Int) (hx : -9223372036854775808 ≤ x1 ∧ x1 ≤ 9223372036854775807) : ∃ k, laws_FnExactHullBySubsets.f k l x1 = some true := by
  apply Ev.rounds
  unfold laws_FnExactHullBySubsets.f
  have p1 : (0 : Int) ≤ 1048576 ∧ (1048576 : Int) ≤ 1048576 := by omega
  simp only [laws_szIvalS.f, if_pos p1]
  by_cases ha : l.length ≤ 1048576
  · rw [sz_small (by omega)]
    obtain ⟨R, hs, hi⟩ := both_ways ((l.map cv32).map vc35) x1 hx
    have p3 : ¬ (1048576 - (l.length : Int) < 0) := by omega
    simp only [Option.bind_some, if_neg p3, laws_toIvalS.f, if_pos ha]
    repeat' first | (with_reducible refine Ev.bindSome ?_) | (with_reducible refine Ev.pos (by first | omega | exact eqS_Ival _ | (simp; done) | assumption) ?_) | (with_reducible refine Ev.neg (by first | omega | exact eqS_Ival _ | (simp; done) | assumption) ?_) | (with_reducible refine Ev.bindPos (by first | omega | exact eqS_Ival _ | (simp; done) | assumption) ?_) | (with_reducible refine Ev.bindNeg (by first | omega | exact eqS_Ival _ | (simp; done) | assumption) ?_) | (with_reducible refine Ev.ite (fun h => ?_) (fun h => ?_)) | (with_reducible refine Ev.bindIte (fun h => ?_) (fun h => ?_)) | (with_reducible refine Ev.bind hs ?_) | (with_reducible refine Ev.bind hi ?_) | (with_reducible refine Ev.bind (Ev.up hs) ?_) | (with_reducible refine Ev.bind (Ev.up hi) ?_) | (with_reducible refine Ev.bind (Ev.up (Ev.up hs)) ?_) | (with_reducible refine Ev.bind (Ev.up (Ev.up hi)) ?_) | (with_reducible refine Ev.bind (Ev.up (Ev.up (Ev.up hs))) ?_) | (with_reducible refine Ev.bind (Ev.up (Ev.up (Ev.up hi))) ?_) | (simp only [laws_toIvalS.f, laws_eqIvalS.f, laws_eqIval.f, Pu.eqIval_self, if_pos ha, eqS_Ival, Option.bind_some, Option.bind_assoc, ↓reduceIte]) | (with_reducible refine Ev.shift ?_; simp only [laws_FnExactHullBySubsets.j0])
    all_goals first | (exfalso; omega) | (refine Ev.val ?_; simp; done) | (exfalso; simp_all; done)
  · rw [sz_big (n := l.length) (by omega)]
    exact ⟨0, fun k _ => by simp⟩
end Go.Proofs.Ytpedhnhemocblaa.PHullBySubsets
