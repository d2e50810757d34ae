/-
  Lemmas on worlds that serve every walk of this seat: what a call leaves behind it are blocks beyond the heap's end ('junk'), and nothing that was there has turned.
  No statement of the seat is proved here.
-/
import Derived.WalkKit
import Derived.Below
import Derived.Lib.Hide
namespace Go.Proofs.Ytbfbcecghokpoaa
open Go.RowKit

/-- The world with blocks g behind it, and with another count of draws. -/
def junk (w : World) (g : Array Obj) (d : Nat) : World := { w with heap := w.heap ++ g, drawn := d }

theorem junk_of_below {w w' : World} (h : Below w.heap.size w w') : ∃ g d, w' = junk w g d := by
  refine ⟨w'.heap.extract w.heap.size w'.heap.size, w'.drawn, ?_⟩
  obtain ⟨h1, h2, h3, h4, h5⟩ := h
  cases w with
  | mk heap tape drawn os output =>
  cases w' with
  | mk heap' tape' drawn' os' output' =>
  simp only at h1 h2 h3 h4 h5
  subst h1 h2 h3
  unfold junk
  simp only [World.mk.injEq, and_true]
  apply Array.ext_getElem?
  intro i
  rw [Array.getElem?_append]
  split
  · rename_i hi
    exact h5 i hi
  · rename_i hi
    rw [Array.getElem?_extract]
    split
    · congr 1; omega
    · rename_i hj
      exact Array.getElem?_eq_none (by omega)

@[go_sem] theorem junk_size (w : World) (g : Array Obj) (d : Nat) : (junk w g d).heap.size = w.heap.size + g.size := by simp [junk]

theorem junk_block (w : World) (g : Array Obj) (d n : Nat) (hn : n < w.heap.size) : (junk w g d).heap[n]? = w.heap[n]? := by
  simp [junk, Array.getElem?_append, hn]

@[go_sem] theorem junk_cell (w : World) (g : Array Obj) (d n i : Nat) (hn : n < w.heap.size) : (junk w g d).cell? ⟨n, i, none⟩ = w.cell? ⟨n, i, none⟩ :=
  World.cell?_of_block (a := ⟨n, i, none⟩) (junk_block w g d n hn)

@[go_sem] theorem junk_frozen (w : World) (g : Array Obj) (d n i : Nat) (hn : n < w.heap.size) : (junk w g d).frozen? ⟨n, i, none⟩ = w.frozen? ⟨n, i, none⟩ :=
  World.frozen?_of_block (a := ⟨n, i, none⟩) (junk_block w g d n hn)

@[go_sem] theorem junk_shape (w : World) (g : Array Obj) (d n : Nat) (hn : n < w.heap.size) : (junk w g d).shape? n = w.shape? n := by
  simp [World.shape?, junk_block w g d n hn]

@[go_sem] theorem junk_setCell (w : World) (g : Array Obj) (d n i : Nat) (v : Value) (hn : n < w.heap.size) :
    (junk w g d).setCell ⟨n, i, none⟩ v = junk (w.setCell ⟨n, i, none⟩ v) g d := by
  unfold World.setCell junk
  congr 1
  apply Array.ext_getElem?
  intro k
  simp only [Array.getElem?_modify, Array.getElem?_append, Array.size_modify]
  by_cases hk : n = k
  · subst hk; simp [hn]
  · simp only [hk, if_false]

@[go_sem] theorem junk_drew (w : World) (g : Array Obj) (d : Nat) : junk w.drew g d = junk w g d := rfl

/-- Consecutive leftovers are one. -/
theorem junk_junk (w : World) (g g' : Array Obj) (d d' : Nat) : junk (junk w g d) g' d' = junk w (g ++ g') d' := by simp [junk, Array.append_assoc]
/-! A block lies below every later size of the heap: without conditions, so that the walk's simp needs no depth for them. -/
@[go_sem] theorem lt_later1 (a b : Nat) : (a < a + 1 + b) = True := eq_true (by omega)
@[go_sem] theorem lt_later2 (a b c : Nat) : (a < a + 1 + b + c) = True := eq_true (by omega)
@[go_sem] theorem lt_later3 (a b c d : Nat) : (a < a + 1 + b + c + d) = True := eq_true (by omega)
@[go_sem] theorem lt_later4 (a b c d e : Nat) : (a < a + 1 + b + c + d + e) = True := eq_true (by omega)
@[go_sem] theorem lt_later5 (a b c d e f : Nat) : (a < a + 1 + b + c + d + e + f) = True := eq_true (by omega)
@[go_sem] theorem lt_later6 (a b c d e f g : Nat) : (a < a + 1 + b + c + d + e + f + g) = True := eq_true (by omega)
@[go_sem] theorem lt_later7 (a b c d e f g h : Nat) : (a < a + 1 + b + c + d + e + f + g + h) = True := eq_true (by omega)
@[go_sem] theorem lt_later8 (a b c d e f g h i : Nat) : (a < a + 1 + b + c + d + e + f + g + h + i) = True := eq_true (by omega)
@[go_sem] theorem lt_later9 (a b c d e f g h i j : Nat) : (a < a + 1 + b + c + d + e + f + g + h + i + j) = True := eq_true (by omega)
@[go_sem] theorem lt_later10 (a b c d e f g h i j k : Nat) : (a < a + 1 + b + c + d + e + f + g + h + i + j + k) = True := eq_true (by omega)
@[go_sem] theorem lt_later11 (a b c d e f g h i j k l : Nat) : (a < a + 1 + b + c + d + e + f + g + h + i + j + k + l) = True := eq_true (by omega)
@[go_sem] theorem lt_later12 (a b c d e f g h i j k l m : Nat) : (a < a + 1 + b + c + d + e + f + g + h + i + j + k + l + m) = True := eq_true (by omega)
@[go_sem] theorem lt_later13 (a b c d e f g h i j k l m n : Nat) : (a < a + 1 + b + c + d + e + f + g + h + i + j + k + l + m + n) = True := eq_true (by omega)
@[go_sem] theorem lt_later14 (a b c d e f g h i j k l m n o : Nat) : (a < a + 1 + b + c + d + e + f + g + h + i + j + k + l + m + n + o) = True := eq_true (by omega)

/-! 'max' and 'min' of whole numbers, without a branch. -/
theorem ite_max (x y : Int) : (if x < y then y else x) = max x y := by split <;> omega
theorem ite_min (x y : Int) : (if y < x then y else x) = min x y := by split <;> omega
@[go_sem] theorem max_int2 (ts : Array TypeId) (t : TypeId) (k k' : IntKind) (x y : Int) : Builtin.max_ ts t #[.int k x, .int k' y] = pure (.int k (max x y)) := by
  simp [Builtin.max_, Builtin.max2, ite_max]
@[go_sem] theorem min_int2 (ts : Array TypeId) (t : TypeId) (k k' : IntKind) (x y : Int) : Builtin.min_ ts t #[.int k x, .int k' y] = pure (.int k (min x y)) := by
  simp [Builtin.min_, Builtin.min2, ite_min]
@[go_sem] theorem max_int3 (ts : Array TypeId) (t : TypeId) (k k' k'' : IntKind) (x y z : Int) : Builtin.max_ ts t #[.int k x, .int k' y, .int k'' z] = pure (.int k (max (max x y) z)) := by
  simp [Builtin.max_, Builtin.max2, ite_max]

theorem below_alloc {w x : World} (o : Obj) (h : Below w.heap.size w x) : Below w.heap.size w (x.alloc o) := h.alloc h.size o
theorem below_junk {w x : World} (g : Array Obj) (d : Nat) (h : Below w.heap.size w x) : Below w.heap.size w (junk x g d) :=
  h.trans ⟨rfl, rfl, rfl, by rw [junk_size]; omega, fun k hk => junk_block x g d k (by have := h.size; omega)⟩
theorem below_drew {w x : World} (h : Below w.heap.size w x) : Below w.heap.size w x.drew := h.drew

/-- The two ends of a call: what it hands back, and the world. -/
def Ret (w : World) (v : Value) (e : Ending) (w' : World) : Prop := e = .returned v ∧ Below w.heap.size w w'

theorem Ret.mk {w : World} {v : Value} {w' : World} (h : Below w.heap.size w w') : Ret w v (.returned v) w' := ⟨rfl, h⟩

theorem Ret.mk' {w : World} {v v' : Value} {w' : World} (hv : v' = v) (h : Below w.heap.size w w') : Ret w v (.returned v') w' := ⟨by rw [hv], h⟩

theorem Ret.open {w : World} {v : Value} {e : Ending} {w' : World} (h : Ret w v e w') : e = .returned v ∧ ∃ g d, w' = junk w g d :=
  ⟨h.1, junk_of_below h.2⟩
/-- A call that hands back a truth: both ways, each with what is known. -/
theorem Ret.bool {w : World} {b : Bool} {e : Ending} {w' : World} (h : Ret w (.bool b) e w') :
    (e = .returned (.bool true) ∧ b = true ∧ ∃ g d, w' = junk w g d) ∨ (e = .returned (.bool false) ∧ b = false ∧ ∃ g d, w' = junk w g d) := by
  obtain ⟨h1, h2⟩ := h.open
  cases b
  · exact .inr ⟨h1, rfl, h2⟩
  · exact .inl ⟨h1, rfl, h2⟩
end Go.Proofs.Ytbfbcecghokpoaa
