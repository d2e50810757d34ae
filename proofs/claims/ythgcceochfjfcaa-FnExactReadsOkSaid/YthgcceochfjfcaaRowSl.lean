/-
  How an argument that is a slice of structs of whole numbers and truths reads: a list, in the words of the kit's printing tool.
  No statement of the seat is proved here.
-/
import Derived.Test.YthgcceochfjfcaaRow
import Derived.Test.YthgcceochfjfcaaSl
import Derived.Deep.Slices
namespace Go.Proofs.Ythgcceochfjfcaa
open Go.ChangeShapes Go.WideShapes Go.ChangeAt Go.RowKit Go Go.Proofs.YthgcceochfjfcaaW.PrintWords Go.Deep

section
variable {H : Type} {enc : TypeId × Value → H} {P : Program} {w : World} {base : Nat} {spare : Nat → Bool} {held : Bool}
theorem open_rows {α : Type} {k : Kd α} {r : Reach} {b0 : Nat} {t e : TypeId} {v : Value} {d : DataW H} {p : List MemPlace} (n : Nat) (ls : List Lf) (dec : List Value → α) (hdec : ∀ vs, Leaves ls vs → ∀ w, k.K w (dec vs) vs)
    (hu : P.underlying t = some (.slice e)) (he : flat P n e = some ls) (hc : P.cellsOf e = k.sz) (hv : Value.okWide P w r b0 t v) (h : DataW.Trod enc P w base spare held t v d p) :
    ∃ (A : Option Addr) (c : Nat) (l : List α), v = .slice A l.length c ∧ k.C w A l.length l ∧ l.length ≤ c := by
  obtain ⟨a0, len0, cap0, rfl⟩ := okWide_slice hu hv
  obtain ⟨fuel, hf⟩ := h
  have hf' : DataW.trod enc P w base spare held fuel t [.slice a0 len0 cap0] = some (d, p) := by simpa [Value.cells] using hf
  rcases open_slice hu hf' with ⟨hcs, _⟩ | ⟨a, len, cap, m, f, D, Pl, hcs, _, hl, hcap, hm, _, hx⟩
  · simp only [List.cons.injEq, Value.slice.injEq, and_true] at hcs
    obtain ⟨rfl, rfl, rfl⟩ := hcs
    exact ⟨none, 0, [], rfl, Kd.C_nil _ _, Nat.le_refl _⟩
  · simp only [List.cons.injEq, Value.slice.injEq, and_true] at hcs
    obtain ⟨rfl, rfl, rfl⟩ := hcs
    have hlm : len0 ≤ m := by rw [hm]; split <;> omega
    obtain ⟨g, hg⟩ := choose_lt hx
    have hlen : ((List.range len0).map fun i => dec (g i)).length = len0 := by simp
    refine ⟨some a, cap0, (List.range len0).map fun i => dec (g i), by rw [hlen], ⟨rfl, by rw [hlen]; unfold maxLen at hcap; omega, fun _ => ⟨a, rfl, fun j q hq => ?_⟩⟩, by rw [hlen]; exact hl⟩
    obtain ⟨hj, rfl⟩ := List.getElem?_eq_some_iff.1 hq
    have hj' : j < len0 := by simpa using hj
    obtain ⟨h1, h2⟩ := hg j (by omega)
    obtain ⟨_, h3, h4⟩ := World.cells?_some h1
    refine ⟨g j, by rw [h3, hc], ?_, fun i u hu' => ?_⟩
    · simp only [List.getElem_map, List.getElem_range]
      exact hdec _ (flat_open n e ls f _ _ he h2) w
    · have hi : i < (g j).length := (List.getElem?_eq_some_iff.1 hu').1
      have := h4 i (by omega)
      rw [Deep.add_add, hc] at this
      rw [this, hu']
end

def decLook : List Value → Look
  | [.bool c0, .int _ c1, .int _ c2] => ⟨c0, ⟨c1, c2⟩⟩
  | _ => ⟨false, ⟨0, 0⟩⟩
theorem decLook_ok (vs : List Value) (h : Leaves [.b, .i, .i] vs) (w : World) : kLook.K w (decLook vs) vs := by
  obtain ⟨c0, _, rfl, c1, _, rfl, _, c2, _, rfl, _, rfl⟩ := h
  exact kLook_mk w _

def decReading : List Value → Reading
  | [.int _ c0, .bool c1, .int _ c2] => ⟨c0, c1, c2⟩
  | _ => ⟨0, false, 0⟩
theorem decReading_ok (vs : List Value) (h : Leaves [.i, .b, .i] vs) (w : World) : kReading.K w (decReading vs) vs := by
  obtain ⟨c0, _, rfl, _, c1, _, rfl, c2, _, rfl, _, rfl⟩ := h
  exact kReading_mk w _
end Go.Proofs.Ythgcceochfjfcaa
