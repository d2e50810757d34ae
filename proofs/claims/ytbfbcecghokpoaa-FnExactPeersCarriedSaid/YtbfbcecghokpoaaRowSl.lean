/-
  How an argument that is a slice of structs of whole numbers and truths reads: a list, in the words of the kit's printing tool.
  No statement of the seat is proved here.
-/
import Derived.Test.YtbfbcecghokpoaaRow
import Derived.Test.YtbfbcecghokpoaaSl
import Derived.Deep.Slices
namespace Go.Proofs.Ytbfbcecghokpoaa
open Go.ChangeShapes Go.WideShapes Go.ChangeAt Go.RowKit Go Go.Proofs.YtbfbcecghokpoaaW.PrintWords Go.Deep

section
variable {H : Type} {enc : TypeId × Value → H} {P : Program} {w : World} {base : Nat} {spare : Nat → Bool} {held : Bool}
theorem open_rows {α : Type} {k : Kd α} {r : Reach} {b0 : Nat} {t e : TypeId} {v : Value} {d : DataW H} {p : List MemPlace} (n : Nat) (ls : List Lf) (dec : List Value → α) (hdec : ∀ vs, Leaves ls vs → ∀ w, k.K w (dec vs) vs)
    (hu : P.underlying t = some (.slice e)) (he : flat P n e = some ls) (hc : P.cellsOf e = k.sz) (hv : Value.okWide P w r b0 t v) (h : DataW.Trod enc P w base spare held t v d p) :
    ∃ (A : Option Addr) (c : Nat) (l : List α), v = .slice A l.length c ∧ k.C w A l.length l ∧ l.length ≤ c := by
  obtain ⟨a0, len0, cap0, rfl⟩ := okWide_slice hu hv
  obtain ⟨fuel, hf⟩ := h
  have hf' : DataW.trod enc P w base spare held fuel t [.slice a0 len0 cap0] = some (d, p) := by simpa [Value.cells] using hf
  rcases open_slice hu hf' with ⟨hcs, _⟩ | ⟨a, len, cap, m, f, D, Pl, hcs, _, hl, hcap, hm, _, hx⟩
  · simp only [List.cons.injEq, Value.slice.injEq, and_true] at hcs
    obtain ⟨rfl, rfl, rfl⟩ := hcs
    exact ⟨none, 0, [], rfl, Kd.C_nil _ _, Nat.le_refl _⟩
  · simp only [List.cons.injEq, Value.slice.injEq, and_true] at hcs
    obtain ⟨rfl, rfl, rfl⟩ := hcs
    have hlm : len0 ≤ m := by rw [hm]; split <;> omega
    obtain ⟨g, hg⟩ := choose_lt hx
    have hlen : ((List.range len0).map fun i => dec (g i)).length = len0 := by simp
    refine ⟨some a, cap0, (List.range len0).map fun i => dec (g i), by rw [hlen], ⟨rfl, by rw [hlen]; unfold maxLen at hcap; omega, fun _ => ⟨a, rfl, fun j q hq => ?_⟩⟩, by rw [hlen]; exact hl⟩
    obtain ⟨hj, rfl⟩ := List.getElem?_eq_some_iff.1 hq
    have hj' : j < len0 := by simpa using hj
    obtain ⟨h1, h2⟩ := hg j (by omega)
    obtain ⟨_, h3, h4⟩ := World.cells?_some h1
    refine ⟨g j, by rw [h3, hc], ?_, fun i u hu' => ?_⟩
    · simp only [List.getElem_map, List.getElem_range]
      exact hdec _ (flat_open n e ls f _ _ he h2) w
    · have hi : i < (g j).length := (List.getElem?_eq_some_iff.1 hu').1
      have := h4 i (by omega)
      rw [Deep.add_add, hc] at this
      rw [this, hu']
theorem open_cells {α : Type} {k : Kd α} {t e : TypeId} {fuel : Nat} {cs : List Value} {x : DataW H × List MemPlace} (n : Nat) (ls : List Lf) (dec : List Value → α) (hdec : ∀ vs, Leaves ls vs → ∀ w, k.K w (dec vs) vs)
    (hu : P.underlying t = some (.slice e)) (he : flat P n e = some ls) (hc : P.cellsOf e = k.sz) (h : DataW.trod enc P w base spare held fuel t cs = some x) :
    ∃ (A : Option Addr) (c : Nat) (l : List α), cs = [.slice A l.length c] ∧ k.C w A l.length l ∧ l.length ≤ c := by
  rcases open_slice hu h with ⟨rfl, _⟩ | ⟨a, len0, cap0, m, f, D, Pl, rfl, _, hl, hcap, hm, _, hx⟩
  · exact ⟨none, 0, [], rfl, Kd.C_nil _ _, Nat.le_refl _⟩
  · have hlm : len0 ≤ m := by rw [hm]; split <;> omega
    obtain ⟨g, hg⟩ := choose_lt hx
    have hlen : ((List.range len0).map fun i => dec (g i)).length = len0 := by simp
    refine ⟨some a, cap0, (List.range len0).map fun i => dec (g i), by rw [hlen], ⟨rfl, by rw [hlen]; unfold maxLen at hcap; omega, fun _ => ⟨a, rfl, fun j q hq => ?_⟩⟩, by rw [hlen]; exact hl⟩
    obtain ⟨hj, rfl⟩ := List.getElem?_eq_some_iff.1 hq
    have hj' : j < len0 := by simpa using hj
    obtain ⟨h1, h2⟩ := hg j (by omega)
    obtain ⟨_, h3, h4⟩ := World.cells?_some h1
    refine ⟨g j, by rw [h3, hc], ?_, fun i u hu' => ?_⟩
    · simp only [List.getElem_map, List.getElem_range]
      exact hdec _ (flat_open n e ls f _ _ he h2) w
    · have hi : i < (g j).length := (List.getElem?_eq_some_iff.1 hu').1
      have := h4 i (by omega)
      rw [Deep.add_add, hc] at this
      rw [this, hu']
/-- A struct of two whole numbers and a slice. -/
theorem open_iis {α : Type} {k : Kd α} {r : Reach} {b0 : Nat} {t e : TypeId} {f0 f1 f2 : Field} {v : Value} {d : DataW H} {p : List MemPlace} (n : Nat) (ls : List Lf) (dec : List Value → α) (hdec : ∀ vs, Leaves ls vs → ∀ w, k.K w (dec vs) vs)
    (hu : P.underlying t = some (.struct #[f0, f1, f2])) (h0 : P.underlying f0.type = some (.int .i64)) (h1 : P.underlying f1.type = some (.int .i64)) (h2 : P.underlying f2.type = some (.slice e))
    (ho : f0.offset = 0 ∧ f1.offset = 1 ∧ f2.offset = 2 ∧ P.cellsOf f0.type = 1 ∧ P.cellsOf f1.type = 1 ∧ P.cellsOf f2.type = 1 ∧ P.cellsOf t = 3)
    (he : flat P n e = some ls) (hc : P.cellsOf e = k.sz) (hv : Value.okWide P w r b0 t v) (h : DataW.Trod enc P w base spare held t v d p) :
    ∃ (a b : Int) (A : Option Addr) (c : Nat) (l : List α), v = .agg #[.int .i64 a, .int .i64 b, .slice A l.length c] ∧ k.C w A l.length l ∧ l.length ≤ c := by
  obtain ⟨o0, o1, o2, s0, s1, s2, st⟩ := ho
  obtain ⟨cs, rfl, _⟩ := okWide_struct hu hv
  obtain ⟨fuel, hf⟩ := h
  have hf' : DataW.trod enc P w base spare held fuel t cs.toList = some (d, p) := by simpa [Value.cells] using hf
  obtain ⟨xs, m, _, _, hlen, hxl, hfs⟩ := DataW.trod_struct hu hf'
  have hx3 : xs.length = 3 := by simpa using hxl
  have g0 := hfs 0 f0 rfl
  have g1 := hfs 1 f1 rfl
  have g2 := hfs 2 f2 rfl
  rw [List.getElem?_eq_getElem (by omega)] at g0 g1 g2
  rw [o0, s0] at g0; rw [o1, s1] at g1; rw [o2, s2] at g2
  obtain ⟨a, ea, _, _⟩ := DataW.trod_int h0 g0
  obtain ⟨b, eb, _, _⟩ := DataW.trod_int h1 g1
  obtain ⟨A, c, l, ec, hC, hcl⟩ := open_cells n ls dec hdec h2 he hc g2
  refine ⟨a, b, A, c, l, ?_, hC, hcl⟩
  have hl3 : cs.toList.length = 3 := by rw [hlen, st]
  rcases hcs : cs.toList with _ | ⟨x, _ | ⟨y, _ | ⟨z, _ | ⟨_, _⟩⟩⟩⟩
  · simp [hcs] at hl3
  · simp [hcs] at hl3
  · simp [hcs] at hl3
  · rw [hcs] at ea eb ec
    simp at ea eb ec
    subst ea eb ec
    congr 1
    apply Array.ext'
    simpa using hcs
  · simp [hcs] at hl3
end

def decIval : List Value → Ival
  | [.int _ c0, .int _ c1] => ⟨c0, c1⟩
  | _ => ⟨0, 0⟩
theorem decIval_ok (vs : List Value) (h : Leaves [.i, .i] vs) (w : World) : kIval.K w (decIval vs) vs := by
  obtain ⟨c0, _, rfl, _, c1, _, rfl, _, rfl⟩ := h
  exact kIval_mk w _

def decPeer : List Value → Peer
  | [.int _ c0, .int _ c1, .int _ c2, .int _ c3, .bool c4] => ⟨c0, ⟨c1, c2⟩, c3, c4⟩
  | _ => ⟨0, ⟨0, 0⟩, 0, false⟩
theorem decPeer_ok (vs : List Value) (h : Leaves [.i, .i, .i, .i, .b] vs) (w : World) : kPeer.K w (decPeer vs) vs := by
  obtain ⟨c0, _, rfl, _, c1, _, rfl, _, c2, _, rfl, _, c3, _, rfl, _, c4, _, rfl, rfl⟩ := h
  exact kPeer_mk w _
end Go.Proofs.Ytbfbcecghokpoaa
