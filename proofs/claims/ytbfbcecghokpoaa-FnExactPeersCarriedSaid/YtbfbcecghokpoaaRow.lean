/-
  How an argument that is a struct of whole numbers and truths (structs within it too) reads: its cells, one behind the other; and that arguments read behind a call as before it where nothing that was there has turned.
  No statement of the seat is proved here.
-/
import Derived.Test.YtbfbcecghokpoaaBase
import Derived.ProofKit
import Derived.OpenShut
import Derived.ChangeOld
import Derived.Carry
import Derived.SizedLaws
namespace Go.Proofs.Ytbfbcecghokpoaa
open Go.ChangeShapes Go.WideShapes Go.ChangeAt Go.RowKit Go

/-- The kinds of a cell. -/
inductive Lf where
  | i
  | b
  | y

/-- Cells of these kinds, one behind the other. -/
def Leaves : List Lf → List Value → Prop
  | [], vs => vs = []
  | .i :: ls, vs => ∃ (n : Int) (rest : List Value), vs = .int .i64 n :: rest ∧ (Lit.int .i64 n).wf = true ∧ Leaves ls rest
  | .b :: ls, vs => ∃ (x : Bool) (rest : List Value), vs = .bool x :: rest ∧ Leaves ls rest
  | .y :: ls, vs => ∃ (n : Int) (rest : List Value), vs = .int .u8 n :: rest ∧ (Lit.int .u8 n).wf = true ∧ Leaves ls rest

theorem Leaves.append : ∀ {a b : List Lf} {u v : List Value}, Leaves a u → Leaves b v → Leaves (a ++ b) (u ++ v)
  | [], _, _, _, h, k => by subst h; simpa using k
  | .i :: _, _, _, _, ⟨n, rest, e, w, h⟩, k => ⟨n, rest ++ _, by rw [e]; rfl, w, Leaves.append h k⟩
  | .b :: _, _, _, _, ⟨n, rest, e, h⟩, k => ⟨n, rest ++ _, by rw [e]; rfl, Leaves.append h k⟩
  | .y :: _, _, _, _, ⟨n, rest, e, w, h⟩, k => ⟨n, rest ++ _, by rw [e]; rfl, w, Leaves.append h k⟩
theorem Leaves.len : ∀ {a : List Lf} {u : List Value}, Leaves a u → u.length = a.length
  | [], _, h => by subst h; rfl
  | .i :: _, _, ⟨_, _, e, _, h⟩ => by rw [e]; simp [Leaves.len h]
  | .b :: _, _, ⟨_, _, e, h⟩ => by rw [e]; simp [Leaves.len h]
  | .y :: _, _, ⟨_, _, e, _, h⟩ => by rw [e]; simp [Leaves.len h]

/-- The kinds of a type's cells, where it holds nothing else. -/
def flat (P : Program) : Nat → TypeId → Option (List Lf)
  | 0, _ => none
  | n + 1, t =>
    match P.underlying t with
    | some (.int .i64) => some [.i]
    | some (.int .u8) => some [.y]
    | some .bool => some [.b]
    | some (.struct fs) =>
      (fs.toList.foldl (fun acc f => acc.bind fun ls => (flat P n f.type).bind fun l => if f.offset = ls.length ∧ P.cellsOf f.type = l.length then some (ls ++ l) else none) (some [])).bind
        fun ls => if P.cellsOf t = ls.length then some ls else none
    | _ => none

section
variable {H : Type} {enc : TypeId × Value → H} {P : Program} {w : World} {base : Nat} {spare : Nat → Bool} {held : Bool}

theorem foldl_none {α β : Type} (g : β → α → Option β) (fs : List α) : fs.foldl (fun acc f => acc.bind fun ls => g ls f) none = none := by
  induction fs with
  | nil => rfl
  | cons f fs ih => simpa using ih

theorem flat_fields (n : Nat) (ih : ∀ (t : TypeId) (ls : List Lf) (fuel : Nat) (cs : List Value) (x : DataW H × List MemPlace), flat P n t = some ls → DataW.trod enc P w base spare held fuel t cs = some x → Leaves ls cs)
    (m : Nat) (cs : List Value) : ∀ (fs : List Field) (acc ls : List Lf),
      (∀ f ∈ fs, ∃ x, DataW.trod enc P w base spare held m f.type ((cs.drop f.offset).take (P.cellsOf f.type)) = some x) →
      Leaves acc (cs.take acc.length) →
      fs.foldl (fun acc f => acc.bind fun ls => (flat P n f.type).bind fun l => if f.offset = ls.length ∧ P.cellsOf f.type = l.length then some (ls ++ l) else none) (some acc) = some ls →
      Leaves ls (cs.take ls.length)
  | [], acc, ls, _, ha, h => by
    simp only [List.foldl_nil, Option.some.injEq] at h
    subst h; exact ha
  | f :: fs, acc, ls, hx, ha, h => by
    simp only [List.foldl_cons, Option.bind_some] at h
    cases hf : flat P n f.type with
    | none => rw [hf] at h; simp only [Option.bind_none] at h; rw [foldl_none (fun (ls : List Lf) (f : Field) => (flat P n f.type).bind fun l => if f.offset = ls.length ∧ P.cellsOf f.type = l.length then some (ls ++ l) else none)] at h; cases h
    | some l =>
      rw [hf] at h
      simp only [Option.bind_some] at h
      by_cases hc : f.offset = acc.length ∧ P.cellsOf f.type = l.length
      · rw [if_pos hc] at h
        refine flat_fields n ih m cs fs (acc ++ l) ls (fun g hg => hx g (List.mem_cons_of_mem _ hg)) ?_ h
        obtain ⟨x, hx⟩ := hx f List.mem_cons_self
        have hl := ih _ _ _ _ _ hf hx
        rw [hc.1, hc.2] at hl
        rw [List.length_append, List.take_add]
        exact ha.append hl
      · rw [if_neg hc] at h
        rw [foldl_none (fun (ls : List Lf) (f : Field) => (flat P n f.type).bind fun l => if f.offset = ls.length ∧ P.cellsOf f.type = l.length then some (ls ++ l) else none)] at h; cases h

/-- What reads at such a type has such cells. -/
theorem flat_open : ∀ (n : Nat) (t : TypeId) (ls : List Lf) (fuel : Nat) (cs : List Value) (x : DataW H × List MemPlace), flat P n t = some ls → DataW.trod enc P w base spare held fuel t cs = some x → Leaves ls cs
  | 0, _, _, _, _, _, h, _ => by simp [flat] at h
  | n + 1, t, ls, fuel, cs, x, h, ht => by
    unfold flat at h
    split at h
    · rename_i hu
      obtain ⟨k, rfl, _, hw⟩ := DataW.trod_int hu ht
      cases h
      exact ⟨k, [], rfl, hw, rfl⟩
    · rename_i hu
      obtain ⟨k, rfl, _, hw⟩ := DataW.trod_int hu ht
      cases h
      exact ⟨k, [], rfl, hw, rfl⟩
    · rename_i hu
      obtain ⟨k, rfl, _⟩ := DataW.trod_bool hu ht
      cases h
      exact ⟨k, [], rfl, rfl⟩
    · rename_i fs hu
      obtain ⟨xs, m, _, _, hlen, hxl, hf⟩ := DataW.trod_struct hu ht
      cases hfo : fs.toList.foldl (fun acc f => acc.bind fun ls => (flat P n f.type).bind fun l => if f.offset = ls.length ∧ P.cellsOf f.type = l.length then some (ls ++ l) else none) (some []) with
      | none => rw [hfo] at h; cases h
      | some ls' =>
        rw [hfo] at h
        simp only [Option.bind_some] at h
        by_cases hc : P.cellsOf t = ls'.length
        · rw [if_pos hc] at h
          cases h
          have := flat_fields n (flat_open n) m cs fs.toList [] _ (fun f hfm => by
            obtain ⟨i, hi, e⟩ := List.mem_iff_getElem.1 hfm
            have h1 := hf i f (by simp at hi; simp [← e, hi])
            have : i < xs.length := by rw [hxl]; simpa using hi
            exact ⟨xs[i], by rw [h1]; simp [this]⟩) (by simp [Leaves]) hfo
          rwa [← hc, ← hlen, List.take_length] at this
        · rw [if_neg hc] at h; cases h
    · cases h

/-- A struct by value, opened to its cells. -/
theorem open_flat {r : Reach} {b0 : Nat} {t : TypeId} {v : Value} {d : DataW H} {p : List MemPlace} (n : Nat) (ls : List Lf) {fs : Array Field} (hu : P.underlying t = some (.struct fs)) (hfl : flat P n t = some ls)
    (hv : Value.okWide P w r b0 t v) (h : DataW.Trod enc P w base spare held t v d p) : ∃ vs : List Value, v = .agg vs.toArray ∧ Leaves ls vs := by
  obtain ⟨cs, rfl, _⟩ := okWide_struct hu hv
  obtain ⟨fuel, hf⟩ := h
  exact ⟨cs.toList, by simp, flat_open n t ls fuel cs.toList _ hfl (by simpa [Value.cells] using hf)⟩
end

/-- Behind a call that turns nothing the arguments read as they did. -/
theorem trodAll_below {H : Type} {enc : TypeId × Value → H} {P : Program} {W W' : World} (hl : laidOutB P = true) (hb : Below W.heap.size W W') :
    ∀ {ts : List TypeId} {vs : List Value} {ds : List (DataW H)} {ps : List MemPlace}, (∀ t ∈ ts, P.readableRec t = true ∧ t < P.types.size) → DataW.TrodAll enc P W 0 (fun _ => true) true ts vs ds ps → (∀ x ∈ ps, x.block < W.heap.size) →
      DataW.TrodAll enc P W' 0 (fun b => decide (b < W.heap.size)) true ts vs ds ps
  | [], _, _, _, _, h, _ => by
    obtain ⟨rfl, rfl, rfl⟩ := trodAll_nil h
    exact trodAll_mk0
  | t :: ts, _, _, _, hr, h, hlt => by
    obtain ⟨v, vs, d, ds, p, q, rfl, rfl, rfl, h0, h1⟩ := trodAll_cons h
    obtain ⟨hr0, hr1⟩ := hr t List.mem_cons_self
    exact trodAll_cons_mk (Below.trod hl hr0 hr1 h0 hb fun x hx => hlt x (List.mem_append_left _ hx))
      (trodAll_below hl hb (fun t ht => hr t (List.mem_cons_of_mem _ ht)) h1 fun x hx => hlt x (List.mem_append_right _ hx))
end Go.Proofs.Ytbfbcecghokpoaa
