/-
  Chapter 9: sources as plain functions of lists of intervals.
  No statement of the seat is proved here.
-/
import Derived.Test.YtpedhnhemocblaaSl
namespace Go.Proofs.Ytpedhnhemocblaa
open Go.RowKit
namespace Pu
def AllOk (l : List Ival) (most : Int) : Bool := decide ((l.length : Int) ≤ most) && l.all IvalOk
def SourcesOk (l : List Ival) : Bool := AllOk l 12
theorem any_not (l : List Ival) : (!l.any fun a => !IvalOk a) = l.all IvalOk := by rw [List.not_any_eq_all_not]; simp
theorem SourcesOk_bd {l : List Ival} (h : SourcesOk l = true) : l.length ≤ 12 := by simp only [SourcesOk, AllOk, Bool.and_eq_true, decide_eq_true_eq] at h; omega
theorem SourcesOk_el {l : List Ival} (h : SourcesOk l = true) {k : Nat} {x : Ival} (hx : l[k]? = some x) : IvalOk x = true := by
  simp only [SourcesOk, AllOk, Bool.and_eq_true, List.all_eq_true] at h
  exact h.2 x (List.mem_of_getElem? hx)
def CoverAt (l : List Ival) (t : Int) : Int := if SourcesOk l = true then (l.countP fun a => Holds a t : Nat) else 0
theorem CoverAt_cnt (l : List Ival) (t : Int) : CoverAt l t = if SourcesOk l = true then ((l.countP fun a => Holds a t : Nat) : Int) else 0 := rfl
def Missing (l : List Ival) (a : Ival) : List Int := if SourcesOk l = true ∧ IvalOk a = true then places (fun b => decide (0 < Apart a b)) 0 l else []
theorem Missing_ok {l : List Ival} {a : Ival} (h1 : SourcesOk l = true) (h2 : IvalOk a = true) : Missing l a = places (fun b => decide (0 < Apart a b)) 0 l := if_pos ⟨h1, h2⟩
theorem Missing_bad {l : List Ival} {a : Ival} (h : SourcesOk l = false ∨ IvalOk a = false) : Missing l a = [] := if_neg (by rcases h with h | h <;> simp [h])
end Pu
end Go.Proofs.Ytpedhnhemocblaa
