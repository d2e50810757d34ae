-- Functions of this seat and what their calls come to: written by a program of this session over the kit's printing tool; the functions told by the session's own contracts are marked by these.
import Derived.Test.YthgcceochfjfcaaPRx0
import Derived.Test.YthgcceochfjfcaaPRx2
namespace Go.Proofs.Ythgcceochfjfcaa.PR
open Go.RowKit Go.Proofs.YthgcceochfjfcaaW.PrintWords Go.Proofs.YthgcceochfjfcaaW.PrintLast Go.Proofs.YthgcceochfjfcaaW.PrintMore
attribute [local go_sem] max2_int min2_int max_two min_two max_three min_three max_four min_four   -- for this text's walks alone
set_option linter.unusedVariables false
set_option linter.unusedSimpArgs false

/-! ### laws_toLookS: function 27 -/
def laws_toLookS.f (l0 : List (S90)) : Option ((List (S84))) := if (l0.length ≤ 1048576) then some (((l0.map cv90)).map vc84) else none
set_option maxHeartbeats 8000000 in
set_option maxRecDepth 100000 in
theorem laws_toLookS.calls (A0 : Option Addr) (c0 : Nat) (l0 : List (S90)) (r : List (S84)) (w : World) (hr0 : Kd.C k90 w A0 l0.length l0) (hc0 : l0.length ≤ c0) (h : laws_toLookS.f l0 = some r) :
    Calls Try.prog 27 #[.slice A0 l0.length c0] w fun e w' => ∃ v0_ : Value, e = .returned (v0_) ∧ Kd.R k84 84 w' w.heap.size (fun _ => True) v0_ r ∧ Below w.heap.size w w' := by
  unfold laws_toLookS.f at h
  split at h
  rotate_left
  · exact absurd h (by simp)
  rename_i hpre0
  obtain rfl := Option.some.inj h
  have hcall := Go.Proofs.Ythgcceochfjfcaa.c_laws_toLookS A0 c0 (l0.map cv90) w (C_of90 hr0) (by simpa using hc0) (by simpa using hpre0)
  (try simp only [List.length_map] at hcall)
  (try simp only [List.length_map])
  refine hcall.mono ?_
  rintro e w' ⟨v0, rfl, h0, hb⟩
  exact ⟨v0, rfl, R_of84 h0, hb⟩

/-! ### laws_toReadingS: function 28 -/
def laws_toReadingS.f (l0 : List (S92)) : Option ((List (S86))) := if (l0.length ≤ 1048576) then some (((l0.map cv92)).map vc86) else none
set_option maxHeartbeats 8000000 in
set_option maxRecDepth 100000 in
theorem laws_toReadingS.calls (A0 : Option Addr) (c0 : Nat) (l0 : List (S92)) (r : List (S86)) (w : World) (hr0 : Kd.C k92 w A0 l0.length l0) (hc0 : l0.length ≤ c0) (h : laws_toReadingS.f l0 = some r) :
    Calls Try.prog 28 #[.slice A0 l0.length c0] w fun e w' => ∃ v0_ : Value, e = .returned (v0_) ∧ Kd.R k86 86 w' w.heap.size (fun _ => True) v0_ r ∧ Below w.heap.size w w' := by
  unfold laws_toReadingS.f at h
  split at h
  rotate_left
  · exact absurd h (by simp)
  rename_i hpre0
  obtain rfl := Option.some.inj h
  have hcall := Go.Proofs.Ythgcceochfjfcaa.c_laws_toReadingS A0 c0 (l0.map cv92) w (C_of92 hr0) (by simpa using hc0) (by simpa using hpre0)
  (try simp only [List.length_map] at hcall)
  (try simp only [List.length_map])
  refine hcall.mono ?_
  rintro e w' ⟨v0, rfl, h0, hb⟩
  exact ⟨v0, rfl, R_of86 h0, hb⟩

/-! ### impl_IvalOk: function 56 -/
def impl_IvalOk.f (a0_0 : Int) (a0_1 : Int) : Option (Bool) := some ((Go.Proofs.Ythgcceochfjfcaa.Pu.IvalOk (⟨a0_0, a0_1⟩ : Go.Proofs.Ythgcceochfjfcaa.Ival)))
set_option maxHeartbeats 8000000 in
set_option maxRecDepth 100000 in
theorem impl_IvalOk.calls (a0_0 : Int) (a0_1 : Int) (r : Bool) (w : World) (h : impl_IvalOk.f a0_0 a0_1 = some r) :
    Calls Try.prog 56 #[.agg #[.int .i64 a0_0, .int .i64 a0_1]] w fun e w' => e = .returned (.bool r) ∧ Below w.heap.size w w' := by
  unfold impl_IvalOk.f at h
  obtain rfl := Option.some.inj h
  exact Go.Proofs.Ythgcceochfjfcaa.c_impl_IvalOk a0_0 a0_1 w  

/-! ### impl_Holds: function 62 -/
def impl_Holds.f (a0_0 : Int) (a0_1 : Int) (a1 : Int) : Option (Bool) := some ((Go.Proofs.Ythgcceochfjfcaa.Pu.Holds (⟨a0_0, a0_1⟩ : Go.Proofs.Ythgcceochfjfcaa.Ival) a1))
set_option maxHeartbeats 8000000 in
set_option maxRecDepth 100000 in
theorem impl_Holds.calls (a0_0 : Int) (a0_1 : Int) (a1 : Int) (r : Bool) (w : World) (h : impl_Holds.f a0_0 a0_1 a1 = some r) :
    Calls Try.prog 62 #[.agg #[.int .i64 a0_0, .int .i64 a0_1], .int .i64 a1] w fun e w' => e = .returned (.bool r) ∧ Below w.heap.size w w' := by
  unfold impl_Holds.f at h
  obtain rfl := Option.some.inj h
  exact Go.Proofs.Ythgcceochfjfcaa.c_impl_Holds a0_0 a0_1 a1 w  

end Go.Proofs.Ythgcceochfjfcaa.PR
