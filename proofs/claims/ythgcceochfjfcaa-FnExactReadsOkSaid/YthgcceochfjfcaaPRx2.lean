-- Functions of this seat and what their calls come to: written by a program of this session over the kit's printing tool; the functions told by the session's own contracts are marked by these.
import Derived.Test.YthgcceochfjfcaaPRx0
namespace Go.Proofs.Ythgcceochfjfcaa.PR
open Go.RowKit Go.Proofs.YthgcceochfjfcaaW.PrintWords Go.Proofs.YthgcceochfjfcaaW.PrintLast Go.Proofs.YthgcceochfjfcaaW.PrintMore
attribute [local go_sem] max2_int min2_int max_two min_two max_three min_three max_four min_four   -- for this text's walks alone
set_option linter.unusedVariables false
set_option linter.unusedSimpArgs false

/-! ### conversions: Look -/
def cv84 (x : S84) : Go.Proofs.Ythgcceochfjfcaa.Look := ⟨x.f0, ⟨x.f1.f0, x.f1.f1⟩⟩
def vc84 (x : Go.Proofs.Ythgcceochfjfcaa.Look) : S84 := ⟨x.known, ⟨x.now.lo, x.now.hi⟩⟩
theorem cv_vc84 (x : Go.Proofs.Ythgcceochfjfcaa.Look) : cv84 (vc84 x) = x := rfl
theorem vc_cv84 (x : S84) : vc84 (cv84 x) = x := rfl
theorem C_of84 {w : World} {A : Option Addr} {n : Nat} {xs : List S84} (h : Kd.C k84 w A n xs) : Kd.C Go.Proofs.Ythgcceochfjfcaa.kLook w A (xs.map cv84).length (xs.map cv84) := by
  have hl := Kd.C_len h
  have h2 := Go.Proofs.Ythgcceochfjfcaa.C_map (d' := Go.Proofs.Ythgcceochfjfcaa.kLook) cv84 rfl (fun w x cs hk => by obtain rfl := k84_open hk; exact Go.Proofs.Ythgcceochfjfcaa.kLook_mk w (cv84 x)) h
  rwa [List.length_map, hl]
theorem R_of84 {e : Nat} {w : World} {base : Nat} {ok : Nat → Prop} {v : Value} {xs : List Go.Proofs.Ythgcceochfjfcaa.Look} (h : Kd.R Go.Proofs.Ythgcceochfjfcaa.kLook e w base ok v xs) : Kd.R k84 e w base ok v (xs.map vc84) :=
  Go.Proofs.Ythgcceochfjfcaa.R_map (d' := k84) vc84 rfl (fun w base ok x cs hk => by obtain rfl := Go.Proofs.Ythgcceochfjfcaa.kLook_openM hk; exact k84_mkM w base ok (vc84 x)) h

/-! ### conversions: Reading -/
def cv86 (x : S86) : Go.Proofs.Ythgcceochfjfcaa.Reading := ⟨x.f0, x.f1, x.f2⟩
def vc86 (x : Go.Proofs.Ythgcceochfjfcaa.Reading) : S86 := ⟨x.value, x.holds, x.code⟩
theorem cv_vc86 (x : Go.Proofs.Ythgcceochfjfcaa.Reading) : cv86 (vc86 x) = x := rfl
theorem vc_cv86 (x : S86) : vc86 (cv86 x) = x := rfl
theorem C_of86 {w : World} {A : Option Addr} {n : Nat} {xs : List S86} (h : Kd.C k86 w A n xs) : Kd.C Go.Proofs.Ythgcceochfjfcaa.kReading w A (xs.map cv86).length (xs.map cv86) := by
  have hl := Kd.C_len h
  have h2 := Go.Proofs.Ythgcceochfjfcaa.C_map (d' := Go.Proofs.Ythgcceochfjfcaa.kReading) cv86 rfl (fun w x cs hk => by obtain rfl := k86_open hk; exact Go.Proofs.Ythgcceochfjfcaa.kReading_mk w (cv86 x)) h
  rwa [List.length_map, hl]
theorem R_of86 {e : Nat} {w : World} {base : Nat} {ok : Nat → Prop} {v : Value} {xs : List Go.Proofs.Ythgcceochfjfcaa.Reading} (h : Kd.R Go.Proofs.Ythgcceochfjfcaa.kReading e w base ok v xs) : Kd.R k86 e w base ok v (xs.map vc86) :=
  Go.Proofs.Ythgcceochfjfcaa.R_map (d' := k86) vc86 rfl (fun w base ok x cs hk => by obtain rfl := Go.Proofs.Ythgcceochfjfcaa.kReading_openM hk; exact k86_mkM w base ok (vc86 x)) h

/-! ### conversions: Look -/
def cv90 (x : S90) : Go.Proofs.Ythgcceochfjfcaa.Look := ⟨x.f0, ⟨x.f1.f0, x.f1.f1⟩⟩
def vc90 (x : Go.Proofs.Ythgcceochfjfcaa.Look) : S90 := ⟨x.known, ⟨x.now.lo, x.now.hi⟩⟩
theorem cv_vc90 (x : Go.Proofs.Ythgcceochfjfcaa.Look) : cv90 (vc90 x) = x := rfl
theorem vc_cv90 (x : S90) : vc90 (cv90 x) = x := rfl
theorem C_of90 {w : World} {A : Option Addr} {n : Nat} {xs : List S90} (h : Kd.C k90 w A n xs) : Kd.C Go.Proofs.Ythgcceochfjfcaa.kLook w A (xs.map cv90).length (xs.map cv90) := by
  have hl := Kd.C_len h
  have h2 := Go.Proofs.Ythgcceochfjfcaa.C_map (d' := Go.Proofs.Ythgcceochfjfcaa.kLook) cv90 rfl (fun w x cs hk => by obtain rfl := k90_open hk; exact Go.Proofs.Ythgcceochfjfcaa.kLook_mk w (cv90 x)) h
  rwa [List.length_map, hl]
theorem R_of90 {e : Nat} {w : World} {base : Nat} {ok : Nat → Prop} {v : Value} {xs : List Go.Proofs.Ythgcceochfjfcaa.Look} (h : Kd.R Go.Proofs.Ythgcceochfjfcaa.kLook e w base ok v xs) : Kd.R k90 e w base ok v (xs.map vc90) :=
  Go.Proofs.Ythgcceochfjfcaa.R_map (d' := k90) vc90 rfl (fun w base ok x cs hk => by obtain rfl := Go.Proofs.Ythgcceochfjfcaa.kLook_openM hk; exact k90_mkM w base ok (vc90 x)) h

/-! ### conversions: Reading -/
def cv92 (x : S92) : Go.Proofs.Ythgcceochfjfcaa.Reading := ⟨x.f0, x.f1, x.f2⟩
def vc92 (x : Go.Proofs.Ythgcceochfjfcaa.Reading) : S92 := ⟨x.value, x.holds, x.code⟩
theorem cv_vc92 (x : Go.Proofs.Ythgcceochfjfcaa.Reading) : cv92 (vc92 x) = x := rfl
theorem vc_cv92 (x : S92) : vc92 (cv92 x) = x := rfl
theorem C_of92 {w : World} {A : Option Addr} {n : Nat} {xs : List S92} (h : Kd.C k92 w A n xs) : Kd.C Go.Proofs.Ythgcceochfjfcaa.kReading w A (xs.map cv92).length (xs.map cv92) := by
  have hl := Kd.C_len h
  have h2 := Go.Proofs.Ythgcceochfjfcaa.C_map (d' := Go.Proofs.Ythgcceochfjfcaa.kReading) cv92 rfl (fun w x cs hk => by obtain rfl := k92_open hk; exact Go.Proofs.Ythgcceochfjfcaa.kReading_mk w (cv92 x)) h
  rwa [List.length_map, hl]
theorem R_of92 {e : Nat} {w : World} {base : Nat} {ok : Nat → Prop} {v : Value} {xs : List Go.Proofs.Ythgcceochfjfcaa.Reading} (h : Kd.R Go.Proofs.Ythgcceochfjfcaa.kReading e w base ok v xs) : Kd.R k92 e w base ok v (xs.map vc92) :=
  Go.Proofs.Ythgcceochfjfcaa.R_map (d' := k92) vc92 rfl (fun w base ok x cs hk => by obtain rfl := Go.Proofs.Ythgcceochfjfcaa.kReading_openM hk; exact k92_mkM w base ok (vc92 x)) h

/-! ### laws_szLookS: function 24 -/
def laws_szLookS.f (l0 : List (S90)) (a1 : Int) : Option (Int) := if (0 ≤ a1) ∧ (a1 ≤ 1048576) then some ((Go.Proofs.Ythgcceochfjfcaa.Pu.sz a1 l0.length)) else none
set_option maxHeartbeats 8000000 in
set_option maxRecDepth 100000 in
theorem laws_szLookS.calls (A0 : Option Addr) (c0 : Nat) (l0 : List (S90)) (a1 : Int) (r : Int) (w : World) (hr0 : Kd.C k90 w A0 l0.length l0) (hc0 : l0.length ≤ c0) (h : laws_szLookS.f l0 a1 = some r) :
    Calls Try.prog 24 #[.slice A0 l0.length c0, .int .i64 a1] w fun e w' => e = .returned (.int .i64 r) ∧ Below w.heap.size w w' := by
  unfold laws_szLookS.f at h
  split at h
  rotate_left
  · exact absurd h (by simp)
  rename_i hpre
  obtain ⟨hpre0, hpre1⟩ := hpre
  obtain rfl := Option.some.inj h
  have hcall := Go.Proofs.Ythgcceochfjfcaa.c_laws_szLookS A0 c0 (l0.map cv90) a1 w (C_of90 hr0) (by simpa using hc0) (by simpa using hpre0) (by simpa using hpre1)
  (try simp only [List.length_map] at hcall)
  (try simp only [List.length_map])
  exact hcall

/-! ### laws_szReadingS: function 25 -/
def laws_szReadingS.f (l0 : List (S92)) (a1 : Int) : Option (Int) := if (0 ≤ a1) ∧ (a1 ≤ 1048576) then some ((Go.Proofs.Ythgcceochfjfcaa.Pu.sz a1 l0.length)) else none
set_option maxHeartbeats 8000000 in
set_option maxRecDepth 100000 in
theorem laws_szReadingS.calls (A0 : Option Addr) (c0 : Nat) (l0 : List (S92)) (a1 : Int) (r : Int) (w : World) (hr0 : Kd.C k92 w A0 l0.length l0) (hc0 : l0.length ≤ c0) (h : laws_szReadingS.f l0 a1 = some r) :
    Calls Try.prog 25 #[.slice A0 l0.length c0, .int .i64 a1] w fun e w' => e = .returned (.int .i64 r) ∧ Below w.heap.size w w' := by
  unfold laws_szReadingS.f at h
  split at h
  rotate_left
  · exact absurd h (by simp)
  rename_i hpre
  obtain ⟨hpre0, hpre1⟩ := hpre
  obtain rfl := Option.some.inj h
  have hcall := Go.Proofs.Ythgcceochfjfcaa.c_laws_szReadingS A0 c0 (l0.map cv92) a1 w (C_of92 hr0) (by simpa using hc0) (by simpa using hpre0) (by simpa using hpre1)
  (try simp only [List.length_map] at hcall)
  (try simp only [List.length_map])
  exact hcall

/-! ### spec_IvalOk: function 54 -/
def spec_IvalOk.f (a0_0 : Int) (a0_1 : Int) : Option (Bool) := some ((Go.Proofs.Ythgcceochfjfcaa.Pu.IvalOk (⟨a0_0, a0_1⟩ : Go.Proofs.Ythgcceochfjfcaa.Ival)))
set_option maxHeartbeats 8000000 in
set_option maxRecDepth 100000 in
theorem spec_IvalOk.calls (a0_0 : Int) (a0_1 : Int) (r : Bool) (w : World) (h : spec_IvalOk.f a0_0 a0_1 = some r) :
    Calls Try.prog 54 #[.agg #[.int .i64 a0_0, .int .i64 a0_1]] w fun e w' => e = .returned (.bool r) ∧ Below w.heap.size w w' := by
  unfold spec_IvalOk.f at h
  obtain rfl := Option.some.inj h
  exact Go.Proofs.Ythgcceochfjfcaa.c_spec_IvalOk a0_0 a0_1 w  

/-! ### spec_Holds: function 59 -/
def spec_Holds.f (a0_0 : Int) (a0_1 : Int) (a1 : Int) : Option (Bool) := some ((Go.Proofs.Ythgcceochfjfcaa.Pu.Holds (⟨a0_0, a0_1⟩ : Go.Proofs.Ythgcceochfjfcaa.Ival) a1))
set_option maxHeartbeats 8000000 in
set_option maxRecDepth 100000 in
theorem spec_Holds.calls (a0_0 : Int) (a0_1 : Int) (a1 : Int) (r : Bool) (w : World) (h : spec_Holds.f a0_0 a0_1 a1 = some r) :
    Calls Try.prog 59 #[.agg #[.int .i64 a0_0, .int .i64 a0_1], .int .i64 a1] w fun e w' => e = .returned (.bool r) ∧ Below w.heap.size w w' := by
  unfold spec_Holds.f at h
  obtain rfl := Option.some.inj h
  exact Go.Proofs.Ythgcceochfjfcaa.c_spec_Holds a0_0 a0_1 a1 w  

end Go.Proofs.Ythgcceochfjfcaa.PR
