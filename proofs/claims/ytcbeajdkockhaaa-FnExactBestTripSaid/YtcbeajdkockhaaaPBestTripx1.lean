-- Functions of this seat and what their calls come to: written by a program of this session over the kit's printing tool; the functions told by the session's own contracts are marked by these.
import Derived.Test.YtcbeajdkockhaaaPBestTripx0
namespace Go.Proofs.Ytcbeajdkockhaaa.PBestTrip
open Go.RowKit Go.Proofs.YtcbeajdkockhaaaW.PrintWords Go.Proofs.YtcbeajdkockhaaaW.PrintLast Go.Proofs.YtcbeajdkockhaaaW.PrintMore
attribute [local go_sem] max2_int min2_int max_two min_two max_three min_three max_four min_four   -- for this text's walks alone
set_option linter.unusedVariables false
set_option linter.unusedSimpArgs false

/-! ### conversions: Trip -/
def cv25 (x : S25) : Go.Proofs.Ytcbeajdkockhaaa.Trip := ⟨x.f0, ⟨x.f1.f0, x.f1.f1⟩, x.f2, x.f3⟩
def vc25 (x : Go.Proofs.Ytcbeajdkockhaaa.Trip) : S25 := ⟨x.src, ⟨x.said.lo, x.said.hi⟩, x.sent, x.got⟩
theorem cv_vc25 (x : Go.Proofs.Ytcbeajdkockhaaa.Trip) : cv25 (vc25 x) = x := rfl
theorem vc_cv25 (x : S25) : vc25 (cv25 x) = x := rfl
theorem C_of25 {w : World} {A : Option Addr} {n : Nat} {xs : List S25} (h : Kd.C k25 w A n xs) : Kd.C Go.Proofs.Ytcbeajdkockhaaa.kTrip w A (xs.map cv25).length (xs.map cv25) := by
  have hl := Kd.C_len h
  have h2 := Go.Proofs.Ytcbeajdkockhaaa.C_map (d' := Go.Proofs.Ytcbeajdkockhaaa.kTrip) cv25 rfl (fun w x cs hk => by obtain rfl := k25_open hk; exact Go.Proofs.Ytcbeajdkockhaaa.kTrip_mk w (cv25 x)) h
  rwa [List.length_map, hl]
theorem R_of25 {e : Nat} {w : World} {base : Nat} {ok : Nat → Prop} {v : Value} {xs : List Go.Proofs.Ytcbeajdkockhaaa.Trip} (h : Kd.R Go.Proofs.Ytcbeajdkockhaaa.kTrip e w base ok v xs) : Kd.R k25 e w base ok v (xs.map vc25) :=
  Go.Proofs.Ytcbeajdkockhaaa.R_map (d' := k25) vc25 rfl (fun w base ok x cs hk => by obtain rfl := Go.Proofs.Ytcbeajdkockhaaa.kTrip_openM hk; exact k25_mkM w base ok (vc25 x)) h

/-! ### conversions: Trip -/
def cv29 (x : S29) : Go.Proofs.Ytcbeajdkockhaaa.Trip := ⟨x.f0, ⟨x.f1.f0, x.f1.f1⟩, x.f2, x.f3⟩
def vc29 (x : Go.Proofs.Ytcbeajdkockhaaa.Trip) : S29 := ⟨x.src, ⟨x.said.lo, x.said.hi⟩, x.sent, x.got⟩
theorem cv_vc29 (x : Go.Proofs.Ytcbeajdkockhaaa.Trip) : cv29 (vc29 x) = x := rfl
theorem vc_cv29 (x : S29) : vc29 (cv29 x) = x := rfl
theorem C_of29 {w : World} {A : Option Addr} {n : Nat} {xs : List S29} (h : Kd.C k29 w A n xs) : Kd.C Go.Proofs.Ytcbeajdkockhaaa.kTrip w A (xs.map cv29).length (xs.map cv29) := by
  have hl := Kd.C_len h
  have h2 := Go.Proofs.Ytcbeajdkockhaaa.C_map (d' := Go.Proofs.Ytcbeajdkockhaaa.kTrip) cv29 rfl (fun w x cs hk => by obtain rfl := k29_open hk; exact Go.Proofs.Ytcbeajdkockhaaa.kTrip_mk w (cv29 x)) h
  rwa [List.length_map, hl]
theorem R_of29 {e : Nat} {w : World} {base : Nat} {ok : Nat → Prop} {v : Value} {xs : List Go.Proofs.Ytcbeajdkockhaaa.Trip} (h : Kd.R Go.Proofs.Ytcbeajdkockhaaa.kTrip e w base ok v xs) : Kd.R k29 e w base ok v (xs.map vc29) :=
  Go.Proofs.Ytcbeajdkockhaaa.R_map (d' := k29) vc29 rfl (fun w base ok x cs hk => by obtain rfl := Go.Proofs.Ytcbeajdkockhaaa.kTrip_openM hk; exact k29_mkM w base ok (vc29 x)) h

/-! ### laws_toDrift: function 19 -/
def laws_toDrift.f (a0_0 : Int) (a0_1 : Int) : Option (Int × Int) := some ((⟨a0_0, a0_1⟩ : Go.Proofs.Ytcbeajdkockhaaa.Drift).num, (⟨a0_0, a0_1⟩ : Go.Proofs.Ytcbeajdkockhaaa.Drift).den)
set_option maxHeartbeats 8000000 in
set_option maxRecDepth 100000 in
theorem laws_toDrift.calls (a0_0 : Int) (a0_1 : Int) (r1 : Int) (r2 : Int) (w : World) (h : laws_toDrift.f a0_0 a0_1 = some (r1, r2)) :
    Calls Try.prog 19 #[.agg #[.int .i64 a0_0, .int .i64 a0_1]] w fun e w' => e = .returned (.agg #[.int .i64 r1, .int .i64 r2]) ∧ Below w.heap.size w w' := by
  unfold laws_toDrift.f at h
  simp only [Option.some.injEq, Prod.mk.injEq] at h
  obtain ⟨rfl, rfl⟩ := h
  exact Go.Proofs.Ytcbeajdkockhaaa.c_laws_toDrift a0_0 a0_1 w  

/-! ### laws_szTripS: function 35 -/
def laws_szTripS.f (l0 : List (S25)) (a1 : Int) : Option (Int) := if (0 ≤ a1) ∧ (a1 ≤ 1048576) then some ((Go.Proofs.Ytcbeajdkockhaaa.Pu.sz a1 l0.length)) else none
set_option maxHeartbeats 8000000 in
set_option maxRecDepth 100000 in
theorem laws_szTripS.calls (A0 : Option Addr) (c0 : Nat) (l0 : List (S25)) (a1 : Int) (r : Int) (w : World) (hr0 : Kd.C k25 w A0 l0.length l0) (hc0 : l0.length ≤ c0) (h : laws_szTripS.f l0 a1 = some r) :
    Calls Try.prog 35 #[.slice A0 l0.length c0, .int .i64 a1] w fun e w' => e = .returned (.int .i64 r) ∧ Below w.heap.size w w' := by
  unfold laws_szTripS.f at h
  split at h
  rotate_left
  · exact absurd h (by simp)
  rename_i hpre
  obtain ⟨hpre0, hpre1⟩ := hpre
  obtain rfl := Option.some.inj h
  have hcall := Go.Proofs.Ytcbeajdkockhaaa.c_laws_szTripS A0 c0 (l0.map cv25) a1 w (C_of25 hr0) (by simpa using hc0) (by simpa using hpre0) (by simpa using hpre1)
  (try simp only [List.length_map] at hcall)
  (try simp only [List.length_map])
  exact hcall

/-! ### spec_TripBound: function 25 -/
def spec_TripBound.f (a0_0 : Int) (a0_1 : Int) (a1_0 : Int) (a1_1 : Int) (a1_2 : Int) (a1_3 : Int) (a1_4 : Int) : Option (Int × Int × Int) := some ((Go.Proofs.Ytcbeajdkockhaaa.Pu.TripBound (⟨a0_0, a0_1⟩ : Go.Proofs.Ytcbeajdkockhaaa.Drift) (⟨a1_0, ⟨a1_1, a1_2⟩, a1_3, a1_4⟩ : Go.Proofs.Ytcbeajdkockhaaa.Trip)).1.lo, (Go.Proofs.Ytcbeajdkockhaaa.Pu.TripBound (⟨a0_0, a0_1⟩ : Go.Proofs.Ytcbeajdkockhaaa.Drift) (⟨a1_0, ⟨a1_1, a1_2⟩, a1_3, a1_4⟩ : Go.Proofs.Ytcbeajdkockhaaa.Trip)).1.hi, (Go.Proofs.Ytcbeajdkockhaaa.Pu.TripBound (⟨a0_0, a0_1⟩ : Go.Proofs.Ytcbeajdkockhaaa.Drift) (⟨a1_0, ⟨a1_1, a1_2⟩, a1_3, a1_4⟩ : Go.Proofs.Ytcbeajdkockhaaa.Trip)).2)
set_option maxHeartbeats 8000000 in
set_option maxRecDepth 100000 in
theorem spec_TripBound.calls (a0_0 : Int) (a0_1 : Int) (a1_0 : Int) (a1_1 : Int) (a1_2 : Int) (a1_3 : Int) (a1_4 : Int) (r1 : Int) (r2 : Int) (r3 : Int) (w : World) (h : spec_TripBound.f a0_0 a0_1 a1_0 a1_1 a1_2 a1_3 a1_4 = some (r1, r2, r3)) :
    Calls Try.prog 25 #[.agg #[.int .i64 a0_0, .int .i64 a0_1], .agg #[.int .i64 a1_0, .int .i64 a1_1, .int .i64 a1_2, .int .i64 a1_3, .int .i64 a1_4]] w fun e w' => e = .returned (.tuple #[.agg #[.int .i64 r1, .int .i64 r2], .int .i64 r3]) ∧ Below w.heap.size w w' := by
  unfold spec_TripBound.f at h
  simp only [Option.some.injEq, Prod.mk.injEq] at h
  obtain ⟨rfl, rfl, rfl⟩ := h
  exact Go.Proofs.Ytcbeajdkockhaaa.c_spec_TripBound a0_0 a0_1 a1_0 a1_1 a1_2 a1_3 a1_4 w  

/-! ### spec_Wide: function 65 -/
def spec_Wide.f (a0_0 : Int) (a0_1 : Int) : Option (Int) := some ((Go.Proofs.Ytcbeajdkockhaaa.Pu.Wide (⟨a0_0, a0_1⟩ : Go.Proofs.Ytcbeajdkockhaaa.Ival)))
set_option maxHeartbeats 8000000 in
set_option maxRecDepth 100000 in
theorem spec_Wide.calls (a0_0 : Int) (a0_1 : Int) (r : Int) (w : World) (h : spec_Wide.f a0_0 a0_1 = some r) :
    Calls Try.prog 65 #[.agg #[.int .i64 a0_0, .int .i64 a0_1]] w fun e w' => e = .returned (.int .i64 r) ∧ Below w.heap.size w w' := by
  unfold spec_Wide.f at h
  obtain rfl := Option.some.inj h
  exact Go.Proofs.Ytcbeajdkockhaaa.c_spec_Wide a0_0 a0_1 w  

end Go.Proofs.Ytcbeajdkockhaaa.PBestTrip
