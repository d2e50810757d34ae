-- Functions of this seat and what their calls come to: written by a program of this session over the kit's printing tool; the functions told by the session's own contracts are marked by these.
import Derived.Test.YtcbeajdkockhaaaPTripsMeetx0
namespace Go.Proofs.Ytcbeajdkockhaaa.PTripsMeet
open Go.RowKit Go.Proofs.YtcbeajdkockhaaaW.PrintWords Go.Proofs.YtcbeajdkockhaaaW.PrintLast Go.Proofs.YtcbeajdkockhaaaW.PrintMore
attribute [local go_sem] max2_int min2_int max_two min_two max_three min_three max_four min_four   -- for this text's walks alone
set_option linter.unusedVariables false
set_option linter.unusedSimpArgs false

/-! ### conversions: Trip -/
def cv25 (x : S25) : Go.Proofs.Ytcbeajdkockhaaa.Trip := ⟨x.f0, ⟨x.f1.f0, x.f1.f1⟩, x.f2, x.f3⟩
def vc25 (x : Go.Proofs.Ytcbeajdkockhaaa.Trip) : S25 := ⟨x.src, ⟨x.said.lo, x.said.hi⟩, x.sent, x.got⟩
theorem cv_vc25 (x : Go.Proofs.Ytcbeajdkockhaaa.Trip) : cv25 (vc25 x) = x := rfl
theorem vc_cv25 (x : S25) : vc25 (cv25 x) = x := rfl
theorem C_of25 {w : World} {A : Option Addr} {n : Nat} {xs : List S25} (h : Kd.C k25 w A n xs) : Kd.C Go.Proofs.Ytcbeajdkockhaaa.kTrip w A (xs.map cv25).length (xs.map cv25) := by
  have hl := Kd.C_len h
  have h2 := Go.Proofs.Ytcbeajdkockhaaa.C_map (d' := Go.Proofs.Ytcbeajdkockhaaa.kTrip) cv25 rfl (fun w x cs hk => by obtain rfl := k25_open hk; exact Go.Proofs.Ytcbeajdkockhaaa.kTrip_mk w (cv25 x)) h
  rwa [List.length_map, hl]
theorem R_of25 {e : Nat} {w : World} {base : Nat} {ok : Nat → Prop} {v : Value} {xs : List Go.Proofs.Ytcbeajdkockhaaa.Trip} (h : Kd.R Go.Proofs.Ytcbeajdkockhaaa.kTrip e w base ok v xs) : Kd.R k25 e w base ok v (xs.map vc25) :=
  Go.Proofs.Ytcbeajdkockhaaa.R_map (d' := k25) vc25 rfl (fun w base ok x cs hk => by obtain rfl := Go.Proofs.Ytcbeajdkockhaaa.kTrip_openM hk; exact k25_mkM w base ok (vc25 x)) h

/-! ### conversions: Ival -/
def cv27 (x : S27) : Go.Proofs.Ytcbeajdkockhaaa.Ival := ⟨x.f0, x.f1⟩
def vc27 (x : Go.Proofs.Ytcbeajdkockhaaa.Ival) : S27 := ⟨x.lo, x.hi⟩
theorem cv_vc27 (x : Go.Proofs.Ytcbeajdkockhaaa.Ival) : cv27 (vc27 x) = x := rfl
theorem vc_cv27 (x : S27) : vc27 (cv27 x) = x := rfl
theorem C_of27 {w : World} {A : Option Addr} {n : Nat} {xs : List S27} (h : Kd.C k27 w A n xs) : Kd.C Go.Proofs.Ytcbeajdkockhaaa.kIval w A (xs.map cv27).length (xs.map cv27) := by
  have hl := Kd.C_len h
  have h2 := Go.Proofs.Ytcbeajdkockhaaa.C_map (d' := Go.Proofs.Ytcbeajdkockhaaa.kIval) cv27 rfl (fun w x cs hk => by obtain rfl := k27_open hk; exact Go.Proofs.Ytcbeajdkockhaaa.kIval_mk w (cv27 x)) h
  rwa [List.length_map, hl]
theorem R_of27 {e : Nat} {w : World} {base : Nat} {ok : Nat → Prop} {v : Value} {xs : List Go.Proofs.Ytcbeajdkockhaaa.Ival} (h : Kd.R Go.Proofs.Ytcbeajdkockhaaa.kIval e w base ok v xs) : Kd.R k27 e w base ok v (xs.map vc27) :=
  Go.Proofs.Ytcbeajdkockhaaa.R_map (d' := k27) vc27 rfl (fun w base ok x cs hk => by obtain rfl := Go.Proofs.Ytcbeajdkockhaaa.kIval_openM hk; exact k27_mkM w base ok (vc27 x)) h

/-! ### conversions: Trip -/
def cv29 (x : S29) : Go.Proofs.Ytcbeajdkockhaaa.Trip := ⟨x.f0, ⟨x.f1.f0, x.f1.f1⟩, x.f2, x.f3⟩
def vc29 (x : Go.Proofs.Ytcbeajdkockhaaa.Trip) : S29 := ⟨x.src, ⟨x.said.lo, x.said.hi⟩, x.sent, x.got⟩
theorem cv_vc29 (x : Go.Proofs.Ytcbeajdkockhaaa.Trip) : cv29 (vc29 x) = x := rfl
theorem vc_cv29 (x : S29) : vc29 (cv29 x) = x := rfl
theorem C_of29 {w : World} {A : Option Addr} {n : Nat} {xs : List S29} (h : Kd.C k29 w A n xs) : Kd.C Go.Proofs.Ytcbeajdkockhaaa.kTrip w A (xs.map cv29).length (xs.map cv29) := by
  have hl := Kd.C_len h
  have h2 := Go.Proofs.Ytcbeajdkockhaaa.C_map (d' := Go.Proofs.Ytcbeajdkockhaaa.kTrip) cv29 rfl (fun w x cs hk => by obtain rfl := k29_open hk; exact Go.Proofs.Ytcbeajdkockhaaa.kTrip_mk w (cv29 x)) h
  rwa [List.length_map, hl]
theorem R_of29 {e : Nat} {w : World} {base : Nat} {ok : Nat → Prop} {v : Value} {xs : List Go.Proofs.Ytcbeajdkockhaaa.Trip} (h : Kd.R Go.Proofs.Ytcbeajdkockhaaa.kTrip e w base ok v xs) : Kd.R k29 e w base ok v (xs.map vc29) :=
  Go.Proofs.Ytcbeajdkockhaaa.R_map (d' := k29) vc29 rfl (fun w base ok x cs hk => by obtain rfl := Go.Proofs.Ytcbeajdkockhaaa.kTrip_openM hk; exact k29_mkM w base ok (vc29 x)) h

/-! ### laws_toDrift: function 19 -/
def laws_toDrift.f (a0_0 : Int) (a0_1 : Int) : Option (Int × Int) := some ((⟨a0_0, a0_1⟩ : Go.Proofs.Ytcbeajdkockhaaa.Drift).num, (⟨a0_0, a0_1⟩ : Go.Proofs.Ytcbeajdkockhaaa.Drift).den)
set_option maxHeartbeats 8000000 in
set_option maxRecDepth 100000 in
theorem laws_toDrift.calls (a0_0 : Int) (a0_1 : Int) (r1 : Int) (r2 : Int) (w : World) (h : laws_toDrift.f a0_0 a0_1 = some (r1, r2)) :
    Calls Try.prog 19 #[.agg #[.int .i64 a0_0, .int .i64 a0_1]] w fun e w' => e = .returned (.agg #[.int .i64 r1, .int .i64 r2]) ∧ Below w.heap.size w w' := by
  unfold laws_toDrift.f at h
  simp only [Option.some.injEq, Prod.mk.injEq] at h
  obtain ⟨rfl, rfl⟩ := h
  exact Go.Proofs.Ytcbeajdkockhaaa.c_laws_toDrift a0_0 a0_1 w  

/-! ### laws_eqIval: function 24 -/
def laws_eqIval.f (a0_0 : Int) (a0_1 : Int) (a1_0 : Int) (a1_1 : Int) : Option (Bool) := some ((Go.Proofs.Ytcbeajdkockhaaa.Pu.eqIval (⟨a0_0, a0_1⟩ : Go.Proofs.Ytcbeajdkockhaaa.Ival) (⟨a1_0, a1_1⟩ : Go.Proofs.Ytcbeajdkockhaaa.Ival)))
set_option maxHeartbeats 8000000 in
set_option maxRecDepth 100000 in
theorem laws_eqIval.calls (a0_0 : Int) (a0_1 : Int) (a1_0 : Int) (a1_1 : Int) (r : Bool) (w : World) (h : laws_eqIval.f a0_0 a0_1 a1_0 a1_1 = some r) :
    Calls Try.prog 24 #[.agg #[.int .i64 a0_0, .int .i64 a0_1], .agg #[.int .i64 a1_0, .int .i64 a1_1]] w fun e w' => e = .returned (.bool r) ∧ Below w.heap.size w w' := by
  unfold laws_eqIval.f at h
  obtain rfl := Option.some.inj h
  exact Go.Proofs.Ytcbeajdkockhaaa.c_laws_eqIval a0_0 a0_1 a1_0 a1_1 w  

/-! ### laws_szTripS: function 35 -/
def laws_szTripS.f (l0 : List (S25)) (a1 : Int) : Option (Int) := if (0 ≤ a1) ∧ (a1 ≤ 1048576) then some ((Go.Proofs.Ytcbeajdkockhaaa.Pu.sz a1 l0.length)) else none
set_option maxHeartbeats 8000000 in
set_option maxRecDepth 100000 in
theorem laws_szTripS.calls (A0 : Option Addr) (c0 : Nat) (l0 : List (S25)) (a1 : Int) (r : Int) (w : World) (hr0 : Kd.C k25 w A0 l0.length l0) (hc0 : l0.length ≤ c0) (h : laws_szTripS.f l0 a1 = some r) :
    Calls Try.prog 35 #[.slice A0 l0.length c0, .int .i64 a1] w fun e w' => e = .returned (.int .i64 r) ∧ Below w.heap.size w w' := by
  unfold laws_szTripS.f at h
  split at h
  rotate_left
  · exact absurd h (by simp)
  rename_i hpre
  obtain ⟨hpre0, hpre1⟩ := hpre
  obtain rfl := Option.some.inj h
  have hcall := Go.Proofs.Ytcbeajdkockhaaa.c_laws_szTripS A0 c0 (l0.map cv25) a1 w (C_of25 hr0) (by simpa using hc0) (by simpa using hpre0) (by simpa using hpre1)
  (try simp only [List.length_map] at hcall)
  (try simp only [List.length_map])
  exact hcall

/-! ### laws_toTripS: function 37 -/
def laws_toTripS.f (l0 : List (S25)) : Option ((List (S29))) := if (l0.length ≤ 1048576) then some (((l0.map cv25)).map vc29) else none
set_option maxHeartbeats 8000000 in
set_option maxRecDepth 100000 in
theorem laws_toTripS.calls (A0 : Option Addr) (c0 : Nat) (l0 : List (S25)) (r : List (S29)) (w : World) (hr0 : Kd.C k25 w A0 l0.length l0) (hc0 : l0.length ≤ c0) (h : laws_toTripS.f l0 = some r) :
    Calls Try.prog 37 #[.slice A0 l0.length c0] w fun e w' => ∃ v0_ : Value, e = .returned (v0_) ∧ Kd.R k29 29 w' w.heap.size (fun _ => True) v0_ r ∧ Below w.heap.size w w' := by
  unfold laws_toTripS.f at h
  split at h
  rotate_left
  · exact absurd h (by simp)
  rename_i hpre0
  obtain rfl := Option.some.inj h
  have hcall := Go.Proofs.Ytcbeajdkockhaaa.c_laws_toTripS A0 c0 (l0.map cv25) w (C_of25 hr0) (by simpa using hc0) (by simpa using hpre0)
  (try simp only [List.length_map] at hcall)
  (try simp only [List.length_map])
  refine hcall.mono ?_
  rintro e w' ⟨v0, rfl, h0, hb⟩
  exact ⟨v0, rfl, R_of29 h0, hb⟩

/-! ### laws_eqTripS: function 39 -/
def laws_eqTripS.f (l0 : List (S29)) (l1 : List (S29)) : Option (Bool) := some ((Go.Proofs.Ytcbeajdkockhaaa.Pu.eqS Go.Proofs.Ytcbeajdkockhaaa.Pu.eqTrip (l0.map cv29) (l1.map cv29)))
set_option maxHeartbeats 8000000 in
set_option maxRecDepth 100000 in
theorem laws_eqTripS.calls (A0 : Option Addr) (c0 : Nat) (l0 : List (S29)) (A1 : Option Addr) (c1 : Nat) (l1 : List (S29)) (r : Bool) (w : World) (hr0 : Kd.C k29 w A0 l0.length l0) (hc0 : l0.length ≤ c0) (hr1 : Kd.C k29 w A1 l1.length l1) (hc1 : l1.length ≤ c1) (h : laws_eqTripS.f l0 l1 = some r) :
    Calls Try.prog 39 #[.slice A0 l0.length c0, .slice A1 l1.length c1] w fun e w' => e = .returned (.bool r) ∧ Below w.heap.size w w' := by
  unfold laws_eqTripS.f at h
  obtain rfl := Option.some.inj h
  have hcall := Go.Proofs.Ytcbeajdkockhaaa.c_laws_eqTripS A0 c0 (l0.map cv29) A1 c1 (l1.map cv29) w (C_of29 hr0) (by simpa using hc0) (C_of29 hr1) (by simpa using hc1) 
  (try simp only [List.length_map] at hcall)
  (try simp only [List.length_map])
  exact hcall

/-! ### spec_CarryTrip: function 44 -/
def spec_CarryTrip.f (a0_0 : Int) (a0_1 : Int) (a1_0 : Int) (a1_1 : Int) (a1_2 : Int) (a1_3 : Int) (a1_4 : Int) (a2 : Int) : Option (Int × Int × Int) := some ((Go.Proofs.Ytcbeajdkockhaaa.Pu.CarryTrip (⟨a0_0, a0_1⟩ : Go.Proofs.Ytcbeajdkockhaaa.Drift) (⟨a1_0, ⟨a1_1, a1_2⟩, a1_3, a1_4⟩ : Go.Proofs.Ytcbeajdkockhaaa.Trip) a2).1.lo, (Go.Proofs.Ytcbeajdkockhaaa.Pu.CarryTrip (⟨a0_0, a0_1⟩ : Go.Proofs.Ytcbeajdkockhaaa.Drift) (⟨a1_0, ⟨a1_1, a1_2⟩, a1_3, a1_4⟩ : Go.Proofs.Ytcbeajdkockhaaa.Trip) a2).1.hi, (Go.Proofs.Ytcbeajdkockhaaa.Pu.CarryTrip (⟨a0_0, a0_1⟩ : Go.Proofs.Ytcbeajdkockhaaa.Drift) (⟨a1_0, ⟨a1_1, a1_2⟩, a1_3, a1_4⟩ : Go.Proofs.Ytcbeajdkockhaaa.Trip) a2).2)
set_option maxHeartbeats 8000000 in
set_option maxRecDepth 100000 in
theorem spec_CarryTrip.calls (a0_0 : Int) (a0_1 : Int) (a1_0 : Int) (a1_1 : Int) (a1_2 : Int) (a1_3 : Int) (a1_4 : Int) (a2 : Int) (r1 : Int) (r2 : Int) (r3 : Int) (w : World) (h : spec_CarryTrip.f a0_0 a0_1 a1_0 a1_1 a1_2 a1_3 a1_4 a2 = some (r1, r2, r3)) :
    Calls Try.prog 44 #[.agg #[.int .i64 a0_0, .int .i64 a0_1], .agg #[.int .i64 a1_0, .int .i64 a1_1, .int .i64 a1_2, .int .i64 a1_3, .int .i64 a1_4], .int .i64 a2] w fun e w' => e = .returned (.tuple #[.agg #[.int .i64 r1, .int .i64 r2], .int .i64 r3]) ∧ Below w.heap.size w w' := by
  unfold spec_CarryTrip.f at h
  simp only [Option.some.injEq, Prod.mk.injEq] at h
  obtain ⟨rfl, rfl, rfl⟩ := h
  exact Go.Proofs.Ytcbeajdkockhaaa.c_spec_CarryTrip a0_0 a0_1 a1_0 a1_1 a1_2 a1_3 a1_4 a2 w  

/-! ### spec_l1In: function 73 -/
def spec_l1In.f (a0 : Int) (a1 : Int) (a2 : Int) : Option (Bool) := some ((Go.Proofs.Ytcbeajdkockhaaa.Pu.In a0 a1 a2))
set_option maxHeartbeats 8000000 in
set_option maxRecDepth 100000 in
theorem spec_l1In.calls (a0 : Int) (a1 : Int) (a2 : Int) (r : Bool) (w : World) (h : spec_l1In.f a0 a1 a2 = some r) :
    Calls Try.prog 73 #[.int .i64 a0, .int .i64 a1, .int .i64 a2] w fun e w' => e = .returned (.bool r) ∧ Below w.heap.size w w' := by
  unfold spec_l1In.f at h
  obtain rfl := Option.some.inj h
  exact Go.Proofs.Ytcbeajdkockhaaa.c_spec_l1In a0 a1 a2 w  

/-! ### spec_Meet: function 71 -/
def spec_Meet.f (a0_0 : Int) (a0_1 : Int) (a1_0 : Int) (a1_1 : Int) : Option (Int × Int × Bool) := some ((Go.Proofs.Ytcbeajdkockhaaa.Pu.Meet (⟨a0_0, a0_1⟩ : Go.Proofs.Ytcbeajdkockhaaa.Ival) (⟨a1_0, a1_1⟩ : Go.Proofs.Ytcbeajdkockhaaa.Ival)).1.lo, (Go.Proofs.Ytcbeajdkockhaaa.Pu.Meet (⟨a0_0, a0_1⟩ : Go.Proofs.Ytcbeajdkockhaaa.Ival) (⟨a1_0, a1_1⟩ : Go.Proofs.Ytcbeajdkockhaaa.Ival)).1.hi, (Go.Proofs.Ytcbeajdkockhaaa.Pu.Meet (⟨a0_0, a0_1⟩ : Go.Proofs.Ytcbeajdkockhaaa.Ival) (⟨a1_0, a1_1⟩ : Go.Proofs.Ytcbeajdkockhaaa.Ival)).2)
set_option maxHeartbeats 8000000 in
set_option maxRecDepth 100000 in
theorem spec_Meet.calls (a0_0 : Int) (a0_1 : Int) (a1_0 : Int) (a1_1 : Int) (r1 : Int) (r2 : Int) (r3 : Bool) (w : World) (h : spec_Meet.f a0_0 a0_1 a1_0 a1_1 = some (r1, r2, r3)) :
    Calls Try.prog 71 #[.agg #[.int .i64 a0_0, .int .i64 a0_1], .agg #[.int .i64 a1_0, .int .i64 a1_1]] w fun e w' => e = .returned (.tuple #[.agg #[.int .i64 r1, .int .i64 r2], .bool r3]) ∧ Below w.heap.size w w' := by
  unfold spec_Meet.f at h
  simp only [Option.some.injEq, Prod.mk.injEq] at h
  obtain ⟨rfl, rfl, rfl⟩ := h
  exact Go.Proofs.Ytcbeajdkockhaaa.c_spec_Meet a0_0 a0_1 a1_0 a1_1 w  

/-! ### spec_IvalOk: function 49 -/
def spec_IvalOk.f (a0_0 : Int) (a0_1 : Int) : Option (Bool) := some ((Go.Proofs.Ytcbeajdkockhaaa.Pu.IvalOk (⟨a0_0, a0_1⟩ : Go.Proofs.Ytcbeajdkockhaaa.Ival)))
set_option maxHeartbeats 8000000 in
set_option maxRecDepth 100000 in
theorem spec_IvalOk.calls (a0_0 : Int) (a0_1 : Int) (r : Bool) (w : World) (h : spec_IvalOk.f a0_0 a0_1 = some r) :
    Calls Try.prog 49 #[.agg #[.int .i64 a0_0, .int .i64 a0_1]] w fun e w' => e = .returned (.bool r) ∧ Below w.heap.size w w' := by
  unfold spec_IvalOk.f at h
  obtain rfl := Option.some.inj h
  exact Go.Proofs.Ytcbeajdkockhaaa.c_spec_IvalOk a0_0 a0_1 w  

/-! ### spec_l1All: function 89 -/
def spec_l1All.l0 : Nat → List (S27) → Int → Option (Bool)
  | 0, _, _ => none
  | k + 1, x0, x5 => if x5 < (x0.length : Int) then (if 0 ≤ x5 then ((spec_IvalOk.f ((rd_T27 x0 x5).f0) ((rd_T27 x0 x5).f1)).bind fun t102 => (if t102 = true then (spec_l1All.l0 k x0 (wrap64 (x5 + 1))) else (some false))) else (none)) else (some true)
def spec_l1All.f (k : Nat) (l0 : List (S27)) (a1 : Int) : Option (Bool) := if (l0.length : Int) > a1 then (some false) else (spec_l1All.l0 k l0 0)
theorem spec_l1All.mono_l : ∀ k, (∀ y0 y1, LeO (spec_l1All.l0 k y0 y1) (spec_l1All.l0 (k + 1) y0 y1))
  | 0 => fun _ _ r h => by simp [spec_l1All.l0] at h
  | k + 1 => by
    have ih0 := spec_l1All.mono_l k
    · intro y0 y1
      unfold spec_l1All.l0
      repeat' first
      | (with_reducible exact ih0 _ _)
      | (with_reducible exact LeO.refl _)
      | (with_reducible exact LeO.none _)
      | (with_reducible refine LeO.ite ?_ ?_)
      | (with_reducible refine LeO.bind ?_ (fun _ => ?_))
      | exact ih0 _ _
      | exact LeO.none _
      | refine LeO.ite ?_ ?_
      | refine LeO.bind ?_ (fun _ => ?_)
theorem spec_l1All.mono : ∀ a0 a1 k, LeO (spec_l1All.f k a0 a1) (spec_l1All.f (k + 1) a0 a1) := by
  intro a0 a1 k
  have ih0 := spec_l1All.mono_l k
  unfold spec_l1All.f
  repeat' first
      | (with_reducible exact ih0 _ _)
      | (with_reducible exact LeO.refl _)
      | (with_reducible exact LeO.none _)
      | (with_reducible refine LeO.ite ?_ ?_)
      | (with_reducible refine LeO.bind ?_ (fun _ => ?_))
      | exact ih0 _ _
      | exact LeO.none _
      | refine LeO.ite ?_ ?_
      | refine LeO.bind ?_ (fun _ => ?_)
set_option maxHeartbeats 8000000 in
set_option maxRecDepth 100000 in
theorem spec_l1All.calls (k : Nat) (A0 : Option Addr) (c0 : Nat) (l0 : List (S27)) (a1 : Int) (r : Bool) (w : World) (hr0 : Kd.C k27 w A0 l0.length l0) (hc0 : l0.length ≤ c0) (h : spec_l1All.f k l0 a1 = some r) :
    Calls Try.prog 89 #[.slice A0 l0.length c0, .int .i64 a1] w fun e w' => e = .returned (.bool r) ∧ Below w.heap.size w w' := by
  have hu27 := Try.underlying27
  have HR0 := Aside0.mk hr0
  have HC0 := Aside0.mk hc0
  clear hr0 hc0
  have HB := Aside0.mk (Below.refl w.heap.size w)
  have H : (if (l0.length : Int) > a1 then (some false) else (spec_l1All.l0 k l0 0)) = some r := h
  clear h
  by_cases c3 : (l0.length : Int) > a1
  · rw [if_pos c3] at H
    have c3b0 : decide (a1 < (l0.length : Int)) = true := decide_eq_true c3
    clear c3
    obtain rfl := Option.some.inj H
    go_enter Try.func89, Try.ntmps89
    go_wp2
    go_ret
    exact ⟨by first | rfl | (simp [errW_none, errW_some] <;> rfl) | (simp [*, errW_none, errW_some] <;> rfl), by repeat (first | (with_reducible first | exact HB.out | apply below_alloc | apply pw_below_drewN | apply below_drew1) | exact HB.out)⟩
  · rw [if_neg c3] at H
    have c3b0 : decide (a1 < (l0.length : Int)) = false := decide_eq_false c3
    clear c3
    have H' := Aside0.mk H
    clear H
    go_enter Try.func89, Try.ntmps89
    go_wp2
    go_loopg [5] k (fun kq v5 w' => ∃ (x5_1 : Int), v5 = .int .i64 x5_1 ∧ Aside0 (spec_l1All.l0 kq l0 x5_1 = some r) ∧ Aside0 (kq ≤ k) ∧ Aside0 (Below w.heap.size w w'))
    case atStart => exact ⟨(0), (by first | rfl | (simp; done) | (simp [*]; done)), H', ⟨Nat.le_refl _⟩, ⟨by repeat (first | (with_reducible first | exact HB.out | apply below_alloc | apply pw_below_drewN | apply below_drew1) | exact HB.out)⟩⟩
    case round =>
      clear H'
      try clear p2
      try clear c3
      try clear c3b0
      obtain ⟨x5_1, rfl, HA, HK1, HB⟩ := hrel
      cases gk with
      | zero => exact absurd HA.out (by simp [spec_l1All.l0])
      | succ k1 =>
        have H := HA.out
        clear HA
        simp only [spec_l1All.l0] at H
        by_cases c4 : x5_1 < (l0.length : Int)
        · rw [if_pos c4] at H
          have c4b0 : decide (x5_1 < (l0.length : Int)) = true := decide_eq_true c4
          clear c4
          by_cases c5 : 0 ≤ x5_1
          · rw [if_pos c5] at H
            have c5b0 : decide (0 ≤ x5_1) = true := decide_eq_true c5
            clear c5
            replace H := Option.bind_eq_some_iff.mp H
            obtain ⟨t102, A60, H⟩ := H
            replace H : (if t102 = true then (spec_l1All.l0 k1 l0 (wrap64 (x5_1 + 1))) else (some false)) = some r := H
            have A6 := Aside0.mk A60
            clear A60
            by_cases c7 : t102 = true
            · subst c7
              have H1 : (spec_l1All.l0 k1 l0 (wrap64 (x5_1 + 1))) = some r := by rw [if_pos rfl] at H; exact H
              clear H
              have H := H1
              clear H1
              have H' := Aside0.mk H
              clear H
              have p101 : 0 ≤ (x5_1 : Int) := of_decide_eq_true (by first | (with_reducible assumption) | assumption)
              have q101 : x5_1 < (l0.length : Int) := of_decide_eq_true (by first | (with_reducible assumption) | assumption)
              obtain ⟨ad101, e101, hx101_0, hx101_1⟩ := at_T27 HR0.out x5_1 p101 q101
              cases e101
              replace hx101_0 := (HB.out.cell (World.block_lt_of_cell? w _ hx101_0)).trans hx101_0
              replace hx101_1 := (HB.out.cell (World.block_lt_of_cell? w _ hx101_1)).trans hx101_1
              replace p101 := eq_true p101
              replace q101 := eq_true q101
              go_wp2_with (first | ((with_reducible refine gate_callee (f := 49) rfl ?_); refine goesL_ (some 20) rfl rfl Try.func49 (by kernel_rfl) rfl #[.agg #[.int .i64 ((rd_T27 l0 x5_1).f0), .int .i64 ((rd_T27 l0 x5_1).f1)]] rfl (by (try simp only [List.map_toArray, List.map_cons, List.map_nil]); first | done | rfl | (simp only [List.length_drop, List.length_take]; rfl)) ?_; (with_reducible refine (spec_IvalOk.calls ((rd_T27 l0 x5_1).f0) ((rd_T27 l0 x5_1).f1) true _ A6.out).mono ?_); rintro e w8 ⟨rfl, hb⟩; refine ⟨_, rfl, ?_⟩; have n0_ := Aside0.mk (below_step (by repeat (first | (with_reducible first | exact HB.out | apply below_alloc | apply pw_below_drewN | apply below_drew1) | exact HB.out)) hb); clear HB; have HB := n0_; clear n0_; (try clear hb); (try clear hb2); (try clear hk); (try clear hi)))
              go_roundg k1
              case measure => have := HK1.out; omega
              case rel => exact ⟨(wrap64 (x5_1 + 1)), (by first | rfl | (simp; done) | (simp [*]; done)), H', ⟨by have := HK1.out; omega⟩, ⟨by repeat (first | (with_reducible first | exact HB.out | apply below_alloc | apply pw_below_drewN | apply below_drew1) | exact HB.out)⟩⟩
            · replace c7 := Bool.eq_false_iff.mpr c7
              subst c7
              have H1 : (some false) = some r := by rw [if_neg (show ¬ (false = true) by decide)] at H; exact H
              clear H
              have H := H1
              clear H1
              obtain rfl := Option.some.inj H
              have p101 : 0 ≤ (x5_1 : Int) := of_decide_eq_true (by first | (with_reducible assumption) | assumption)
              have q101 : x5_1 < (l0.length : Int) := of_decide_eq_true (by first | (with_reducible assumption) | assumption)
              obtain ⟨ad101, e101, hx101_0, hx101_1⟩ := at_T27 HR0.out x5_1 p101 q101
              cases e101
              replace hx101_0 := (HB.out.cell (World.block_lt_of_cell? w _ hx101_0)).trans hx101_0
              replace hx101_1 := (HB.out.cell (World.block_lt_of_cell? w _ hx101_1)).trans hx101_1
              replace p101 := eq_true p101
              replace q101 := eq_true q101
              go_wp2_with (first | ((with_reducible refine gate_callee (f := 49) rfl ?_); refine goesL_ (some 20) rfl rfl Try.func49 (by kernel_rfl) rfl #[.agg #[.int .i64 ((rd_T27 l0 x5_1).f0), .int .i64 ((rd_T27 l0 x5_1).f1)]] rfl (by (try simp only [List.map_toArray, List.map_cons, List.map_nil]); first | done | rfl | (simp only [List.length_drop, List.length_take]; rfl)) ?_; (with_reducible refine (spec_IvalOk.calls ((rd_T27 l0 x5_1).f0) ((rd_T27 l0 x5_1).f1) false _ A6.out).mono ?_); rintro e w9 ⟨rfl, hb⟩; refine ⟨_, rfl, ?_⟩; have n0_ := Aside0.mk (below_step (by repeat (first | (with_reducible first | exact HB.out | apply below_alloc | apply pw_below_drewN | apply below_drew1) | exact HB.out)) hb); clear HB; have HB := n0_; clear n0_; (try clear hb); (try clear hb2); (try clear hk); (try clear hi)))
              go_ret
              exact ⟨by first | rfl | (simp [errW_none, errW_some] <;> rfl) | (simp [*, errW_none, errW_some] <;> rfl), by repeat (first | (with_reducible first | exact HB.out | apply below_alloc | apply pw_below_drewN | apply below_drew1) | exact HB.out)⟩
          · rw [if_neg c5] at H
            exact absurd H (by simp)
        · rw [if_neg c4] at H
          have c4b0 : decide (x5_1 < (l0.length : Int)) = false := decide_eq_false c4
          clear c4
          obtain rfl := Option.some.inj H
          go_wp2
          go_ret
          exact ⟨by first | rfl | (simp [errW_none, errW_some] <;> rfl) | (simp [*, errW_none, errW_some] <;> rfl), by repeat (first | (with_reducible first | exact HB.out | apply below_alloc | apply pw_below_drewN | apply below_drew1) | exact HB.out)⟩

end Go.Proofs.Ytcbeajdkockhaaa.PTripsMeet
