/-
  Contracts of Go functions of this seat: what each call hands back, as a plain function of its arguments, and that nothing that was there has turned.
  No statement of the seat is proved here.
-/
import Derived.Test.YtbfbcecghokpoaaProg
import Derived.Test.YtbfbcecghokpoaaPure
import Derived.Test.YtbfbcecghokpoaaActs
import Derived.Deep.Light
import Derived.RegionTactic
import Derived.Deep.RegionWith
import Derived.BigRegion
import Derived.ChangeAlike
namespace Go.Proofs.Ytbfbcecghokpoaa
open Go.RowKit
set_option linter.unusedVariables false
set_option linter.unusedSimpArgs false

-- spec.l1In
set_option maxHeartbeats 1000000 in
set_option maxRecDepth 100000 in
theorem c_spec_l1In (x : Int) (lo : Int) (hi : Int) (w : World)   :
    Calls Try.prog 59 #[.int .i64 x, .int .i64 lo, .int .i64 hi] w (Ret w (.bool (Pu.In x lo hi))) := by
  go_enter Try.func59, Try.ntmps59
  go_wp2_with (first
    | go_region)
  all_goals refine bodyPost_ret (v := .bool (Pu.In x lo hi)) ?_ rfl (Ret.mk (by repeat (first | exact Below.refl _ _ | apply below_alloc | apply below_junk | apply below_drew)))
  all_goals first | (simp [results, Try.results59, go_sem, Pu.In, *]; done) | (simp [results, Try.results59, go_sem, Pu.In, *]; omega) | (go_light; simp [results, Try.results59, go_sem, Pu.In, *]; intros; exfalso; omega) | (go_light; simp [results, Try.results59, go_sem, Pu.In, *]; (repeat' split) <;> first | omega | (simp; done) | (simp_all; done)) | (go_light; simp_all [results, Try.results59, go_sem, Pu.In, ]; done) | (go_light; simp_all [results, Try.results59, go_sem, Pu.In, ]; omega)
theorem c_spec_l1In_b (x : Int) (lo : Int) (hi : Int) (w : World) (b : Bool) (hb : Pu.In x lo hi = b) :
    Calls Try.prog 59 #[.int .i64 x, .int .i64 lo, .int .i64 hi] w (Ret w (.bool b)) := by subst hb; exact c_spec_l1In x lo hi w

-- impl.in
set_option maxHeartbeats 1000000 in
set_option maxRecDepth 100000 in
theorem c_impl_in (x : Int) (lo : Int) (hi : Int) (w : World)   :
    Calls Try.prog 62 #[.int .i64 x, .int .i64 lo, .int .i64 hi] w (Ret w (.bool (Pu.In x lo hi))) := by
  go_enter Try.func62, Try.ntmps62
  go_wp2_with (first
    | go_region)
  all_goals refine bodyPost_ret (v := .bool (Pu.In x lo hi)) ?_ rfl (Ret.mk (by repeat (first | exact Below.refl _ _ | apply below_alloc | apply below_junk | apply below_drew)))
  all_goals first | (simp [results, Try.results62, go_sem, Pu.In, *]; done) | (simp [results, Try.results62, go_sem, Pu.In, *]; omega) | (go_light; simp [results, Try.results62, go_sem, Pu.In, *]; intros; exfalso; omega) | (go_light; simp [results, Try.results62, go_sem, Pu.In, *]; (repeat' split) <;> first | omega | (simp; done) | (simp_all; done)) | (go_light; simp_all [results, Try.results62, go_sem, Pu.In, ]; done) | (go_light; simp_all [results, Try.results62, go_sem, Pu.In, ]; omega)
theorem c_impl_in_b (x : Int) (lo : Int) (hi : Int) (w : World) (b : Bool) (hb : Pu.In x lo hi = b) :
    Calls Try.prog 62 #[.int .i64 x, .int .i64 lo, .int .i64 hi] w (Ret w (.bool b)) := by subst hb; exact c_impl_in x lo hi w

-- spec.l1Min
set_option maxHeartbeats 1000000 in
set_option maxRecDepth 100000 in
theorem c_spec_l1Min (a : Int) (b : Int) (w : World)   :
    Calls Try.prog 99 #[.int .i64 a, .int .i64 b] w (Ret w (.int .i64 (min a b))) := by
  go_enter Try.func99, Try.ntmps99
  go_wp2_with (first
    | go_region)
  all_goals refine bodyPost_ret (v := .int .i64 (min a b)) ?_ rfl (Ret.mk (by repeat (first | exact Below.refl _ _ | apply below_alloc | apply below_junk | apply below_drew)))
  all_goals first | (simp [results, Try.results99, go_sem, *]; done) | (simp [results, Try.results99, go_sem, *]; omega)

-- spec.l1Max
set_option maxHeartbeats 1000000 in
set_option maxRecDepth 100000 in
theorem c_spec_l1Max (a : Int) (b : Int) (w : World)   :
    Calls Try.prog 63 #[.int .i64 a, .int .i64 b] w (Ret w (.int .i64 (max a b))) := by
  go_enter Try.func63, Try.ntmps63
  go_wp2_with (first
    | go_region)
  all_goals refine bodyPost_ret (v := .int .i64 (max a b)) ?_ rfl (Ret.mk (by repeat (first | exact Below.refl _ _ | apply below_alloc | apply below_junk | apply below_drew)))
  all_goals first | (simp [results, Try.results63, go_sem, *]; done) | (simp [results, Try.results63, go_sem, *]; omega)

-- spec.IvalOk
set_option maxHeartbeats 1000000 in
set_option maxRecDepth 100000 in
theorem c_spec_IvalOk (a_lo : Int) (a_hi : Int) (w : World)   :
    Calls Try.prog 47 #[.agg #[.int .i64 a_lo, .int .i64 a_hi]] w (Ret w (.bool (Pu.IvalOk (⟨a_lo, a_hi⟩ : Ival)))) := by
  go_enter Try.func47, Try.ntmps47
  go_wp2_with (first
    | (go_at_call 59; refine (c_spec_l1In _ _ _ _ ).mono ?_; rintro e w' hr; (rcases Ret.bool hr with ⟨rfl, hX, g, d, rfl⟩ | ⟨rfl, hX, g, d, rfl⟩ <;> first | (have hB := (Pu.In_iff _ _ _).1 hX; (try dsimp only at hB); obtain ⟨hB1, hB2⟩ := hB; clear hr) | (have hB := Pu.no_of (Pu.In_iff _ _ _) hX; (try dsimp only at hB); clear hr) | clear hr))
    | go_region)
  all_goals refine bodyPost_ret (v := .bool (Pu.IvalOk (⟨a_lo, a_hi⟩ : Ival))) ?_ rfl (Ret.mk (by repeat (first | exact Below.refl _ _ | apply below_alloc | apply below_junk | apply below_drew)))
  all_goals first | (simp [results, Try.results47, go_sem, Pu.IvalOk, *]; done) | (simp [results, Try.results47, go_sem, Pu.IvalOk, *]; omega) | (go_light; simp [results, Try.results47, go_sem, Pu.IvalOk, *]; intros; exfalso; omega) | (go_light; simp [results, Try.results47, go_sem, Pu.IvalOk, *]; (repeat' split) <;> first | omega | (simp; done) | (simp_all; done)) | (go_light; simp_all [results, Try.results47, go_sem, Pu.IvalOk, ]; done) | (go_light; simp_all [results, Try.results47, go_sem, Pu.IvalOk, ]; omega)
theorem c_spec_IvalOk_b (a_lo : Int) (a_hi : Int) (w : World) (b : Bool) (hb : Pu.IvalOk (⟨a_lo, a_hi⟩ : Ival) = b) :
    Calls Try.prog 47 #[.agg #[.int .i64 a_lo, .int .i64 a_hi]] w (Ret w (.bool b)) := by subst hb; exact c_spec_IvalOk a_lo a_hi w

-- impl.IvalOk
set_option maxHeartbeats 1000000 in
set_option maxRecDepth 100000 in
theorem c_impl_IvalOk (a_lo : Int) (a_hi : Int) (w : World)   :
    Calls Try.prog 56 #[.agg #[.int .i64 a_lo, .int .i64 a_hi]] w (Ret w (.bool (Pu.IvalOk (⟨a_lo, a_hi⟩ : Ival)))) := by
  go_enter Try.func56, Try.ntmps56
  go_wp2_with (first
    | go_region)
  all_goals refine bodyPost_ret (v := .bool (Pu.IvalOk (⟨a_lo, a_hi⟩ : Ival))) ?_ rfl (Ret.mk (by repeat (first | exact Below.refl _ _ | apply below_alloc | apply below_junk | apply below_drew)))
  all_goals first | (simp [results, Try.results56, go_sem, Pu.IvalOk, *]; done) | (simp [results, Try.results56, go_sem, Pu.IvalOk, *]; omega) | (go_light; simp [results, Try.results56, go_sem, Pu.IvalOk, *]; intros; exfalso; omega) | (go_light; simp [results, Try.results56, go_sem, Pu.IvalOk, *]; (repeat' split) <;> first | omega | (simp; done) | (simp_all; done)) | (go_light; simp_all [results, Try.results56, go_sem, Pu.IvalOk, ]; done) | (go_light; simp_all [results, Try.results56, go_sem, Pu.IvalOk, ]; omega)
theorem c_impl_IvalOk_b (a_lo : Int) (a_hi : Int) (w : World) (b : Bool) (hb : Pu.IvalOk (⟨a_lo, a_hi⟩ : Ival) = b) :
    Calls Try.prog 56 #[.agg #[.int .i64 a_lo, .int .i64 a_hi]] w (Ret w (.bool b)) := by subst hb; exact c_impl_IvalOk a_lo a_hi w

-- spec.l1Told
set_option maxHeartbeats 1000000 in
set_option maxRecDepth 100000 in
theorem c_spec_l1Told (lo : Int) (hi : Int) (w : World)   :
    Calls Try.prog 111 #[.int .i64 lo, .int .i64 hi] w (Ret w (.tuple #[.agg #[.int .i64 (((Pu.Told lo hi).1).lo), .int .i64 (((Pu.Told lo hi).1).hi)], .bool ((Pu.Told lo hi).2)])) := by
  go_enter Try.func111, Try.ntmps111
  go_wp2_with (first
    | (go_at_call 47; refine (c_spec_IvalOk _ _ _ ).mono ?_; rintro e w' hr; (rcases Ret.bool hr with ⟨rfl, hX, g, d, rfl⟩ | ⟨rfl, hX, g, d, rfl⟩ <;> first | (have hB := (Pu.IvalOk_iff _).1 hX; (try dsimp only at hB); obtain ⟨hB1, hB2, hB3⟩ := hB; clear hr) | clear hr))
    | go_region)
  all_goals refine bodyPost_ret (v := .tuple #[.agg #[.int .i64 (((Pu.Told lo hi).1).lo), .int .i64 (((Pu.Told lo hi).1).hi)], .bool ((Pu.Told lo hi).2)]) ?_ rfl (Ret.mk (by repeat (first | exact Below.refl _ _ | apply below_alloc | apply below_junk | apply below_drew)))
  all_goals first | (simp [results, Try.results111, go_sem, Pu.Told, *]; done) | (simp [results, Try.results111, go_sem, Pu.Told, *]; omega) | (go_light; simp [results, Try.results111, go_sem, Pu.Told, *]; intros; exfalso; omega) | (go_light; simp [results, Try.results111, go_sem, Pu.Told, *]; (repeat' split) <;> first | omega | (simp; done) | (simp_all; done)) | (go_light; simp_all [results, Try.results111, go_sem, Pu.Told, ]; done) | (go_light; simp_all [results, Try.results111, go_sem, Pu.Told, ]; omega)

-- impl.ival
set_option maxHeartbeats 1000000 in
set_option maxRecDepth 100000 in
theorem c_impl_ival (lo : Int) (hi : Int) (w : World)   :
    Calls Try.prog 115 #[.int .i64 lo, .int .i64 hi] w (Ret w (.tuple #[.agg #[.int .i64 (((Pu.Told lo hi).1).lo), .int .i64 (((Pu.Told lo hi).1).hi)], .bool ((Pu.Told lo hi).2)])) := by
  go_enter Try.func115, Try.ntmps115
  go_wp2_with (first
    | (go_at_call 56; refine (c_impl_IvalOk _ _ _ ).mono ?_; rintro e w' hr; (rcases Ret.bool hr with ⟨rfl, hX, g, d, rfl⟩ | ⟨rfl, hX, g, d, rfl⟩ <;> first | (have hB := (Pu.IvalOk_iff _).1 hX; (try dsimp only at hB); obtain ⟨hB1, hB2, hB3⟩ := hB; clear hr) | clear hr))
    | go_region)
  all_goals refine bodyPost_ret (v := .tuple #[.agg #[.int .i64 (((Pu.Told lo hi).1).lo), .int .i64 (((Pu.Told lo hi).1).hi)], .bool ((Pu.Told lo hi).2)]) ?_ rfl (Ret.mk (by repeat (first | exact Below.refl _ _ | apply below_alloc | apply below_junk | apply below_drew)))
  all_goals first | (simp [results, Try.results115, go_sem, Pu.Told, *]; done) | (simp [results, Try.results115, go_sem, Pu.Told, *]; omega) | (go_light; simp [results, Try.results115, go_sem, Pu.Told, *]; intros; exfalso; omega) | (go_light; simp [results, Try.results115, go_sem, Pu.Told, *]; (repeat' split) <;> first | omega | (simp; done) | (simp_all; done)) | (go_light; simp_all [results, Try.results115, go_sem, Pu.Told, ]; done) | (go_light; simp_all [results, Try.results115, go_sem, Pu.Told, ]; omega)

-- impl.Holds
set_option maxHeartbeats 1000000 in
set_option maxRecDepth 100000 in
theorem c_impl_Holds (a_lo : Int) (a_hi : Int) (t : Int) (w : World)   :
    Calls Try.prog 51 #[.agg #[.int .i64 a_lo, .int .i64 a_hi], .int .i64 t] w (Ret w (.bool (Pu.Holds (⟨a_lo, a_hi⟩ : Ival) t))) := by
  go_enter Try.func51, Try.ntmps51
  go_wp2_with (first
    | (go_at_call 56; refine (c_impl_IvalOk _ _ _ ).mono ?_; rintro e w' hr; (rcases Ret.bool hr with ⟨rfl, hX, g, d, rfl⟩ | ⟨rfl, hX, g, d, rfl⟩ <;> first | (have hB := (Pu.IvalOk_iff _).1 hX; (try dsimp only at hB); obtain ⟨hB1, hB2, hB3⟩ := hB; clear hr) | clear hr))
    | (go_at_call 62; refine (c_impl_in _ _ _ _ ).mono ?_; rintro e w' hr; (rcases Ret.bool hr with ⟨rfl, hX, g, d, rfl⟩ | ⟨rfl, hX, g, d, rfl⟩ <;> first | (have hB := (Pu.In_iff _ _ _).1 hX; (try dsimp only at hB); obtain ⟨hB1, hB2⟩ := hB; clear hr) | (have hB := Pu.no_of (Pu.In_iff _ _ _) hX; (try dsimp only at hB); clear hr) | clear hr))
    | go_region)
  all_goals refine bodyPost_ret (v := .bool (Pu.Holds (⟨a_lo, a_hi⟩ : Ival) t)) ?_ rfl (Ret.mk (by repeat (first | exact Below.refl _ _ | apply below_alloc | apply below_junk | apply below_drew)))
  all_goals first | (simp [results, Try.results51, go_sem, Pu.Holds, Pu.In, *]; done) | (simp [results, Try.results51, go_sem, Pu.Holds, Pu.In, *]; omega) | (go_light; simp [results, Try.results51, go_sem, Pu.Holds, Pu.In, *]; intros; exfalso; omega) | (go_light; simp [results, Try.results51, go_sem, Pu.Holds, Pu.In, *]; (repeat' split) <;> first | omega | (simp; done) | (simp_all; done)) | (go_light; simp_all [results, Try.results51, go_sem, Pu.Holds, Pu.In, ]; done) | (go_light; simp_all [results, Try.results51, go_sem, Pu.Holds, Pu.In, ]; omega)

-- spec.Apart
set_option maxHeartbeats 1000000 in
set_option maxRecDepth 100000 in
theorem c_spec_Apart (a_lo : Int) (a_hi : Int) (b_lo : Int) (b_hi : Int) (w : World)   :
    Calls Try.prog 71 #[.agg #[.int .i64 a_lo, .int .i64 a_hi], .agg #[.int .i64 b_lo, .int .i64 b_hi]] w (Ret w (.int .i64 (Pu.Apart (⟨a_lo, a_hi⟩ : Ival) (⟨b_lo, b_hi⟩ : Ival)))) := by
  go_enter Try.func71, Try.ntmps71
  go_wp2_with (first
    | ((with_reducible refine wp_region_calm (id := 3) (by kernel_rfl) (by kernel_rfl) ?_); (repeat (go_big_quiet_step ((first | (go_at_call 63; exact calm_of (c_spec_l1Max _ _ _ )) | (go_at_call 99; exact calm_of (c_spec_l1Min _ _ _ )))))); refine wpQuiet_nil ?_; intro g d)
    | (go_at_call 47; refine (c_spec_IvalOk _ _ _ ).mono ?_; rintro e w' hr; (rcases Ret.bool hr with ⟨rfl, hX, g, d, rfl⟩ | ⟨rfl, hX, g, d, rfl⟩ <;> first | (have hB := (Pu.IvalOk_iff _).1 hX; (try dsimp only at hB); obtain ⟨hB1, hB2, hB3⟩ := hB; clear hr) | clear hr))
    | (go_at_call 63; refine (c_spec_l1Max _ _ _ ).mono ?_; rintro e w' hr; obtain ⟨rfl, g, d, rfl⟩ := Ret.open hr; clear hr)
    | (go_at_call 99; refine (c_spec_l1Min _ _ _ ).mono ?_; rintro e w' hr; obtain ⟨rfl, g, d, rfl⟩ := Ret.open hr; clear hr)
    | go_region)
  all_goals refine bodyPost_ret (v := .int .i64 (Pu.Apart (⟨a_lo, a_hi⟩ : Ival) (⟨b_lo, b_hi⟩ : Ival))) ?_ rfl (Ret.mk (by repeat (first | exact Below.refl _ _ | apply below_alloc | apply below_junk | apply below_drew)))
  all_goals first | (simp [results, Try.results71, go_sem, Pu.Apart, *]; done) | (simp [results, Try.results71, go_sem, Pu.Apart, *]; omega) | (go_light; simp [results, Try.results71, go_sem, Pu.Apart, *]; intros; exfalso; omega) | (go_light; simp [results, Try.results71, go_sem, Pu.Apart, *]; (repeat' split) <;> first | omega | (simp; done) | (simp_all; done)) | (go_light; simp_all [results, Try.results71, go_sem, Pu.Apart, ]; done) | (go_light; simp_all [results, Try.results71, go_sem, Pu.Apart, ]; omega)

-- impl.Apart
set_option maxHeartbeats 1000000 in
set_option maxRecDepth 100000 in
theorem c_impl_Apart (a_lo : Int) (a_hi : Int) (b_lo : Int) (b_hi : Int) (w : World)   :
    Calls Try.prog 72 #[.agg #[.int .i64 a_lo, .int .i64 a_hi], .agg #[.int .i64 b_lo, .int .i64 b_hi]] w (Ret w (.int .i64 (Pu.Apart (⟨a_lo, a_hi⟩ : Ival) (⟨b_lo, b_hi⟩ : Ival)))) := by
  go_enter Try.func72, Try.ntmps72
  go_wp2_with (first
    | (go_at_call 56; refine (c_impl_IvalOk _ _ _ ).mono ?_; rintro e w' hr; (rcases Ret.bool hr with ⟨rfl, hX, g, d, rfl⟩ | ⟨rfl, hX, g, d, rfl⟩ <;> first | (have hB := (Pu.IvalOk_iff _).1 hX; (try dsimp only at hB); obtain ⟨hB1, hB2, hB3⟩ := hB; clear hr) | clear hr))
    | go_region)
  all_goals refine bodyPost_ret (v := .int .i64 (Pu.Apart (⟨a_lo, a_hi⟩ : Ival) (⟨b_lo, b_hi⟩ : Ival))) ?_ rfl (Ret.mk (by repeat (first | exact Below.refl _ _ | apply below_alloc | apply below_junk | apply below_drew)))
  all_goals first | (simp [results, Try.results72, go_sem, Pu.Apart, *]; done) | (simp [results, Try.results72, go_sem, Pu.Apart, *]; omega) | (go_light; simp [results, Try.results72, go_sem, Pu.Apart, *]; intros; exfalso; omega) | (go_light; simp [results, Try.results72, go_sem, Pu.Apart, *]; (repeat' split) <;> first | omega | (simp; done) | (simp_all; done)) | (go_light; simp_all [results, Try.results72, go_sem, Pu.Apart, ]; done) | (go_light; simp_all [results, Try.results72, go_sem, Pu.Apart, ]; omega)

-- spec.PlusIval
set_option maxHeartbeats 1000000 in
set_option maxRecDepth 100000 in
theorem c_spec_PlusIval (a_lo : Int) (a_hi : Int) (b_lo : Int) (b_hi : Int) (w : World)   :
    Calls Try.prog 94 #[.agg #[.int .i64 a_lo, .int .i64 a_hi], .agg #[.int .i64 b_lo, .int .i64 b_hi]] w (Ret w (.tuple #[.agg #[.int .i64 (((Pu.PlusIval (⟨a_lo, a_hi⟩ : Ival) (⟨b_lo, b_hi⟩ : Ival)).1).lo), .int .i64 (((Pu.PlusIval (⟨a_lo, a_hi⟩ : Ival) (⟨b_lo, b_hi⟩ : Ival)).1).hi)], .bool ((Pu.PlusIval (⟨a_lo, a_hi⟩ : Ival) (⟨b_lo, b_hi⟩ : Ival)).2)])) := by
  go_enter Try.func94, Try.ntmps94
  go_wp2_with (first
    | (go_at_call 47; refine (c_spec_IvalOk _ _ _ ).mono ?_; rintro e w' hr; (rcases Ret.bool hr with ⟨rfl, hX, g, d, rfl⟩ | ⟨rfl, hX, g, d, rfl⟩ <;> first | (have hB := (Pu.IvalOk_iff _).1 hX; (try dsimp only at hB); obtain ⟨hB1, hB2, hB3⟩ := hB; clear hr) | clear hr))
    | (go_at_call 111; refine (c_spec_l1Told _ _ _ ).mono ?_; rintro e w' hr; obtain ⟨rfl, g, d, rfl⟩ := Ret.open hr; clear hr)
    | go_region)
  all_goals refine bodyPost_ret (v := .tuple #[.agg #[.int .i64 (((Pu.PlusIval (⟨a_lo, a_hi⟩ : Ival) (⟨b_lo, b_hi⟩ : Ival)).1).lo), .int .i64 (((Pu.PlusIval (⟨a_lo, a_hi⟩ : Ival) (⟨b_lo, b_hi⟩ : Ival)).1).hi)], .bool ((Pu.PlusIval (⟨a_lo, a_hi⟩ : Ival) (⟨b_lo, b_hi⟩ : Ival)).2)]) ?_ rfl (Ret.mk (by repeat (first | exact Below.refl _ _ | apply below_alloc | apply below_junk | apply below_drew)))
  all_goals first | (simp [results, Try.results94, go_sem, Pu.PlusIval, *]; done) | (simp [results, Try.results94, go_sem, Pu.PlusIval, *]; omega) | (go_light; simp [results, Try.results94, go_sem, Pu.PlusIval, *]; intros; exfalso; omega) | (go_light; simp [results, Try.results94, go_sem, Pu.PlusIval, *]; (repeat' split) <;> first | omega | (simp; done) | (simp_all; done)) | (go_light; simp_all [results, Try.results94, go_sem, Pu.PlusIval, ]; done) | (go_light; simp_all [results, Try.results94, go_sem, Pu.PlusIval, ]; omega)

-- impl.PlusIval
set_option maxHeartbeats 1000000 in
set_option maxRecDepth 100000 in
theorem c_impl_PlusIval (a_lo : Int) (a_hi : Int) (b_lo : Int) (b_hi : Int) (w : World)   :
    Calls Try.prog 98 #[.agg #[.int .i64 a_lo, .int .i64 a_hi], .agg #[.int .i64 b_lo, .int .i64 b_hi]] w (Ret w (.tuple #[.agg #[.int .i64 (((Pu.PlusIval (⟨a_lo, a_hi⟩ : Ival) (⟨b_lo, b_hi⟩ : Ival)).1).lo), .int .i64 (((Pu.PlusIval (⟨a_lo, a_hi⟩ : Ival) (⟨b_lo, b_hi⟩ : Ival)).1).hi)], .bool ((Pu.PlusIval (⟨a_lo, a_hi⟩ : Ival) (⟨b_lo, b_hi⟩ : Ival)).2)])) := by
  go_enter Try.func98, Try.ntmps98
  go_wp2_with (first
    | (go_at_call 56; refine (c_impl_IvalOk _ _ _ ).mono ?_; rintro e w' hr; (rcases Ret.bool hr with ⟨rfl, hX, g, d, rfl⟩ | ⟨rfl, hX, g, d, rfl⟩ <;> first | (have hB := (Pu.IvalOk_iff _).1 hX; (try dsimp only at hB); obtain ⟨hB1, hB2, hB3⟩ := hB; clear hr) | clear hr))
    | (go_at_call 115; refine (c_impl_ival _ _ _ ).mono ?_; rintro e w' hr; obtain ⟨rfl, g, d, rfl⟩ := Ret.open hr; clear hr)
    | go_region)
  all_goals refine bodyPost_ret (v := .tuple #[.agg #[.int .i64 (((Pu.PlusIval (⟨a_lo, a_hi⟩ : Ival) (⟨b_lo, b_hi⟩ : Ival)).1).lo), .int .i64 (((Pu.PlusIval (⟨a_lo, a_hi⟩ : Ival) (⟨b_lo, b_hi⟩ : Ival)).1).hi)], .bool ((Pu.PlusIval (⟨a_lo, a_hi⟩ : Ival) (⟨b_lo, b_hi⟩ : Ival)).2)]) ?_ rfl (Ret.mk (by repeat (first | exact Below.refl _ _ | apply below_alloc | apply below_junk | apply below_drew)))
  all_goals first | (simp [results, Try.results98, go_sem, Pu.PlusIval, *]; done) | (simp [results, Try.results98, go_sem, Pu.PlusIval, *]; omega) | (go_light; simp [results, Try.results98, go_sem, Pu.PlusIval, *]; intros; exfalso; omega) | (go_light; simp [results, Try.results98, go_sem, Pu.PlusIval, *]; (repeat' split) <;> first | omega | (simp; done) | (simp_all; done)) | (go_light; simp_all [results, Try.results98, go_sem, Pu.PlusIval, ]; done) | (go_light; simp_all [results, Try.results98, go_sem, Pu.PlusIval, ]; omega)

-- spec.DriftOk
set_option maxHeartbeats 1000000 in
set_option maxRecDepth 100000 in
theorem c_spec_DriftOk (d_num : Int) (d_den : Int) (w : World)   :
    Calls Try.prog 92 #[.agg #[.int .i64 d_num, .int .i64 d_den]] w (Ret w (.bool (Pu.DriftOk (⟨d_num, d_den⟩ : Drift)))) := by
  go_enter Try.func92, Try.ntmps92
  go_wp2_with (first
    | (go_at_call 59; refine (c_spec_l1In _ _ _ _ ).mono ?_; rintro e w' hr; (rcases Ret.bool hr with ⟨rfl, hX, g, d, rfl⟩ | ⟨rfl, hX, g, d, rfl⟩ <;> first | (have hB := (Pu.In_iff _ _ _).1 hX; (try dsimp only at hB); obtain ⟨hB1, hB2⟩ := hB; clear hr) | (have hB := Pu.no_of (Pu.In_iff _ _ _) hX; (try dsimp only at hB); clear hr) | clear hr))
    | go_region)
  all_goals refine bodyPost_ret (v := .bool (Pu.DriftOk (⟨d_num, d_den⟩ : Drift))) ?_ rfl (Ret.mk (by repeat (first | exact Below.refl _ _ | apply below_alloc | apply below_junk | apply below_drew)))
  all_goals first | (simp [results, Try.results92, go_sem, Pu.DriftOk, Pu.In, *]; done) | (simp [results, Try.results92, go_sem, Pu.DriftOk, Pu.In, *]; omega) | (go_light; simp [results, Try.results92, go_sem, Pu.DriftOk, Pu.In, *]; intros; exfalso; omega) | (go_light; simp [results, Try.results92, go_sem, Pu.DriftOk, Pu.In, *]; (repeat' split) <;> first | omega | (simp; done) | (simp_all; done)) | (go_light; simp_all [results, Try.results92, go_sem, Pu.DriftOk, Pu.In, ]; done) | (go_light; simp_all [results, Try.results92, go_sem, Pu.DriftOk, Pu.In, ]; omega)
theorem c_spec_DriftOk_b (d_num : Int) (d_den : Int) (w : World) (b : Bool) (hb : Pu.DriftOk (⟨d_num, d_den⟩ : Drift) = b) :
    Calls Try.prog 92 #[.agg #[.int .i64 d_num, .int .i64 d_den]] w (Ret w (.bool b)) := by subst hb; exact c_spec_DriftOk d_num d_den w

-- impl.DriftOk
set_option maxHeartbeats 1000000 in
set_option maxRecDepth 100000 in
theorem c_impl_DriftOk (d_num : Int) (d_den : Int) (w : World)   :
    Calls Try.prog 96 #[.agg #[.int .i64 d_num, .int .i64 d_den]] w (Ret w (.bool (Pu.DriftOk (⟨d_num, d_den⟩ : Drift)))) := by
  go_enter Try.func96, Try.ntmps96
  go_wp2_with (first
    | (go_at_call 62; refine (c_impl_in _ _ _ _ ).mono ?_; rintro e w' hr; (rcases Ret.bool hr with ⟨rfl, hX, g, d, rfl⟩ | ⟨rfl, hX, g, d, rfl⟩ <;> first | (have hB := (Pu.In_iff _ _ _).1 hX; (try dsimp only at hB); obtain ⟨hB1, hB2⟩ := hB; clear hr) | (have hB := Pu.no_of (Pu.In_iff _ _ _) hX; (try dsimp only at hB); clear hr) | clear hr))
    | go_region)
  all_goals refine bodyPost_ret (v := .bool (Pu.DriftOk (⟨d_num, d_den⟩ : Drift))) ?_ rfl (Ret.mk (by repeat (first | exact Below.refl _ _ | apply below_alloc | apply below_junk | apply below_drew)))
  all_goals first | (simp [results, Try.results96, go_sem, Pu.DriftOk, Pu.In, *]; done) | (simp [results, Try.results96, go_sem, Pu.DriftOk, Pu.In, *]; omega) | (go_light; simp [results, Try.results96, go_sem, Pu.DriftOk, Pu.In, *]; intros; exfalso; omega) | (go_light; simp [results, Try.results96, go_sem, Pu.DriftOk, Pu.In, *]; (repeat' split) <;> first | omega | (simp; done) | (simp_all; done)) | (go_light; simp_all [results, Try.results96, go_sem, Pu.DriftOk, Pu.In, ]; done) | (go_light; simp_all [results, Try.results96, go_sem, Pu.DriftOk, Pu.In, ]; omega)
theorem c_impl_DriftOk_b (d_num : Int) (d_den : Int) (w : World) (b : Bool) (hb : Pu.DriftOk (⟨d_num, d_den⟩ : Drift) = b) :
    Calls Try.prog 96 #[.agg #[.int .i64 d_num, .int .i64 d_den]] w (Ret w (.bool b)) := by subst hb; exact c_impl_DriftOk d_num d_den w

-- spec.l2Time
set_option maxHeartbeats 1000000 in
set_option maxRecDepth 100000 in
theorem c_spec_l2Time (t : Int) (w : World)   :
    Calls Try.prog 53 #[.int .i64 t] w (Ret w (.bool (Pu.isTime t))) := by
  go_enter Try.func53, Try.ntmps53
  go_wp2_with (first
    | (go_at_call 59; refine (c_spec_l1In _ _ _ _ ).mono ?_; rintro e w' hr; (rcases Ret.bool hr with ⟨rfl, hX, g, d, rfl⟩ | ⟨rfl, hX, g, d, rfl⟩ <;> first | (have hB := (Pu.In_iff _ _ _).1 hX; (try dsimp only at hB); obtain ⟨hB1, hB2⟩ := hB; clear hr) | (have hB := Pu.no_of (Pu.In_iff _ _ _) hX; (try dsimp only at hB); clear hr) | clear hr))
    | go_region)
  all_goals refine bodyPost_ret (v := .bool (Pu.isTime t)) ?_ rfl (Ret.mk (by repeat (first | exact Below.refl _ _ | apply below_alloc | apply below_junk | apply below_drew)))
  all_goals first | (simp [results, Try.results53, go_sem, Pu.isTime, Pu.In, *]; done) | (simp [results, Try.results53, go_sem, Pu.isTime, Pu.In, *]; omega) | (go_light; simp [results, Try.results53, go_sem, Pu.isTime, Pu.In, *]; intros; exfalso; omega) | (go_light; simp [results, Try.results53, go_sem, Pu.isTime, Pu.In, *]; (repeat' split) <;> first | omega | (simp; done) | (simp_all; done)) | (go_light; simp_all [results, Try.results53, go_sem, Pu.isTime, Pu.In, ]; done) | (go_light; simp_all [results, Try.results53, go_sem, Pu.isTime, Pu.In, ]; omega)
theorem c_spec_l2Time_b (t : Int) (w : World) (b : Bool) (hb : Pu.isTime t = b) :
    Calls Try.prog 53 #[.int .i64 t] w (Ret w (.bool b)) := by subst hb; exact c_spec_l2Time t w

-- impl.isTime
set_option maxHeartbeats 1000000 in
set_option maxRecDepth 100000 in
theorem c_impl_isTime (t : Int) (w : World)   :
    Calls Try.prog 57 #[.int .i64 t] w (Ret w (.bool (Pu.isTime t))) := by
  go_enter Try.func57, Try.ntmps57
  go_wp2_with (first
    | (go_at_call 62; refine (c_impl_in _ _ _ _ ).mono ?_; rintro e w' hr; (rcases Ret.bool hr with ⟨rfl, hX, g, d, rfl⟩ | ⟨rfl, hX, g, d, rfl⟩ <;> first | (have hB := (Pu.In_iff _ _ _).1 hX; (try dsimp only at hB); obtain ⟨hB1, hB2⟩ := hB; clear hr) | (have hB := Pu.no_of (Pu.In_iff _ _ _) hX; (try dsimp only at hB); clear hr) | clear hr))
    | go_region)
  all_goals refine bodyPost_ret (v := .bool (Pu.isTime t)) ?_ rfl (Ret.mk (by repeat (first | exact Below.refl _ _ | apply below_alloc | apply below_junk | apply below_drew)))
  all_goals first | (simp [results, Try.results57, go_sem, Pu.isTime, Pu.In, *]; done) | (simp [results, Try.results57, go_sem, Pu.isTime, Pu.In, *]; omega) | (go_light; simp [results, Try.results57, go_sem, Pu.isTime, Pu.In, *]; intros; exfalso; omega) | (go_light; simp [results, Try.results57, go_sem, Pu.isTime, Pu.In, *]; (repeat' split) <;> first | omega | (simp; done) | (simp_all; done)) | (go_light; simp_all [results, Try.results57, go_sem, Pu.isTime, Pu.In, ]; done) | (go_light; simp_all [results, Try.results57, go_sem, Pu.isTime, Pu.In, ]; omega)
theorem c_impl_isTime_b (t : Int) (w : World) (b : Bool) (hb : Pu.isTime t = b) :
    Calls Try.prog 57 #[.int .i64 t] w (Ret w (.bool b)) := by subst hb; exact c_impl_isTime t w

-- spec.l4Node
set_option maxHeartbeats 1000000 in
set_option maxRecDepth 100000 in
theorem c_spec_l4Node (t : Int) (w : World)   :
    Calls Try.prog 52 #[.int .i64 t] w (Ret w (.bool (Pu.isNode t))) := by
  go_enter Try.func52, Try.ntmps52
  go_wp2_with (first
    | (go_at_call 59; refine (c_spec_l1In _ _ _ _ ).mono ?_; rintro e w' hr; (rcases Ret.bool hr with ⟨rfl, hX, g, d, rfl⟩ | ⟨rfl, hX, g, d, rfl⟩ <;> first | (have hB := (Pu.In_iff _ _ _).1 hX; (try dsimp only at hB); obtain ⟨hB1, hB2⟩ := hB; clear hr) | (have hB := Pu.no_of (Pu.In_iff _ _ _) hX; (try dsimp only at hB); clear hr) | clear hr))
    | go_region)
  all_goals refine bodyPost_ret (v := .bool (Pu.isNode t)) ?_ rfl (Ret.mk (by repeat (first | exact Below.refl _ _ | apply below_alloc | apply below_junk | apply below_drew)))
  all_goals first | (simp [results, Try.results52, go_sem, Pu.isNode, Pu.In, *]; done) | (simp [results, Try.results52, go_sem, Pu.isNode, Pu.In, *]; omega) | (go_light; simp [results, Try.results52, go_sem, Pu.isNode, Pu.In, *]; intros; exfalso; omega) | (go_light; simp [results, Try.results52, go_sem, Pu.isNode, Pu.In, *]; (repeat' split) <;> first | omega | (simp; done) | (simp_all; done)) | (go_light; simp_all [results, Try.results52, go_sem, Pu.isNode, Pu.In, ]; done) | (go_light; simp_all [results, Try.results52, go_sem, Pu.isNode, Pu.In, ]; omega)
theorem c_spec_l4Node_b (t : Int) (w : World) (b : Bool) (hb : Pu.isNode t = b) :
    Calls Try.prog 52 #[.int .i64 t] w (Ret w (.bool b)) := by subst hb; exact c_spec_l4Node t w

-- impl.isNode
set_option maxHeartbeats 1000000 in
set_option maxRecDepth 100000 in
theorem c_impl_isNode (t : Int) (w : World)   :
    Calls Try.prog 55 #[.int .i64 t] w (Ret w (.bool (Pu.isNode t))) := by
  go_enter Try.func55, Try.ntmps55
  go_wp2_with (first
    | (go_at_call 62; refine (c_impl_in _ _ _ _ ).mono ?_; rintro e w' hr; (rcases Ret.bool hr with ⟨rfl, hX, g, d, rfl⟩ | ⟨rfl, hX, g, d, rfl⟩ <;> first | (have hB := (Pu.In_iff _ _ _).1 hX; (try dsimp only at hB); obtain ⟨hB1, hB2⟩ := hB; clear hr) | (have hB := Pu.no_of (Pu.In_iff _ _ _) hX; (try dsimp only at hB); clear hr) | clear hr))
    | go_region)
  all_goals refine bodyPost_ret (v := .bool (Pu.isNode t)) ?_ rfl (Ret.mk (by repeat (first | exact Below.refl _ _ | apply below_alloc | apply below_junk | apply below_drew)))
  all_goals first | (simp [results, Try.results55, go_sem, Pu.isNode, Pu.In, *]; done) | (simp [results, Try.results55, go_sem, Pu.isNode, Pu.In, *]; omega) | (go_light; simp [results, Try.results55, go_sem, Pu.isNode, Pu.In, *]; intros; exfalso; omega) | (go_light; simp [results, Try.results55, go_sem, Pu.isNode, Pu.In, *]; (repeat' split) <;> first | omega | (simp; done) | (simp_all; done)) | (go_light; simp_all [results, Try.results55, go_sem, Pu.isNode, Pu.In, ]; done) | (go_light; simp_all [results, Try.results55, go_sem, Pu.isNode, Pu.In, ]; omega)
theorem c_impl_isNode_b (t : Int) (w : World) (b : Bool) (hb : Pu.isNode t = b) :
    Calls Try.prog 55 #[.int .i64 t] w (Ret w (.bool b)) := by subst hb; exact c_impl_isNode t w

-- spec.l1Down
set_option maxHeartbeats 1000000 in
set_option maxRecDepth 100000 in
theorem c_spec_l1Down (x : Int) (n : Int) (w : World)  (hn : 1 ≤ n) (hx0 : -5000000000000000000 ≤ x) (hx1 : x ≤ 5000000000000000000) :
    Calls Try.prog 121 #[.int .i64 x, .int .i64 n] w (Ret w (.int .i64 (x / n))) := by
  have hq := Pu.tdiv_bd x n 5000000000000000000 hn hx0 hx1
  obtain ⟨hq0, hq1⟩ := hq
  have Hc := Lib.hid (Pu.tdiv_cases x n hn)
  go_enter Try.func121, Try.ntmps121
  go_wp2_with (first
    | go_region)
  all_goals refine bodyPost_ret (v := .int .i64 (x / n)) ?_ rfl (Ret.mk (by repeat (first | exact Below.refl _ _ | apply below_alloc | apply below_junk | apply below_drew)))
  all_goals (have hc := Hc.out; first | (simp [results, Try.results121, go_sem]; omega) | (simp [results, Try.results121, go_sem]; done))

-- impl.down
set_option maxHeartbeats 1000000 in
set_option maxRecDepth 100000 in
theorem c_impl_down (x : Int) (n : Int) (w : World)  (hn : 1 ≤ n) (hx0 : -5000000000000000000 ≤ x) (hx1 : x ≤ 5000000000000000000) :
    Calls Try.prog 126 #[.int .i64 x, .int .i64 n] w (Ret w (.int .i64 (x / n))) := by
  have hq := Pu.tdiv_bd x n 5000000000000000000 hn hx0 hx1
  obtain ⟨hq0, hq1⟩ := hq
  have Hc := Lib.hid (Pu.tdiv_cases x n hn)
  go_enter Try.func126, Try.ntmps126
  go_wp2_with (first
    | go_region)
  all_goals refine bodyPost_ret (v := .int .i64 (x / n)) ?_ rfl (Ret.mk (by repeat (first | exact Below.refl _ _ | apply below_alloc | apply below_junk | apply below_drew)))
  all_goals (have hc := Hc.out; first | (simp [results, Try.results126, go_sem]; omega) | (simp [results, Try.results126, go_sem]; done))

-- spec.l1Up
set_option maxHeartbeats 1000000 in
set_option maxRecDepth 100000 in
theorem c_spec_l1Up (x : Int) (n : Int) (w : World)  (hn : 1 ≤ n) (hx0 : -5000000000000000000 ≤ x) (hx1 : x ≤ 5000000000000000000) :
    Calls Try.prog 120 #[.int .i64 x, .int .i64 n] w (Ret w (.int .i64 (Pu.up x n))) := by
  have hq := Pu.ediv_bd (-x) n 5000000000000000000 hn (by omega) (by omega)
  obtain ⟨hq0, hq1⟩ := hq
  go_enter Try.func120, Try.ntmps120
  go_wp2_with (first
    | (go_at_call 121; refine (c_spec_l1Down _ _ _ (by omega) (by omega) (by omega)).mono ?_; rintro e w' hr; obtain ⟨rfl, g, d, rfl⟩ := Ret.open hr; clear hr)
    | go_region)
  all_goals refine bodyPost_ret (v := .int .i64 (Pu.up x n)) ?_ rfl (Ret.mk (by repeat (first | exact Below.refl _ _ | apply below_alloc | apply below_junk | apply below_drew)))
  all_goals first | (simp [results, Try.results120, go_sem, Pu.up, *]; done) | (simp [results, Try.results120, go_sem, Pu.up, *]; omega) | (go_light; simp [results, Try.results120, go_sem, Pu.up, *]; intros; exfalso; omega) | (go_light; simp [results, Try.results120, go_sem, Pu.up, *]; (repeat' split) <;> first | omega | (simp; done) | (simp_all; done)) | (go_light; simp_all [results, Try.results120, go_sem, Pu.up, ]; done) | (go_light; simp_all [results, Try.results120, go_sem, Pu.up, ]; omega)

-- impl.up
set_option maxHeartbeats 1000000 in
set_option maxRecDepth 100000 in
theorem c_impl_up (x : Int) (n : Int) (w : World)  (hn : 1 ≤ n) (hx0 : -5000000000000000000 ≤ x) (hx1 : x ≤ 5000000000000000000) :
    Calls Try.prog 124 #[.int .i64 x, .int .i64 n] w (Ret w (.int .i64 (Pu.up x n))) := by
  have hq := Pu.ediv_bd (-x) n 5000000000000000000 hn (by omega) (by omega)
  obtain ⟨hq0, hq1⟩ := hq
  go_enter Try.func124, Try.ntmps124
  go_wp2_with (first
    | (go_at_call 126; refine (c_impl_down _ _ _ (by omega) (by omega) (by omega)).mono ?_; rintro e w' hr; obtain ⟨rfl, g, d, rfl⟩ := Ret.open hr; clear hr)
    | go_region)
  all_goals refine bodyPost_ret (v := .int .i64 (Pu.up x n)) ?_ rfl (Ret.mk (by repeat (first | exact Below.refl _ _ | apply below_alloc | apply below_junk | apply below_drew)))
  all_goals first | (simp [results, Try.results124, go_sem, Pu.up, *]; done) | (simp [results, Try.results124, go_sem, Pu.up, *]; omega) | (go_light; simp [results, Try.results124, go_sem, Pu.up, *]; intros; exfalso; omega) | (go_light; simp [results, Try.results124, go_sem, Pu.up, *]; (repeat' split) <;> first | omega | (simp; done) | (simp_all; done)) | (go_light; simp_all [results, Try.results124, go_sem, Pu.up, ]; done) | (go_light; simp_all [results, Try.results124, go_sem, Pu.up, ]; omega)

-- spec.l2Told
set_option maxHeartbeats 1000000 in
set_option maxRecDepth 100000 in
theorem c_spec_l2Told (x : Int) (w : World)   :
    Calls Try.prog 119 #[.int .i64 x] w (Ret w (.tuple #[.int .i64 ((Pu.Told2 x).1), .bool ((Pu.Told2 x).2)])) := by
  go_enter Try.func119, Try.ntmps119
  go_wp2_with (first
    | go_region)
  all_goals refine bodyPost_ret (v := .tuple #[.int .i64 ((Pu.Told2 x).1), .bool ((Pu.Told2 x).2)]) ?_ rfl (Ret.mk (by repeat (first | exact Below.refl _ _ | apply below_alloc | apply below_junk | apply below_drew)))
  all_goals first | (simp [results, Try.results119, go_sem, Pu.Told2, *]; done) | (simp [results, Try.results119, go_sem, Pu.Told2, *]; omega) | (go_light; simp [results, Try.results119, go_sem, Pu.Told2, *]; intros; exfalso; omega) | (go_light; simp [results, Try.results119, go_sem, Pu.Told2, *]; (repeat' split) <;> first | omega | (simp; done) | (simp_all; done)) | (go_light; simp_all [results, Try.results119, go_sem, Pu.Told2, ]; done) | (go_light; simp_all [results, Try.results119, go_sem, Pu.Told2, ]; omega)

end Go.Proofs.Ytbfbcecghokpoaa
