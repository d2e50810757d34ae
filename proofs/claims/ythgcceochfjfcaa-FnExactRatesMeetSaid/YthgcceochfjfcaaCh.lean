/-
  Contracts of Go functions of this seat: what each call hands back, as a plain function of its arguments, and that nothing that was there has turned.
  No statement of the seat is proved here.
-/
import Derived.Test.YthgcceochfjfcaaProg
import Derived.Test.YthgcceochfjfcaaPure
import Derived.Test.YthgcceochfjfcaaActs
import Derived.Deep.Light
import Derived.RegionTactic
import Derived.Deep.RegionWith
import Derived.BigRegion
import Derived.ChangeAlike
import Derived.Test.YthgcceochfjfcaaCa
import Derived.Test.YthgcceochfjfcaaCl
import Derived.Test.YthgcceochfjfcaaCf
import Derived.Test.YthgcceochfjfcaaCg
import Derived.Test.YthgcceochfjfcaaFracs
namespace Go.Proofs.Ythgcceochfjfcaa
open Go.RowKit
set_option linter.unusedVariables false
set_option linter.unusedSimpArgs false

-- spec.RateOfDrift
set_option maxHeartbeats 1000000 in
set_option maxRecDepth 100000 in
theorem c_spec_RateOfDrift (d_num : Int) (d_den : Int) (w : World)  :
    Calls Try.prog 38 #[.agg #[.int .i64 d_num, .int .i64 d_den]] w (Ret w (.tuple #[.agg #[.int .i64 (((Pu.RateOfDrift (⟨d_num, d_den⟩ : Drift)).1).num), .int .i64 (((Pu.RateOfDrift (⟨d_num, d_den⟩ : Drift)).1).den)], .agg #[.int .i64 (((Pu.RateOfDrift (⟨d_num, d_den⟩ : Drift)).2.1).num), .int .i64 (((Pu.RateOfDrift (⟨d_num, d_den⟩ : Drift)).2.1).den)], .bool ((Pu.RateOfDrift (⟨d_num, d_den⟩ : Drift)).2.2)])) := by
  go_enter Try.func38, Try.ntmps38
  go_wp2_with (first
    | (go_at_call 69; refine (c_spec_DriftOk _ _ _ ).mono ?_; rintro e w' hr; (rcases Ret.bool hr with ⟨rfl, hX, g, d, rfl⟩ | ⟨rfl, hX, g, d, rfl⟩ <;> first | (have hB := (Pu.DriftOk_iff _).1 hX; (try dsimp only at hB); obtain ⟨hB1, hB2, hB3, hB4, hB5⟩ := hB; clear hr) | clear hr))
    | (go_at_call 35; refine (c_spec_FracOf _ _ _ ).mono ?_; rintro e w' hr; obtain ⟨rfl, g, d, rfl⟩ := Ret.open hr; clear hr)
    | go_region)
  all_goals refine bodyPost_ret (v := .tuple #[.agg #[.int .i64 (((Pu.RateOfDrift (⟨d_num, d_den⟩ : Drift)).1).num), .int .i64 (((Pu.RateOfDrift (⟨d_num, d_den⟩ : Drift)).1).den)], .agg #[.int .i64 (((Pu.RateOfDrift (⟨d_num, d_den⟩ : Drift)).2.1).num), .int .i64 (((Pu.RateOfDrift (⟨d_num, d_den⟩ : Drift)).2.1).den)], .bool ((Pu.RateOfDrift (⟨d_num, d_den⟩ : Drift)).2.2)]) ?_ rfl (Ret.mk (by repeat (first | exact Below.refl _ _ | apply below_alloc | apply below_junk | apply below_drew)))
  all_goals first | (simp [results, Try.results38, go_sem, Pu.RateOfDrift, *]; done) | (simp [results, Try.results38, go_sem, Pu.RateOfDrift, *]; omega) | (go_light; simp [results, Try.results38, go_sem, Pu.RateOfDrift, *]; intros; exfalso; omega) | (go_light; simp [results, Try.results38, go_sem, Pu.RateOfDrift, *]; (repeat' split) <;> first | omega | (simp; done) | (simp_all; done)) | (go_light; simp_all [results, Try.results38, go_sem, Pu.RateOfDrift, ]; done) | (go_light; simp_all [results, Try.results38, go_sem, Pu.RateOfDrift, ]; omega)

-- impl.RateOfDrift
set_option maxHeartbeats 1000000 in
set_option maxRecDepth 100000 in
theorem c_impl_RateOfDrift (d_num : Int) (d_den : Int) (w : World)  :
    Calls Try.prog 40 #[.agg #[.int .i64 d_num, .int .i64 d_den]] w (Ret w (.tuple #[.agg #[.int .i64 (((Pu.RateOfDrift (⟨d_num, d_den⟩ : Drift)).1).num), .int .i64 (((Pu.RateOfDrift (⟨d_num, d_den⟩ : Drift)).1).den)], .agg #[.int .i64 (((Pu.RateOfDrift (⟨d_num, d_den⟩ : Drift)).2.1).num), .int .i64 (((Pu.RateOfDrift (⟨d_num, d_den⟩ : Drift)).2.1).den)], .bool ((Pu.RateOfDrift (⟨d_num, d_den⟩ : Drift)).2.2)])) := by
  go_enter Try.func40, Try.ntmps40
  go_wp2_with (first
    | (go_at_call 70; refine (c_impl_DriftOk _ _ _ ).mono ?_; rintro e w' hr; (rcases Ret.bool hr with ⟨rfl, hX, g, d, rfl⟩ | ⟨rfl, hX, g, d, rfl⟩ <;> first | (have hB := (Pu.DriftOk_iff _).1 hX; (try dsimp only at hB); obtain ⟨hB1, hB2, hB3, hB4, hB5⟩ := hB; clear hr) | clear hr))
    | (go_at_call 36; refine (c_impl_FracOf _ _ _ ).mono ?_; rintro e w' hr; obtain ⟨rfl, g, d, rfl⟩ := Ret.open hr; clear hr)
    | go_region)
  all_goals refine bodyPost_ret (v := .tuple #[.agg #[.int .i64 (((Pu.RateOfDrift (⟨d_num, d_den⟩ : Drift)).1).num), .int .i64 (((Pu.RateOfDrift (⟨d_num, d_den⟩ : Drift)).1).den)], .agg #[.int .i64 (((Pu.RateOfDrift (⟨d_num, d_den⟩ : Drift)).2.1).num), .int .i64 (((Pu.RateOfDrift (⟨d_num, d_den⟩ : Drift)).2.1).den)], .bool ((Pu.RateOfDrift (⟨d_num, d_den⟩ : Drift)).2.2)]) ?_ rfl (Ret.mk (by repeat (first | exact Below.refl _ _ | apply below_alloc | apply below_junk | apply below_drew)))
  all_goals first | (simp [results, Try.results40, go_sem, Pu.RateOfDrift, *]; done) | (simp [results, Try.results40, go_sem, Pu.RateOfDrift, *]; omega) | (go_light; simp [results, Try.results40, go_sem, Pu.RateOfDrift, *]; intros; exfalso; omega) | (go_light; simp [results, Try.results40, go_sem, Pu.RateOfDrift, *]; (repeat' split) <;> first | omega | (simp; done) | (simp_all; done)) | (go_light; simp_all [results, Try.results40, go_sem, Pu.RateOfDrift, ]; done) | (go_light; simp_all [results, Try.results40, go_sem, Pu.RateOfDrift, ]; omega)

-- spec.RateOf
set_option maxHeartbeats 1000000 in
set_option maxRecDepth 100000 in
theorem c_spec_RateOf (a_lo : Int) (a_hi : Int) (ca : Int) (b_lo : Int) (b_hi : Int) (cb : Int) (w : World)  :
    Calls Try.prog 41 #[.agg #[.int .i64 a_lo, .int .i64 a_hi], .int .i64 ca, .agg #[.int .i64 b_lo, .int .i64 b_hi], .int .i64 cb] w (Ret w (.tuple #[.agg #[.int .i64 (((Pu.RateOf (⟨a_lo, a_hi⟩ : Ival) ca (⟨b_lo, b_hi⟩ : Ival) cb).1).num), .int .i64 (((Pu.RateOf (⟨a_lo, a_hi⟩ : Ival) ca (⟨b_lo, b_hi⟩ : Ival) cb).1).den)], .agg #[.int .i64 (((Pu.RateOf (⟨a_lo, a_hi⟩ : Ival) ca (⟨b_lo, b_hi⟩ : Ival) cb).2.1).num), .int .i64 (((Pu.RateOf (⟨a_lo, a_hi⟩ : Ival) ca (⟨b_lo, b_hi⟩ : Ival) cb).2.1).den)], .bool ((Pu.RateOf (⟨a_lo, a_hi⟩ : Ival) ca (⟨b_lo, b_hi⟩ : Ival) cb).2.2)])) := by
  go_enter Try.func41, Try.ntmps41
  go_wp2_with (first
    | (go_at_call 54; refine (c_spec_IvalOk _ _ _ ).mono ?_; rintro e w' hr; (rcases Ret.bool hr with ⟨rfl, hX, g, d, rfl⟩ | ⟨rfl, hX, g, d, rfl⟩ <;> first | (have hB := (Pu.IvalOk_iff _).1 hX; (try dsimp only at hB); obtain ⟨hB1, hB2, hB3⟩ := hB; clear hr) | clear hr))
    | (go_at_call 35; refine (c_spec_FracOf _ _ _ ).mono ?_; rintro e w' hr; obtain ⟨rfl, g, d, rfl⟩ := Ret.open hr; clear hr)
    | (go_at_call 55; refine (c_spec_l1Max _ _ _ ).mono ?_; rintro e w' hr; obtain ⟨rfl, g, d, rfl⟩ := Ret.open hr; clear hr)
    | go_region)
  all_goals refine bodyPost_ret (v := .tuple #[.agg #[.int .i64 (((Pu.RateOf (⟨a_lo, a_hi⟩ : Ival) ca (⟨b_lo, b_hi⟩ : Ival) cb).1).num), .int .i64 (((Pu.RateOf (⟨a_lo, a_hi⟩ : Ival) ca (⟨b_lo, b_hi⟩ : Ival) cb).1).den)], .agg #[.int .i64 (((Pu.RateOf (⟨a_lo, a_hi⟩ : Ival) ca (⟨b_lo, b_hi⟩ : Ival) cb).2.1).num), .int .i64 (((Pu.RateOf (⟨a_lo, a_hi⟩ : Ival) ca (⟨b_lo, b_hi⟩ : Ival) cb).2.1).den)], .bool ((Pu.RateOf (⟨a_lo, a_hi⟩ : Ival) ca (⟨b_lo, b_hi⟩ : Ival) cb).2.2)]) ?_ rfl (Ret.mk (by repeat (first | exact Below.refl _ _ | apply below_alloc | apply below_junk | apply below_drew)))
  all_goals first | (simp [results, Try.results41, go_sem, Pu.RateOf, *]; done) | (simp [results, Try.results41, go_sem, Pu.RateOf, *]; omega) | (go_light; simp [results, Try.results41, go_sem, Pu.RateOf, *]; intros; exfalso; omega) | (go_light; simp [results, Try.results41, go_sem, Pu.RateOf, *]; (repeat' split) <;> first | omega | (simp; done) | (simp_all; done)) | (go_light; simp_all [results, Try.results41, go_sem, Pu.RateOf, ]; done) | (go_light; simp_all [results, Try.results41, go_sem, Pu.RateOf, ]; omega)

-- impl.RateOf
set_option maxHeartbeats 1000000 in
set_option maxRecDepth 100000 in
theorem c_impl_RateOf (a_lo : Int) (a_hi : Int) (ca : Int) (b_lo : Int) (b_hi : Int) (cb : Int) (w : World)  :
    Calls Try.prog 42 #[.agg #[.int .i64 a_lo, .int .i64 a_hi], .int .i64 ca, .agg #[.int .i64 b_lo, .int .i64 b_hi], .int .i64 cb] w (Ret w (.tuple #[.agg #[.int .i64 (((Pu.RateOf (⟨a_lo, a_hi⟩ : Ival) ca (⟨b_lo, b_hi⟩ : Ival) cb).1).num), .int .i64 (((Pu.RateOf (⟨a_lo, a_hi⟩ : Ival) ca (⟨b_lo, b_hi⟩ : Ival) cb).1).den)], .agg #[.int .i64 (((Pu.RateOf (⟨a_lo, a_hi⟩ : Ival) ca (⟨b_lo, b_hi⟩ : Ival) cb).2.1).num), .int .i64 (((Pu.RateOf (⟨a_lo, a_hi⟩ : Ival) ca (⟨b_lo, b_hi⟩ : Ival) cb).2.1).den)], .bool ((Pu.RateOf (⟨a_lo, a_hi⟩ : Ival) ca (⟨b_lo, b_hi⟩ : Ival) cb).2.2)])) := by
  go_enter Try.func42, Try.ntmps42
  go_wp2_with (first
    | (go_at_call 56; refine (c_impl_IvalOk _ _ _ ).mono ?_; rintro e w' hr; (rcases Ret.bool hr with ⟨rfl, hX, g, d, rfl⟩ | ⟨rfl, hX, g, d, rfl⟩ <;> first | (have hB := (Pu.IvalOk_iff _).1 hX; (try dsimp only at hB); obtain ⟨hB1, hB2, hB3⟩ := hB; clear hr) | clear hr))
    | (go_at_call 36; refine (c_impl_FracOf _ _ _ ).mono ?_; rintro e w' hr; obtain ⟨rfl, g, d, rfl⟩ := Ret.open hr; clear hr)
    | go_region)
  all_goals refine bodyPost_ret (v := .tuple #[.agg #[.int .i64 (((Pu.RateOf (⟨a_lo, a_hi⟩ : Ival) ca (⟨b_lo, b_hi⟩ : Ival) cb).1).num), .int .i64 (((Pu.RateOf (⟨a_lo, a_hi⟩ : Ival) ca (⟨b_lo, b_hi⟩ : Ival) cb).1).den)], .agg #[.int .i64 (((Pu.RateOf (⟨a_lo, a_hi⟩ : Ival) ca (⟨b_lo, b_hi⟩ : Ival) cb).2.1).num), .int .i64 (((Pu.RateOf (⟨a_lo, a_hi⟩ : Ival) ca (⟨b_lo, b_hi⟩ : Ival) cb).2.1).den)], .bool ((Pu.RateOf (⟨a_lo, a_hi⟩ : Ival) ca (⟨b_lo, b_hi⟩ : Ival) cb).2.2)]) ?_ rfl (Ret.mk (by repeat (first | exact Below.refl _ _ | apply below_alloc | apply below_junk | apply below_drew)))
  all_goals first | (simp [results, Try.results42, go_sem, Pu.RateOf, *]; done) | (simp [results, Try.results42, go_sem, Pu.RateOf, *]; omega) | (go_light; simp [results, Try.results42, go_sem, Pu.RateOf, *]; intros; exfalso; omega) | (go_light; simp [results, Try.results42, go_sem, Pu.RateOf, *]; (repeat' split) <;> first | omega | (simp; done) | (simp_all; done)) | (go_light; simp_all [results, Try.results42, go_sem, Pu.RateOf, ]; done) | (go_light; simp_all [results, Try.results42, go_sem, Pu.RateOf, ]; omega)

-- spec.RateCarry
set_option maxHeartbeats 1000000 in
set_option maxRecDepth 100000 in
theorem c_spec_RateCarry (lo_num : Int) (lo_den : Int) (hi_num : Int) (hi_den : Int) (count : Int) (w : World)  :
    Calls Try.prog 43 #[.agg #[.int .i64 lo_num, .int .i64 lo_den], .agg #[.int .i64 hi_num, .int .i64 hi_den], .int .i64 count] w (Ret w (.tuple #[.agg #[.int .i64 (((Pu.RateCarry (⟨lo_num, lo_den⟩ : Frac) (⟨hi_num, hi_den⟩ : Frac) count).1).lo), .int .i64 (((Pu.RateCarry (⟨lo_num, lo_den⟩ : Frac) (⟨hi_num, hi_den⟩ : Frac) count).1).hi)], .bool ((Pu.RateCarry (⟨lo_num, lo_den⟩ : Frac) (⟨hi_num, hi_den⟩ : Frac) count).2)])) := by
  have hm1 := Pu.mulDen count lo_num
  have hm2 := Pu.mulDen count hi_num
  go_enter Try.func43, Try.ntmps43
  go_wp2_with (first
    | ((with_reducible refine wp_region_tail (id := 3) 17 (by kernel_rfl) (by kernel_rfl) ?_); (simp only [List.take_succ_cons, List.take_zero, List.drop_succ_cons, List.drop_zero]); (repeat (go_big_quiet_step ((first | (go_at_call 72; exact calm_of (c_spec_l1Up _ _ _ (by omega) (by omega) (by omega))) | (go_at_call 73; exact calm_of (c_spec_l1Down _ _ _ (by omega) (by omega) (by omega))) | (go_at_call 71; exact calm_of (c_spec_l1Told _ _ _ )))))); refine wpQuiet_nil ?_; intro g d)
    | (go_at_call 32; refine (c_spec_FracOk _ _ _ ).mono ?_; rintro e w' hr; (rcases Ret.bool hr with ⟨rfl, hX, g, d, rfl⟩ | ⟨rfl, hX, g, d, rfl⟩ <;> first | (have hB := Pu.FracOk_bd hX; (try dsimp only at hB); obtain ⟨hB1, hB2, hB3, hB4⟩ := hB; clear hr) | clear hr))
    | (go_at_call 52; refine (c_spec_l1In _ _ _ _ ).mono ?_; rintro e w' hr; (rcases Ret.bool hr with ⟨rfl, hX, g, d, rfl⟩ | ⟨rfl, hX, g, d, rfl⟩ <;> first | (have hB := (Pu.In_iff _ _ _).1 hX; (try dsimp only at hB); obtain ⟨hB1, hB2⟩ := hB; clear hr) | (have hB := Pu.no_of (Pu.In_iff _ _ _) hX; (try dsimp only at hB); clear hr) | clear hr))
    | (go_at_call 71; refine (c_spec_l1Told _ _ _ ).mono ?_; rintro e w' hr; obtain ⟨rfl, g, d, rfl⟩ := Ret.open hr; clear hr)
    | (go_at_call 72; refine (c_spec_l1Up _ _ _ (by omega) (by omega) (by omega)).mono ?_; rintro e w' hr; obtain ⟨rfl, g, d, rfl⟩ := Ret.open hr; clear hr)
    | (go_at_call 73; refine (c_spec_l1Down _ _ _ (by omega) (by omega) (by omega)).mono ?_; rintro e w' hr; obtain ⟨rfl, g, d, rfl⟩ := Ret.open hr; clear hr)
    | go_region)
  all_goals refine bodyPost_ret (v := .tuple #[.agg #[.int .i64 (((Pu.RateCarry (⟨lo_num, lo_den⟩ : Frac) (⟨hi_num, hi_den⟩ : Frac) count).1).lo), .int .i64 (((Pu.RateCarry (⟨lo_num, lo_den⟩ : Frac) (⟨hi_num, hi_den⟩ : Frac) count).1).hi)], .bool ((Pu.RateCarry (⟨lo_num, lo_den⟩ : Frac) (⟨hi_num, hi_den⟩ : Frac) count).2)]) ?_ rfl (Ret.mk (by repeat (first | exact Below.refl _ _ | apply below_alloc | apply below_junk | apply below_drew)))
  all_goals first | (simp [results, Try.results43, go_sem, Pu.RateCarry, *]; done) | (simp [results, Try.results43, go_sem, Pu.RateCarry, *]; omega) | (go_light; simp [results, Try.results43, go_sem, Pu.RateCarry, *]; intros; exfalso; omega) | (go_light; simp [results, Try.results43, go_sem, Pu.RateCarry, *]; (repeat' split) <;> first | omega | (simp; done) | (simp_all; done)) | (go_light; simp_all [results, Try.results43, go_sem, Pu.RateCarry, ]; done) | (go_light; simp_all [results, Try.results43, go_sem, Pu.RateCarry, ]; omega)

-- impl.RateCarry
set_option maxHeartbeats 1000000 in
set_option maxRecDepth 100000 in
theorem c_impl_RateCarry (lo_num : Int) (lo_den : Int) (hi_num : Int) (hi_den : Int) (count : Int) (w : World)  :
    Calls Try.prog 44 #[.agg #[.int .i64 lo_num, .int .i64 lo_den], .agg #[.int .i64 hi_num, .int .i64 hi_den], .int .i64 count] w (Ret w (.tuple #[.agg #[.int .i64 (((Pu.RateCarry (⟨lo_num, lo_den⟩ : Frac) (⟨hi_num, hi_den⟩ : Frac) count).1).lo), .int .i64 (((Pu.RateCarry (⟨lo_num, lo_den⟩ : Frac) (⟨hi_num, hi_den⟩ : Frac) count).1).hi)], .bool ((Pu.RateCarry (⟨lo_num, lo_den⟩ : Frac) (⟨hi_num, hi_den⟩ : Frac) count).2)])) := by
  have hm1 := Pu.mulDen count lo_num
  have hm2 := Pu.mulDen count hi_num
  go_enter Try.func44, Try.ntmps44
  go_wp2_with (first
    | ((with_reducible refine wp_region_tail (id := 3) 17 (by kernel_rfl) (by kernel_rfl) ?_); (simp only [List.take_succ_cons, List.take_zero, List.drop_succ_cons, List.drop_zero]); (repeat (go_big_quiet_step ((first | (go_at_call 75; exact calm_of (c_impl_up _ _ _ (by omega) (by omega) (by omega))) | (go_at_call 76; exact calm_of (c_impl_down _ _ _ (by omega) (by omega) (by omega))) | (go_at_call 74; exact calm_of (c_impl_ival _ _ _ )))))); refine wpQuiet_nil ?_; intro g d)
    | (go_at_call 34; refine (c_impl_FracOk _ _ _ ).mono ?_; rintro e w' hr; (rcases Ret.bool hr with ⟨rfl, hX, g, d, rfl⟩ | ⟨rfl, hX, g, d, rfl⟩ <;> first | (have hB := Pu.FracOk_bd hX; (try dsimp only at hB); obtain ⟨hB1, hB2, hB3, hB4⟩ := hB; clear hr) | clear hr))
    | (go_at_call 53; refine (c_impl_in _ _ _ _ ).mono ?_; rintro e w' hr; (rcases Ret.bool hr with ⟨rfl, hX, g, d, rfl⟩ | ⟨rfl, hX, g, d, rfl⟩ <;> first | (have hB := (Pu.In_iff _ _ _).1 hX; (try dsimp only at hB); obtain ⟨hB1, hB2⟩ := hB; clear hr) | (have hB := Pu.no_of (Pu.In_iff _ _ _) hX; (try dsimp only at hB); clear hr) | clear hr))
    | (go_at_call 74; refine (c_impl_ival _ _ _ ).mono ?_; rintro e w' hr; obtain ⟨rfl, g, d, rfl⟩ := Ret.open hr; clear hr)
    | (go_at_call 75; refine (c_impl_up _ _ _ (by omega) (by omega) (by omega)).mono ?_; rintro e w' hr; obtain ⟨rfl, g, d, rfl⟩ := Ret.open hr; clear hr)
    | (go_at_call 76; refine (c_impl_down _ _ _ (by omega) (by omega) (by omega)).mono ?_; rintro e w' hr; obtain ⟨rfl, g, d, rfl⟩ := Ret.open hr; clear hr)
    | go_region)
  all_goals refine bodyPost_ret (v := .tuple #[.agg #[.int .i64 (((Pu.RateCarry (⟨lo_num, lo_den⟩ : Frac) (⟨hi_num, hi_den⟩ : Frac) count).1).lo), .int .i64 (((Pu.RateCarry (⟨lo_num, lo_den⟩ : Frac) (⟨hi_num, hi_den⟩ : Frac) count).1).hi)], .bool ((Pu.RateCarry (⟨lo_num, lo_den⟩ : Frac) (⟨hi_num, hi_den⟩ : Frac) count).2)]) ?_ rfl (Ret.mk (by repeat (first | exact Below.refl _ _ | apply below_alloc | apply below_junk | apply below_drew)))
  all_goals first | (simp [results, Try.results44, go_sem, Pu.RateCarry, *]; done) | (simp [results, Try.results44, go_sem, Pu.RateCarry, *]; omega) | (go_light; simp [results, Try.results44, go_sem, Pu.RateCarry, *]; intros; exfalso; omega) | (go_light; simp [results, Try.results44, go_sem, Pu.RateCarry, *]; (repeat' split) <;> first | omega | (simp; done) | (simp_all; done)) | (go_light; simp_all [results, Try.results44, go_sem, Pu.RateCarry, ]; done) | (go_light; simp_all [results, Try.results44, go_sem, Pu.RateCarry, ]; omega)

end Go.Proofs.Ythgcceochfjfcaa
