/-
  Contracts of Go functions of this seat: what each call hands back, as a plain function of its arguments, and that nothing that was there has turned.
  No statement of the seat is proved here.
-/
import Derived.Test.YthgcceochfjfcaaProg
import Derived.Test.YthgcceochfjfcaaPure
import Derived.Test.YthgcceochfjfcaaActs
import Derived.Deep.Light
import Derived.RegionTactic
import Derived.Deep.RegionWith
import Derived.BigRegion
import Derived.ChangeAlike
import Derived.Test.YthgcceochfjfcaaCa
import Derived.Test.YthgcceochfjfcaaCl
namespace Go.Proofs.Ythgcceochfjfcaa
open Go.RowKit
set_option linter.unusedVariables false
set_option linter.unusedSimpArgs false

-- spec.AppOk
set_option maxHeartbeats 1000000 in
set_option maxRecDepth 100000 in
theorem c_spec_AppOk (a_has : Bool) (a_last : Int) (w : World)  :
    Calls Try.prog 15 #[.agg #[.bool a_has, .int .i64 a_last]] w (Ret w (.bool (Pu.AppOk (⟨a_has, a_last⟩ : App)))) := by
  rcases Bool.eq_false_or_eq_true a_has with hb0 | hb0
  all_goals
    go_enter Try.func15, Try.ntmps15
    go_wp2_with (first
      | (go_at_call 52; refine (c_spec_l1In _ _ _ _ ).mono ?_; rintro e w' hr; (rcases Ret.bool hr with ⟨rfl, hX, g, d, rfl⟩ | ⟨rfl, hX, g, d, rfl⟩ <;> first | (have hB := (Pu.In_iff _ _ _).1 hX; (try dsimp only at hB); obtain ⟨hB1, hB2⟩ := hB; clear hr) | (have hB := Pu.no_of (Pu.In_iff _ _ _) hX; (try dsimp only at hB); clear hr) | clear hr))
      | go_region)
    all_goals refine bodyPost_ret (v := .bool (Pu.AppOk (⟨a_has, a_last⟩ : App))) ?_ rfl (Ret.mk (by repeat (first | exact Below.refl _ _ | apply below_alloc | apply below_junk | apply below_drew)))
    all_goals first | (simp [results, Try.results15, go_sem, Pu.AppOk, Pu.In, *]; done) | (simp [results, Try.results15, go_sem, Pu.AppOk, Pu.In, *]; omega) | (go_light; simp [results, Try.results15, go_sem, Pu.AppOk, Pu.In, *]; (repeat' split) <;> first | omega | (simp; done) | (simp_all; done)) | (go_light; simp_all [results, Try.results15, go_sem, Pu.AppOk, Pu.In, ]; done) | (go_light; simp_all [results, Try.results15, go_sem, Pu.AppOk, Pu.In, ]; omega)

-- impl.AppOk
set_option maxHeartbeats 1000000 in
set_option maxRecDepth 100000 in
theorem c_impl_AppOk (a_has : Bool) (a_last : Int) (w : World)  :
    Calls Try.prog 17 #[.agg #[.bool a_has, .int .i64 a_last]] w (Ret w (.bool (Pu.AppOk (⟨a_has, a_last⟩ : App)))) := by
  rcases Bool.eq_false_or_eq_true a_has with hb0 | hb0
  all_goals
    go_enter Try.func17, Try.ntmps17
    go_wp2_with (first
      | (go_at_call 53; refine (c_impl_in _ _ _ _ ).mono ?_; rintro e w' hr; (rcases Ret.bool hr with ⟨rfl, hX, g, d, rfl⟩ | ⟨rfl, hX, g, d, rfl⟩ <;> first | (have hB := (Pu.In_iff _ _ _).1 hX; (try dsimp only at hB); obtain ⟨hB1, hB2⟩ := hB; clear hr) | (have hB := Pu.no_of (Pu.In_iff _ _ _) hX; (try dsimp only at hB); clear hr) | clear hr))
      | go_region)
    all_goals refine bodyPost_ret (v := .bool (Pu.AppOk (⟨a_has, a_last⟩ : App))) ?_ rfl (Ret.mk (by repeat (first | exact Below.refl _ _ | apply below_alloc | apply below_junk | apply below_drew)))
    all_goals first | (simp [results, Try.results17, go_sem, Pu.AppOk, Pu.In, *]; done) | (simp [results, Try.results17, go_sem, Pu.AppOk, Pu.In, *]; omega) | (go_light; simp [results, Try.results17, go_sem, Pu.AppOk, Pu.In, *]; (repeat' split) <;> first | omega | (simp; done) | (simp_all; done)) | (go_light; simp_all [results, Try.results17, go_sem, Pu.AppOk, Pu.In, ]; done) | (go_light; simp_all [results, Try.results17, go_sem, Pu.AppOk, Pu.In, ]; omega)

-- spec.AppLag
set_option maxHeartbeats 1000000 in
set_option maxRecDepth 100000 in
theorem c_spec_AppLag (a_has : Bool) (a_last : Int) (now_lo : Int) (now_hi : Int) (w : World)  :
    Calls Try.prog 18 #[.agg #[.bool a_has, .int .i64 a_last], .agg #[.int .i64 now_lo, .int .i64 now_hi]] w (Ret w (.int .i64 (Pu.AppLag (⟨a_has, a_last⟩ : App) (⟨now_lo, now_hi⟩ : Ival)))) := by
  rcases Bool.eq_false_or_eq_true a_has with hb0 | hb0
  all_goals
    go_enter Try.func18, Try.ntmps18
    go_wp2_with (first
      | (go_at_call 15; refine (c_spec_AppOk _ _ _ ).mono ?_; rintro e w' hr; (rcases Ret.bool hr with ⟨rfl, hX, g, d, rfl⟩ | ⟨rfl, hX, g, d, rfl⟩ <;> first | (have hB := (Pu.AppOk_iff _).1 hX; (try dsimp only at hB); obtain ⟨hB1, hB2, -⟩ := hB; clear hr) | clear hr))
      | (go_at_call 54; refine (c_spec_IvalOk _ _ _ ).mono ?_; rintro e w' hr; (rcases Ret.bool hr with ⟨rfl, hX, g, d, rfl⟩ | ⟨rfl, hX, g, d, rfl⟩ <;> first | (have hB := (Pu.IvalOk_iff _).1 hX; (try dsimp only at hB); obtain ⟨hB1, hB2, hB3⟩ := hB; clear hr) | clear hr))
      | (go_at_call 55; refine (c_spec_l1Max _ _ _ ).mono ?_; rintro e w' hr; obtain ⟨rfl, g, d, rfl⟩ := Ret.open hr; clear hr)
      | go_region)
    all_goals refine bodyPost_ret (v := .int .i64 (Pu.AppLag (⟨a_has, a_last⟩ : App) (⟨now_lo, now_hi⟩ : Ival))) ?_ rfl (Ret.mk (by repeat (first | exact Below.refl _ _ | apply below_alloc | apply below_junk | apply below_drew)))
    all_goals first | (simp [results, Try.results18, go_sem, Pu.AppLag, *]; done) | (simp [results, Try.results18, go_sem, Pu.AppLag, *]; omega) | (go_light; simp [results, Try.results18, go_sem, Pu.AppLag, *]; (repeat' split) <;> first | omega | (simp; done) | (simp_all; done)) | (go_light; simp_all [results, Try.results18, go_sem, Pu.AppLag, ]; done) | (go_light; simp_all [results, Try.results18, go_sem, Pu.AppLag, ]; omega)

-- impl.AppLag
set_option maxHeartbeats 1000000 in
set_option maxRecDepth 100000 in
theorem c_impl_AppLag (a_has : Bool) (a_last : Int) (now_lo : Int) (now_hi : Int) (w : World)  :
    Calls Try.prog 20 #[.agg #[.bool a_has, .int .i64 a_last], .agg #[.int .i64 now_lo, .int .i64 now_hi]] w (Ret w (.int .i64 (Pu.AppLag (⟨a_has, a_last⟩ : App) (⟨now_lo, now_hi⟩ : Ival)))) := by
  rcases Bool.eq_false_or_eq_true a_has with hb0 | hb0
  all_goals
    go_enter Try.func20, Try.ntmps20
    go_wp2_with (first
      | (go_at_call 17; refine (c_impl_AppOk _ _ _ ).mono ?_; rintro e w' hr; (rcases Ret.bool hr with ⟨rfl, hX, g, d, rfl⟩ | ⟨rfl, hX, g, d, rfl⟩ <;> first | (have hB := (Pu.AppOk_iff _).1 hX; (try dsimp only at hB); obtain ⟨hB1, hB2, -⟩ := hB; clear hr) | clear hr))
      | (go_at_call 56; refine (c_impl_IvalOk _ _ _ ).mono ?_; rintro e w' hr; (rcases Ret.bool hr with ⟨rfl, hX, g, d, rfl⟩ | ⟨rfl, hX, g, d, rfl⟩ <;> first | (have hB := (Pu.IvalOk_iff _).1 hX; (try dsimp only at hB); obtain ⟨hB1, hB2, hB3⟩ := hB; clear hr) | clear hr))
      | go_region)
    all_goals refine bodyPost_ret (v := .int .i64 (Pu.AppLag (⟨a_has, a_last⟩ : App) (⟨now_lo, now_hi⟩ : Ival))) ?_ rfl (Ret.mk (by repeat (first | exact Below.refl _ _ | apply below_alloc | apply below_junk | apply below_drew)))
    all_goals first | (simp [results, Try.results20, go_sem, Pu.AppLag, *]; done) | (simp [results, Try.results20, go_sem, Pu.AppLag, *]; omega) | (go_light; simp [results, Try.results20, go_sem, Pu.AppLag, *]; (repeat' split) <;> first | omega | (simp; done) | (simp_all; done)) | (go_light; simp_all [results, Try.results20, go_sem, Pu.AppLag, ]; done) | (go_light; simp_all [results, Try.results20, go_sem, Pu.AppLag, ]; omega)

-- spec.AppRead
set_option maxHeartbeats 1000000 in
set_option maxRecDepth 100000 in
theorem c_spec_AppRead (a_has : Bool) (a_last : Int) (known : Bool) (now_lo : Int) (now_hi : Int) (w : World)  :
    Calls Try.prog 21 #[.agg #[.bool a_has, .int .i64 a_last], .bool known, .agg #[.int .i64 now_lo, .int .i64 now_hi]] w (Ret w (.tuple #[.agg #[.bool (((Pu.AppRead (⟨a_has, a_last⟩ : App) known (⟨now_lo, now_hi⟩ : Ival)).1).has), .int .i64 (((Pu.AppRead (⟨a_has, a_last⟩ : App) known (⟨now_lo, now_hi⟩ : Ival)).1).last)], .int .i64 ((Pu.AppRead (⟨a_has, a_last⟩ : App) known (⟨now_lo, now_hi⟩ : Ival)).2.1), .bool ((Pu.AppRead (⟨a_has, a_last⟩ : App) known (⟨now_lo, now_hi⟩ : Ival)).2.2.1), .int .i64 ((Pu.AppRead (⟨a_has, a_last⟩ : App) known (⟨now_lo, now_hi⟩ : Ival)).2.2.2)])) := by
  rcases Bool.eq_false_or_eq_true a_has with hb0 | hb0
  all_goals rcases Bool.eq_false_or_eq_true known with hb1 | hb1
  all_goals
    go_enter Try.func21, Try.ntmps21
    go_wp2_with (first
      | (go_at_call 15; refine (c_spec_AppOk _ _ _ ).mono ?_; rintro e w' hr; (rcases Ret.bool hr with ⟨rfl, hX, g, d, rfl⟩ | ⟨rfl, hX, g, d, rfl⟩ <;> first | (have hB := (Pu.AppOk_iff _).1 hX; (try dsimp only at hB); obtain ⟨hB1, hB2, -⟩ := hB; clear hr) | clear hr))
      | (go_at_call 54; refine (c_spec_IvalOk _ _ _ ).mono ?_; rintro e w' hr; (rcases Ret.bool hr with ⟨rfl, hX, g, d, rfl⟩ | ⟨rfl, hX, g, d, rfl⟩ <;> first | (have hB := (Pu.IvalOk_iff _).1 hX; (try dsimp only at hB); obtain ⟨hB1, hB2, hB3⟩ := hB; clear hr) | clear hr))
      | (go_at_call 57; refine (c_spec_Middle _ _ _ ).mono ?_; rintro e w' hr; obtain ⟨rfl, g, d, rfl⟩ := Ret.open hr; clear hr)
      | (go_at_call 55; refine (c_spec_l1Max _ _ _ ).mono ?_; rintro e w' hr; obtain ⟨rfl, g, d, rfl⟩ := Ret.open hr; clear hr)
      | go_region)
    all_goals refine bodyPost_ret (v := .tuple #[.agg #[.bool (((Pu.AppRead (⟨a_has, a_last⟩ : App) known (⟨now_lo, now_hi⟩ : Ival)).1).has), .int .i64 (((Pu.AppRead (⟨a_has, a_last⟩ : App) known (⟨now_lo, now_hi⟩ : Ival)).1).last)], .int .i64 ((Pu.AppRead (⟨a_has, a_last⟩ : App) known (⟨now_lo, now_hi⟩ : Ival)).2.1), .bool ((Pu.AppRead (⟨a_has, a_last⟩ : App) known (⟨now_lo, now_hi⟩ : Ival)).2.2.1), .int .i64 ((Pu.AppRead (⟨a_has, a_last⟩ : App) known (⟨now_lo, now_hi⟩ : Ival)).2.2.2)]) ?_ rfl (Ret.mk (by repeat (first | exact Below.refl _ _ | apply below_alloc | apply below_junk | apply below_drew)))
    all_goals first | (simp [results, Try.results21, go_sem, Pu.AppRead, Pu.Middle, *]; done) | (simp [results, Try.results21, go_sem, Pu.AppRead, Pu.Middle, *]; omega) | (go_light; simp [results, Try.results21, go_sem, Pu.AppRead, Pu.Middle, *]; (repeat' split) <;> first | omega | (simp; done) | (simp_all; done)) | (go_light; simp_all [results, Try.results21, go_sem, Pu.AppRead, Pu.Middle, ]; done) | (go_light; simp_all [results, Try.results21, go_sem, Pu.AppRead, Pu.Middle, ]; omega)

-- impl.AppRead
set_option maxHeartbeats 1000000 in
set_option maxRecDepth 100000 in
theorem c_impl_AppRead (a_has : Bool) (a_last : Int) (known : Bool) (now_lo : Int) (now_hi : Int) (w : World)  :
    Calls Try.prog 22 #[.agg #[.bool a_has, .int .i64 a_last], .bool known, .agg #[.int .i64 now_lo, .int .i64 now_hi]] w (Ret w (.tuple #[.agg #[.bool (((Pu.AppRead (⟨a_has, a_last⟩ : App) known (⟨now_lo, now_hi⟩ : Ival)).1).has), .int .i64 (((Pu.AppRead (⟨a_has, a_last⟩ : App) known (⟨now_lo, now_hi⟩ : Ival)).1).last)], .int .i64 ((Pu.AppRead (⟨a_has, a_last⟩ : App) known (⟨now_lo, now_hi⟩ : Ival)).2.1), .bool ((Pu.AppRead (⟨a_has, a_last⟩ : App) known (⟨now_lo, now_hi⟩ : Ival)).2.2.1), .int .i64 ((Pu.AppRead (⟨a_has, a_last⟩ : App) known (⟨now_lo, now_hi⟩ : Ival)).2.2.2)])) := by
  rcases Bool.eq_false_or_eq_true a_has with hb0 | hb0
  all_goals rcases Bool.eq_false_or_eq_true known with hb1 | hb1
  all_goals
    go_enter Try.func22, Try.ntmps22
    go_wp2_with (first
      | (go_at_call 17; refine (c_impl_AppOk _ _ _ ).mono ?_; rintro e w' hr; (rcases Ret.bool hr with ⟨rfl, hX, g, d, rfl⟩ | ⟨rfl, hX, g, d, rfl⟩ <;> first | (have hB := (Pu.AppOk_iff _).1 hX; (try dsimp only at hB); obtain ⟨hB1, hB2, -⟩ := hB; clear hr) | clear hr))
      | (go_at_call 56; refine (c_impl_IvalOk _ _ _ ).mono ?_; rintro e w' hr; (rcases Ret.bool hr with ⟨rfl, hX, g, d, rfl⟩ | ⟨rfl, hX, g, d, rfl⟩ <;> first | (have hB := (Pu.IvalOk_iff _).1 hX; (try dsimp only at hB); obtain ⟨hB1, hB2, hB3⟩ := hB; clear hr) | clear hr))
      | (go_at_call 58; refine (c_impl_Middle _ _ _ ).mono ?_; rintro e w' hr; obtain ⟨rfl, g, d, rfl⟩ := Ret.open hr; clear hr)
      | go_region)
    all_goals refine bodyPost_ret (v := .tuple #[.agg #[.bool (((Pu.AppRead (⟨a_has, a_last⟩ : App) known (⟨now_lo, now_hi⟩ : Ival)).1).has), .int .i64 (((Pu.AppRead (⟨a_has, a_last⟩ : App) known (⟨now_lo, now_hi⟩ : Ival)).1).last)], .int .i64 ((Pu.AppRead (⟨a_has, a_last⟩ : App) known (⟨now_lo, now_hi⟩ : Ival)).2.1), .bool ((Pu.AppRead (⟨a_has, a_last⟩ : App) known (⟨now_lo, now_hi⟩ : Ival)).2.2.1), .int .i64 ((Pu.AppRead (⟨a_has, a_last⟩ : App) known (⟨now_lo, now_hi⟩ : Ival)).2.2.2)]) ?_ rfl (Ret.mk (by repeat (first | exact Below.refl _ _ | apply below_alloc | apply below_junk | apply below_drew)))
    all_goals first | (simp [results, Try.results22, go_sem, Pu.AppRead, Pu.Middle, *]; done) | (simp [results, Try.results22, go_sem, Pu.AppRead, Pu.Middle, *]; omega) | (go_light; simp [results, Try.results22, go_sem, Pu.AppRead, Pu.Middle, *]; (repeat' split) <;> first | omega | (simp; done) | (simp_all; done)) | (go_light; simp_all [results, Try.results22, go_sem, Pu.AppRead, Pu.Middle, ]; done) | (go_light; simp_all [results, Try.results22, go_sem, Pu.AppRead, Pu.Middle, ]; omega)

-- laws.FnExactAppOk
set_option maxHeartbeats 1000000 in
set_option maxRecDepth 100000 in
theorem c_laws_FnExactAppOk (a_has : Bool) (a_last : Int) (w : World)  :
    Calls Try.prog 3 #[.agg #[.bool a_has, .int .i64 a_last]] w (Ret w (.bool true)) := by
  go_enter Try.func3, Try.ntmps3
  go_wp2_with (first
    | (go_at_call 15; refine (c_spec_AppOk _ _ _ ).mono ?_; rintro e w' hr; (rcases Ret.bool hr with ⟨rfl, hX, g, d, rfl⟩ | ⟨rfl, hX, g, d, rfl⟩ <;> first | (have hB := (Pu.AppOk_iff _).1 hX; (try dsimp only at hB); obtain ⟨hB1, hB2, -⟩ := hB; clear hr) | clear hr))
    | (go_at_call 16; refine (c_laws_toApp _ _ _ ).mono ?_; rintro e w' hr; obtain ⟨rfl, g, d, rfl⟩ := Ret.open hr; clear hr)
    | (go_at_call 17; refine (c_impl_AppOk _ _ _ ).mono ?_; rintro e w' hr; (rcases Ret.bool hr with ⟨rfl, hX, g, d, rfl⟩ | ⟨rfl, hX, g, d, rfl⟩ <;> first | (have hB := (Pu.AppOk_iff _).1 hX; (try dsimp only at hB); obtain ⟨hB1, hB2, -⟩ := hB; clear hr) | clear hr))
    | go_region)
  all_goals refine bodyPost_ret (v := .bool true) ?_ rfl (Ret.mk (by repeat (first | exact Below.refl _ _ | apply below_alloc | apply below_junk | apply below_drew)))
  all_goals first | (simp [results, Try.results3, go_sem, *]; done) | (simp [results, Try.results3, go_sem, *]; omega) | (go_light; simp [results, Try.results3, go_sem, *]; (repeat' split) <;> first | omega | (simp; done) | (simp_all; done)) | (go_light; simp_all [results, Try.results3, go_sem, ]; done) | (go_light; simp_all [results, Try.results3, go_sem, ]; omega)

-- laws.FnExactAppLag
set_option maxHeartbeats 1000000 in
set_option maxRecDepth 100000 in
theorem c_laws_FnExactAppLag (a_has : Bool) (a_last : Int) (now_lo : Int) (now_hi : Int) (w : World)  :
    Calls Try.prog 4 #[.agg #[.bool a_has, .int .i64 a_last], .agg #[.int .i64 now_lo, .int .i64 now_hi]] w (Ret w (.bool true)) := by
  go_enter Try.func4, Try.ntmps4
  go_wp2_with (first
    | ((with_reducible refine wp_region_calm (id := 1) (by kernel_rfl) (by kernel_rfl) ?_); (repeat (go_big_quiet_step ((first | (go_at_call 16; exact calm_of (c_laws_toApp _ _ _ )) | (go_at_call 19; exact calm_of (c_laws_toIval _ _ _ )) | (go_at_call 18; exact calm_of (c_spec_AppLag _ _ _ _ _ )))))); refine wpQuiet_nil ?_; intro g d)
    | ((with_reducible refine wp_region_calm (id := 2) (by kernel_rfl) (by kernel_rfl) ?_); (repeat (go_big_quiet_step ((first | (go_at_call 16; exact calm_of (c_laws_toApp _ _ _ )) | (go_at_call 19; exact calm_of (c_laws_toIval _ _ _ )) | (go_at_call 20; exact calm_of (c_impl_AppLag _ _ _ _ _ )))))); refine wpQuiet_nil ?_; intro g d)
    | (go_at_call 18; refine (c_spec_AppLag _ _ _ _ _ ).mono ?_; rintro e w' hr; obtain ⟨rfl, g, d, rfl⟩ := Ret.open hr; clear hr)
    | (go_at_call 16; refine (c_laws_toApp _ _ _ ).mono ?_; rintro e w' hr; obtain ⟨rfl, g, d, rfl⟩ := Ret.open hr; clear hr)
    | (go_at_call 19; refine (c_laws_toIval _ _ _ ).mono ?_; rintro e w' hr; obtain ⟨rfl, g, d, rfl⟩ := Ret.open hr; clear hr)
    | (go_at_call 20; refine (c_impl_AppLag _ _ _ _ _ ).mono ?_; rintro e w' hr; obtain ⟨rfl, g, d, rfl⟩ := Ret.open hr; clear hr)
    | go_region)
  all_goals refine bodyPost_ret (v := .bool true) ?_ rfl (Ret.mk (by repeat (first | exact Below.refl _ _ | apply below_alloc | apply below_junk | apply below_drew)))
  all_goals first | (simp [results, Try.results4, go_sem, *]; done) | (simp [results, Try.results4, go_sem, *]; omega) | (go_light; simp [results, Try.results4, go_sem, *]; (repeat' split) <;> first | omega | (simp; done) | (simp_all; done)) | (go_light; simp_all [results, Try.results4, go_sem, ]; done) | (go_light; simp_all [results, Try.results4, go_sem, ]; omega)

-- laws.FnExactAppRead
set_option maxHeartbeats 1000000 in
set_option maxRecDepth 100000 in
theorem c_laws_FnExactAppRead (a_has : Bool) (a_last : Int) (known : Bool) (now_lo : Int) (now_hi : Int) (w : World)  :
    Calls Try.prog 5 #[.agg #[.bool a_has, .int .i64 a_last], .bool known, .agg #[.int .i64 now_lo, .int .i64 now_hi]] w (Ret w (.bool true)) := by
  go_enter Try.func5, Try.ntmps5
  go_wp2_with (first
    | ((with_reducible refine wp_region_acts (id := 1) (by kernel_rfl) ?_); (refine hAny_take 0 (Later.of_below (by repeat (first | exact Below.refl _ _ | apply below_alloc | apply below_junk | apply below_drew))) (by kernel_rfl) rfl (fun K hK => ?_); go_simp; first | (refine hK _ ?_; clear hK K) | (apply Exists.intro; refine ⟨fun _ => ?_, hK _ ?_⟩; (first | (go_at_call 16; exact c_laws_toApp _ _ _ ) | (go_at_call 19; exact c_laws_toIval _ _ _ ) | (go_at_call 21; exact c_spec_AppRead _ _ _ _ _ _ )); clear hK K)); (refine hAny_take 1 (Later.of_below (by repeat (first | exact Below.refl _ _ | apply below_alloc | apply below_junk | apply below_drew))) (by kernel_rfl) rfl (fun K hK => ?_); go_simp; first | (refine hK _ ?_; clear hK K) | (apply Exists.intro; refine ⟨fun _ => ?_, hK _ ?_⟩; (first | (go_at_call 16; exact c_laws_toApp _ _ _ ) | (go_at_call 19; exact c_laws_toIval _ _ _ ) | (go_at_call 21; exact c_spec_AppRead _ _ _ _ _ _ )); clear hK K)); (refine hAny_take 2 (Later.of_below (by repeat (first | exact Below.refl _ _ | apply below_alloc | apply below_junk | apply below_drew))) (by kernel_rfl) rfl (fun K hK => ?_); go_simp; first | (refine hK _ ?_; clear hK K) | (apply Exists.intro; refine ⟨fun _ => ?_, hK _ ?_⟩; (first | (go_at_call 16; exact c_laws_toApp _ _ _ ) | (go_at_call 19; exact c_laws_toIval _ _ _ ) | (go_at_call 21; exact c_spec_AppRead _ _ _ _ _ _ )); clear hK K)); (refine hAny_take 3 (Later.of_below (by repeat (first | exact Below.refl _ _ | apply below_alloc | apply below_junk | apply below_drew))) (by kernel_rfl) rfl (fun K hK => ?_); go_simp; first | (refine hK _ ?_; clear hK K) | (apply Exists.intro; refine ⟨fun _ => ?_, hK _ ?_⟩; (first | (go_at_call 16; exact c_laws_toApp _ _ _ ) | (go_at_call 19; exact c_laws_toIval _ _ _ ) | (go_at_call 21; exact c_spec_AppRead _ _ _ _ _ _ )); clear hK K)); (refine hAny_take 4 (Later.of_below (by repeat (first | exact Below.refl _ _ | apply below_alloc | apply below_junk | apply below_drew))) (by kernel_rfl) rfl (fun K hK => ?_); go_simp; first | (refine hK _ ?_; clear hK K) | (apply Exists.intro; refine ⟨fun _ => ?_, hK _ ?_⟩; (first | (go_at_call 16; exact c_laws_toApp _ _ _ ) | (go_at_call 19; exact c_laws_toIval _ _ _ ) | (go_at_call 21; exact c_spec_AppRead _ _ _ _ _ _ )); clear hK K)); (refine hAny_take 5 (Later.of_below (by repeat (first | exact Below.refl _ _ | apply below_alloc | apply below_junk | apply below_drew))) (by kernel_rfl) rfl (fun K hK => ?_); go_simp; first | (refine hK _ ?_; clear hK K) | (apply Exists.intro; refine ⟨fun _ => ?_, hK _ ?_⟩; (first | (go_at_call 16; exact c_laws_toApp _ _ _ ) | (go_at_call 19; exact c_laws_toIval _ _ _ ) | (go_at_call 21; exact c_spec_AppRead _ _ _ _ _ _ )); clear hK K)); (refine hAny_take 6 (Later.of_below (by repeat (first | exact Below.refl _ _ | apply below_alloc | apply below_junk | apply below_drew))) (by kernel_rfl) rfl (fun K hK => ?_); go_simp; first | (refine hK _ ?_; clear hK K) | (apply Exists.intro; refine ⟨fun _ => ?_, hK _ ?_⟩; (first | (go_at_call 16; exact c_laws_toApp _ _ _ ) | (go_at_call 19; exact c_laws_toIval _ _ _ ) | (go_at_call 21; exact c_spec_AppRead _ _ _ _ _ _ )); clear hK K)); (refine hAny_take 7 (Later.of_below (by repeat (first | exact Below.refl _ _ | apply below_alloc | apply below_junk | apply below_drew))) (by kernel_rfl) rfl (fun K hK => ?_); go_simp; first | (refine hK _ ?_; clear hK K) | (apply Exists.intro; refine ⟨fun _ => ?_, hK _ ?_⟩; (first | (go_at_call 16; exact c_laws_toApp _ _ _ ) | (go_at_call 19; exact c_laws_toIval _ _ _ ) | (go_at_call 21; exact c_spec_AppRead _ _ _ _ _ _ )); clear hK K)); (refine hAny_take 8 (Later.of_below (by repeat (first | exact Below.refl _ _ | apply below_alloc | apply below_junk | apply below_drew))) (by kernel_rfl) rfl (fun K hK => ?_); go_simp; first | (refine hK _ ?_; clear hK K) | (apply Exists.intro; refine ⟨fun _ => ?_, hK _ ?_⟩; (first | (go_at_call 16; exact c_laws_toApp _ _ _ ) | (go_at_call 19; exact c_laws_toIval _ _ _ ) | (go_at_call 21; exact c_spec_AppRead _ _ _ _ _ _ )); clear hK K)); (refine hAny_take 9 (Later.of_below (by repeat (first | exact Below.refl _ _ | apply below_alloc | apply below_junk | apply below_drew))) (by kernel_rfl) rfl (fun K hK => ?_); go_simp; first | (refine hK _ ?_; clear hK K) | (apply Exists.intro; refine ⟨fun _ => ?_, hK _ ?_⟩; (first | (go_at_call 16; exact c_laws_toApp _ _ _ ) | (go_at_call 19; exact c_laws_toIval _ _ _ ) | (go_at_call 21; exact c_spec_AppRead _ _ _ _ _ _ )); clear hK K)); (refine hAny_take 10 (Later.of_below (by repeat (first | exact Below.refl _ _ | apply below_alloc | apply below_junk | apply below_drew))) (by kernel_rfl) rfl (fun K hK => ?_); go_simp; first | (refine hK _ ?_; clear hK K) | (apply Exists.intro; refine ⟨fun _ => ?_, hK _ ?_⟩; (first | (go_at_call 16; exact c_laws_toApp _ _ _ ) | (go_at_call 19; exact c_laws_toIval _ _ _ ) | (go_at_call 21; exact c_spec_AppRead _ _ _ _ _ _ )); clear hK K)); (refine hAny_one 11 (by kernel_rfl) rfl rfl (fun x => ?_); go_simp; refine ⟨(Later.of_below (by repeat (first | exact Below.refl _ _ | apply below_alloc | apply below_junk | apply below_drew))), ?_⟩); (refine hAny_one 12 (by kernel_rfl) rfl rfl (fun x => ?_); go_simp; refine ⟨(Later.of_below (by repeat (first | exact Below.refl _ _ | apply below_alloc | apply below_junk | apply below_drew))), ?_⟩); (refine hAny_take 13 (Later.of_below (by repeat (first | exact Below.refl _ _ | apply below_alloc | apply below_junk | apply below_drew))) (by kernel_rfl) rfl (fun K hK => ?_); go_simp; first | (refine hK _ ?_; clear hK K) | (apply Exists.intro; refine ⟨fun _ => ?_, hK _ ?_⟩; (first | (go_at_call 16; exact c_laws_toApp _ _ _ ) | (go_at_call 19; exact c_laws_toIval _ _ _ ) | (go_at_call 21; exact c_spec_AppRead _ _ _ _ _ _ )); clear hK K)); (refine hAny_take 14 (Later.of_below (by repeat (first | exact Below.refl _ _ | apply below_alloc | apply below_junk | apply below_drew))) (by kernel_rfl) rfl (fun K hK => ?_); go_simp; first | (refine hK _ ?_; clear hK K) | (apply Exists.intro; refine ⟨fun _ => ?_, hK _ ?_⟩; (first | (go_at_call 16; exact c_laws_toApp _ _ _ ) | (go_at_call 19; exact c_laws_toIval _ _ _ ) | (go_at_call 21; exact c_spec_AppRead _ _ _ _ _ _ )); clear hK K)); (refine hAny_take 15 (Later.of_below (by repeat (first | exact Below.refl _ _ | apply below_alloc | apply below_junk | apply below_drew))) (by kernel_rfl) rfl (fun K hK => ?_); go_simp; first | (refine hK _ ?_; clear hK K) | (apply Exists.intro; refine ⟨fun _ => ?_, hK _ ?_⟩; (first | (go_at_call 16; exact c_laws_toApp _ _ _ ) | (go_at_call 19; exact c_laws_toIval _ _ _ ) | (go_at_call 21; exact c_spec_AppRead _ _ _ _ _ _ )); clear hK K)); (refine hAny_end (by kernel_rfl) (fun g d => ?_)))
    | ((with_reducible refine wp_region_acts (id := 2) (by kernel_rfl) ?_); (refine hAny_take 0 (Later.of_below (by repeat (first | exact Below.refl _ _ | apply below_alloc | apply below_junk | apply below_drew))) (by kernel_rfl) rfl (fun K hK => ?_); go_simp; first | (refine hK _ ?_; clear hK K) | (apply Exists.intro; refine ⟨fun _ => ?_, hK _ ?_⟩; (first | (go_at_call 16; exact c_laws_toApp _ _ _ ) | (go_at_call 19; exact c_laws_toIval _ _ _ ) | (go_at_call 22; exact c_impl_AppRead _ _ _ _ _ _ )); clear hK K)); (refine hAny_take 1 (Later.of_below (by repeat (first | exact Below.refl _ _ | apply below_alloc | apply below_junk | apply below_drew))) (by kernel_rfl) rfl (fun K hK => ?_); go_simp; first | (refine hK _ ?_; clear hK K) | (apply Exists.intro; refine ⟨fun _ => ?_, hK _ ?_⟩; (first | (go_at_call 16; exact c_laws_toApp _ _ _ ) | (go_at_call 19; exact c_laws_toIval _ _ _ ) | (go_at_call 22; exact c_impl_AppRead _ _ _ _ _ _ )); clear hK K)); (refine hAny_take 2 (Later.of_below (by repeat (first | exact Below.refl _ _ | apply below_alloc | apply below_junk | apply below_drew))) (by kernel_rfl) rfl (fun K hK => ?_); go_simp; first | (refine hK _ ?_; clear hK K) | (apply Exists.intro; refine ⟨fun _ => ?_, hK _ ?_⟩; (first | (go_at_call 16; exact c_laws_toApp _ _ _ ) | (go_at_call 19; exact c_laws_toIval _ _ _ ) | (go_at_call 22; exact c_impl_AppRead _ _ _ _ _ _ )); clear hK K)); (refine hAny_take 3 (Later.of_below (by repeat (first | exact Below.refl _ _ | apply below_alloc | apply below_junk | apply below_drew))) (by kernel_rfl) rfl (fun K hK => ?_); go_simp; first | (refine hK _ ?_; clear hK K) | (apply Exists.intro; refine ⟨fun _ => ?_, hK _ ?_⟩; (first | (go_at_call 16; exact c_laws_toApp _ _ _ ) | (go_at_call 19; exact c_laws_toIval _ _ _ ) | (go_at_call 22; exact c_impl_AppRead _ _ _ _ _ _ )); clear hK K)); (refine hAny_take 4 (Later.of_below (by repeat (first | exact Below.refl _ _ | apply below_alloc | apply below_junk | apply below_drew))) (by kernel_rfl) rfl (fun K hK => ?_); go_simp; first | (refine hK _ ?_; clear hK K) | (apply Exists.intro; refine ⟨fun _ => ?_, hK _ ?_⟩; (first | (go_at_call 16; exact c_laws_toApp _ _ _ ) | (go_at_call 19; exact c_laws_toIval _ _ _ ) | (go_at_call 22; exact c_impl_AppRead _ _ _ _ _ _ )); clear hK K)); (refine hAny_take 5 (Later.of_below (by repeat (first | exact Below.refl _ _ | apply below_alloc | apply below_junk | apply below_drew))) (by kernel_rfl) rfl (fun K hK => ?_); go_simp; first | (refine hK _ ?_; clear hK K) | (apply Exists.intro; refine ⟨fun _ => ?_, hK _ ?_⟩; (first | (go_at_call 16; exact c_laws_toApp _ _ _ ) | (go_at_call 19; exact c_laws_toIval _ _ _ ) | (go_at_call 22; exact c_impl_AppRead _ _ _ _ _ _ )); clear hK K)); (refine hAny_take 6 (Later.of_below (by repeat (first | exact Below.refl _ _ | apply below_alloc | apply below_junk | apply below_drew))) (by kernel_rfl) rfl (fun K hK => ?_); go_simp; first | (refine hK _ ?_; clear hK K) | (apply Exists.intro; refine ⟨fun _ => ?_, hK _ ?_⟩; (first | (go_at_call 16; exact c_laws_toApp _ _ _ ) | (go_at_call 19; exact c_laws_toIval _ _ _ ) | (go_at_call 22; exact c_impl_AppRead _ _ _ _ _ _ )); clear hK K)); (refine hAny_take 7 (Later.of_below (by repeat (first | exact Below.refl _ _ | apply below_alloc | apply below_junk | apply below_drew))) (by kernel_rfl) rfl (fun K hK => ?_); go_simp; first | (refine hK _ ?_; clear hK K) | (apply Exists.intro; refine ⟨fun _ => ?_, hK _ ?_⟩; (first | (go_at_call 16; exact c_laws_toApp _ _ _ ) | (go_at_call 19; exact c_laws_toIval _ _ _ ) | (go_at_call 22; exact c_impl_AppRead _ _ _ _ _ _ )); clear hK K)); (refine hAny_take 8 (Later.of_below (by repeat (first | exact Below.refl _ _ | apply below_alloc | apply below_junk | apply below_drew))) (by kernel_rfl) rfl (fun K hK => ?_); go_simp; first | (refine hK _ ?_; clear hK K) | (apply Exists.intro; refine ⟨fun _ => ?_, hK _ ?_⟩; (first | (go_at_call 16; exact c_laws_toApp _ _ _ ) | (go_at_call 19; exact c_laws_toIval _ _ _ ) | (go_at_call 22; exact c_impl_AppRead _ _ _ _ _ _ )); clear hK K)); (refine hAny_take 9 (Later.of_below (by repeat (first | exact Below.refl _ _ | apply below_alloc | apply below_junk | apply below_drew))) (by kernel_rfl) rfl (fun K hK => ?_); go_simp; first | (refine hK _ ?_; clear hK K) | (apply Exists.intro; refine ⟨fun _ => ?_, hK _ ?_⟩; (first | (go_at_call 16; exact c_laws_toApp _ _ _ ) | (go_at_call 19; exact c_laws_toIval _ _ _ ) | (go_at_call 22; exact c_impl_AppRead _ _ _ _ _ _ )); clear hK K)); (refine hAny_take 10 (Later.of_below (by repeat (first | exact Below.refl _ _ | apply below_alloc | apply below_junk | apply below_drew))) (by kernel_rfl) rfl (fun K hK => ?_); go_simp; first | (refine hK _ ?_; clear hK K) | (apply Exists.intro; refine ⟨fun _ => ?_, hK _ ?_⟩; (first | (go_at_call 16; exact c_laws_toApp _ _ _ ) | (go_at_call 19; exact c_laws_toIval _ _ _ ) | (go_at_call 22; exact c_impl_AppRead _ _ _ _ _ _ )); clear hK K)); (refine hAny_one 11 (by kernel_rfl) rfl rfl (fun x => ?_); go_simp; refine ⟨(Later.of_below (by repeat (first | exact Below.refl _ _ | apply below_alloc | apply below_junk | apply below_drew))), ?_⟩); (refine hAny_one 12 (by kernel_rfl) rfl rfl (fun x => ?_); go_simp; refine ⟨(Later.of_below (by repeat (first | exact Below.refl _ _ | apply below_alloc | apply below_junk | apply below_drew))), ?_⟩); (refine hAny_take 13 (Later.of_below (by repeat (first | exact Below.refl _ _ | apply below_alloc | apply below_junk | apply below_drew))) (by kernel_rfl) rfl (fun K hK => ?_); go_simp; first | (refine hK _ ?_; clear hK K) | (apply Exists.intro; refine ⟨fun _ => ?_, hK _ ?_⟩; (first | (go_at_call 16; exact c_laws_toApp _ _ _ ) | (go_at_call 19; exact c_laws_toIval _ _ _ ) | (go_at_call 22; exact c_impl_AppRead _ _ _ _ _ _ )); clear hK K)); (refine hAny_take 14 (Later.of_below (by repeat (first | exact Below.refl _ _ | apply below_alloc | apply below_junk | apply below_drew))) (by kernel_rfl) rfl (fun K hK => ?_); go_simp; first | (refine hK _ ?_; clear hK K) | (apply Exists.intro; refine ⟨fun _ => ?_, hK _ ?_⟩; (first | (go_at_call 16; exact c_laws_toApp _ _ _ ) | (go_at_call 19; exact c_laws_toIval _ _ _ ) | (go_at_call 22; exact c_impl_AppRead _ _ _ _ _ _ )); clear hK K)); (refine hAny_take 15 (Later.of_below (by repeat (first | exact Below.refl _ _ | apply below_alloc | apply below_junk | apply below_drew))) (by kernel_rfl) rfl (fun K hK => ?_); go_simp; first | (refine hK _ ?_; clear hK K) | (apply Exists.intro; refine ⟨fun _ => ?_, hK _ ?_⟩; (first | (go_at_call 16; exact c_laws_toApp _ _ _ ) | (go_at_call 19; exact c_laws_toIval _ _ _ ) | (go_at_call 22; exact c_impl_AppRead _ _ _ _ _ _ )); clear hK K)); (refine hAny_end (by kernel_rfl) (fun g d => ?_)))
    | (go_at_call 21; refine (c_spec_AppRead _ _ _ _ _ _ ).mono ?_; rintro e w' hr; obtain ⟨rfl, g, d, rfl⟩ := Ret.open hr; clear hr)
    | (go_at_call 16; refine (c_laws_toApp _ _ _ ).mono ?_; rintro e w' hr; obtain ⟨rfl, g, d, rfl⟩ := Ret.open hr; clear hr)
    | (go_at_call 19; refine (c_laws_toIval _ _ _ ).mono ?_; rintro e w' hr; obtain ⟨rfl, g, d, rfl⟩ := Ret.open hr; clear hr)
    | (go_at_call 22; refine (c_impl_AppRead _ _ _ _ _ _ ).mono ?_; rintro e w' hr; obtain ⟨rfl, g, d, rfl⟩ := Ret.open hr; clear hr)
    | (go_at_call 23; refine (c_laws_eqApp _ _ _ _ _ ).mono ?_; rintro e w' hr; obtain ⟨rfl, g, d, rfl⟩ := Ret.open hr; clear hr)
    | go_region)
  all_goals refine bodyPost_ret (v := .bool true) ?_ rfl (Ret.mk (by repeat (first | exact Below.refl _ _ | apply below_alloc | apply below_junk | apply below_drew)))
  all_goals first | (simp [results, Try.results5, go_sem, *]; done) | (simp [results, Try.results5, go_sem, *]; omega) | (go_light; simp [results, Try.results5, go_sem, *]; (repeat' split) <;> first | omega | (simp; done) | (simp_all; done)) | (go_light; simp_all [results, Try.results5, go_sem, ]; done) | (go_light; simp_all [results, Try.results5, go_sem, ]; omega)

end Go.Proofs.Ythgcceochfjfcaa
