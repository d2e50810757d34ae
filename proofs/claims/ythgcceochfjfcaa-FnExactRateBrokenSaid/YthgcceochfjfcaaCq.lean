/-
  Contracts of Go functions of this seat: what each call hands back, as a plain function of its arguments, and that nothing that was there has turned.
  No statement of the seat is proved here.
-/
import Derived.Test.YthgcceochfjfcaaProg
import Derived.Test.YthgcceochfjfcaaPure
import Derived.Test.YthgcceochfjfcaaActs
import Derived.Deep.Light
import Derived.RegionTactic
import Derived.Deep.RegionWith
import Derived.BigRegion
import Derived.ChangeAlike
import Derived.Test.YthgcceochfjfcaaCa
import Derived.Test.YthgcceochfjfcaaCl
import Derived.Test.YthgcceochfjfcaaCf
import Derived.Test.YthgcceochfjfcaaCg
import Derived.Test.YthgcceochfjfcaaCh
import Derived.Test.YthgcceochfjfcaaCi
import Derived.Test.YthgcceochfjfcaaCp
import Derived.Test.YthgcceochfjfcaaFracs2
namespace Go.Proofs.Ythgcceochfjfcaa
open Go.RowKit
set_option linter.unusedVariables false
set_option linter.unusedSimpArgs false

-- laws.FnExactFracCmp
set_option maxHeartbeats 1000000 in
set_option maxRecDepth 100000 in
theorem c_laws_FnExactFracCmp (a_num : Int) (a_den : Int) (b_num : Int) (b_den : Int) (w : World)  :
    Calls Try.prog 12 #[.agg #[.int .i64 a_num, .int .i64 a_den], .agg #[.int .i64 b_num, .int .i64 b_den]] w (Ret w (.bool true)) := by
  go_enter Try.func12, Try.ntmps12
  go_wp2_with (first
    | ((with_reducible refine wp_region_calm (id := 1) (by kernel_rfl) (by kernel_rfl) ?_); (repeat (go_big_quiet_step ((first | (go_at_call 33; exact calm_of (c_laws_toFrac _ _ _ )) | (go_at_call 46; exact calm_of (c_spec_FracCmp _ _ _ _ _ )))))); refine wpQuiet_nil ?_; intro g d)
    | ((with_reducible refine wp_region_calm (id := 2) (by kernel_rfl) (by kernel_rfl) ?_); (repeat (go_big_quiet_step ((first | (go_at_call 33; exact calm_of (c_laws_toFrac _ _ _ )) | (go_at_call 47; exact calm_of (c_impl_FracCmp _ _ _ _ _ )))))); refine wpQuiet_nil ?_; intro g d)
    | (go_at_call 46; refine (c_spec_FracCmp _ _ _ _ _ ).mono ?_; rintro e w' hr; obtain ⟨rfl, g, d, rfl⟩ := Ret.open hr; clear hr)
    | (go_at_call 33; refine (c_laws_toFrac _ _ _ ).mono ?_; rintro e w' hr; obtain ⟨rfl, g, d, rfl⟩ := Ret.open hr; clear hr)
    | (go_at_call 47; refine (c_impl_FracCmp _ _ _ _ _ ).mono ?_; rintro e w' hr; obtain ⟨rfl, g, d, rfl⟩ := Ret.open hr; clear hr)
    | go_region)
  all_goals refine bodyPost_ret (v := .bool true) ?_ rfl (Ret.mk (by repeat (first | exact Below.refl _ _ | apply below_alloc | apply below_junk | apply below_drew)))
  all_goals first | (simp [results, Try.results12, go_sem, *]; done) | (simp [results, Try.results12, go_sem, *]; omega) | (go_light; simp [results, Try.results12, go_sem, *]; intros; exfalso; omega) | (go_light; simp [results, Try.results12, go_sem, *]; (repeat' split) <;> first | omega | (simp; done) | (simp_all; done)) | (go_light; simp_all [results, Try.results12, go_sem, ]; done) | (go_light; simp_all [results, Try.results12, go_sem, ]; omega)

-- spec.RatesMeet
set_option maxHeartbeats 1000000 in
set_option maxRecDepth 100000 in
theorem c_spec_RatesMeet (lo_num : Int) (lo_den : Int) (hi_num : Int) (hi_den : Int) (low_num : Int) (low_den : Int) (high_num : Int) (high_den : Int) (w : World)  :
    Calls Try.prog 48 #[.agg #[.int .i64 lo_num, .int .i64 lo_den], .agg #[.int .i64 hi_num, .int .i64 hi_den], .agg #[.int .i64 low_num, .int .i64 low_den], .agg #[.int .i64 high_num, .int .i64 high_den]] w (Ret w (.tuple #[.agg #[.int .i64 (((Pu.RatesMeet (⟨lo_num, lo_den⟩ : Frac) (⟨hi_num, hi_den⟩ : Frac) (⟨low_num, low_den⟩ : Frac) (⟨high_num, high_den⟩ : Frac)).1).num), .int .i64 (((Pu.RatesMeet (⟨lo_num, lo_den⟩ : Frac) (⟨hi_num, hi_den⟩ : Frac) (⟨low_num, low_den⟩ : Frac) (⟨high_num, high_den⟩ : Frac)).1).den)], .agg #[.int .i64 (((Pu.RatesMeet (⟨lo_num, lo_den⟩ : Frac) (⟨hi_num, hi_den⟩ : Frac) (⟨low_num, low_den⟩ : Frac) (⟨high_num, high_den⟩ : Frac)).2.1).num), .int .i64 (((Pu.RatesMeet (⟨lo_num, lo_den⟩ : Frac) (⟨hi_num, hi_den⟩ : Frac) (⟨low_num, low_den⟩ : Frac) (⟨high_num, high_den⟩ : Frac)).2.1).den)], .bool ((Pu.RatesMeet (⟨lo_num, lo_den⟩ : Frac) (⟨hi_num, hi_den⟩ : Frac) (⟨low_num, low_den⟩ : Frac) (⟨high_num, high_den⟩ : Frac)).2.2)])) := by
  go_enter Try.func48, Try.ntmps48
  go_wp2_with (first
    | (go_at_call 32; refine (c_spec_FracOk _ _ _ ).mono ?_; rintro e w' hr; (rcases Ret.bool hr with ⟨rfl, hX, g, d, rfl⟩ | ⟨rfl, hX, g, d, rfl⟩ <;> first | (have hB := Pu.FracOk_bd hX; (try dsimp only at hB); obtain ⟨hB1, hB2, hB3, hB4⟩ := hB; clear hr) | clear hr))
    | (go_at_call 46; refine (c_spec_FracCmp _ _ _ _ _ ).mono ?_; rintro e w' hr; obtain ⟨rfl, g, d, rfl⟩ := Ret.open hr; clear hr)
    | go_region)
  all_goals refine bodyPost_ret (v := .tuple #[.agg #[.int .i64 (((Pu.RatesMeet (⟨lo_num, lo_den⟩ : Frac) (⟨hi_num, hi_den⟩ : Frac) (⟨low_num, low_den⟩ : Frac) (⟨high_num, high_den⟩ : Frac)).1).num), .int .i64 (((Pu.RatesMeet (⟨lo_num, lo_den⟩ : Frac) (⟨hi_num, hi_den⟩ : Frac) (⟨low_num, low_den⟩ : Frac) (⟨high_num, high_den⟩ : Frac)).1).den)], .agg #[.int .i64 (((Pu.RatesMeet (⟨lo_num, lo_den⟩ : Frac) (⟨hi_num, hi_den⟩ : Frac) (⟨low_num, low_den⟩ : Frac) (⟨high_num, high_den⟩ : Frac)).2.1).num), .int .i64 (((Pu.RatesMeet (⟨lo_num, lo_den⟩ : Frac) (⟨hi_num, hi_den⟩ : Frac) (⟨low_num, low_den⟩ : Frac) (⟨high_num, high_den⟩ : Frac)).2.1).den)], .bool ((Pu.RatesMeet (⟨lo_num, lo_den⟩ : Frac) (⟨hi_num, hi_den⟩ : Frac) (⟨low_num, low_den⟩ : Frac) (⟨high_num, high_den⟩ : Frac)).2.2)]) ?_ rfl (Ret.mk (by repeat (first | exact Below.refl _ _ | apply below_alloc | apply below_junk | apply below_drew)))
  all_goals first | (simp [results, Try.results48, go_sem, Pu.RatesMeet, *]; done) | (simp [results, Try.results48, go_sem, Pu.RatesMeet, *]; omega) | (go_light; simp [results, Try.results48, go_sem, Pu.RatesMeet, *]; intros; exfalso; omega) | (go_light; simp [results, Try.results48, go_sem, Pu.RatesMeet, *]; (repeat' split) <;> first | omega | (simp; done) | (simp_all; done)) | (go_light; simp_all [results, Try.results48, go_sem, Pu.RatesMeet, ]; done) | (go_light; simp_all [results, Try.results48, go_sem, Pu.RatesMeet, ]; omega)

-- impl.RatesMeet
set_option maxHeartbeats 1000000 in
set_option maxRecDepth 100000 in
theorem c_impl_RatesMeet (lo_num : Int) (lo_den : Int) (hi_num : Int) (hi_den : Int) (low_num : Int) (low_den : Int) (high_num : Int) (high_den : Int) (w : World)  :
    Calls Try.prog 49 #[.agg #[.int .i64 lo_num, .int .i64 lo_den], .agg #[.int .i64 hi_num, .int .i64 hi_den], .agg #[.int .i64 low_num, .int .i64 low_den], .agg #[.int .i64 high_num, .int .i64 high_den]] w (Ret w (.tuple #[.agg #[.int .i64 (((Pu.RatesMeet (⟨lo_num, lo_den⟩ : Frac) (⟨hi_num, hi_den⟩ : Frac) (⟨low_num, low_den⟩ : Frac) (⟨high_num, high_den⟩ : Frac)).1).num), .int .i64 (((Pu.RatesMeet (⟨lo_num, lo_den⟩ : Frac) (⟨hi_num, hi_den⟩ : Frac) (⟨low_num, low_den⟩ : Frac) (⟨high_num, high_den⟩ : Frac)).1).den)], .agg #[.int .i64 (((Pu.RatesMeet (⟨lo_num, lo_den⟩ : Frac) (⟨hi_num, hi_den⟩ : Frac) (⟨low_num, low_den⟩ : Frac) (⟨high_num, high_den⟩ : Frac)).2.1).num), .int .i64 (((Pu.RatesMeet (⟨lo_num, lo_den⟩ : Frac) (⟨hi_num, hi_den⟩ : Frac) (⟨low_num, low_den⟩ : Frac) (⟨high_num, high_den⟩ : Frac)).2.1).den)], .bool ((Pu.RatesMeet (⟨lo_num, lo_den⟩ : Frac) (⟨hi_num, hi_den⟩ : Frac) (⟨low_num, low_den⟩ : Frac) (⟨high_num, high_den⟩ : Frac)).2.2)])) := by
  go_enter Try.func49, Try.ntmps49
  go_wp2_with (first
    | (go_at_call 34; refine (c_impl_FracOk _ _ _ ).mono ?_; rintro e w' hr; (rcases Ret.bool hr with ⟨rfl, hX, g, d, rfl⟩ | ⟨rfl, hX, g, d, rfl⟩ <;> first | (have hB := Pu.FracOk_bd hX; (try dsimp only at hB); obtain ⟨hB1, hB2, hB3, hB4⟩ := hB; clear hr) | clear hr))
    | (go_at_call 47; refine (c_impl_FracCmp _ _ _ _ _ ).mono ?_; rintro e w' hr; obtain ⟨rfl, g, d, rfl⟩ := Ret.open hr; clear hr)
    | go_region)
  all_goals refine bodyPost_ret (v := .tuple #[.agg #[.int .i64 (((Pu.RatesMeet (⟨lo_num, lo_den⟩ : Frac) (⟨hi_num, hi_den⟩ : Frac) (⟨low_num, low_den⟩ : Frac) (⟨high_num, high_den⟩ : Frac)).1).num), .int .i64 (((Pu.RatesMeet (⟨lo_num, lo_den⟩ : Frac) (⟨hi_num, hi_den⟩ : Frac) (⟨low_num, low_den⟩ : Frac) (⟨high_num, high_den⟩ : Frac)).1).den)], .agg #[.int .i64 (((Pu.RatesMeet (⟨lo_num, lo_den⟩ : Frac) (⟨hi_num, hi_den⟩ : Frac) (⟨low_num, low_den⟩ : Frac) (⟨high_num, high_den⟩ : Frac)).2.1).num), .int .i64 (((Pu.RatesMeet (⟨lo_num, lo_den⟩ : Frac) (⟨hi_num, hi_den⟩ : Frac) (⟨low_num, low_den⟩ : Frac) (⟨high_num, high_den⟩ : Frac)).2.1).den)], .bool ((Pu.RatesMeet (⟨lo_num, lo_den⟩ : Frac) (⟨hi_num, hi_den⟩ : Frac) (⟨low_num, low_den⟩ : Frac) (⟨high_num, high_den⟩ : Frac)).2.2)]) ?_ rfl (Ret.mk (by repeat (first | exact Below.refl _ _ | apply below_alloc | apply below_junk | apply below_drew)))
  all_goals first | (simp [results, Try.results49, go_sem, Pu.RatesMeet, *]; done) | (simp [results, Try.results49, go_sem, Pu.RatesMeet, *]; omega) | (go_light; simp [results, Try.results49, go_sem, Pu.RatesMeet, *]; intros; exfalso; omega) | (go_light; simp [results, Try.results49, go_sem, Pu.RatesMeet, *]; (repeat' split) <;> first | omega | (simp; done) | (simp_all; done)) | (go_light; simp_all [results, Try.results49, go_sem, Pu.RatesMeet, ]; done) | (go_light; simp_all [results, Try.results49, go_sem, Pu.RatesMeet, ]; omega)

end Go.Proofs.Ythgcceochfjfcaa
