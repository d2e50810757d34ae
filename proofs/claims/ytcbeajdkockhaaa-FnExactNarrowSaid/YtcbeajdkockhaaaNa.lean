/-
  Contracts of Go functions of this seat: what each call hands back, as a plain function of its arguments, and that nothing that was there has turned.
  No statement of the seat is proved here.
-/
import Derived.Test.YtcbeajdkockhaaaProg
import Derived.Test.YtcbeajdkockhaaaPure
import Derived.Test.YtcbeajdkockhaaaActs
import Derived.Deep.Light
import Derived.RegionTactic
import Derived.Deep.RegionWith
import Derived.BigRegion
import Derived.ChangeAlike
import Derived.Test.YtcbeajdkockhaaaCa
import Derived.Test.YtcbeajdkockhaaaCl
import Derived.Test.YtcbeajdkockhaaaCd
import Derived.Test.YtcbeajdkockhaaaCk
import Derived.Test.YtcbeajdkockhaaaSe
import Derived.Test.YtcbeajdkockhaaaFolds
namespace Go.Proofs.Ytcbeajdkockhaaa
open Go.RowKit
set_option linter.unusedVariables false
set_option linter.unusedSimpArgs false

-- spec.Narrow
set_option maxHeartbeats 1000000 in
set_option maxRecDepth 100000 in
theorem c_spec_Narrow (l_known : Bool) (l_bound_lo : Int) (l_bound_hi : Int) (l_pt : Int) (d_num : Int) (d_den : Int) (count : Int) (wi_lo : Int) (wi_hi : Int) (w : World)   :
    Calls Try.prog 42 #[.agg #[.bool l_known, .int .i64 l_bound_lo, .int .i64 l_bound_hi, .int .i64 l_pt], .agg #[.int .i64 d_num, .int .i64 d_den], .int .i64 count, .agg #[.int .i64 wi_lo, .int .i64 wi_hi]] w (Ret w (.tuple #[.agg #[.bool (((Pu.Narrow (⟨l_known, ⟨l_bound_lo, l_bound_hi⟩, l_pt⟩ : Local) (⟨d_num, d_den⟩ : Drift) count (⟨wi_lo, wi_hi⟩ : Ival)).1).known), .int .i64 (((Pu.Narrow (⟨l_known, ⟨l_bound_lo, l_bound_hi⟩, l_pt⟩ : Local) (⟨d_num, d_den⟩ : Drift) count (⟨wi_lo, wi_hi⟩ : Ival)).1).bound.lo), .int .i64 (((Pu.Narrow (⟨l_known, ⟨l_bound_lo, l_bound_hi⟩, l_pt⟩ : Local) (⟨d_num, d_den⟩ : Drift) count (⟨wi_lo, wi_hi⟩ : Ival)).1).bound.hi), .int .i64 (((Pu.Narrow (⟨l_known, ⟨l_bound_lo, l_bound_hi⟩, l_pt⟩ : Local) (⟨d_num, d_den⟩ : Drift) count (⟨wi_lo, wi_hi⟩ : Ival)).1).pt)], .int .i64 ((Pu.Narrow (⟨l_known, ⟨l_bound_lo, l_bound_hi⟩, l_pt⟩ : Local) (⟨d_num, d_den⟩ : Drift) count (⟨wi_lo, wi_hi⟩ : Ival)).2)])) := by
  rcases Bool.eq_false_or_eq_true l_known with hb0 | hb0
  all_goals
    go_enter Try.func42, Try.ntmps42
    go_wp2_with (first
      | (go_at_call 67; refine (c_spec_CarryOn _ _ _ _ _ _ _ _ ).mono ?_; rintro e w' hr; obtain ⟨rfl, g, d, rfl⟩ := Ret.open hr; clear hr)
      | (go_at_call 49; refine (c_spec_IvalOk _ _ _ ).mono ?_; rintro e w' hr; (rcases Ret.bool hr with ⟨rfl, hX, g, d, rfl⟩ | ⟨rfl, hX, g, d, rfl⟩ <;> first | (have hB := (Pu.IvalOk_iff _).1 hX; (try dsimp only at hB); obtain ⟨hB1, hB2, hB3⟩ := hB; clear hr) | clear hr))
      | (go_at_call 71; refine (c_spec_Meet _ _ _ _ _ ).mono ?_; rintro e w' hr; obtain ⟨rfl, g, d, rfl⟩ := Ret.open hr; clear hr)
      | go_region)
    all_goals refine bodyPost_ret (v := .tuple #[.agg #[.bool (((Pu.Narrow (⟨l_known, ⟨l_bound_lo, l_bound_hi⟩, l_pt⟩ : Local) (⟨d_num, d_den⟩ : Drift) count (⟨wi_lo, wi_hi⟩ : Ival)).1).known), .int .i64 (((Pu.Narrow (⟨l_known, ⟨l_bound_lo, l_bound_hi⟩, l_pt⟩ : Local) (⟨d_num, d_den⟩ : Drift) count (⟨wi_lo, wi_hi⟩ : Ival)).1).bound.lo), .int .i64 (((Pu.Narrow (⟨l_known, ⟨l_bound_lo, l_bound_hi⟩, l_pt⟩ : Local) (⟨d_num, d_den⟩ : Drift) count (⟨wi_lo, wi_hi⟩ : Ival)).1).bound.hi), .int .i64 (((Pu.Narrow (⟨l_known, ⟨l_bound_lo, l_bound_hi⟩, l_pt⟩ : Local) (⟨d_num, d_den⟩ : Drift) count (⟨wi_lo, wi_hi⟩ : Ival)).1).pt)], .int .i64 ((Pu.Narrow (⟨l_known, ⟨l_bound_lo, l_bound_hi⟩, l_pt⟩ : Local) (⟨d_num, d_den⟩ : Drift) count (⟨wi_lo, wi_hi⟩ : Ival)).2)]) ?_ rfl (Ret.mk (by repeat (first | exact Below.refl _ _ | apply below_alloc | apply below_junk | apply below_drew)))
    all_goals first | (simp [results, Try.results42, go_sem, Pu.Narrow, *]; done) | (simp [results, Try.results42, go_sem, Pu.Narrow, *]; omega) | (go_light; simp [results, Try.results42, go_sem, Pu.Narrow, *]; intros; exfalso; omega) | (go_light; simp [results, Try.results42, go_sem, Pu.Narrow, *]; (repeat' split) <;> first | omega | (simp; done) | (simp_all; done)) | (go_light; simp_all [results, Try.results42, go_sem, Pu.Narrow, ]; done) | (go_light; simp_all [results, Try.results42, go_sem, Pu.Narrow, ]; omega)

-- impl.Narrow
set_option maxHeartbeats 1000000 in
set_option maxRecDepth 100000 in
theorem c_impl_Narrow (l_known : Bool) (l_bound_lo : Int) (l_bound_hi : Int) (l_pt : Int) (d_num : Int) (d_den : Int) (count : Int) (wi_lo : Int) (wi_hi : Int) (w : World)   :
    Calls Try.prog 43 #[.agg #[.bool l_known, .int .i64 l_bound_lo, .int .i64 l_bound_hi, .int .i64 l_pt], .agg #[.int .i64 d_num, .int .i64 d_den], .int .i64 count, .agg #[.int .i64 wi_lo, .int .i64 wi_hi]] w (Ret w (.tuple #[.agg #[.bool (((Pu.Narrow (⟨l_known, ⟨l_bound_lo, l_bound_hi⟩, l_pt⟩ : Local) (⟨d_num, d_den⟩ : Drift) count (⟨wi_lo, wi_hi⟩ : Ival)).1).known), .int .i64 (((Pu.Narrow (⟨l_known, ⟨l_bound_lo, l_bound_hi⟩, l_pt⟩ : Local) (⟨d_num, d_den⟩ : Drift) count (⟨wi_lo, wi_hi⟩ : Ival)).1).bound.lo), .int .i64 (((Pu.Narrow (⟨l_known, ⟨l_bound_lo, l_bound_hi⟩, l_pt⟩ : Local) (⟨d_num, d_den⟩ : Drift) count (⟨wi_lo, wi_hi⟩ : Ival)).1).bound.hi), .int .i64 (((Pu.Narrow (⟨l_known, ⟨l_bound_lo, l_bound_hi⟩, l_pt⟩ : Local) (⟨d_num, d_den⟩ : Drift) count (⟨wi_lo, wi_hi⟩ : Ival)).1).pt)], .int .i64 ((Pu.Narrow (⟨l_known, ⟨l_bound_lo, l_bound_hi⟩, l_pt⟩ : Local) (⟨d_num, d_den⟩ : Drift) count (⟨wi_lo, wi_hi⟩ : Ival)).2)])) := by
  rcases Bool.eq_false_or_eq_true l_known with hb0 | hb0
  all_goals
    go_enter Try.func43, Try.ntmps43
    go_wp2_with (first
      | (go_at_call 68; refine (c_impl_CarryOn _ _ _ _ _ _ _ _ ).mono ?_; rintro e w' hr; obtain ⟨rfl, g, d, rfl⟩ := Ret.open hr; clear hr)
      | (go_at_call 52; refine (c_impl_IvalOk _ _ _ ).mono ?_; rintro e w' hr; (rcases Ret.bool hr with ⟨rfl, hX, g, d, rfl⟩ | ⟨rfl, hX, g, d, rfl⟩ <;> first | (have hB := (Pu.IvalOk_iff _).1 hX; (try dsimp only at hB); obtain ⟨hB1, hB2, hB3⟩ := hB; clear hr) | clear hr))
      | (go_at_call 72; refine (c_impl_Meet _ _ _ _ _ ).mono ?_; rintro e w' hr; obtain ⟨rfl, g, d, rfl⟩ := Ret.open hr; clear hr)
      | go_region)
    all_goals refine bodyPost_ret (v := .tuple #[.agg #[.bool (((Pu.Narrow (⟨l_known, ⟨l_bound_lo, l_bound_hi⟩, l_pt⟩ : Local) (⟨d_num, d_den⟩ : Drift) count (⟨wi_lo, wi_hi⟩ : Ival)).1).known), .int .i64 (((Pu.Narrow (⟨l_known, ⟨l_bound_lo, l_bound_hi⟩, l_pt⟩ : Local) (⟨d_num, d_den⟩ : Drift) count (⟨wi_lo, wi_hi⟩ : Ival)).1).bound.lo), .int .i64 (((Pu.Narrow (⟨l_known, ⟨l_bound_lo, l_bound_hi⟩, l_pt⟩ : Local) (⟨d_num, d_den⟩ : Drift) count (⟨wi_lo, wi_hi⟩ : Ival)).1).bound.hi), .int .i64 (((Pu.Narrow (⟨l_known, ⟨l_bound_lo, l_bound_hi⟩, l_pt⟩ : Local) (⟨d_num, d_den⟩ : Drift) count (⟨wi_lo, wi_hi⟩ : Ival)).1).pt)], .int .i64 ((Pu.Narrow (⟨l_known, ⟨l_bound_lo, l_bound_hi⟩, l_pt⟩ : Local) (⟨d_num, d_den⟩ : Drift) count (⟨wi_lo, wi_hi⟩ : Ival)).2)]) ?_ rfl (Ret.mk (by repeat (first | exact Below.refl _ _ | apply below_alloc | apply below_junk | apply below_drew)))
    all_goals first | (simp [results, Try.results43, go_sem, Pu.Narrow, *]; done) | (simp [results, Try.results43, go_sem, Pu.Narrow, *]; omega) | (go_light; simp [results, Try.results43, go_sem, Pu.Narrow, *]; intros; exfalso; omega) | (go_light; simp [results, Try.results43, go_sem, Pu.Narrow, *]; (repeat' split) <;> first | omega | (simp; done) | (simp_all; done)) | (go_light; simp_all [results, Try.results43, go_sem, Pu.Narrow, ]; done) | (go_light; simp_all [results, Try.results43, go_sem, Pu.Narrow, ]; omega)

end Go.Proofs.Ytcbeajdkockhaaa
