/-
  Contracts of Go functions of this seat: what each call hands back, as a plain function of its arguments, and that nothing that was there has turned.
  No statement of the seat is proved here.
-/
import Derived.Test.YtcbeajdkockhaaaProg
import Derived.Test.YtcbeajdkockhaaaPure
import Derived.Test.YtcbeajdkockhaaaActs
import Derived.Deep.Light
import Derived.RegionTactic
import Derived.Deep.RegionWith
import Derived.BigRegion
import Derived.ChangeAlike
import Derived.Test.YtcbeajdkockhaaaCa
import Derived.Test.YtcbeajdkockhaaaCl
import Derived.Test.YtcbeajdkockhaaaCd
namespace Go.Proofs.Ytcbeajdkockhaaa
open Go.RowKit
set_option linter.unusedVariables false
set_option linter.unusedSimpArgs false

-- spec.LocalOk
set_option maxHeartbeats 1000000 in
set_option maxRecDepth 100000 in
theorem c_spec_LocalOk (l_known : Bool) (l_bound_lo : Int) (l_bound_hi : Int) (l_pt : Int) (w : World)   :
    Calls Try.prog 70 #[.agg #[.bool l_known, .int .i64 l_bound_lo, .int .i64 l_bound_hi, .int .i64 l_pt]] w (Ret w (.bool (Pu.LocalOk (⟨l_known, ⟨l_bound_lo, l_bound_hi⟩, l_pt⟩ : Local)))) := by
  rcases Bool.eq_false_or_eq_true l_known with hb0 | hb0
  all_goals
    go_enter Try.func70, Try.ntmps70
    go_wp2_with (first
      | (go_at_call 49; refine (c_spec_IvalOk _ _ _ ).mono ?_; rintro e w' hr; (rcases Ret.bool hr with ⟨rfl, hX, g, d, rfl⟩ | ⟨rfl, hX, g, d, rfl⟩ <;> first | (have hB := (Pu.IvalOk_iff _).1 hX; (try dsimp only at hB); obtain ⟨hB1, hB2, hB3⟩ := hB; clear hr) | clear hr))
      | (go_at_call 50; refine (c_spec_l2Time _ _ ).mono ?_; rintro e w' hr; (rcases Ret.bool hr with ⟨rfl, hX, g, d, rfl⟩ | ⟨rfl, hX, g, d, rfl⟩ <;> first | (have hB := (Pu.isTime_iff _).1 hX; (try dsimp only at hB); obtain ⟨hB1, hB2⟩ := hB; clear hr) | (have hB := Pu.no_of (Pu.isTime_iff _) hX; (try dsimp only at hB); clear hr) | clear hr))
      | go_region)
    all_goals refine bodyPost_ret (v := .bool (Pu.LocalOk (⟨l_known, ⟨l_bound_lo, l_bound_hi⟩, l_pt⟩ : Local))) ?_ rfl (Ret.mk (by repeat (first | exact Below.refl _ _ | apply below_alloc | apply below_junk | apply below_drew)))
    all_goals first | (simp [results, Try.results70, go_sem, Pu.LocalOk, *]; done) | (simp [results, Try.results70, go_sem, Pu.LocalOk, *]; omega) | (go_light; simp [results, Try.results70, go_sem, Pu.LocalOk, *]; intros; exfalso; omega) | (go_light; simp [results, Try.results70, go_sem, Pu.LocalOk, *]; (repeat' split) <;> first | omega | (simp; done) | (simp_all; done)) | (go_light; simp_all [results, Try.results70, go_sem, Pu.LocalOk, ]; done) | (go_light; simp_all [results, Try.results70, go_sem, Pu.LocalOk, ]; omega)
theorem c_spec_LocalOk_b (l_known : Bool) (l_bound_lo : Int) (l_bound_hi : Int) (l_pt : Int) (w : World) (b : Bool) (hb : Pu.LocalOk (⟨l_known, ⟨l_bound_lo, l_bound_hi⟩, l_pt⟩ : Local) = b) :
    Calls Try.prog 70 #[.agg #[.bool l_known, .int .i64 l_bound_lo, .int .i64 l_bound_hi, .int .i64 l_pt]] w (Ret w (.bool b)) := by subst hb; exact c_spec_LocalOk l_known l_bound_lo l_bound_hi l_pt w

-- impl.LocalOk
set_option maxHeartbeats 1000000 in
set_option maxRecDepth 100000 in
theorem c_impl_LocalOk (l_known : Bool) (l_bound_lo : Int) (l_bound_hi : Int) (l_pt : Int) (w : World)   :
    Calls Try.prog 84 #[.agg #[.bool l_known, .int .i64 l_bound_lo, .int .i64 l_bound_hi, .int .i64 l_pt]] w (Ret w (.bool (Pu.LocalOk (⟨l_known, ⟨l_bound_lo, l_bound_hi⟩, l_pt⟩ : Local)))) := by
  rcases Bool.eq_false_or_eq_true l_known with hb0 | hb0
  all_goals
    go_enter Try.func84, Try.ntmps84
    go_wp2_with (first
      | (go_at_call 52; refine (c_impl_IvalOk _ _ _ ).mono ?_; rintro e w' hr; (rcases Ret.bool hr with ⟨rfl, hX, g, d, rfl⟩ | ⟨rfl, hX, g, d, rfl⟩ <;> first | (have hB := (Pu.IvalOk_iff _).1 hX; (try dsimp only at hB); obtain ⟨hB1, hB2, hB3⟩ := hB; clear hr) | clear hr))
      | (go_at_call 62; refine (c_impl_isTime _ _ ).mono ?_; rintro e w' hr; (rcases Ret.bool hr with ⟨rfl, hX, g, d, rfl⟩ | ⟨rfl, hX, g, d, rfl⟩ <;> first | (have hB := (Pu.isTime_iff _).1 hX; (try dsimp only at hB); obtain ⟨hB1, hB2⟩ := hB; clear hr) | (have hB := Pu.no_of (Pu.isTime_iff _) hX; (try dsimp only at hB); clear hr) | clear hr))
      | go_region)
    all_goals refine bodyPost_ret (v := .bool (Pu.LocalOk (⟨l_known, ⟨l_bound_lo, l_bound_hi⟩, l_pt⟩ : Local))) ?_ rfl (Ret.mk (by repeat (first | exact Below.refl _ _ | apply below_alloc | apply below_junk | apply below_drew)))
    all_goals first | (simp [results, Try.results84, go_sem, Pu.LocalOk, *]; done) | (simp [results, Try.results84, go_sem, Pu.LocalOk, *]; omega) | (go_light; simp [results, Try.results84, go_sem, Pu.LocalOk, *]; intros; exfalso; omega) | (go_light; simp [results, Try.results84, go_sem, Pu.LocalOk, *]; (repeat' split) <;> first | omega | (simp; done) | (simp_all; done)) | (go_light; simp_all [results, Try.results84, go_sem, Pu.LocalOk, ]; done) | (go_light; simp_all [results, Try.results84, go_sem, Pu.LocalOk, ]; omega)
theorem c_impl_LocalOk_b (l_known : Bool) (l_bound_lo : Int) (l_bound_hi : Int) (l_pt : Int) (w : World) (b : Bool) (hb : Pu.LocalOk (⟨l_known, ⟨l_bound_lo, l_bound_hi⟩, l_pt⟩ : Local) = b) :
    Calls Try.prog 84 #[.agg #[.bool l_known, .int .i64 l_bound_lo, .int .i64 l_bound_hi, .int .i64 l_pt]] w (Ret w (.bool b)) := by subst hb; exact c_impl_LocalOk l_known l_bound_lo l_bound_hi l_pt w

-- spec.CarryOn
set_option maxHeartbeats 1000000 in
set_option maxRecDepth 100000 in
theorem c_spec_CarryOn (l_known : Bool) (l_bound_lo : Int) (l_bound_hi : Int) (l_pt : Int) (d_num : Int) (d_den : Int) (c : Int) (w : World)   :
    Calls Try.prog 67 #[.agg #[.bool l_known, .int .i64 l_bound_lo, .int .i64 l_bound_hi, .int .i64 l_pt], .agg #[.int .i64 d_num, .int .i64 d_den], .int .i64 c] w (Ret w (.tuple #[.agg #[.int .i64 (((Pu.CarryOn (⟨l_known, ⟨l_bound_lo, l_bound_hi⟩, l_pt⟩ : Local) (⟨d_num, d_den⟩ : Drift) c).1).lo), .int .i64 (((Pu.CarryOn (⟨l_known, ⟨l_bound_lo, l_bound_hi⟩, l_pt⟩ : Local) (⟨d_num, d_den⟩ : Drift) c).1).hi)], .int .i64 ((Pu.CarryOn (⟨l_known, ⟨l_bound_lo, l_bound_hi⟩, l_pt⟩ : Local) (⟨d_num, d_den⟩ : Drift) c).2)])) := by
  rcases Bool.eq_false_or_eq_true l_known with hb0 | hb0
  all_goals
    go_enter Try.func67, Try.ntmps67
    go_wp2_with (first
      | (go_at_call 70; refine (c_spec_LocalOk _ _ _ _ _ ).mono ?_; rintro e w' hr; (rcases Ret.bool hr with ⟨rfl, hX, g, d, rfl⟩ | ⟨rfl, hX, g, d, rfl⟩ <;> first | (have hB := Pu.LocalOk_bd hX; (try dsimp only at hB); obtain ⟨hB1, hB2, hB3, hB4, hB5⟩ := hB; clear hr) | clear hr))
      | (go_at_call 54; refine (c_spec_DriftOk _ _ _ ).mono ?_; rintro e w' hr; (rcases Ret.bool hr with ⟨rfl, hX, g, d, rfl⟩ | ⟨rfl, hX, g, d, rfl⟩ <;> first | (have hB := (Pu.DriftOk_iff _).1 hX; (try dsimp only at hB); obtain ⟨hB1, hB2, hB3, hB4, hB5⟩ := hB; clear hr) | clear hr))
      | (go_at_call 50; refine (c_spec_l2Time _ _ ).mono ?_; rintro e w' hr; (rcases Ret.bool hr with ⟨rfl, hX, g, d, rfl⟩ | ⟨rfl, hX, g, d, rfl⟩ <;> first | (have hB := (Pu.isTime_iff _).1 hX; (try dsimp only at hB); obtain ⟨hB1, hB2⟩ := hB; clear hr) | (have hB := Pu.no_of (Pu.isTime_iff _) hX; (try dsimp only at hB); clear hr) | clear hr))
      | (go_at_call 82; refine (c_spec_Between _ _ _ _ ).mono ?_; rintro e w' hr; obtain ⟨rfl, g, d, rfl⟩ := Ret.open hr; clear hr)
      | (go_at_call 83; refine (c_spec_PlusIval _ _ _ _ _ ).mono ?_; rintro e w' hr; obtain ⟨rfl, g, d, rfl⟩ := Ret.open hr; clear hr)
      | go_region)
    all_goals refine bodyPost_ret (v := .tuple #[.agg #[.int .i64 (((Pu.CarryOn (⟨l_known, ⟨l_bound_lo, l_bound_hi⟩, l_pt⟩ : Local) (⟨d_num, d_den⟩ : Drift) c).1).lo), .int .i64 (((Pu.CarryOn (⟨l_known, ⟨l_bound_lo, l_bound_hi⟩, l_pt⟩ : Local) (⟨d_num, d_den⟩ : Drift) c).1).hi)], .int .i64 ((Pu.CarryOn (⟨l_known, ⟨l_bound_lo, l_bound_hi⟩, l_pt⟩ : Local) (⟨d_num, d_den⟩ : Drift) c).2)]) ?_ rfl (Ret.mk (by repeat (first | exact Below.refl _ _ | apply below_alloc | apply below_junk | apply below_drew)))
    all_goals first | (simp [results, Try.results67, go_sem, Pu.CarryOn, *]; done) | (simp [results, Try.results67, go_sem, Pu.CarryOn, *]; omega) | (go_light; simp [results, Try.results67, go_sem, Pu.CarryOn, *]; intros; exfalso; omega) | (go_light; simp [results, Try.results67, go_sem, Pu.CarryOn, *]; (repeat' split) <;> first | omega | (simp; done) | (simp_all; done)) | (go_light; simp_all [results, Try.results67, go_sem, Pu.CarryOn, ]; done) | (go_light; simp_all [results, Try.results67, go_sem, Pu.CarryOn, ]; omega)

-- impl.CarryOn
set_option maxHeartbeats 1000000 in
set_option maxRecDepth 100000 in
theorem c_impl_CarryOn (l_known : Bool) (l_bound_lo : Int) (l_bound_hi : Int) (l_pt : Int) (d_num : Int) (d_den : Int) (c : Int) (w : World)   :
    Calls Try.prog 68 #[.agg #[.bool l_known, .int .i64 l_bound_lo, .int .i64 l_bound_hi, .int .i64 l_pt], .agg #[.int .i64 d_num, .int .i64 d_den], .int .i64 c] w (Ret w (.tuple #[.agg #[.int .i64 (((Pu.CarryOn (⟨l_known, ⟨l_bound_lo, l_bound_hi⟩, l_pt⟩ : Local) (⟨d_num, d_den⟩ : Drift) c).1).lo), .int .i64 (((Pu.CarryOn (⟨l_known, ⟨l_bound_lo, l_bound_hi⟩, l_pt⟩ : Local) (⟨d_num, d_den⟩ : Drift) c).1).hi)], .int .i64 ((Pu.CarryOn (⟨l_known, ⟨l_bound_lo, l_bound_hi⟩, l_pt⟩ : Local) (⟨d_num, d_den⟩ : Drift) c).2)])) := by
  rcases Bool.eq_false_or_eq_true l_known with hb0 | hb0
  all_goals
    go_enter Try.func68, Try.ntmps68
    go_wp2_with (first
      | (go_at_call 84; refine (c_impl_LocalOk _ _ _ _ _ ).mono ?_; rintro e w' hr; (rcases Ret.bool hr with ⟨rfl, hX, g, d, rfl⟩ | ⟨rfl, hX, g, d, rfl⟩ <;> first | (have hB := Pu.LocalOk_bd hX; (try dsimp only at hB); obtain ⟨hB1, hB2, hB3, hB4, hB5⟩ := hB; clear hr) | clear hr))
      | (go_at_call 57; refine (c_impl_DriftOk _ _ _ ).mono ?_; rintro e w' hr; (rcases Ret.bool hr with ⟨rfl, hX, g, d, rfl⟩ | ⟨rfl, hX, g, d, rfl⟩ <;> first | (have hB := (Pu.DriftOk_iff _).1 hX; (try dsimp only at hB); obtain ⟨hB1, hB2, hB3, hB4, hB5⟩ := hB; clear hr) | clear hr))
      | (go_at_call 62; refine (c_impl_isTime _ _ ).mono ?_; rintro e w' hr; (rcases Ret.bool hr with ⟨rfl, hX, g, d, rfl⟩ | ⟨rfl, hX, g, d, rfl⟩ <;> first | (have hB := (Pu.isTime_iff _).1 hX; (try dsimp only at hB); obtain ⟨hB1, hB2⟩ := hB; clear hr) | (have hB := Pu.no_of (Pu.isTime_iff _) hX; (try dsimp only at hB); clear hr) | clear hr))
      | (go_at_call 85; refine (c_impl_Between _ _ _ _ ).mono ?_; rintro e w' hr; obtain ⟨rfl, g, d, rfl⟩ := Ret.open hr; clear hr)
      | (go_at_call 86; refine (c_impl_PlusIval _ _ _ _ _ ).mono ?_; rintro e w' hr; obtain ⟨rfl, g, d, rfl⟩ := Ret.open hr; clear hr)
      | go_region)
    all_goals refine bodyPost_ret (v := .tuple #[.agg #[.int .i64 (((Pu.CarryOn (⟨l_known, ⟨l_bound_lo, l_bound_hi⟩, l_pt⟩ : Local) (⟨d_num, d_den⟩ : Drift) c).1).lo), .int .i64 (((Pu.CarryOn (⟨l_known, ⟨l_bound_lo, l_bound_hi⟩, l_pt⟩ : Local) (⟨d_num, d_den⟩ : Drift) c).1).hi)], .int .i64 ((Pu.CarryOn (⟨l_known, ⟨l_bound_lo, l_bound_hi⟩, l_pt⟩ : Local) (⟨d_num, d_den⟩ : Drift) c).2)]) ?_ rfl (Ret.mk (by repeat (first | exact Below.refl _ _ | apply below_alloc | apply below_junk | apply below_drew)))
    all_goals first | (simp [results, Try.results68, go_sem, Pu.CarryOn, *]; done) | (simp [results, Try.results68, go_sem, Pu.CarryOn, *]; omega) | (go_light; simp [results, Try.results68, go_sem, Pu.CarryOn, *]; intros; exfalso; omega) | (go_light; simp [results, Try.results68, go_sem, Pu.CarryOn, *]; (repeat' split) <;> first | omega | (simp; done) | (simp_all; done)) | (go_light; simp_all [results, Try.results68, go_sem, Pu.CarryOn, ]; done) | (go_light; simp_all [results, Try.results68, go_sem, Pu.CarryOn, ]; omega)

-- spec.WidthAt
set_option maxHeartbeats 1000000 in
set_option maxRecDepth 100000 in
theorem c_spec_WidthAt (l_known : Bool) (l_bound_lo : Int) (l_bound_hi : Int) (l_pt : Int) (d_num : Int) (d_den : Int) (c : Int) (w : World)   :
    Calls Try.prog 29 #[.agg #[.bool l_known, .int .i64 l_bound_lo, .int .i64 l_bound_hi, .int .i64 l_pt], .agg #[.int .i64 d_num, .int .i64 d_den], .int .i64 c] w (Ret w (.int .i64 (Pu.WidthAt (⟨l_known, ⟨l_bound_lo, l_bound_hi⟩, l_pt⟩ : Local) (⟨d_num, d_den⟩ : Drift) c))) := by
  rcases Bool.eq_false_or_eq_true l_known with hb0 | hb0
  all_goals
    go_enter Try.func29, Try.ntmps29
    go_wp2_with (first
      | (go_at_call 67; refine (c_spec_CarryOn _ _ _ _ _ _ _ _ ).mono ?_; rintro e w' hr; obtain ⟨rfl, g, d, rfl⟩ := Ret.open hr; clear hr)
      | (go_at_call 65; refine (c_spec_Wide _ _ _ ).mono ?_; rintro e w' hr; obtain ⟨rfl, g, d, rfl⟩ := Ret.open hr; clear hr)
      | go_region)
    all_goals refine bodyPost_ret (v := .int .i64 (Pu.WidthAt (⟨l_known, ⟨l_bound_lo, l_bound_hi⟩, l_pt⟩ : Local) (⟨d_num, d_den⟩ : Drift) c)) ?_ rfl (Ret.mk (by repeat (first | exact Below.refl _ _ | apply below_alloc | apply below_junk | apply below_drew)))
    all_goals first | (simp [results, Try.results29, go_sem, Pu.WidthAt, *]; done) | (simp [results, Try.results29, go_sem, Pu.WidthAt, *]; omega) | (go_light; simp [results, Try.results29, go_sem, Pu.WidthAt, *]; intros; exfalso; omega) | (go_light; simp [results, Try.results29, go_sem, Pu.WidthAt, *]; (repeat' split) <;> first | omega | (simp; done) | (simp_all; done)) | (go_light; simp_all [results, Try.results29, go_sem, Pu.WidthAt, ]; done) | (go_light; simp_all [results, Try.results29, go_sem, Pu.WidthAt, ]; omega)

-- impl.WidthAt
set_option maxHeartbeats 1000000 in
set_option maxRecDepth 100000 in
theorem c_impl_WidthAt (l_known : Bool) (l_bound_lo : Int) (l_bound_hi : Int) (l_pt : Int) (d_num : Int) (d_den : Int) (c : Int) (w : World)   :
    Calls Try.prog 31 #[.agg #[.bool l_known, .int .i64 l_bound_lo, .int .i64 l_bound_hi, .int .i64 l_pt], .agg #[.int .i64 d_num, .int .i64 d_den], .int .i64 c] w (Ret w (.int .i64 (Pu.WidthAt (⟨l_known, ⟨l_bound_lo, l_bound_hi⟩, l_pt⟩ : Local) (⟨d_num, d_den⟩ : Drift) c))) := by
  rcases Bool.eq_false_or_eq_true l_known with hb0 | hb0
  all_goals
    go_enter Try.func31, Try.ntmps31
    go_wp2_with (first
      | (go_at_call 68; refine (c_impl_CarryOn _ _ _ _ _ _ _ _ ).mono ?_; rintro e w' hr; obtain ⟨rfl, g, d, rfl⟩ := Ret.open hr; clear hr)
      | (go_at_call 66; refine (c_impl_Wide _ _ _ ).mono ?_; rintro e w' hr; obtain ⟨rfl, g, d, rfl⟩ := Ret.open hr; clear hr)
      | go_region)
    all_goals refine bodyPost_ret (v := .int .i64 (Pu.WidthAt (⟨l_known, ⟨l_bound_lo, l_bound_hi⟩, l_pt⟩ : Local) (⟨d_num, d_den⟩ : Drift) c)) ?_ rfl (Ret.mk (by repeat (first | exact Below.refl _ _ | apply below_alloc | apply below_junk | apply below_drew)))
    all_goals first | (simp [results, Try.results31, go_sem, Pu.WidthAt, *]; done) | (simp [results, Try.results31, go_sem, Pu.WidthAt, *]; omega) | (go_light; simp [results, Try.results31, go_sem, Pu.WidthAt, *]; intros; exfalso; omega) | (go_light; simp [results, Try.results31, go_sem, Pu.WidthAt, *]; (repeat' split) <;> first | omega | (simp; done) | (simp_all; done)) | (go_light; simp_all [results, Try.results31, go_sem, Pu.WidthAt, ]; done) | (go_light; simp_all [results, Try.results31, go_sem, Pu.WidthAt, ]; omega)

-- spec.Rebase
set_option maxHeartbeats 1000000 in
set_option maxRecDepth 100000 in
theorem c_spec_Rebase (l_known : Bool) (l_bound_lo : Int) (l_bound_hi : Int) (l_pt : Int) (d_num : Int) (d_den : Int) (c : Int) (w : World)   :
    Calls Try.prog 32 #[.agg #[.bool l_known, .int .i64 l_bound_lo, .int .i64 l_bound_hi, .int .i64 l_pt], .agg #[.int .i64 d_num, .int .i64 d_den], .int .i64 c] w (Ret w (.tuple #[.agg #[.bool (((Pu.Rebase (⟨l_known, ⟨l_bound_lo, l_bound_hi⟩, l_pt⟩ : Local) (⟨d_num, d_den⟩ : Drift) c).1).known), .int .i64 (((Pu.Rebase (⟨l_known, ⟨l_bound_lo, l_bound_hi⟩, l_pt⟩ : Local) (⟨d_num, d_den⟩ : Drift) c).1).bound.lo), .int .i64 (((Pu.Rebase (⟨l_known, ⟨l_bound_lo, l_bound_hi⟩, l_pt⟩ : Local) (⟨d_num, d_den⟩ : Drift) c).1).bound.hi), .int .i64 (((Pu.Rebase (⟨l_known, ⟨l_bound_lo, l_bound_hi⟩, l_pt⟩ : Local) (⟨d_num, d_den⟩ : Drift) c).1).pt)], .int .i64 ((Pu.Rebase (⟨l_known, ⟨l_bound_lo, l_bound_hi⟩, l_pt⟩ : Local) (⟨d_num, d_den⟩ : Drift) c).2)])) := by
  rcases Bool.eq_false_or_eq_true l_known with hb0 | hb0
  all_goals
    go_enter Try.func32, Try.ntmps32
    go_wp2_with (first
      | (go_at_call 67; refine (c_spec_CarryOn _ _ _ _ _ _ _ _ ).mono ?_; rintro e w' hr; obtain ⟨rfl, g, d, rfl⟩ := Ret.open hr; clear hr)
      | go_region)
    all_goals refine bodyPost_ret (v := .tuple #[.agg #[.bool (((Pu.Rebase (⟨l_known, ⟨l_bound_lo, l_bound_hi⟩, l_pt⟩ : Local) (⟨d_num, d_den⟩ : Drift) c).1).known), .int .i64 (((Pu.Rebase (⟨l_known, ⟨l_bound_lo, l_bound_hi⟩, l_pt⟩ : Local) (⟨d_num, d_den⟩ : Drift) c).1).bound.lo), .int .i64 (((Pu.Rebase (⟨l_known, ⟨l_bound_lo, l_bound_hi⟩, l_pt⟩ : Local) (⟨d_num, d_den⟩ : Drift) c).1).bound.hi), .int .i64 (((Pu.Rebase (⟨l_known, ⟨l_bound_lo, l_bound_hi⟩, l_pt⟩ : Local) (⟨d_num, d_den⟩ : Drift) c).1).pt)], .int .i64 ((Pu.Rebase (⟨l_known, ⟨l_bound_lo, l_bound_hi⟩, l_pt⟩ : Local) (⟨d_num, d_den⟩ : Drift) c).2)]) ?_ rfl (Ret.mk (by repeat (first | exact Below.refl _ _ | apply below_alloc | apply below_junk | apply below_drew)))
    all_goals first | (simp [results, Try.results32, go_sem, Pu.Rebase, *]; done) | (simp [results, Try.results32, go_sem, Pu.Rebase, *]; omega) | (go_light; simp [results, Try.results32, go_sem, Pu.Rebase, *]; intros; exfalso; omega) | (go_light; simp [results, Try.results32, go_sem, Pu.Rebase, *]; (repeat' split) <;> first | omega | (simp; done) | (simp_all; done)) | (go_light; simp_all [results, Try.results32, go_sem, Pu.Rebase, ]; done) | (go_light; simp_all [results, Try.results32, go_sem, Pu.Rebase, ]; omega)

-- impl.Rebase
set_option maxHeartbeats 1000000 in
set_option maxRecDepth 100000 in
theorem c_impl_Rebase (l_known : Bool) (l_bound_lo : Int) (l_bound_hi : Int) (l_pt : Int) (d_num : Int) (d_den : Int) (c : Int) (w : World)   :
    Calls Try.prog 33 #[.agg #[.bool l_known, .int .i64 l_bound_lo, .int .i64 l_bound_hi, .int .i64 l_pt], .agg #[.int .i64 d_num, .int .i64 d_den], .int .i64 c] w (Ret w (.tuple #[.agg #[.bool (((Pu.Rebase (⟨l_known, ⟨l_bound_lo, l_bound_hi⟩, l_pt⟩ : Local) (⟨d_num, d_den⟩ : Drift) c).1).known), .int .i64 (((Pu.Rebase (⟨l_known, ⟨l_bound_lo, l_bound_hi⟩, l_pt⟩ : Local) (⟨d_num, d_den⟩ : Drift) c).1).bound.lo), .int .i64 (((Pu.Rebase (⟨l_known, ⟨l_bound_lo, l_bound_hi⟩, l_pt⟩ : Local) (⟨d_num, d_den⟩ : Drift) c).1).bound.hi), .int .i64 (((Pu.Rebase (⟨l_known, ⟨l_bound_lo, l_bound_hi⟩, l_pt⟩ : Local) (⟨d_num, d_den⟩ : Drift) c).1).pt)], .int .i64 ((Pu.Rebase (⟨l_known, ⟨l_bound_lo, l_bound_hi⟩, l_pt⟩ : Local) (⟨d_num, d_den⟩ : Drift) c).2)])) := by
  rcases Bool.eq_false_or_eq_true l_known with hb0 | hb0
  all_goals
    go_enter Try.func33, Try.ntmps33
    go_wp2_with (first
      | (go_at_call 68; refine (c_impl_CarryOn _ _ _ _ _ _ _ _ ).mono ?_; rintro e w' hr; obtain ⟨rfl, g, d, rfl⟩ := Ret.open hr; clear hr)
      | go_region)
    all_goals refine bodyPost_ret (v := .tuple #[.agg #[.bool (((Pu.Rebase (⟨l_known, ⟨l_bound_lo, l_bound_hi⟩, l_pt⟩ : Local) (⟨d_num, d_den⟩ : Drift) c).1).known), .int .i64 (((Pu.Rebase (⟨l_known, ⟨l_bound_lo, l_bound_hi⟩, l_pt⟩ : Local) (⟨d_num, d_den⟩ : Drift) c).1).bound.lo), .int .i64 (((Pu.Rebase (⟨l_known, ⟨l_bound_lo, l_bound_hi⟩, l_pt⟩ : Local) (⟨d_num, d_den⟩ : Drift) c).1).bound.hi), .int .i64 (((Pu.Rebase (⟨l_known, ⟨l_bound_lo, l_bound_hi⟩, l_pt⟩ : Local) (⟨d_num, d_den⟩ : Drift) c).1).pt)], .int .i64 ((Pu.Rebase (⟨l_known, ⟨l_bound_lo, l_bound_hi⟩, l_pt⟩ : Local) (⟨d_num, d_den⟩ : Drift) c).2)]) ?_ rfl (Ret.mk (by repeat (first | exact Below.refl _ _ | apply below_alloc | apply below_junk | apply below_drew)))
    all_goals first | (simp [results, Try.results33, go_sem, Pu.Rebase, *]; done) | (simp [results, Try.results33, go_sem, Pu.Rebase, *]; omega) | (go_light; simp [results, Try.results33, go_sem, Pu.Rebase, *]; intros; exfalso; omega) | (go_light; simp [results, Try.results33, go_sem, Pu.Rebase, *]; (repeat' split) <;> first | omega | (simp; done) | (simp_all; done)) | (go_light; simp_all [results, Try.results33, go_sem, Pu.Rebase, ]; done) | (go_light; simp_all [results, Try.results33, go_sem, Pu.Rebase, ]; omega)

-- laws.FnExactWidthAt
set_option maxHeartbeats 1000000 in
set_option maxRecDepth 100000 in
theorem c_laws_FnExactWidthAt (l_known : Bool) (l_bound_lo : Int) (l_bound_hi : Int) (l_pt : Int) (d_num : Int) (d_den : Int) (c : Int) (w : World)   :
    Calls Try.prog 8 #[.agg #[.bool l_known, .int .i64 l_bound_lo, .int .i64 l_bound_hi, .int .i64 l_pt], .agg #[.int .i64 d_num, .int .i64 d_den], .int .i64 c] w (Ret w (.bool true)) := by
  go_enter Try.func8, Try.ntmps8
  go_wp2_with (first
    | ((with_reducible refine wp_region_calm (id := 1) (by kernel_rfl) (by kernel_rfl) ?_); (repeat (go_big_quiet_step ((first | (go_at_call 30; exact calm_of (c_laws_toLocal _ _ _ _ _ )) | (go_at_call 19; exact calm_of (c_laws_toDrift _ _ _ )) | (go_at_call 29; exact calm_of (c_spec_WidthAt _ _ _ _ _ _ _ _ )))))); refine wpQuiet_nil ?_; intro g d)
    | ((with_reducible refine wp_region_calm (id := 2) (by kernel_rfl) (by kernel_rfl) ?_); (repeat (go_big_quiet_step ((first | (go_at_call 30; exact calm_of (c_laws_toLocal _ _ _ _ _ )) | (go_at_call 19; exact calm_of (c_laws_toDrift _ _ _ )) | (go_at_call 31; exact calm_of (c_impl_WidthAt _ _ _ _ _ _ _ _ )))))); refine wpQuiet_nil ?_; intro g d)
    | (go_at_call 29; refine (c_spec_WidthAt _ _ _ _ _ _ _ _ ).mono ?_; rintro e w' hr; obtain ⟨rfl, g, d, rfl⟩ := Ret.open hr; clear hr)
    | (go_at_call 30; refine (c_laws_toLocal _ _ _ _ _ ).mono ?_; rintro e w' hr; obtain ⟨rfl, g, d, rfl⟩ := Ret.open hr; clear hr)
    | (go_at_call 19; refine (c_laws_toDrift _ _ _ ).mono ?_; rintro e w' hr; obtain ⟨rfl, g, d, rfl⟩ := Ret.open hr; clear hr)
    | (go_at_call 31; refine (c_impl_WidthAt _ _ _ _ _ _ _ _ ).mono ?_; rintro e w' hr; obtain ⟨rfl, g, d, rfl⟩ := Ret.open hr; clear hr)
    | go_region)
  all_goals refine bodyPost_ret (v := .bool true) ?_ rfl (Ret.mk (by repeat (first | exact Below.refl _ _ | apply below_alloc | apply below_junk | apply below_drew)))
  all_goals first | (simp [results, Try.results8, go_sem, *]; done) | (simp [results, Try.results8, go_sem, *]; omega) | (go_light; simp [results, Try.results8, go_sem, *]; intros; exfalso; omega) | (go_light; simp [results, Try.results8, go_sem, *]; (repeat' split) <;> first | omega | (simp; done) | (simp_all; done)) | (go_light; simp_all [results, Try.results8, go_sem, ]; done) | (go_light; simp_all [results, Try.results8, go_sem, ]; omega)

-- laws.FnExactRebase
set_option maxHeartbeats 1000000 in
set_option maxRecDepth 100000 in
theorem c_laws_FnExactRebase (l_known : Bool) (l_bound_lo : Int) (l_bound_hi : Int) (l_pt : Int) (d_num : Int) (d_den : Int) (c : Int) (w : World)   :
    Calls Try.prog 9 #[.agg #[.bool l_known, .int .i64 l_bound_lo, .int .i64 l_bound_hi, .int .i64 l_pt], .agg #[.int .i64 d_num, .int .i64 d_den], .int .i64 c] w (Ret w (.bool true)) := by
  go_enter Try.func9, Try.ntmps9
  go_wp2_with (first
    | ((with_reducible refine wp_region_acts (id := 1) (by kernel_rfl) ?_); (refine hAny_take 0 (Later.of_below (by repeat (first | exact Below.refl _ _ | apply below_alloc | apply below_junk | apply below_drew))) (by kernel_rfl) rfl (fun K hK => ?_); go_simp; first | (refine hK _ ?_; clear hK K) | (apply Exists.intro; refine ⟨fun _ => ?_, hK _ ?_⟩; (first | (go_at_call 30; exact c_laws_toLocal _ _ _ _ _ ) | (go_at_call 19; exact c_laws_toDrift _ _ _ ) | (go_at_call 32; exact c_spec_Rebase _ _ _ _ _ _ _ _ )); clear hK K)); (refine hAny_take 1 (Later.of_below (by repeat (first | exact Below.refl _ _ | apply below_alloc | apply below_junk | apply below_drew))) (by kernel_rfl) rfl (fun K hK => ?_); go_simp; first | (refine hK _ ?_; clear hK K) | (apply Exists.intro; refine ⟨fun _ => ?_, hK _ ?_⟩; (first | (go_at_call 30; exact c_laws_toLocal _ _ _ _ _ ) | (go_at_call 19; exact c_laws_toDrift _ _ _ ) | (go_at_call 32; exact c_spec_Rebase _ _ _ _ _ _ _ _ )); clear hK K)); (refine hAny_take 2 (Later.of_below (by repeat (first | exact Below.refl _ _ | apply below_alloc | apply below_junk | apply below_drew))) (by kernel_rfl) rfl (fun K hK => ?_); go_simp; first | (refine hK _ ?_; clear hK K) | (apply Exists.intro; refine ⟨fun _ => ?_, hK _ ?_⟩; (first | (go_at_call 30; exact c_laws_toLocal _ _ _ _ _ ) | (go_at_call 19; exact c_laws_toDrift _ _ _ ) | (go_at_call 32; exact c_spec_Rebase _ _ _ _ _ _ _ _ )); clear hK K)); (refine hAny_take 3 (Later.of_below (by repeat (first | exact Below.refl _ _ | apply below_alloc | apply below_junk | apply below_drew))) (by kernel_rfl) rfl (fun K hK => ?_); go_simp; first | (refine hK _ ?_; clear hK K) | (apply Exists.intro; refine ⟨fun _ => ?_, hK _ ?_⟩; (first | (go_at_call 30; exact c_laws_toLocal _ _ _ _ _ ) | (go_at_call 19; exact c_laws_toDrift _ _ _ ) | (go_at_call 32; exact c_spec_Rebase _ _ _ _ _ _ _ _ )); clear hK K)); (refine hAny_take 4 (Later.of_below (by repeat (first | exact Below.refl _ _ | apply below_alloc | apply below_junk | apply below_drew))) (by kernel_rfl) rfl (fun K hK => ?_); go_simp; first | (refine hK _ ?_; clear hK K) | (apply Exists.intro; refine ⟨fun _ => ?_, hK _ ?_⟩; (first | (go_at_call 30; exact c_laws_toLocal _ _ _ _ _ ) | (go_at_call 19; exact c_laws_toDrift _ _ _ ) | (go_at_call 32; exact c_spec_Rebase _ _ _ _ _ _ _ _ )); clear hK K)); (refine hAny_take 5 (Later.of_below (by repeat (first | exact Below.refl _ _ | apply below_alloc | apply below_junk | apply below_drew))) (by kernel_rfl) rfl (fun K hK => ?_); go_simp; first | (refine hK _ ?_; clear hK K) | (apply Exists.intro; refine ⟨fun _ => ?_, hK _ ?_⟩; (first | (go_at_call 30; exact c_laws_toLocal _ _ _ _ _ ) | (go_at_call 19; exact c_laws_toDrift _ _ _ ) | (go_at_call 32; exact c_spec_Rebase _ _ _ _ _ _ _ _ )); clear hK K)); (refine hAny_take 6 (Later.of_below (by repeat (first | exact Below.refl _ _ | apply below_alloc | apply below_junk | apply below_drew))) (by kernel_rfl) rfl (fun K hK => ?_); go_simp; first | (refine hK _ ?_; clear hK K) | (apply Exists.intro; refine ⟨fun _ => ?_, hK _ ?_⟩; (first | (go_at_call 30; exact c_laws_toLocal _ _ _ _ _ ) | (go_at_call 19; exact c_laws_toDrift _ _ _ ) | (go_at_call 32; exact c_spec_Rebase _ _ _ _ _ _ _ _ )); clear hK K)); (refine hAny_take 7 (Later.of_below (by repeat (first | exact Below.refl _ _ | apply below_alloc | apply below_junk | apply below_drew))) (by kernel_rfl) rfl (fun K hK => ?_); go_simp; first | (refine hK _ ?_; clear hK K) | (apply Exists.intro; refine ⟨fun _ => ?_, hK _ ?_⟩; (first | (go_at_call 30; exact c_laws_toLocal _ _ _ _ _ ) | (go_at_call 19; exact c_laws_toDrift _ _ _ ) | (go_at_call 32; exact c_spec_Rebase _ _ _ _ _ _ _ _ )); clear hK K)); (refine hAny_take 8 (Later.of_below (by repeat (first | exact Below.refl _ _ | apply below_alloc | apply below_junk | apply below_drew))) (by kernel_rfl) rfl (fun K hK => ?_); go_simp; first | (refine hK _ ?_; clear hK K) | (apply Exists.intro; refine ⟨fun _ => ?_, hK _ ?_⟩; (first | (go_at_call 30; exact c_laws_toLocal _ _ _ _ _ ) | (go_at_call 19; exact c_laws_toDrift _ _ _ ) | (go_at_call 32; exact c_spec_Rebase _ _ _ _ _ _ _ _ )); clear hK K)); (refine hAny_one 9 (by kernel_rfl) rfl rfl (fun x => ?_); go_simp; refine ⟨(Later.of_below (by repeat (first | exact Below.refl _ _ | apply below_alloc | apply below_junk | apply below_drew))), ?_⟩); (refine hAny_one 10 (by kernel_rfl) rfl rfl (fun x => ?_); go_simp; refine ⟨(Later.of_below (by repeat (first | exact Below.refl _ _ | apply below_alloc | apply below_junk | apply below_drew))), ?_⟩); (refine hAny_take 11 (Later.of_below (by repeat (first | exact Below.refl _ _ | apply below_alloc | apply below_junk | apply below_drew))) (by kernel_rfl) rfl (fun K hK => ?_); go_simp; first | (refine hK _ ?_; clear hK K) | (apply Exists.intro; refine ⟨fun _ => ?_, hK _ ?_⟩; (first | (go_at_call 30; exact c_laws_toLocal _ _ _ _ _ ) | (go_at_call 19; exact c_laws_toDrift _ _ _ ) | (go_at_call 32; exact c_spec_Rebase _ _ _ _ _ _ _ _ )); clear hK K)); (refine hAny_end (by kernel_rfl) (fun g d => ?_)))
    | ((with_reducible refine wp_region_acts (id := 2) (by kernel_rfl) ?_); (refine hAny_take 0 (Later.of_below (by repeat (first | exact Below.refl _ _ | apply below_alloc | apply below_junk | apply below_drew))) (by kernel_rfl) rfl (fun K hK => ?_); go_simp; first | (refine hK _ ?_; clear hK K) | (apply Exists.intro; refine ⟨fun _ => ?_, hK _ ?_⟩; (first | (go_at_call 30; exact c_laws_toLocal _ _ _ _ _ ) | (go_at_call 19; exact c_laws_toDrift _ _ _ ) | (go_at_call 33; exact c_impl_Rebase _ _ _ _ _ _ _ _ )); clear hK K)); (refine hAny_take 1 (Later.of_below (by repeat (first | exact Below.refl _ _ | apply below_alloc | apply below_junk | apply below_drew))) (by kernel_rfl) rfl (fun K hK => ?_); go_simp; first | (refine hK _ ?_; clear hK K) | (apply Exists.intro; refine ⟨fun _ => ?_, hK _ ?_⟩; (first | (go_at_call 30; exact c_laws_toLocal _ _ _ _ _ ) | (go_at_call 19; exact c_laws_toDrift _ _ _ ) | (go_at_call 33; exact c_impl_Rebase _ _ _ _ _ _ _ _ )); clear hK K)); (refine hAny_take 2 (Later.of_below (by repeat (first | exact Below.refl _ _ | apply below_alloc | apply below_junk | apply below_drew))) (by kernel_rfl) rfl (fun K hK => ?_); go_simp; first | (refine hK _ ?_; clear hK K) | (apply Exists.intro; refine ⟨fun _ => ?_, hK _ ?_⟩; (first | (go_at_call 30; exact c_laws_toLocal _ _ _ _ _ ) | (go_at_call 19; exact c_laws_toDrift _ _ _ ) | (go_at_call 33; exact c_impl_Rebase _ _ _ _ _ _ _ _ )); clear hK K)); (refine hAny_take 3 (Later.of_below (by repeat (first | exact Below.refl _ _ | apply below_alloc | apply below_junk | apply below_drew))) (by kernel_rfl) rfl (fun K hK => ?_); go_simp; first | (refine hK _ ?_; clear hK K) | (apply Exists.intro; refine ⟨fun _ => ?_, hK _ ?_⟩; (first | (go_at_call 30; exact c_laws_toLocal _ _ _ _ _ ) | (go_at_call 19; exact c_laws_toDrift _ _ _ ) | (go_at_call 33; exact c_impl_Rebase _ _ _ _ _ _ _ _ )); clear hK K)); (refine hAny_take 4 (Later.of_below (by repeat (first | exact Below.refl _ _ | apply below_alloc | apply below_junk | apply below_drew))) (by kernel_rfl) rfl (fun K hK => ?_); go_simp; first | (refine hK _ ?_; clear hK K) | (apply Exists.intro; refine ⟨fun _ => ?_, hK _ ?_⟩; (first | (go_at_call 30; exact c_laws_toLocal _ _ _ _ _ ) | (go_at_call 19; exact c_laws_toDrift _ _ _ ) | (go_at_call 33; exact c_impl_Rebase _ _ _ _ _ _ _ _ )); clear hK K)); (refine hAny_take 5 (Later.of_below (by repeat (first | exact Below.refl _ _ | apply below_alloc | apply below_junk | apply below_drew))) (by kernel_rfl) rfl (fun K hK => ?_); go_simp; first | (refine hK _ ?_; clear hK K) | (apply Exists.intro; refine ⟨fun _ => ?_, hK _ ?_⟩; (first | (go_at_call 30; exact c_laws_toLocal _ _ _ _ _ ) | (go_at_call 19; exact c_laws_toDrift _ _ _ ) | (go_at_call 33; exact c_impl_Rebase _ _ _ _ _ _ _ _ )); clear hK K)); (refine hAny_take 6 (Later.of_below (by repeat (first | exact Below.refl _ _ | apply below_alloc | apply below_junk | apply below_drew))) (by kernel_rfl) rfl (fun K hK => ?_); go_simp; first | (refine hK _ ?_; clear hK K) | (apply Exists.intro; refine ⟨fun _ => ?_, hK _ ?_⟩; (first | (go_at_call 30; exact c_laws_toLocal _ _ _ _ _ ) | (go_at_call 19; exact c_laws_toDrift _ _ _ ) | (go_at_call 33; exact c_impl_Rebase _ _ _ _ _ _ _ _ )); clear hK K)); (refine hAny_take 7 (Later.of_below (by repeat (first | exact Below.refl _ _ | apply below_alloc | apply below_junk | apply below_drew))) (by kernel_rfl) rfl (fun K hK => ?_); go_simp; first | (refine hK _ ?_; clear hK K) | (apply Exists.intro; refine ⟨fun _ => ?_, hK _ ?_⟩; (first | (go_at_call 30; exact c_laws_toLocal _ _ _ _ _ ) | (go_at_call 19; exact c_laws_toDrift _ _ _ ) | (go_at_call 33; exact c_impl_Rebase _ _ _ _ _ _ _ _ )); clear hK K)); (refine hAny_take 8 (Later.of_below (by repeat (first | exact Below.refl _ _ | apply below_alloc | apply below_junk | apply below_drew))) (by kernel_rfl) rfl (fun K hK => ?_); go_simp; first | (refine hK _ ?_; clear hK K) | (apply Exists.intro; refine ⟨fun _ => ?_, hK _ ?_⟩; (first | (go_at_call 30; exact c_laws_toLocal _ _ _ _ _ ) | (go_at_call 19; exact c_laws_toDrift _ _ _ ) | (go_at_call 33; exact c_impl_Rebase _ _ _ _ _ _ _ _ )); clear hK K)); (refine hAny_one 9 (by kernel_rfl) rfl rfl (fun x => ?_); go_simp; refine ⟨(Later.of_below (by repeat (first | exact Below.refl _ _ | apply below_alloc | apply below_junk | apply below_drew))), ?_⟩); (refine hAny_one 10 (by kernel_rfl) rfl rfl (fun x => ?_); go_simp; refine ⟨(Later.of_below (by repeat (first | exact Below.refl _ _ | apply below_alloc | apply below_junk | apply below_drew))), ?_⟩); (refine hAny_take 11 (Later.of_below (by repeat (first | exact Below.refl _ _ | apply below_alloc | apply below_junk | apply below_drew))) (by kernel_rfl) rfl (fun K hK => ?_); go_simp; first | (refine hK _ ?_; clear hK K) | (apply Exists.intro; refine ⟨fun _ => ?_, hK _ ?_⟩; (first | (go_at_call 30; exact c_laws_toLocal _ _ _ _ _ ) | (go_at_call 19; exact c_laws_toDrift _ _ _ ) | (go_at_call 33; exact c_impl_Rebase _ _ _ _ _ _ _ _ )); clear hK K)); (refine hAny_end (by kernel_rfl) (fun g d => ?_)))
    | (go_at_call 32; refine (c_spec_Rebase _ _ _ _ _ _ _ _ ).mono ?_; rintro e w' hr; obtain ⟨rfl, g, d, rfl⟩ := Ret.open hr; clear hr)
    | (go_at_call 30; refine (c_laws_toLocal _ _ _ _ _ ).mono ?_; rintro e w' hr; obtain ⟨rfl, g, d, rfl⟩ := Ret.open hr; clear hr)
    | (go_at_call 19; refine (c_laws_toDrift _ _ _ ).mono ?_; rintro e w' hr; obtain ⟨rfl, g, d, rfl⟩ := Ret.open hr; clear hr)
    | (go_at_call 33; refine (c_impl_Rebase _ _ _ _ _ _ _ _ ).mono ?_; rintro e w' hr; obtain ⟨rfl, g, d, rfl⟩ := Ret.open hr; clear hr)
    | (go_at_call 34; refine (c_laws_eqLocal _ _ _ _ _ _ _ _ _ ).mono ?_; rintro e w' hr; obtain ⟨rfl, g, d, rfl⟩ := Ret.open hr; clear hr)
    | go_region)
  all_goals refine bodyPost_ret (v := .bool true) ?_ rfl (Ret.mk (by repeat (first | exact Below.refl _ _ | apply below_alloc | apply below_junk | apply below_drew)))
  all_goals first | (simp [results, Try.results9, go_sem, *]; done) | (simp [results, Try.results9, go_sem, *]; omega) | (go_light; simp [results, Try.results9, go_sem, *]; intros; exfalso; omega) | (go_light; simp [results, Try.results9, go_sem, *]; (repeat' split) <;> first | omega | (simp; done) | (simp_all; done)) | (go_light; simp_all [results, Try.results9, go_sem, ]; done) | (go_light; simp_all [results, Try.results9, go_sem, ]; omega)

end Go.Proofs.Ytcbeajdkockhaaa
