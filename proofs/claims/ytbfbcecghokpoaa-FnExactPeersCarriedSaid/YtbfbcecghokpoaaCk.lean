/-
  Contracts of Go functions of this seat: what each call hands back, as a plain function of its arguments, and that nothing that was there has turned.
  No statement of the seat is proved here.
-/
import Derived.Test.YtbfbcecghokpoaaProg
import Derived.Test.YtbfbcecghokpoaaPure
import Derived.Test.YtbfbcecghokpoaaActs
import Derived.Deep.Light
import Derived.RegionTactic
import Derived.Deep.RegionWith
import Derived.BigRegion
import Derived.ChangeAlike
import Derived.Test.YtbfbcecghokpoaaCa
import Derived.Test.YtbfbcecghokpoaaCl
import Derived.Test.YtbfbcecghokpoaaCd
namespace Go.Proofs.Ytbfbcecghokpoaa
open Go.RowKit
set_option linter.unusedVariables false
set_option linter.unusedSimpArgs false

-- spec.LocalOk
set_option maxHeartbeats 1000000 in
set_option maxRecDepth 100000 in
theorem c_spec_LocalOk (l_known : Bool) (l_bound_lo : Int) (l_bound_hi : Int) (l_pt : Int) (w : World)   :
    Calls Try.prog 91 #[.agg #[.bool l_known, .int .i64 l_bound_lo, .int .i64 l_bound_hi, .int .i64 l_pt]] w (Ret w (.bool (Pu.LocalOk (⟨l_known, ⟨l_bound_lo, l_bound_hi⟩, l_pt⟩ : Local)))) := by
  rcases Bool.eq_false_or_eq_true l_known with hb0 | hb0
  all_goals
    go_enter Try.func91, Try.ntmps91
    go_wp2_with (first
      | (go_at_call 47; refine (c_spec_IvalOk _ _ _ ).mono ?_; rintro e w' hr; (rcases Ret.bool hr with ⟨rfl, hX, g, d, rfl⟩ | ⟨rfl, hX, g, d, rfl⟩ <;> first | (have hB := (Pu.IvalOk_iff _).1 hX; (try dsimp only at hB); obtain ⟨hB1, hB2, hB3⟩ := hB; clear hr) | clear hr))
      | (go_at_call 53; refine (c_spec_l2Time _ _ ).mono ?_; rintro e w' hr; (rcases Ret.bool hr with ⟨rfl, hX, g, d, rfl⟩ | ⟨rfl, hX, g, d, rfl⟩ <;> first | (have hB := (Pu.isTime_iff _).1 hX; (try dsimp only at hB); obtain ⟨hB1, hB2⟩ := hB; clear hr) | (have hB := Pu.no_of (Pu.isTime_iff _) hX; (try dsimp only at hB); clear hr) | clear hr))
      | go_region)
    all_goals refine bodyPost_ret (v := .bool (Pu.LocalOk (⟨l_known, ⟨l_bound_lo, l_bound_hi⟩, l_pt⟩ : Local))) ?_ rfl (Ret.mk (by repeat (first | exact Below.refl _ _ | apply below_alloc | apply below_junk | apply below_drew)))
    all_goals first | (simp [results, Try.results91, go_sem, Pu.LocalOk, *]; done) | (simp [results, Try.results91, go_sem, Pu.LocalOk, *]; omega) | (go_light; simp [results, Try.results91, go_sem, Pu.LocalOk, *]; intros; exfalso; omega) | (go_light; simp [results, Try.results91, go_sem, Pu.LocalOk, *]; (repeat' split) <;> first | omega | (simp; done) | (simp_all; done)) | (go_light; simp_all [results, Try.results91, go_sem, Pu.LocalOk, ]; done) | (go_light; simp_all [results, Try.results91, go_sem, Pu.LocalOk, ]; omega)
theorem c_spec_LocalOk_b (l_known : Bool) (l_bound_lo : Int) (l_bound_hi : Int) (l_pt : Int) (w : World) (b : Bool) (hb : Pu.LocalOk (⟨l_known, ⟨l_bound_lo, l_bound_hi⟩, l_pt⟩ : Local) = b) :
    Calls Try.prog 91 #[.agg #[.bool l_known, .int .i64 l_bound_lo, .int .i64 l_bound_hi, .int .i64 l_pt]] w (Ret w (.bool b)) := by subst hb; exact c_spec_LocalOk l_known l_bound_lo l_bound_hi l_pt w

-- impl.LocalOk
set_option maxHeartbeats 1000000 in
set_option maxRecDepth 100000 in
theorem c_impl_LocalOk (l_known : Bool) (l_bound_lo : Int) (l_bound_hi : Int) (l_pt : Int) (w : World)   :
    Calls Try.prog 95 #[.agg #[.bool l_known, .int .i64 l_bound_lo, .int .i64 l_bound_hi, .int .i64 l_pt]] w (Ret w (.bool (Pu.LocalOk (⟨l_known, ⟨l_bound_lo, l_bound_hi⟩, l_pt⟩ : Local)))) := by
  rcases Bool.eq_false_or_eq_true l_known with hb0 | hb0
  all_goals
    go_enter Try.func95, Try.ntmps95
    go_wp2_with (first
      | (go_at_call 56; refine (c_impl_IvalOk _ _ _ ).mono ?_; rintro e w' hr; (rcases Ret.bool hr with ⟨rfl, hX, g, d, rfl⟩ | ⟨rfl, hX, g, d, rfl⟩ <;> first | (have hB := (Pu.IvalOk_iff _).1 hX; (try dsimp only at hB); obtain ⟨hB1, hB2, hB3⟩ := hB; clear hr) | clear hr))
      | (go_at_call 57; refine (c_impl_isTime _ _ ).mono ?_; rintro e w' hr; (rcases Ret.bool hr with ⟨rfl, hX, g, d, rfl⟩ | ⟨rfl, hX, g, d, rfl⟩ <;> first | (have hB := (Pu.isTime_iff _).1 hX; (try dsimp only at hB); obtain ⟨hB1, hB2⟩ := hB; clear hr) | (have hB := Pu.no_of (Pu.isTime_iff _) hX; (try dsimp only at hB); clear hr) | clear hr))
      | go_region)
    all_goals refine bodyPost_ret (v := .bool (Pu.LocalOk (⟨l_known, ⟨l_bound_lo, l_bound_hi⟩, l_pt⟩ : Local))) ?_ rfl (Ret.mk (by repeat (first | exact Below.refl _ _ | apply below_alloc | apply below_junk | apply below_drew)))
    all_goals first | (simp [results, Try.results95, go_sem, Pu.LocalOk, *]; done) | (simp [results, Try.results95, go_sem, Pu.LocalOk, *]; omega) | (go_light; simp [results, Try.results95, go_sem, Pu.LocalOk, *]; intros; exfalso; omega) | (go_light; simp [results, Try.results95, go_sem, Pu.LocalOk, *]; (repeat' split) <;> first | omega | (simp; done) | (simp_all; done)) | (go_light; simp_all [results, Try.results95, go_sem, Pu.LocalOk, ]; done) | (go_light; simp_all [results, Try.results95, go_sem, Pu.LocalOk, ]; omega)
theorem c_impl_LocalOk_b (l_known : Bool) (l_bound_lo : Int) (l_bound_hi : Int) (l_pt : Int) (w : World) (b : Bool) (hb : Pu.LocalOk (⟨l_known, ⟨l_bound_lo, l_bound_hi⟩, l_pt⟩ : Local) = b) :
    Calls Try.prog 95 #[.agg #[.bool l_known, .int .i64 l_bound_lo, .int .i64 l_bound_hi, .int .i64 l_pt]] w (Ret w (.bool b)) := by subst hb; exact c_impl_LocalOk l_known l_bound_lo l_bound_hi l_pt w

-- spec.CarryOn
set_option maxHeartbeats 1000000 in
set_option maxRecDepth 100000 in
theorem c_spec_CarryOn (l_known : Bool) (l_bound_lo : Int) (l_bound_hi : Int) (l_pt : Int) (d_num : Int) (d_den : Int) (c : Int) (w : World)   :
    Calls Try.prog 68 #[.agg #[.bool l_known, .int .i64 l_bound_lo, .int .i64 l_bound_hi, .int .i64 l_pt], .agg #[.int .i64 d_num, .int .i64 d_den], .int .i64 c] w (Ret w (.tuple #[.agg #[.int .i64 (((Pu.CarryOn (⟨l_known, ⟨l_bound_lo, l_bound_hi⟩, l_pt⟩ : Local) (⟨d_num, d_den⟩ : Drift) c).1).lo), .int .i64 (((Pu.CarryOn (⟨l_known, ⟨l_bound_lo, l_bound_hi⟩, l_pt⟩ : Local) (⟨d_num, d_den⟩ : Drift) c).1).hi)], .int .i64 ((Pu.CarryOn (⟨l_known, ⟨l_bound_lo, l_bound_hi⟩, l_pt⟩ : Local) (⟨d_num, d_den⟩ : Drift) c).2)])) := by
  rcases Bool.eq_false_or_eq_true l_known with hb0 | hb0
  all_goals
    go_enter Try.func68, Try.ntmps68
    go_wp2_with (first
      | (go_at_call 91; refine (c_spec_LocalOk _ _ _ _ _ ).mono ?_; rintro e w' hr; (rcases Ret.bool hr with ⟨rfl, hX, g, d, rfl⟩ | ⟨rfl, hX, g, d, rfl⟩ <;> first | (have hB := Pu.LocalOk_bd hX; (try dsimp only at hB); obtain ⟨hB1, hB2, hB3, hB4, hB5⟩ := hB; clear hr) | clear hr))
      | (go_at_call 92; refine (c_spec_DriftOk _ _ _ ).mono ?_; rintro e w' hr; (rcases Ret.bool hr with ⟨rfl, hX, g, d, rfl⟩ | ⟨rfl, hX, g, d, rfl⟩ <;> first | (have hB := (Pu.DriftOk_iff _).1 hX; (try dsimp only at hB); obtain ⟨hB1, hB2, hB3, hB4, hB5⟩ := hB; clear hr) | clear hr))
      | (go_at_call 53; refine (c_spec_l2Time _ _ ).mono ?_; rintro e w' hr; (rcases Ret.bool hr with ⟨rfl, hX, g, d, rfl⟩ | ⟨rfl, hX, g, d, rfl⟩ <;> first | (have hB := (Pu.isTime_iff _).1 hX; (try dsimp only at hB); obtain ⟨hB1, hB2⟩ := hB; clear hr) | (have hB := Pu.no_of (Pu.isTime_iff _) hX; (try dsimp only at hB); clear hr) | clear hr))
      | (go_at_call 93; refine (c_spec_Between _ _ _ _ ).mono ?_; rintro e w' hr; obtain ⟨rfl, g, d, rfl⟩ := Ret.open hr; clear hr)
      | (go_at_call 94; refine (c_spec_PlusIval _ _ _ _ _ ).mono ?_; rintro e w' hr; obtain ⟨rfl, g, d, rfl⟩ := Ret.open hr; clear hr)
      | go_region)
    all_goals refine bodyPost_ret (v := .tuple #[.agg #[.int .i64 (((Pu.CarryOn (⟨l_known, ⟨l_bound_lo, l_bound_hi⟩, l_pt⟩ : Local) (⟨d_num, d_den⟩ : Drift) c).1).lo), .int .i64 (((Pu.CarryOn (⟨l_known, ⟨l_bound_lo, l_bound_hi⟩, l_pt⟩ : Local) (⟨d_num, d_den⟩ : Drift) c).1).hi)], .int .i64 ((Pu.CarryOn (⟨l_known, ⟨l_bound_lo, l_bound_hi⟩, l_pt⟩ : Local) (⟨d_num, d_den⟩ : Drift) c).2)]) ?_ rfl (Ret.mk (by repeat (first | exact Below.refl _ _ | apply below_alloc | apply below_junk | apply below_drew)))
    all_goals first | (simp [results, Try.results68, go_sem, Pu.CarryOn, *]; done) | (simp [results, Try.results68, go_sem, Pu.CarryOn, *]; omega) | (go_light; simp [results, Try.results68, go_sem, Pu.CarryOn, *]; intros; exfalso; omega) | (go_light; simp [results, Try.results68, go_sem, Pu.CarryOn, *]; (repeat' split) <;> first | omega | (simp; done) | (simp_all; done)) | (go_light; simp_all [results, Try.results68, go_sem, Pu.CarryOn, ]; done) | (go_light; simp_all [results, Try.results68, go_sem, Pu.CarryOn, ]; omega)

-- impl.CarryOn
set_option maxHeartbeats 1000000 in
set_option maxRecDepth 100000 in
theorem c_impl_CarryOn (l_known : Bool) (l_bound_lo : Int) (l_bound_hi : Int) (l_pt : Int) (d_num : Int) (d_den : Int) (c : Int) (w : World)   :
    Calls Try.prog 69 #[.agg #[.bool l_known, .int .i64 l_bound_lo, .int .i64 l_bound_hi, .int .i64 l_pt], .agg #[.int .i64 d_num, .int .i64 d_den], .int .i64 c] w (Ret w (.tuple #[.agg #[.int .i64 (((Pu.CarryOn (⟨l_known, ⟨l_bound_lo, l_bound_hi⟩, l_pt⟩ : Local) (⟨d_num, d_den⟩ : Drift) c).1).lo), .int .i64 (((Pu.CarryOn (⟨l_known, ⟨l_bound_lo, l_bound_hi⟩, l_pt⟩ : Local) (⟨d_num, d_den⟩ : Drift) c).1).hi)], .int .i64 ((Pu.CarryOn (⟨l_known, ⟨l_bound_lo, l_bound_hi⟩, l_pt⟩ : Local) (⟨d_num, d_den⟩ : Drift) c).2)])) := by
  rcases Bool.eq_false_or_eq_true l_known with hb0 | hb0
  all_goals
    go_enter Try.func69, Try.ntmps69
    go_wp2_with (first
      | (go_at_call 95; refine (c_impl_LocalOk _ _ _ _ _ ).mono ?_; rintro e w' hr; (rcases Ret.bool hr with ⟨rfl, hX, g, d, rfl⟩ | ⟨rfl, hX, g, d, rfl⟩ <;> first | (have hB := Pu.LocalOk_bd hX; (try dsimp only at hB); obtain ⟨hB1, hB2, hB3, hB4, hB5⟩ := hB; clear hr) | clear hr))
      | (go_at_call 96; refine (c_impl_DriftOk _ _ _ ).mono ?_; rintro e w' hr; (rcases Ret.bool hr with ⟨rfl, hX, g, d, rfl⟩ | ⟨rfl, hX, g, d, rfl⟩ <;> first | (have hB := (Pu.DriftOk_iff _).1 hX; (try dsimp only at hB); obtain ⟨hB1, hB2, hB3, hB4, hB5⟩ := hB; clear hr) | clear hr))
      | (go_at_call 57; refine (c_impl_isTime _ _ ).mono ?_; rintro e w' hr; (rcases Ret.bool hr with ⟨rfl, hX, g, d, rfl⟩ | ⟨rfl, hX, g, d, rfl⟩ <;> first | (have hB := (Pu.isTime_iff _).1 hX; (try dsimp only at hB); obtain ⟨hB1, hB2⟩ := hB; clear hr) | (have hB := Pu.no_of (Pu.isTime_iff _) hX; (try dsimp only at hB); clear hr) | clear hr))
      | (go_at_call 97; refine (c_impl_Between _ _ _ _ ).mono ?_; rintro e w' hr; obtain ⟨rfl, g, d, rfl⟩ := Ret.open hr; clear hr)
      | (go_at_call 98; refine (c_impl_PlusIval _ _ _ _ _ ).mono ?_; rintro e w' hr; obtain ⟨rfl, g, d, rfl⟩ := Ret.open hr; clear hr)
      | go_region)
    all_goals refine bodyPost_ret (v := .tuple #[.agg #[.int .i64 (((Pu.CarryOn (⟨l_known, ⟨l_bound_lo, l_bound_hi⟩, l_pt⟩ : Local) (⟨d_num, d_den⟩ : Drift) c).1).lo), .int .i64 (((Pu.CarryOn (⟨l_known, ⟨l_bound_lo, l_bound_hi⟩, l_pt⟩ : Local) (⟨d_num, d_den⟩ : Drift) c).1).hi)], .int .i64 ((Pu.CarryOn (⟨l_known, ⟨l_bound_lo, l_bound_hi⟩, l_pt⟩ : Local) (⟨d_num, d_den⟩ : Drift) c).2)]) ?_ rfl (Ret.mk (by repeat (first | exact Below.refl _ _ | apply below_alloc | apply below_junk | apply below_drew)))
    all_goals first | (simp [results, Try.results69, go_sem, Pu.CarryOn, *]; done) | (simp [results, Try.results69, go_sem, Pu.CarryOn, *]; omega) | (go_light; simp [results, Try.results69, go_sem, Pu.CarryOn, *]; intros; exfalso; omega) | (go_light; simp [results, Try.results69, go_sem, Pu.CarryOn, *]; (repeat' split) <;> first | omega | (simp; done) | (simp_all; done)) | (go_light; simp_all [results, Try.results69, go_sem, Pu.CarryOn, ]; done) | (go_light; simp_all [results, Try.results69, go_sem, Pu.CarryOn, ]; omega)

end Go.Proofs.Ytbfbcecghokpoaa
