/-
  Contracts of Go functions of this seat: what each call hands back, as a plain function of its arguments, and that nothing that was there has turned.
  No statement of the seat is proved here.
-/
import Derived.Test.YtbfbcecghokpoaaProg
import Derived.Test.YtbfbcecghokpoaaPure
import Derived.Test.YtbfbcecghokpoaaActs
import Derived.Deep.Light
import Derived.RegionTactic
import Derived.Deep.RegionWith
import Derived.BigRegion
import Derived.ChangeAlike
import Derived.Test.YtbfbcecghokpoaaCa
namespace Go.Proofs.Ytbfbcecghokpoaa
open Go.RowKit
set_option linter.unusedVariables false
set_option linter.unusedSimpArgs false

-- spec.LeastTime
set_option maxHeartbeats 1000000 in
set_option maxRecDepth 100000 in
theorem c_spec_LeastTime (d_num : Int) (d_den : Int) (c : Int) (w : World)   :
    Calls Try.prog 109 #[.agg #[.int .i64 d_num, .int .i64 d_den], .int .i64 c] w (Ret w (.tuple #[.int .i64 ((Pu.LeastTime (⟨d_num, d_den⟩ : Drift) c).1), .bool ((Pu.LeastTime (⟨d_num, d_den⟩ : Drift) c).2)])) := by
  have hm1 := Pu.mul18 c d_den
  go_enter Try.func109, Try.ntmps109
  go_wp2_with (first
    | (go_at_call 92; refine (c_spec_DriftOk _ _ _ ).mono ?_; rintro e w' hr; (rcases Ret.bool hr with ⟨rfl, hX, g, d, rfl⟩ | ⟨rfl, hX, g, d, rfl⟩ <;> first | (have hB := (Pu.DriftOk_iff _).1 hX; (try dsimp only at hB); obtain ⟨hB1, hB2, hB3, hB4, hB5⟩ := hB; clear hr) | clear hr))
    | (go_at_call 53; refine (c_spec_l2Time _ _ ).mono ?_; rintro e w' hr; (rcases Ret.bool hr with ⟨rfl, hX, g, d, rfl⟩ | ⟨rfl, hX, g, d, rfl⟩ <;> first | (have hB := (Pu.isTime_iff _).1 hX; (try dsimp only at hB); obtain ⟨hB1, hB2⟩ := hB; clear hr) | (have hB := Pu.no_of (Pu.isTime_iff _) hX; (try dsimp only at hB); clear hr) | clear hr))
    | (go_at_call 119; refine (c_spec_l2Told _ _ ).mono ?_; rintro e w' hr; obtain ⟨rfl, g, d, rfl⟩ := Ret.open hr; clear hr)
    | (go_at_call 120; refine (c_spec_l1Up _ _ _ (by omega) (by omega) (by omega)).mono ?_; rintro e w' hr; obtain ⟨rfl, g, d, rfl⟩ := Ret.open hr; clear hr)
    | go_region)
  all_goals refine bodyPost_ret (v := .tuple #[.int .i64 ((Pu.LeastTime (⟨d_num, d_den⟩ : Drift) c).1), .bool ((Pu.LeastTime (⟨d_num, d_den⟩ : Drift) c).2)]) ?_ rfl (Ret.mk (by repeat (first | exact Below.refl _ _ | apply below_alloc | apply below_junk | apply below_drew)))
  all_goals first | (simp [results, Try.results109, go_sem, Pu.LeastTime, *]; done) | (simp [results, Try.results109, go_sem, Pu.LeastTime, *]; omega) | (go_light; simp [results, Try.results109, go_sem, Pu.LeastTime, *]; intros; exfalso; omega) | (go_light; simp [results, Try.results109, go_sem, Pu.LeastTime, *]; (repeat' split) <;> first | omega | (simp; done) | (simp_all; done)) | (go_light; simp_all [results, Try.results109, go_sem, Pu.LeastTime, ]; done) | (go_light; simp_all [results, Try.results109, go_sem, Pu.LeastTime, ]; omega)

-- impl.LeastTime
set_option maxHeartbeats 1000000 in
set_option maxRecDepth 100000 in
theorem c_impl_LeastTime (d_num : Int) (d_den : Int) (c : Int) (w : World)   :
    Calls Try.prog 113 #[.agg #[.int .i64 d_num, .int .i64 d_den], .int .i64 c] w (Ret w (.tuple #[.int .i64 ((Pu.LeastTime (⟨d_num, d_den⟩ : Drift) c).1), .bool ((Pu.LeastTime (⟨d_num, d_den⟩ : Drift) c).2)])) := by
  have hm1 := Pu.mul18 c d_den
  go_enter Try.func113, Try.ntmps113
  go_wp2_with (first
    | (go_at_call 96; refine (c_impl_DriftOk _ _ _ ).mono ?_; rintro e w' hr; (rcases Ret.bool hr with ⟨rfl, hX, g, d, rfl⟩ | ⟨rfl, hX, g, d, rfl⟩ <;> first | (have hB := (Pu.DriftOk_iff _).1 hX; (try dsimp only at hB); obtain ⟨hB1, hB2, hB3, hB4, hB5⟩ := hB; clear hr) | clear hr))
    | (go_at_call 57; refine (c_impl_isTime _ _ ).mono ?_; rintro e w' hr; (rcases Ret.bool hr with ⟨rfl, hX, g, d, rfl⟩ | ⟨rfl, hX, g, d, rfl⟩ <;> first | (have hB := (Pu.isTime_iff _).1 hX; (try dsimp only at hB); obtain ⟨hB1, hB2⟩ := hB; clear hr) | (have hB := Pu.no_of (Pu.isTime_iff _) hX; (try dsimp only at hB); clear hr) | clear hr))
    | (go_at_call 124; refine (c_impl_up _ _ _ (by omega) (by omega) (by omega)).mono ?_; rintro e w' hr; obtain ⟨rfl, g, d, rfl⟩ := Ret.open hr; clear hr)
    | (go_at_call 122; go_in)
    | (go_at_call 123; go_in)
    | go_region)
  all_goals refine bodyPost_ret (v := .tuple #[.int .i64 ((Pu.LeastTime (⟨d_num, d_den⟩ : Drift) c).1), .bool ((Pu.LeastTime (⟨d_num, d_den⟩ : Drift) c).2)]) ?_ rfl (Ret.mk (by repeat (first | exact Below.refl _ _ | apply below_alloc | apply below_junk | apply below_drew)))
  all_goals first | (simp [results, Try.results113, go_sem, Pu.LeastTime, Pu.Told2, *]; done) | (simp [results, Try.results113, go_sem, Pu.LeastTime, Pu.Told2, *]; omega) | (go_light; simp [results, Try.results113, go_sem, Pu.LeastTime, Pu.Told2, *]; intros; exfalso; omega) | (go_light; simp [results, Try.results113, go_sem, Pu.LeastTime, Pu.Told2, *]; (repeat' split) <;> first | omega | (simp; done) | (simp_all; done)) | (go_light; simp_all [results, Try.results113, go_sem, Pu.LeastTime, Pu.Told2, ]; done) | (go_light; simp_all [results, Try.results113, go_sem, Pu.LeastTime, Pu.Told2, ]; omega)

-- spec.MostTime
set_option maxHeartbeats 1000000 in
set_option maxRecDepth 100000 in
theorem c_spec_MostTime (d_num : Int) (d_den : Int) (c : Int) (w : World)   :
    Calls Try.prog 110 #[.agg #[.int .i64 d_num, .int .i64 d_den], .int .i64 c] w (Ret w (.tuple #[.int .i64 ((Pu.MostTime (⟨d_num, d_den⟩ : Drift) c).1), .bool ((Pu.MostTime (⟨d_num, d_den⟩ : Drift) c).2)])) := by
  have hm1 := Pu.mul18 c d_den
  go_enter Try.func110, Try.ntmps110
  go_wp2_with (first
    | (go_at_call 92; refine (c_spec_DriftOk _ _ _ ).mono ?_; rintro e w' hr; (rcases Ret.bool hr with ⟨rfl, hX, g, d, rfl⟩ | ⟨rfl, hX, g, d, rfl⟩ <;> first | (have hB := (Pu.DriftOk_iff _).1 hX; (try dsimp only at hB); obtain ⟨hB1, hB2, hB3, hB4, hB5⟩ := hB; clear hr) | clear hr))
    | (go_at_call 53; refine (c_spec_l2Time _ _ ).mono ?_; rintro e w' hr; (rcases Ret.bool hr with ⟨rfl, hX, g, d, rfl⟩ | ⟨rfl, hX, g, d, rfl⟩ <;> first | (have hB := (Pu.isTime_iff _).1 hX; (try dsimp only at hB); obtain ⟨hB1, hB2⟩ := hB; clear hr) | (have hB := Pu.no_of (Pu.isTime_iff _) hX; (try dsimp only at hB); clear hr) | clear hr))
    | (go_at_call 119; refine (c_spec_l2Told _ _ ).mono ?_; rintro e w' hr; obtain ⟨rfl, g, d, rfl⟩ := Ret.open hr; clear hr)
    | (go_at_call 121; refine (c_spec_l1Down _ _ _ (by omega) (by omega) (by omega)).mono ?_; rintro e w' hr; obtain ⟨rfl, g, d, rfl⟩ := Ret.open hr; clear hr)
    | go_region)
  all_goals refine bodyPost_ret (v := .tuple #[.int .i64 ((Pu.MostTime (⟨d_num, d_den⟩ : Drift) c).1), .bool ((Pu.MostTime (⟨d_num, d_den⟩ : Drift) c).2)]) ?_ rfl (Ret.mk (by repeat (first | exact Below.refl _ _ | apply below_alloc | apply below_junk | apply below_drew)))
  all_goals first | (simp [results, Try.results110, go_sem, Pu.MostTime, *]; done) | (simp [results, Try.results110, go_sem, Pu.MostTime, *]; omega) | (go_light; simp [results, Try.results110, go_sem, Pu.MostTime, *]; intros; exfalso; omega) | (go_light; simp [results, Try.results110, go_sem, Pu.MostTime, *]; (repeat' split) <;> first | omega | (simp; done) | (simp_all; done)) | (go_light; simp_all [results, Try.results110, go_sem, Pu.MostTime, ]; done) | (go_light; simp_all [results, Try.results110, go_sem, Pu.MostTime, ]; omega)

-- impl.MostTime
set_option maxHeartbeats 1000000 in
set_option maxRecDepth 100000 in
theorem c_impl_MostTime (d_num : Int) (d_den : Int) (c : Int) (w : World)   :
    Calls Try.prog 114 #[.agg #[.int .i64 d_num, .int .i64 d_den], .int .i64 c] w (Ret w (.tuple #[.int .i64 ((Pu.MostTime (⟨d_num, d_den⟩ : Drift) c).1), .bool ((Pu.MostTime (⟨d_num, d_den⟩ : Drift) c).2)])) := by
  have hm1 := Pu.mul18 c d_den
  go_enter Try.func114, Try.ntmps114
  go_wp2_with (first
    | (go_at_call 96; refine (c_impl_DriftOk _ _ _ ).mono ?_; rintro e w' hr; (rcases Ret.bool hr with ⟨rfl, hX, g, d, rfl⟩ | ⟨rfl, hX, g, d, rfl⟩ <;> first | (have hB := (Pu.DriftOk_iff _).1 hX; (try dsimp only at hB); obtain ⟨hB1, hB2, hB3, hB4, hB5⟩ := hB; clear hr) | clear hr))
    | (go_at_call 57; refine (c_impl_isTime _ _ ).mono ?_; rintro e w' hr; (rcases Ret.bool hr with ⟨rfl, hX, g, d, rfl⟩ | ⟨rfl, hX, g, d, rfl⟩ <;> first | (have hB := (Pu.isTime_iff _).1 hX; (try dsimp only at hB); obtain ⟨hB1, hB2⟩ := hB; clear hr) | (have hB := Pu.no_of (Pu.isTime_iff _) hX; (try dsimp only at hB); clear hr) | clear hr))
    | (go_at_call 122; go_in)
    | (go_at_call 125; go_in)
    | go_region)
  all_goals refine bodyPost_ret (v := .tuple #[.int .i64 ((Pu.MostTime (⟨d_num, d_den⟩ : Drift) c).1), .bool ((Pu.MostTime (⟨d_num, d_den⟩ : Drift) c).2)]) ?_ rfl (Ret.mk (by repeat (first | exact Below.refl _ _ | apply below_alloc | apply below_junk | apply below_drew)))
  all_goals first | (simp [results, Try.results114, go_sem, Pu.MostTime, Pu.Told2, *]; done) | (simp [results, Try.results114, go_sem, Pu.MostTime, Pu.Told2, *]; omega) | (go_light; simp [results, Try.results114, go_sem, Pu.MostTime, Pu.Told2, *]; intros; exfalso; omega) | (go_light; simp [results, Try.results114, go_sem, Pu.MostTime, Pu.Told2, *]; (repeat' split) <;> first | omega | (simp; done) | (simp_all; done)) | (go_light; simp_all [results, Try.results114, go_sem, Pu.MostTime, Pu.Told2, ]; done) | (go_light; simp_all [results, Try.results114, go_sem, Pu.MostTime, Pu.Told2, ]; omega)

-- spec.LeastCount
set_option maxHeartbeats 1000000 in
set_option maxRecDepth 100000 in
theorem c_spec_LeastCount (d_num : Int) (d_den : Int) (c : Int) (w : World)   :
    Calls Try.prog 116 #[.agg #[.int .i64 d_num, .int .i64 d_den], .int .i64 c] w (Ret w (.tuple #[.int .i64 ((Pu.LeastCount (⟨d_num, d_den⟩ : Drift) c).1), .bool ((Pu.LeastCount (⟨d_num, d_den⟩ : Drift) c).2)])) := by
  have hm1 := Pu.mul18 c (d_den - d_num)
  go_enter Try.func116, Try.ntmps116
  go_wp2_with (first
    | (go_at_call 92; refine (c_spec_DriftOk _ _ _ ).mono ?_; rintro e w' hr; (rcases Ret.bool hr with ⟨rfl, hX, g, d, rfl⟩ | ⟨rfl, hX, g, d, rfl⟩ <;> first | (have hB := (Pu.DriftOk_iff _).1 hX; (try dsimp only at hB); obtain ⟨hB1, hB2, hB3, hB4, hB5⟩ := hB; clear hr) | clear hr))
    | (go_at_call 53; refine (c_spec_l2Time _ _ ).mono ?_; rintro e w' hr; (rcases Ret.bool hr with ⟨rfl, hX, g, d, rfl⟩ | ⟨rfl, hX, g, d, rfl⟩ <;> first | (have hB := (Pu.isTime_iff _).1 hX; (try dsimp only at hB); obtain ⟨hB1, hB2⟩ := hB; clear hr) | (have hB := Pu.no_of (Pu.isTime_iff _) hX; (try dsimp only at hB); clear hr) | clear hr))
    | (go_at_call 119; refine (c_spec_l2Told _ _ ).mono ?_; rintro e w' hr; obtain ⟨rfl, g, d, rfl⟩ := Ret.open hr; clear hr)
    | (go_at_call 120; refine (c_spec_l1Up _ _ _ (by omega) (by omega) (by omega)).mono ?_; rintro e w' hr; obtain ⟨rfl, g, d, rfl⟩ := Ret.open hr; clear hr)
    | go_region)
  all_goals refine bodyPost_ret (v := .tuple #[.int .i64 ((Pu.LeastCount (⟨d_num, d_den⟩ : Drift) c).1), .bool ((Pu.LeastCount (⟨d_num, d_den⟩ : Drift) c).2)]) ?_ rfl (Ret.mk (by repeat (first | exact Below.refl _ _ | apply below_alloc | apply below_junk | apply below_drew)))
  all_goals first | (simp [results, Try.results116, go_sem, Pu.LeastCount, *]; done) | (simp [results, Try.results116, go_sem, Pu.LeastCount, *]; omega) | (go_light; simp [results, Try.results116, go_sem, Pu.LeastCount, *]; intros; exfalso; omega) | (go_light; simp [results, Try.results116, go_sem, Pu.LeastCount, *]; (repeat' split) <;> first | omega | (simp; done) | (simp_all; done)) | (go_light; simp_all [results, Try.results116, go_sem, Pu.LeastCount, ]; done) | (go_light; simp_all [results, Try.results116, go_sem, Pu.LeastCount, ]; omega)

-- spec.MostCount
set_option maxHeartbeats 1000000 in
set_option maxRecDepth 100000 in
theorem c_spec_MostCount (d_num : Int) (d_den : Int) (c : Int) (w : World)   :
    Calls Try.prog 117 #[.agg #[.int .i64 d_num, .int .i64 d_den], .int .i64 c] w (Ret w (.tuple #[.int .i64 ((Pu.MostCount (⟨d_num, d_den⟩ : Drift) c).1), .bool ((Pu.MostCount (⟨d_num, d_den⟩ : Drift) c).2)])) := by
  have hm1 := Pu.mul18 c (d_den + d_num)
  go_enter Try.func117, Try.ntmps117
  go_wp2_with (first
    | (go_at_call 92; refine (c_spec_DriftOk _ _ _ ).mono ?_; rintro e w' hr; (rcases Ret.bool hr with ⟨rfl, hX, g, d, rfl⟩ | ⟨rfl, hX, g, d, rfl⟩ <;> first | (have hB := (Pu.DriftOk_iff _).1 hX; (try dsimp only at hB); obtain ⟨hB1, hB2, hB3, hB4, hB5⟩ := hB; clear hr) | clear hr))
    | (go_at_call 53; refine (c_spec_l2Time _ _ ).mono ?_; rintro e w' hr; (rcases Ret.bool hr with ⟨rfl, hX, g, d, rfl⟩ | ⟨rfl, hX, g, d, rfl⟩ <;> first | (have hB := (Pu.isTime_iff _).1 hX; (try dsimp only at hB); obtain ⟨hB1, hB2⟩ := hB; clear hr) | (have hB := Pu.no_of (Pu.isTime_iff _) hX; (try dsimp only at hB); clear hr) | clear hr))
    | (go_at_call 119; refine (c_spec_l2Told _ _ ).mono ?_; rintro e w' hr; obtain ⟨rfl, g, d, rfl⟩ := Ret.open hr; clear hr)
    | (go_at_call 121; refine (c_spec_l1Down _ _ _ (by omega) (by omega) (by omega)).mono ?_; rintro e w' hr; obtain ⟨rfl, g, d, rfl⟩ := Ret.open hr; clear hr)
    | go_region)
  all_goals refine bodyPost_ret (v := .tuple #[.int .i64 ((Pu.MostCount (⟨d_num, d_den⟩ : Drift) c).1), .bool ((Pu.MostCount (⟨d_num, d_den⟩ : Drift) c).2)]) ?_ rfl (Ret.mk (by repeat (first | exact Below.refl _ _ | apply below_alloc | apply below_junk | apply below_drew)))
  all_goals first | (simp [results, Try.results117, go_sem, Pu.MostCount, *]; done) | (simp [results, Try.results117, go_sem, Pu.MostCount, *]; omega) | (go_light; simp [results, Try.results117, go_sem, Pu.MostCount, *]; intros; exfalso; omega) | (go_light; simp [results, Try.results117, go_sem, Pu.MostCount, *]; (repeat' split) <;> first | omega | (simp; done) | (simp_all; done)) | (go_light; simp_all [results, Try.results117, go_sem, Pu.MostCount, ]; done) | (go_light; simp_all [results, Try.results117, go_sem, Pu.MostCount, ]; omega)

-- impl.both
set_option maxHeartbeats 1000000 in
set_option maxRecDepth 100000 in
theorem c_impl_both (d_num : Int) (d_den : Int) (c : Int) (w : World)   :
    Calls Try.prog 112 #[.agg #[.int .i64 d_num, .int .i64 d_den], .int .i64 c, .func (.func 113) #[] #[], .func (.func 114) #[] #[]] w (Ret w (.tuple #[.agg #[.int .i64 (((Pu.Between (⟨d_num, d_den⟩ : Drift) c).1).lo), .int .i64 (((Pu.Between (⟨d_num, d_den⟩ : Drift) c).1).hi)], .bool ((Pu.Between (⟨d_num, d_den⟩ : Drift) c).2)])) := by
  go_enter Try.func112, Try.ntmps112
  go_wp2_with (first
    | (go_at_call 113; refine (c_impl_LeastTime _ _ _ _ ).mono ?_; rintro e w' hr; obtain ⟨rfl, g, d, rfl⟩ := Ret.open hr; clear hr)
    | (go_at_call 114; refine (c_impl_MostTime _ _ _ _ ).mono ?_; rintro e w' hr; obtain ⟨rfl, g, d, rfl⟩ := Ret.open hr; clear hr)
    | go_region)
  all_goals refine bodyPost_ret (v := .tuple #[.agg #[.int .i64 (((Pu.Between (⟨d_num, d_den⟩ : Drift) c).1).lo), .int .i64 (((Pu.Between (⟨d_num, d_den⟩ : Drift) c).1).hi)], .bool ((Pu.Between (⟨d_num, d_den⟩ : Drift) c).2)]) ?_ rfl (Ret.mk (by repeat (first | exact Below.refl _ _ | apply below_alloc | apply below_junk | apply below_drew)))
  all_goals first | (simp [results, Try.results112, go_sem, Pu.Between, *]; done) | (simp [results, Try.results112, go_sem, Pu.Between, *]; omega) | (go_light; simp [results, Try.results112, go_sem, Pu.Between, *]; intros; exfalso; omega) | (go_light; simp [results, Try.results112, go_sem, Pu.Between, *]; (repeat' split) <;> first | omega | (simp; done) | (simp_all; done)) | (go_light; simp_all [results, Try.results112, go_sem, Pu.Between, ]; done) | (go_light; simp_all [results, Try.results112, go_sem, Pu.Between, ]; omega)

-- spec.Between
set_option maxHeartbeats 1000000 in
set_option maxRecDepth 100000 in
theorem c_spec_Between (d_num : Int) (d_den : Int) (c : Int) (w : World)   :
    Calls Try.prog 93 #[.agg #[.int .i64 d_num, .int .i64 d_den], .int .i64 c] w (Ret w (.tuple #[.agg #[.int .i64 (((Pu.Between (⟨d_num, d_den⟩ : Drift) c).1).lo), .int .i64 (((Pu.Between (⟨d_num, d_den⟩ : Drift) c).1).hi)], .bool ((Pu.Between (⟨d_num, d_den⟩ : Drift) c).2)])) := by
  go_enter Try.func93, Try.ntmps93
  go_wp2_with (first
    | (go_at_call 109; refine (c_spec_LeastTime _ _ _ _ ).mono ?_; rintro e w' hr; obtain ⟨rfl, g, d, rfl⟩ := Ret.open hr; clear hr)
    | (go_at_call 110; refine (c_spec_MostTime _ _ _ _ ).mono ?_; rintro e w' hr; obtain ⟨rfl, g, d, rfl⟩ := Ret.open hr; clear hr)
    | go_region)
  all_goals refine bodyPost_ret (v := .tuple #[.agg #[.int .i64 (((Pu.Between (⟨d_num, d_den⟩ : Drift) c).1).lo), .int .i64 (((Pu.Between (⟨d_num, d_den⟩ : Drift) c).1).hi)], .bool ((Pu.Between (⟨d_num, d_den⟩ : Drift) c).2)]) ?_ rfl (Ret.mk (by repeat (first | exact Below.refl _ _ | apply below_alloc | apply below_junk | apply below_drew)))
  all_goals first | (simp [results, Try.results93, go_sem, Pu.Between, *]; done) | (simp [results, Try.results93, go_sem, Pu.Between, *]; omega) | (go_light; simp [results, Try.results93, go_sem, Pu.Between, *]; intros; exfalso; omega) | (go_light; simp [results, Try.results93, go_sem, Pu.Between, *]; (repeat' split) <;> first | omega | (simp; done) | (simp_all; done)) | (go_light; simp_all [results, Try.results93, go_sem, Pu.Between, ]; done) | (go_light; simp_all [results, Try.results93, go_sem, Pu.Between, ]; omega)

-- impl.Between
set_option maxHeartbeats 1000000 in
set_option maxRecDepth 100000 in
theorem c_impl_Between (d_num : Int) (d_den : Int) (c : Int) (w : World)   :
    Calls Try.prog 97 #[.agg #[.int .i64 d_num, .int .i64 d_den], .int .i64 c] w (Ret w (.tuple #[.agg #[.int .i64 (((Pu.Between (⟨d_num, d_den⟩ : Drift) c).1).lo), .int .i64 (((Pu.Between (⟨d_num, d_den⟩ : Drift) c).1).hi)], .bool ((Pu.Between (⟨d_num, d_den⟩ : Drift) c).2)])) := by
  go_enter Try.func97, Try.ntmps97
  go_wp2_with (first
    | (go_at_call 112; refine (c_impl_both _ _ _ _ ).mono ?_; rintro e w' hr; obtain ⟨rfl, g, d, rfl⟩ := Ret.open hr; clear hr)
    | (go_at_call 113; refine (c_impl_LeastTime _ _ _ _ ).mono ?_; rintro e w' hr; obtain ⟨rfl, g, d, rfl⟩ := Ret.open hr; clear hr)
    | (go_at_call 114; refine (c_impl_MostTime _ _ _ _ ).mono ?_; rintro e w' hr; obtain ⟨rfl, g, d, rfl⟩ := Ret.open hr; clear hr)
    | go_region)
  all_goals refine bodyPost_ret (v := .tuple #[.agg #[.int .i64 (((Pu.Between (⟨d_num, d_den⟩ : Drift) c).1).lo), .int .i64 (((Pu.Between (⟨d_num, d_den⟩ : Drift) c).1).hi)], .bool ((Pu.Between (⟨d_num, d_den⟩ : Drift) c).2)]) ?_ rfl (Ret.mk (by repeat (first | exact Below.refl _ _ | apply below_alloc | apply below_junk | apply below_drew)))
  all_goals first | (simp [results, Try.results97, go_sem, Pu.Between, *]; done) | (simp [results, Try.results97, go_sem, Pu.Between, *]; omega) | (go_light; simp [results, Try.results97, go_sem, Pu.Between, *]; intros; exfalso; omega) | (go_light; simp [results, Try.results97, go_sem, Pu.Between, *]; (repeat' split) <;> first | omega | (simp; done) | (simp_all; done)) | (go_light; simp_all [results, Try.results97, go_sem, Pu.Between, ]; done) | (go_light; simp_all [results, Try.results97, go_sem, Pu.Between, ]; omega)

end Go.Proofs.Ytbfbcecghokpoaa
