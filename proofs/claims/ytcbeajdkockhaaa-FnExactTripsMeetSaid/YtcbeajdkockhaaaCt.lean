/-
  Contracts of Go functions of this seat: what each call hands back, as a plain function of its arguments, and that nothing that was there has turned.
  No statement of the seat is proved here.
-/
import Derived.Test.YtcbeajdkockhaaaProg
import Derived.Test.YtcbeajdkockhaaaPure
import Derived.Test.YtcbeajdkockhaaaActs
import Derived.Deep.Light
import Derived.RegionTactic
import Derived.Deep.RegionWith
import Derived.BigRegion
import Derived.ChangeAlike
import Derived.Test.YtcbeajdkockhaaaCa
import Derived.Test.YtcbeajdkockhaaaCl
import Derived.Test.YtcbeajdkockhaaaCd
import Derived.Test.YtcbeajdkockhaaaCk
namespace Go.Proofs.Ytcbeajdkockhaaa
open Go.RowKit
set_option linter.unusedVariables false
set_option linter.unusedSimpArgs false

-- spec.RoundBound
set_option maxHeartbeats 1000000 in
set_option maxRecDepth 100000 in
theorem c_spec_RoundBound (d_num : Int) (d_den : Int) (said_lo : Int) (said_hi : Int) (trip : Int) (w : World)   :
    Calls Try.prog 21 #[.agg #[.int .i64 d_num, .int .i64 d_den], .agg #[.int .i64 said_lo, .int .i64 said_hi], .int .i64 trip] w (Ret w (.tuple #[.agg #[.int .i64 (((Pu.RoundBound (⟨d_num, d_den⟩ : Drift) (⟨said_lo, said_hi⟩ : Ival) trip).1).lo), .int .i64 (((Pu.RoundBound (⟨d_num, d_den⟩ : Drift) (⟨said_lo, said_hi⟩ : Ival) trip).1).hi)], .int .i64 ((Pu.RoundBound (⟨d_num, d_den⟩ : Drift) (⟨said_lo, said_hi⟩ : Ival) trip).2)])) := by
  go_enter Try.func21, Try.ntmps21
  go_wp2_with (first
    | (go_at_call 54; refine (c_spec_DriftOk _ _ _ ).mono ?_; rintro e w' hr; (rcases Ret.bool hr with ⟨rfl, hX, g, d, rfl⟩ | ⟨rfl, hX, g, d, rfl⟩ <;> first | (have hB := (Pu.DriftOk_iff _).1 hX; (try dsimp only at hB); obtain ⟨hB1, hB2, hB3, hB4, hB5⟩ := hB; clear hr) | clear hr))
    | (go_at_call 49; refine (c_spec_IvalOk _ _ _ ).mono ?_; rintro e w' hr; (rcases Ret.bool hr with ⟨rfl, hX, g, d, rfl⟩ | ⟨rfl, hX, g, d, rfl⟩ <;> first | (have hB := (Pu.IvalOk_iff _).1 hX; (try dsimp only at hB); obtain ⟨hB1, hB2, hB3⟩ := hB; clear hr) | clear hr))
    | (go_at_call 50; refine (c_spec_l2Time _ _ ).mono ?_; rintro e w' hr; (rcases Ret.bool hr with ⟨rfl, hX, g, d, rfl⟩ | ⟨rfl, hX, g, d, rfl⟩ <;> first | (have hB := (Pu.isTime_iff _).1 hX; (try dsimp only at hB); obtain ⟨hB1, hB2⟩ := hB; clear hr) | (have hB := Pu.no_of (Pu.isTime_iff _) hX; (try dsimp only at hB); clear hr) | clear hr))
    | (go_at_call 60; refine (c_spec_MostTime _ _ _ _ ).mono ?_; rintro e w' hr; obtain ⟨rfl, g, d, rfl⟩ := Ret.open hr; clear hr)
    | (go_at_call 61; refine (c_spec_Spread _ _ _ _ _ ).mono ?_; rintro e w' hr; obtain ⟨rfl, g, d, rfl⟩ := Ret.open hr; clear hr)
    | go_region)
  all_goals refine bodyPost_ret (v := .tuple #[.agg #[.int .i64 (((Pu.RoundBound (⟨d_num, d_den⟩ : Drift) (⟨said_lo, said_hi⟩ : Ival) trip).1).lo), .int .i64 (((Pu.RoundBound (⟨d_num, d_den⟩ : Drift) (⟨said_lo, said_hi⟩ : Ival) trip).1).hi)], .int .i64 ((Pu.RoundBound (⟨d_num, d_den⟩ : Drift) (⟨said_lo, said_hi⟩ : Ival) trip).2)]) ?_ rfl (Ret.mk (by repeat (first | exact Below.refl _ _ | apply below_alloc | apply below_junk | apply below_drew)))
  all_goals first | (simp [results, Try.results21, go_sem, Pu.RoundBound, *]; done) | (simp [results, Try.results21, go_sem, Pu.RoundBound, *]; omega) | (go_light; simp [results, Try.results21, go_sem, Pu.RoundBound, *]; intros; exfalso; omega) | (go_light; simp [results, Try.results21, go_sem, Pu.RoundBound, *]; (repeat' split) <;> first | omega | (simp; done) | (simp_all; done)) | (go_light; simp_all [results, Try.results21, go_sem, Pu.RoundBound, ]; done) | (go_light; simp_all [results, Try.results21, go_sem, Pu.RoundBound, ]; omega)

-- impl.RoundBound
set_option maxHeartbeats 1000000 in
set_option maxRecDepth 100000 in
theorem c_impl_RoundBound (d_num : Int) (d_den : Int) (said_lo : Int) (said_hi : Int) (trip : Int) (w : World)   :
    Calls Try.prog 23 #[.agg #[.int .i64 d_num, .int .i64 d_den], .agg #[.int .i64 said_lo, .int .i64 said_hi], .int .i64 trip] w (Ret w (.tuple #[.agg #[.int .i64 (((Pu.RoundBound (⟨d_num, d_den⟩ : Drift) (⟨said_lo, said_hi⟩ : Ival) trip).1).lo), .int .i64 (((Pu.RoundBound (⟨d_num, d_den⟩ : Drift) (⟨said_lo, said_hi⟩ : Ival) trip).1).hi)], .int .i64 ((Pu.RoundBound (⟨d_num, d_den⟩ : Drift) (⟨said_lo, said_hi⟩ : Ival) trip).2)])) := by
  go_enter Try.func23, Try.ntmps23
  go_wp2_with (first
    | (go_at_call 57; refine (c_impl_DriftOk _ _ _ ).mono ?_; rintro e w' hr; (rcases Ret.bool hr with ⟨rfl, hX, g, d, rfl⟩ | ⟨rfl, hX, g, d, rfl⟩ <;> first | (have hB := (Pu.DriftOk_iff _).1 hX; (try dsimp only at hB); obtain ⟨hB1, hB2, hB3, hB4, hB5⟩ := hB; clear hr) | clear hr))
    | (go_at_call 52; refine (c_impl_IvalOk _ _ _ ).mono ?_; rintro e w' hr; (rcases Ret.bool hr with ⟨rfl, hX, g, d, rfl⟩ | ⟨rfl, hX, g, d, rfl⟩ <;> first | (have hB := (Pu.IvalOk_iff _).1 hX; (try dsimp only at hB); obtain ⟨hB1, hB2, hB3⟩ := hB; clear hr) | clear hr))
    | (go_at_call 62; refine (c_impl_isTime _ _ ).mono ?_; rintro e w' hr; (rcases Ret.bool hr with ⟨rfl, hX, g, d, rfl⟩ | ⟨rfl, hX, g, d, rfl⟩ <;> first | (have hB := (Pu.isTime_iff _).1 hX; (try dsimp only at hB); obtain ⟨hB1, hB2⟩ := hB; clear hr) | (have hB := Pu.no_of (Pu.isTime_iff _) hX; (try dsimp only at hB); clear hr) | clear hr))
    | (go_at_call 63; refine (c_impl_MostTime _ _ _ _ ).mono ?_; rintro e w' hr; obtain ⟨rfl, g, d, rfl⟩ := Ret.open hr; clear hr)
    | (go_at_call 64; refine (c_impl_Spread _ _ _ _ _ ).mono ?_; rintro e w' hr; obtain ⟨rfl, g, d, rfl⟩ := Ret.open hr; clear hr)
    | go_region)
  all_goals refine bodyPost_ret (v := .tuple #[.agg #[.int .i64 (((Pu.RoundBound (⟨d_num, d_den⟩ : Drift) (⟨said_lo, said_hi⟩ : Ival) trip).1).lo), .int .i64 (((Pu.RoundBound (⟨d_num, d_den⟩ : Drift) (⟨said_lo, said_hi⟩ : Ival) trip).1).hi)], .int .i64 ((Pu.RoundBound (⟨d_num, d_den⟩ : Drift) (⟨said_lo, said_hi⟩ : Ival) trip).2)]) ?_ rfl (Ret.mk (by repeat (first | exact Below.refl _ _ | apply below_alloc | apply below_junk | apply below_drew)))
  all_goals first | (simp [results, Try.results23, go_sem, Pu.RoundBound, *]; done) | (simp [results, Try.results23, go_sem, Pu.RoundBound, *]; omega) | (go_light; simp [results, Try.results23, go_sem, Pu.RoundBound, *]; intros; exfalso; omega) | (go_light; simp [results, Try.results23, go_sem, Pu.RoundBound, *]; (repeat' split) <;> first | omega | (simp; done) | (simp_all; done)) | (go_light; simp_all [results, Try.results23, go_sem, Pu.RoundBound, ]; done) | (go_light; simp_all [results, Try.results23, go_sem, Pu.RoundBound, ]; omega)

-- spec.TripOk
set_option maxHeartbeats 1000000 in
set_option maxRecDepth 100000 in
theorem c_spec_TripOk (t_src : Int) (t_said_lo : Int) (t_said_hi : Int) (t_sent : Int) (t_got : Int) (w : World)   :
    Calls Try.prog 15 #[.agg #[.int .i64 t_src, .int .i64 t_said_lo, .int .i64 t_said_hi, .int .i64 t_sent, .int .i64 t_got]] w (Ret w (.bool (Pu.TripOk (⟨t_src, ⟨t_said_lo, t_said_hi⟩, t_sent, t_got⟩ : Trip)))) := by
  go_enter Try.func15, Try.ntmps15
  go_wp2_with (first
    | (go_at_call 48; refine (c_spec_l4Node _ _ ).mono ?_; rintro e w' hr; (rcases Ret.bool hr with ⟨rfl, hX, g, d, rfl⟩ | ⟨rfl, hX, g, d, rfl⟩ <;> first | (have hB := (Pu.isNode_iff _).1 hX; (try dsimp only at hB); obtain ⟨hB1, hB2⟩ := hB; clear hr) | clear hr))
    | (go_at_call 49; refine (c_spec_IvalOk _ _ _ ).mono ?_; rintro e w' hr; (rcases Ret.bool hr with ⟨rfl, hX, g, d, rfl⟩ | ⟨rfl, hX, g, d, rfl⟩ <;> first | (have hB := (Pu.IvalOk_iff _).1 hX; (try dsimp only at hB); obtain ⟨hB1, hB2, hB3⟩ := hB; clear hr) | clear hr))
    | (go_at_call 50; refine (c_spec_l2Time _ _ ).mono ?_; rintro e w' hr; (rcases Ret.bool hr with ⟨rfl, hX, g, d, rfl⟩ | ⟨rfl, hX, g, d, rfl⟩ <;> first | (have hB := (Pu.isTime_iff _).1 hX; (try dsimp only at hB); obtain ⟨hB1, hB2⟩ := hB; clear hr) | (have hB := Pu.no_of (Pu.isTime_iff _) hX; (try dsimp only at hB); clear hr) | clear hr))
    | go_region)
  all_goals refine bodyPost_ret (v := .bool (Pu.TripOk (⟨t_src, ⟨t_said_lo, t_said_hi⟩, t_sent, t_got⟩ : Trip))) ?_ rfl (Ret.mk (by repeat (first | exact Below.refl _ _ | apply below_alloc | apply below_junk | apply below_drew)))
  all_goals first | (simp [results, Try.results15, go_sem, Pu.TripOk, Pu.In, Pu.isTime, *]; done) | (simp [results, Try.results15, go_sem, Pu.TripOk, Pu.In, Pu.isTime, *]; omega) | (go_light; simp [results, Try.results15, go_sem, Pu.TripOk, Pu.In, Pu.isTime, *]; intros; exfalso; omega) | (go_light; simp [results, Try.results15, go_sem, Pu.TripOk, Pu.In, Pu.isTime, *]; (repeat' split) <;> first | omega | (simp; done) | (simp_all; done)) | (go_light; simp_all [results, Try.results15, go_sem, Pu.TripOk, Pu.In, Pu.isTime, ]; done) | (go_light; simp_all [results, Try.results15, go_sem, Pu.TripOk, Pu.In, Pu.isTime, ]; omega)
theorem c_spec_TripOk_b (t_src : Int) (t_said_lo : Int) (t_said_hi : Int) (t_sent : Int) (t_got : Int) (w : World) (b : Bool) (hb : Pu.TripOk (⟨t_src, ⟨t_said_lo, t_said_hi⟩, t_sent, t_got⟩ : Trip) = b) :
    Calls Try.prog 15 #[.agg #[.int .i64 t_src, .int .i64 t_said_lo, .int .i64 t_said_hi, .int .i64 t_sent, .int .i64 t_got]] w (Ret w (.bool b)) := by subst hb; exact c_spec_TripOk t_src t_said_lo t_said_hi t_sent t_got w

-- impl.TripOk
set_option maxHeartbeats 1000000 in
set_option maxRecDepth 100000 in
theorem c_impl_TripOk (t_src : Int) (t_said_lo : Int) (t_said_hi : Int) (t_sent : Int) (t_got : Int) (w : World)   :
    Calls Try.prog 17 #[.agg #[.int .i64 t_src, .int .i64 t_said_lo, .int .i64 t_said_hi, .int .i64 t_sent, .int .i64 t_got]] w (Ret w (.bool (Pu.TripOk (⟨t_src, ⟨t_said_lo, t_said_hi⟩, t_sent, t_got⟩ : Trip)))) := by
  go_enter Try.func17, Try.ntmps17
  go_wp2_with (first
    | (go_at_call 51; refine (c_impl_isNode _ _ ).mono ?_; rintro e w' hr; (rcases Ret.bool hr with ⟨rfl, hX, g, d, rfl⟩ | ⟨rfl, hX, g, d, rfl⟩ <;> first | (have hB := (Pu.isNode_iff _).1 hX; (try dsimp only at hB); obtain ⟨hB1, hB2⟩ := hB; clear hr) | clear hr))
    | (go_at_call 52; refine (c_impl_IvalOk _ _ _ ).mono ?_; rintro e w' hr; (rcases Ret.bool hr with ⟨rfl, hX, g, d, rfl⟩ | ⟨rfl, hX, g, d, rfl⟩ <;> first | (have hB := (Pu.IvalOk_iff _).1 hX; (try dsimp only at hB); obtain ⟨hB1, hB2, hB3⟩ := hB; clear hr) | clear hr))
    | (go_at_call 53; refine (c_impl_in _ _ _ _ ).mono ?_; rintro e w' hr; (rcases Ret.bool hr with ⟨rfl, hX, g, d, rfl⟩ | ⟨rfl, hX, g, d, rfl⟩ <;> first | (have hB := (Pu.In_iff _ _ _).1 hX; (try dsimp only at hB); obtain ⟨hB1, hB2⟩ := hB; clear hr) | (have hB := Pu.no_of (Pu.In_iff _ _ _) hX; (try dsimp only at hB); clear hr) | clear hr))
    | go_region)
  all_goals refine bodyPost_ret (v := .bool (Pu.TripOk (⟨t_src, ⟨t_said_lo, t_said_hi⟩, t_sent, t_got⟩ : Trip))) ?_ rfl (Ret.mk (by repeat (first | exact Below.refl _ _ | apply below_alloc | apply below_junk | apply below_drew)))
  all_goals first | (simp [results, Try.results17, go_sem, Pu.TripOk, Pu.In, Pu.isTime, *]; done) | (simp [results, Try.results17, go_sem, Pu.TripOk, Pu.In, Pu.isTime, *]; omega) | (go_light; simp [results, Try.results17, go_sem, Pu.TripOk, Pu.In, Pu.isTime, *]; intros; exfalso; omega) | (go_light; simp [results, Try.results17, go_sem, Pu.TripOk, Pu.In, Pu.isTime, *]; (repeat' split) <;> first | omega | (simp; done) | (simp_all; done)) | (go_light; simp_all [results, Try.results17, go_sem, Pu.TripOk, Pu.In, Pu.isTime, ]; done) | (go_light; simp_all [results, Try.results17, go_sem, Pu.TripOk, Pu.In, Pu.isTime, ]; omega)
theorem c_impl_TripOk_b (t_src : Int) (t_said_lo : Int) (t_said_hi : Int) (t_sent : Int) (t_got : Int) (w : World) (b : Bool) (hb : Pu.TripOk (⟨t_src, ⟨t_said_lo, t_said_hi⟩, t_sent, t_got⟩ : Trip) = b) :
    Calls Try.prog 17 #[.agg #[.int .i64 t_src, .int .i64 t_said_lo, .int .i64 t_said_hi, .int .i64 t_sent, .int .i64 t_got]] w (Ret w (.bool b)) := by subst hb; exact c_impl_TripOk t_src t_said_lo t_said_hi t_sent t_got w

-- spec.TripBound
set_option maxHeartbeats 1000000 in
set_option maxRecDepth 100000 in
theorem c_spec_TripBound (d_num : Int) (d_den : Int) (t_src : Int) (t_said_lo : Int) (t_said_hi : Int) (t_sent : Int) (t_got : Int) (w : World)   :
    Calls Try.prog 25 #[.agg #[.int .i64 d_num, .int .i64 d_den], .agg #[.int .i64 t_src, .int .i64 t_said_lo, .int .i64 t_said_hi, .int .i64 t_sent, .int .i64 t_got]] w (Ret w (.tuple #[.agg #[.int .i64 (((Pu.TripBound (⟨d_num, d_den⟩ : Drift) (⟨t_src, ⟨t_said_lo, t_said_hi⟩, t_sent, t_got⟩ : Trip)).1).lo), .int .i64 (((Pu.TripBound (⟨d_num, d_den⟩ : Drift) (⟨t_src, ⟨t_said_lo, t_said_hi⟩, t_sent, t_got⟩ : Trip)).1).hi)], .int .i64 ((Pu.TripBound (⟨d_num, d_den⟩ : Drift) (⟨t_src, ⟨t_said_lo, t_said_hi⟩, t_sent, t_got⟩ : Trip)).2)])) := by
  go_enter Try.func25, Try.ntmps25
  go_wp2_with (first
    | (go_at_call 15; refine (c_spec_TripOk _ _ _ _ _ _ ).mono ?_; rintro e w' hr; (rcases Ret.bool hr with ⟨rfl, hX, g, d, rfl⟩ | ⟨rfl, hX, g, d, rfl⟩ <;> first | (have hB := (Pu.TripOk_iff _).1 hX; (try dsimp only at hB); obtain ⟨⟨hB1, hB2, hB3⟩, hB4, hB5, hB6, -, -⟩ := hB; clear hr) | clear hr))
    | (go_at_call 21; refine (c_spec_RoundBound _ _ _ _ _ _ ).mono ?_; rintro e w' hr; obtain ⟨rfl, g, d, rfl⟩ := Ret.open hr; clear hr)
    | go_region)
  all_goals refine bodyPost_ret (v := .tuple #[.agg #[.int .i64 (((Pu.TripBound (⟨d_num, d_den⟩ : Drift) (⟨t_src, ⟨t_said_lo, t_said_hi⟩, t_sent, t_got⟩ : Trip)).1).lo), .int .i64 (((Pu.TripBound (⟨d_num, d_den⟩ : Drift) (⟨t_src, ⟨t_said_lo, t_said_hi⟩, t_sent, t_got⟩ : Trip)).1).hi)], .int .i64 ((Pu.TripBound (⟨d_num, d_den⟩ : Drift) (⟨t_src, ⟨t_said_lo, t_said_hi⟩, t_sent, t_got⟩ : Trip)).2)]) ?_ rfl (Ret.mk (by repeat (first | exact Below.refl _ _ | apply below_alloc | apply below_junk | apply below_drew)))
  all_goals first | (simp [results, Try.results25, go_sem, Pu.TripBound, *]; done) | (simp [results, Try.results25, go_sem, Pu.TripBound, *]; omega) | (go_light; simp [results, Try.results25, go_sem, Pu.TripBound, *]; intros; exfalso; omega) | (go_light; simp [results, Try.results25, go_sem, Pu.TripBound, *]; (repeat' split) <;> first | omega | (simp; done) | (simp_all; done)) | (go_light; simp_all [results, Try.results25, go_sem, Pu.TripBound, ]; done) | (go_light; simp_all [results, Try.results25, go_sem, Pu.TripBound, ]; omega)

-- impl.TripBound
set_option maxHeartbeats 1000000 in
set_option maxRecDepth 100000 in
theorem c_impl_TripBound (d_num : Int) (d_den : Int) (t_src : Int) (t_said_lo : Int) (t_said_hi : Int) (t_sent : Int) (t_got : Int) (w : World)   :
    Calls Try.prog 26 #[.agg #[.int .i64 d_num, .int .i64 d_den], .agg #[.int .i64 t_src, .int .i64 t_said_lo, .int .i64 t_said_hi, .int .i64 t_sent, .int .i64 t_got]] w (Ret w (.tuple #[.agg #[.int .i64 (((Pu.TripBound (⟨d_num, d_den⟩ : Drift) (⟨t_src, ⟨t_said_lo, t_said_hi⟩, t_sent, t_got⟩ : Trip)).1).lo), .int .i64 (((Pu.TripBound (⟨d_num, d_den⟩ : Drift) (⟨t_src, ⟨t_said_lo, t_said_hi⟩, t_sent, t_got⟩ : Trip)).1).hi)], .int .i64 ((Pu.TripBound (⟨d_num, d_den⟩ : Drift) (⟨t_src, ⟨t_said_lo, t_said_hi⟩, t_sent, t_got⟩ : Trip)).2)])) := by
  go_enter Try.func26, Try.ntmps26
  go_wp2_with (first
    | (go_at_call 17; refine (c_impl_TripOk _ _ _ _ _ _ ).mono ?_; rintro e w' hr; (rcases Ret.bool hr with ⟨rfl, hX, g, d, rfl⟩ | ⟨rfl, hX, g, d, rfl⟩ <;> first | (have hB := (Pu.TripOk_iff _).1 hX; (try dsimp only at hB); obtain ⟨⟨hB1, hB2, hB3⟩, hB4, hB5, hB6, -, -⟩ := hB; clear hr) | clear hr))
    | (go_at_call 23; refine (c_impl_RoundBound _ _ _ _ _ _ ).mono ?_; rintro e w' hr; obtain ⟨rfl, g, d, rfl⟩ := Ret.open hr; clear hr)
    | go_region)
  all_goals refine bodyPost_ret (v := .tuple #[.agg #[.int .i64 (((Pu.TripBound (⟨d_num, d_den⟩ : Drift) (⟨t_src, ⟨t_said_lo, t_said_hi⟩, t_sent, t_got⟩ : Trip)).1).lo), .int .i64 (((Pu.TripBound (⟨d_num, d_den⟩ : Drift) (⟨t_src, ⟨t_said_lo, t_said_hi⟩, t_sent, t_got⟩ : Trip)).1).hi)], .int .i64 ((Pu.TripBound (⟨d_num, d_den⟩ : Drift) (⟨t_src, ⟨t_said_lo, t_said_hi⟩, t_sent, t_got⟩ : Trip)).2)]) ?_ rfl (Ret.mk (by repeat (first | exact Below.refl _ _ | apply below_alloc | apply below_junk | apply below_drew)))
  all_goals first | (simp [results, Try.results26, go_sem, Pu.TripBound, *]; done) | (simp [results, Try.results26, go_sem, Pu.TripBound, *]; omega) | (go_light; simp [results, Try.results26, go_sem, Pu.TripBound, *]; intros; exfalso; omega) | (go_light; simp [results, Try.results26, go_sem, Pu.TripBound, *]; (repeat' split) <;> first | omega | (simp; done) | (simp_all; done)) | (go_light; simp_all [results, Try.results26, go_sem, Pu.TripBound, ]; done) | (go_light; simp_all [results, Try.results26, go_sem, Pu.TripBound, ]; omega)

-- spec.TripLoss
set_option maxHeartbeats 1000000 in
set_option maxRecDepth 100000 in
theorem c_spec_TripLoss (d_num : Int) (d_den : Int) (t_src : Int) (t_said_lo : Int) (t_said_hi : Int) (t_sent : Int) (t_got : Int) (w : World)   :
    Calls Try.prog 27 #[.agg #[.int .i64 d_num, .int .i64 d_den], .agg #[.int .i64 t_src, .int .i64 t_said_lo, .int .i64 t_said_hi, .int .i64 t_sent, .int .i64 t_got]] w (Ret w (.int .i64 (Pu.TripLoss (⟨d_num, d_den⟩ : Drift) (⟨t_src, ⟨t_said_lo, t_said_hi⟩, t_sent, t_got⟩ : Trip)))) := by
  go_enter Try.func27, Try.ntmps27
  go_wp2_with (first
    | ((with_reducible refine wp_region_calm (id := 4) (by kernel_rfl) (by kernel_rfl) ?_); (repeat (go_big_quiet_step ((first | (go_at_call 65; exact calm_of (c_spec_Wide _ _ _ )))))); refine wpQuiet_nil ?_; intro g d)
    | (go_at_call 25; refine (c_spec_TripBound _ _ _ _ _ _ _ _ ).mono ?_; rintro e w' hr; obtain ⟨rfl, g, d, rfl⟩ := Ret.open hr; clear hr)
    | (go_at_call 65; refine (c_spec_Wide _ _ _ ).mono ?_; rintro e w' hr; obtain ⟨rfl, g, d, rfl⟩ := Ret.open hr; clear hr)
    | go_region)
  all_goals refine bodyPost_ret (v := .int .i64 (Pu.TripLoss (⟨d_num, d_den⟩ : Drift) (⟨t_src, ⟨t_said_lo, t_said_hi⟩, t_sent, t_got⟩ : Trip))) ?_ rfl (Ret.mk (by repeat (first | exact Below.refl _ _ | apply below_alloc | apply below_junk | apply below_drew)))
  all_goals first | (simp [results, Try.results27, go_sem, Pu.TripLoss, *]; done) | (simp [results, Try.results27, go_sem, Pu.TripLoss, *]; omega) | (go_light; simp [results, Try.results27, go_sem, Pu.TripLoss, *]; intros; exfalso; omega) | (go_light; simp [results, Try.results27, go_sem, Pu.TripLoss, *]; (repeat' split) <;> first | omega | (simp; done) | (simp_all; done)) | (go_light; simp_all [results, Try.results27, go_sem, Pu.TripLoss, ]; done) | (go_light; simp_all [results, Try.results27, go_sem, Pu.TripLoss, ]; omega)

-- impl.TripLoss
set_option maxHeartbeats 1000000 in
set_option maxRecDepth 100000 in
theorem c_impl_TripLoss (d_num : Int) (d_den : Int) (t_src : Int) (t_said_lo : Int) (t_said_hi : Int) (t_sent : Int) (t_got : Int) (w : World)   :
    Calls Try.prog 28 #[.agg #[.int .i64 d_num, .int .i64 d_den], .agg #[.int .i64 t_src, .int .i64 t_said_lo, .int .i64 t_said_hi, .int .i64 t_sent, .int .i64 t_got]] w (Ret w (.int .i64 (Pu.TripLoss (⟨d_num, d_den⟩ : Drift) (⟨t_src, ⟨t_said_lo, t_said_hi⟩, t_sent, t_got⟩ : Trip)))) := by
  go_enter Try.func28, Try.ntmps28
  go_wp2_with (first
    | ((with_reducible refine wp_region_calm (id := 4) (by kernel_rfl) (by kernel_rfl) ?_); (repeat (go_big_quiet_step ((first | (go_at_call 66; exact calm_of (c_impl_Wide _ _ _ )))))); refine wpQuiet_nil ?_; intro g d)
    | (go_at_call 26; refine (c_impl_TripBound _ _ _ _ _ _ _ _ ).mono ?_; rintro e w' hr; obtain ⟨rfl, g, d, rfl⟩ := Ret.open hr; clear hr)
    | (go_at_call 66; refine (c_impl_Wide _ _ _ ).mono ?_; rintro e w' hr; obtain ⟨rfl, g, d, rfl⟩ := Ret.open hr; clear hr)
    | go_region)
  all_goals refine bodyPost_ret (v := .int .i64 (Pu.TripLoss (⟨d_num, d_den⟩ : Drift) (⟨t_src, ⟨t_said_lo, t_said_hi⟩, t_sent, t_got⟩ : Trip))) ?_ rfl (Ret.mk (by repeat (first | exact Below.refl _ _ | apply below_alloc | apply below_junk | apply below_drew)))
  all_goals first | (simp [results, Try.results28, go_sem, Pu.TripLoss, *]; done) | (simp [results, Try.results28, go_sem, Pu.TripLoss, *]; omega) | (go_light; simp [results, Try.results28, go_sem, Pu.TripLoss, *]; intros; exfalso; omega) | (go_light; simp [results, Try.results28, go_sem, Pu.TripLoss, *]; (repeat' split) <;> first | omega | (simp; done) | (simp_all; done)) | (go_light; simp_all [results, Try.results28, go_sem, Pu.TripLoss, ]; done) | (go_light; simp_all [results, Try.results28, go_sem, Pu.TripLoss, ]; omega)

-- spec.TripFits
set_option maxHeartbeats 1000000 in
set_option maxRecDepth 100000 in
theorem c_spec_TripFits (d_num : Int) (d_den : Int) (t_src : Int) (t_said_lo : Int) (t_said_hi : Int) (t_sent : Int) (t_got : Int) (sent : Int) (made : Int) (got : Int) (w : World)   :
    Calls Try.prog 18 #[.agg #[.int .i64 d_num, .int .i64 d_den], .agg #[.int .i64 t_src, .int .i64 t_said_lo, .int .i64 t_said_hi, .int .i64 t_sent, .int .i64 t_got], .int .i64 sent, .int .i64 made, .int .i64 got] w (Ret w (.bool (Pu.TripFits (⟨d_num, d_den⟩ : Drift) (⟨t_src, ⟨t_said_lo, t_said_hi⟩, t_sent, t_got⟩ : Trip) sent made got))) := by
  go_enter Try.func18, Try.ntmps18
  go_wp2_with (first
    | (go_at_call 15; refine (c_spec_TripOk _ _ _ _ _ _ ).mono ?_; rintro e w' hr; (rcases Ret.bool hr with ⟨rfl, hX, g, d, rfl⟩ | ⟨rfl, hX, g, d, rfl⟩ <;> first | (have hB := (Pu.TripOk_iff _).1 hX; (try dsimp only at hB); obtain ⟨⟨hB1, hB2, hB3⟩, hB4, hB5, hB6, -, -⟩ := hB; clear hr) | clear hr))
    | (go_at_call 54; refine (c_spec_DriftOk _ _ _ ).mono ?_; rintro e w' hr; (rcases Ret.bool hr with ⟨rfl, hX, g, d, rfl⟩ | ⟨rfl, hX, g, d, rfl⟩ <;> first | (have hB := (Pu.DriftOk_iff _).1 hX; (try dsimp only at hB); obtain ⟨hB1, hB2, hB3, hB4, hB5⟩ := hB; clear hr) | clear hr))
    | (go_at_call 50; refine (c_spec_l2Time _ _ ).mono ?_; rintro e w' hr; (rcases Ret.bool hr with ⟨rfl, hX, g, d, rfl⟩ | ⟨rfl, hX, g, d, rfl⟩ <;> first | (have hB := (Pu.isTime_iff _).1 hX; (try dsimp only at hB); obtain ⟨hB1, hB2⟩ := hB; clear hr) | (have hB := Pu.no_of (Pu.isTime_iff _) hX; (try dsimp only at hB); clear hr) | clear hr))
    | (go_at_call 55; refine (c_spec_Holds _ _ _ _ ).mono ?_; rintro e w' hr; obtain ⟨rfl, g, d, rfl⟩ := Ret.open hr; clear hr)
    | (go_at_call 56; refine (c_spec_MayCount _ _ _ _ _ ).mono ?_; rintro e w' hr; obtain ⟨rfl, g, d, rfl⟩ := Ret.open hr; clear hr)
    | go_region)
  all_goals refine bodyPost_ret (v := .bool (Pu.TripFits (⟨d_num, d_den⟩ : Drift) (⟨t_src, ⟨t_said_lo, t_said_hi⟩, t_sent, t_got⟩ : Trip) sent made got)) ?_ rfl (Ret.mk (by repeat (first | exact Below.refl _ _ | apply below_alloc | apply below_junk | apply below_drew)))
  all_goals first | (simp [results, Try.results18, go_sem, Pu.TripFits, *]; done) | (simp [results, Try.results18, go_sem, Pu.TripFits, *]; omega) | (go_light; simp [results, Try.results18, go_sem, Pu.TripFits, *]; intros; exfalso; omega) | (go_light; simp [results, Try.results18, go_sem, Pu.TripFits, *]; (repeat' split) <;> first | omega | (simp; done) | (simp_all; done)) | (go_light; simp_all [results, Try.results18, go_sem, Pu.TripFits, ]; done) | (go_light; simp_all [results, Try.results18, go_sem, Pu.TripFits, ]; omega)

-- impl.TripFits
set_option maxHeartbeats 1000000 in
set_option maxRecDepth 100000 in
theorem c_impl_TripFits (d_num : Int) (d_den : Int) (t_src : Int) (t_said_lo : Int) (t_said_hi : Int) (t_sent : Int) (t_got : Int) (sent : Int) (made : Int) (got : Int) (w : World)   :
    Calls Try.prog 20 #[.agg #[.int .i64 d_num, .int .i64 d_den], .agg #[.int .i64 t_src, .int .i64 t_said_lo, .int .i64 t_said_hi, .int .i64 t_sent, .int .i64 t_got], .int .i64 sent, .int .i64 made, .int .i64 got] w (Ret w (.bool (Pu.TripFits (⟨d_num, d_den⟩ : Drift) (⟨t_src, ⟨t_said_lo, t_said_hi⟩, t_sent, t_got⟩ : Trip) sent made got))) := by
  go_enter Try.func20, Try.ntmps20
  go_wp2_with (first
    | (go_at_call 17; refine (c_impl_TripOk _ _ _ _ _ _ ).mono ?_; rintro e w' hr; (rcases Ret.bool hr with ⟨rfl, hX, g, d, rfl⟩ | ⟨rfl, hX, g, d, rfl⟩ <;> first | (have hB := (Pu.TripOk_iff _).1 hX; (try dsimp only at hB); obtain ⟨⟨hB1, hB2, hB3⟩, hB4, hB5, hB6, -, -⟩ := hB; clear hr) | clear hr))
    | (go_at_call 57; refine (c_impl_DriftOk _ _ _ ).mono ?_; rintro e w' hr; (rcases Ret.bool hr with ⟨rfl, hX, g, d, rfl⟩ | ⟨rfl, hX, g, d, rfl⟩ <;> first | (have hB := (Pu.DriftOk_iff _).1 hX; (try dsimp only at hB); obtain ⟨hB1, hB2, hB3, hB4, hB5⟩ := hB; clear hr) | clear hr))
    | (go_at_call 58; refine (c_impl_Holds _ _ _ _ ).mono ?_; rintro e w' hr; obtain ⟨rfl, g, d, rfl⟩ := Ret.open hr; clear hr)
    | (go_at_call 59; refine (c_impl_MayCount _ _ _ _ _ ).mono ?_; rintro e w' hr; obtain ⟨rfl, g, d, rfl⟩ := Ret.open hr; clear hr)
    | go_region)
  all_goals refine bodyPost_ret (v := .bool (Pu.TripFits (⟨d_num, d_den⟩ : Drift) (⟨t_src, ⟨t_said_lo, t_said_hi⟩, t_sent, t_got⟩ : Trip) sent made got)) ?_ rfl (Ret.mk (by repeat (first | exact Below.refl _ _ | apply below_alloc | apply below_junk | apply below_drew)))
  all_goals first | (simp [results, Try.results20, go_sem, Pu.TripFits, *]; done) | (simp [results, Try.results20, go_sem, Pu.TripFits, *]; omega) | (go_light; simp [results, Try.results20, go_sem, Pu.TripFits, *]; intros; exfalso; omega) | (go_light; simp [results, Try.results20, go_sem, Pu.TripFits, *]; (repeat' split) <;> first | omega | (simp; done) | (simp_all; done)) | (go_light; simp_all [results, Try.results20, go_sem, Pu.TripFits, ]; done) | (go_light; simp_all [results, Try.results20, go_sem, Pu.TripFits, ]; omega)

-- spec.CarryTrip
set_option maxHeartbeats 1000000 in
set_option maxRecDepth 100000 in
theorem c_spec_CarryTrip (d_num : Int) (d_den : Int) (t_src : Int) (t_said_lo : Int) (t_said_hi : Int) (t_sent : Int) (t_got : Int) (pt : Int) (w : World)   :
    Calls Try.prog 44 #[.agg #[.int .i64 d_num, .int .i64 d_den], .agg #[.int .i64 t_src, .int .i64 t_said_lo, .int .i64 t_said_hi, .int .i64 t_sent, .int .i64 t_got], .int .i64 pt] w (Ret w (.tuple #[.agg #[.int .i64 (((Pu.CarryTrip (⟨d_num, d_den⟩ : Drift) (⟨t_src, ⟨t_said_lo, t_said_hi⟩, t_sent, t_got⟩ : Trip) pt).1).lo), .int .i64 (((Pu.CarryTrip (⟨d_num, d_den⟩ : Drift) (⟨t_src, ⟨t_said_lo, t_said_hi⟩, t_sent, t_got⟩ : Trip) pt).1).hi)], .int .i64 ((Pu.CarryTrip (⟨d_num, d_den⟩ : Drift) (⟨t_src, ⟨t_said_lo, t_said_hi⟩, t_sent, t_got⟩ : Trip) pt).2)])) := by
  rw [← Pu.SpecCarryTrip_eq]
  go_enter Try.func44, Try.ntmps44
  go_wp2_with (first
    | (go_at_call 25; refine (c_spec_TripBound _ _ _ _ _ _ _ _ ).mono ?_; rintro e w' hr; obtain ⟨rfl, g, d, rfl⟩ := Ret.open hr; clear hr)
    | (go_at_call 67; refine (c_spec_CarryOn _ _ _ _ _ _ _ _ ).mono ?_; rintro e w' hr; obtain ⟨rfl, g, d, rfl⟩ := Ret.open hr; clear hr)
    | go_region)
  all_goals refine bodyPost_ret (v := .tuple #[.agg #[.int .i64 (((Pu.SpecCarryTrip (⟨d_num, d_den⟩ : Drift) (⟨t_src, ⟨t_said_lo, t_said_hi⟩, t_sent, t_got⟩ : Trip) pt).1).lo), .int .i64 (((Pu.SpecCarryTrip (⟨d_num, d_den⟩ : Drift) (⟨t_src, ⟨t_said_lo, t_said_hi⟩, t_sent, t_got⟩ : Trip) pt).1).hi)], .int .i64 ((Pu.SpecCarryTrip (⟨d_num, d_den⟩ : Drift) (⟨t_src, ⟨t_said_lo, t_said_hi⟩, t_sent, t_got⟩ : Trip) pt).2)]) ?_ rfl (Ret.mk (by repeat (first | exact Below.refl _ _ | apply below_alloc | apply below_junk | apply below_drew)))
  all_goals first | (simp [results, Try.results44, go_sem, Pu.SpecCarryTrip, *]; done) | (simp [results, Try.results44, go_sem, Pu.SpecCarryTrip, *]; omega) | (go_light; simp [results, Try.results44, go_sem, Pu.SpecCarryTrip, *]; intros; exfalso; omega) | (go_light; simp [results, Try.results44, go_sem, Pu.SpecCarryTrip, *]; (repeat' split) <;> first | omega | (simp; done) | (simp_all; done)) | (go_light; simp_all [results, Try.results44, go_sem, Pu.SpecCarryTrip, ]; done) | (go_light; simp_all [results, Try.results44, go_sem, Pu.SpecCarryTrip, ]; omega)

-- impl.CarryTrip
set_option maxHeartbeats 1000000 in
set_option maxRecDepth 100000 in
theorem c_impl_CarryTrip (d_num : Int) (d_den : Int) (t_src : Int) (t_said_lo : Int) (t_said_hi : Int) (t_sent : Int) (t_got : Int) (pt : Int) (w : World)   :
    Calls Try.prog 45 #[.agg #[.int .i64 d_num, .int .i64 d_den], .agg #[.int .i64 t_src, .int .i64 t_said_lo, .int .i64 t_said_hi, .int .i64 t_sent, .int .i64 t_got], .int .i64 pt] w (Ret w (.tuple #[.agg #[.int .i64 (((Pu.CarryTrip (⟨d_num, d_den⟩ : Drift) (⟨t_src, ⟨t_said_lo, t_said_hi⟩, t_sent, t_got⟩ : Trip) pt).1).lo), .int .i64 (((Pu.CarryTrip (⟨d_num, d_den⟩ : Drift) (⟨t_src, ⟨t_said_lo, t_said_hi⟩, t_sent, t_got⟩ : Trip) pt).1).hi)], .int .i64 ((Pu.CarryTrip (⟨d_num, d_den⟩ : Drift) (⟨t_src, ⟨t_said_lo, t_said_hi⟩, t_sent, t_got⟩ : Trip) pt).2)])) := by
  go_enter Try.func45, Try.ntmps45
  go_wp2_with (first
    | (go_at_call 26; refine (c_impl_TripBound _ _ _ _ _ _ _ _ ).mono ?_; rintro e w' hr; obtain ⟨rfl, g, d, rfl⟩ := Ret.open hr; clear hr)
    | (go_at_call 53; refine (c_impl_in _ _ _ _ ).mono ?_; rintro e w' hr; (rcases Ret.bool hr with ⟨rfl, hX, g, d, rfl⟩ | ⟨rfl, hX, g, d, rfl⟩ <;> first | (have hB := (Pu.In_iff _ _ _).1 hX; (try dsimp only at hB); obtain ⟨hB1, hB2⟩ := hB; clear hr) | (have hB := Pu.no_of (Pu.In_iff _ _ _) hX; (try dsimp only at hB); clear hr) | clear hr))
    | (go_at_call 68; refine (c_impl_CarryOn _ _ _ _ _ _ _ _ ).mono ?_; rintro e w' hr; obtain ⟨rfl, g, d, rfl⟩ := Ret.open hr; clear hr)
    | go_region)
  all_goals refine bodyPost_ret (v := .tuple #[.agg #[.int .i64 (((Pu.CarryTrip (⟨d_num, d_den⟩ : Drift) (⟨t_src, ⟨t_said_lo, t_said_hi⟩, t_sent, t_got⟩ : Trip) pt).1).lo), .int .i64 (((Pu.CarryTrip (⟨d_num, d_den⟩ : Drift) (⟨t_src, ⟨t_said_lo, t_said_hi⟩, t_sent, t_got⟩ : Trip) pt).1).hi)], .int .i64 ((Pu.CarryTrip (⟨d_num, d_den⟩ : Drift) (⟨t_src, ⟨t_said_lo, t_said_hi⟩, t_sent, t_got⟩ : Trip) pt).2)]) ?_ rfl (Ret.mk (by repeat (first | exact Below.refl _ _ | apply below_alloc | apply below_junk | apply below_drew)))
  all_goals first | (simp [results, Try.results45, go_sem, Pu.CarryTrip, *]; done) | (simp [results, Try.results45, go_sem, Pu.CarryTrip, *]; omega) | (go_light; simp [results, Try.results45, go_sem, Pu.CarryTrip, *]; intros; exfalso; omega) | (go_light; simp [results, Try.results45, go_sem, Pu.CarryTrip, *]; (repeat' split) <;> first | omega | (simp; done) | (simp_all; done)) | (go_light; simp_all [results, Try.results45, go_sem, Pu.CarryTrip, ]; done) | (go_light; simp_all [results, Try.results45, go_sem, Pu.CarryTrip, ]; omega)

end Go.Proofs.Ytcbeajdkockhaaa
