/-
  Contracts of Go functions of this seat: what each call hands back, as a plain function of its arguments, and that nothing that was there has turned.
  No statement of the seat is proved here.
-/
import Derived.Test.YtcbeajdkockhaaaProg
import Derived.Test.YtcbeajdkockhaaaPure
import Derived.Test.YtcbeajdkockhaaaActs
import Derived.Deep.Light
import Derived.RegionTactic
import Derived.Deep.RegionWith
import Derived.BigRegion
import Derived.ChangeAlike
namespace Go.Proofs.Ytcbeajdkockhaaa
open Go.RowKit
set_option linter.unusedVariables false
set_option linter.unusedSimpArgs false

-- spec.l1In
set_option maxHeartbeats 1000000 in
set_option maxRecDepth 100000 in
theorem c_spec_l1In (x : Int) (lo : Int) (hi : Int) (w : World)   :
    Calls Try.prog 73 #[.int .i64 x, .int .i64 lo, .int .i64 hi] w (Ret w (.bool (Pu.In x lo hi))) := by
  go_enter Try.func73, Try.ntmps73
  go_wp2_with (first
    | go_region)
  all_goals refine bodyPost_ret (v := .bool (Pu.In x lo hi)) ?_ rfl (Ret.mk (by repeat (first | exact Below.refl _ _ | apply below_alloc | apply below_junk | apply below_drew)))
  all_goals first | (simp [results, Try.results73, go_sem, Pu.In, *]; done) | (simp [results, Try.results73, go_sem, Pu.In, *]; omega) | (go_light; simp [results, Try.results73, go_sem, Pu.In, *]; intros; exfalso; omega) | (go_light; simp [results, Try.results73, go_sem, Pu.In, *]; (repeat' split) <;> first | omega | (simp; done) | (simp_all; done)) | (go_light; simp_all [results, Try.results73, go_sem, Pu.In, ]; done) | (go_light; simp_all [results, Try.results73, go_sem, Pu.In, ]; omega)
theorem c_spec_l1In_b (x : Int) (lo : Int) (hi : Int) (w : World) (b : Bool) (hb : Pu.In x lo hi = b) :
    Calls Try.prog 73 #[.int .i64 x, .int .i64 lo, .int .i64 hi] w (Ret w (.bool b)) := by subst hb; exact c_spec_l1In x lo hi w

-- impl.in
set_option maxHeartbeats 1000000 in
set_option maxRecDepth 100000 in
theorem c_impl_in (x : Int) (lo : Int) (hi : Int) (w : World)   :
    Calls Try.prog 53 #[.int .i64 x, .int .i64 lo, .int .i64 hi] w (Ret w (.bool (Pu.In x lo hi))) := by
  go_enter Try.func53, Try.ntmps53
  go_wp2_with (first
    | go_region)
  all_goals refine bodyPost_ret (v := .bool (Pu.In x lo hi)) ?_ rfl (Ret.mk (by repeat (first | exact Below.refl _ _ | apply below_alloc | apply below_junk | apply below_drew)))
  all_goals first | (simp [results, Try.results53, go_sem, Pu.In, *]; done) | (simp [results, Try.results53, go_sem, Pu.In, *]; omega) | (go_light; simp [results, Try.results53, go_sem, Pu.In, *]; intros; exfalso; omega) | (go_light; simp [results, Try.results53, go_sem, Pu.In, *]; (repeat' split) <;> first | omega | (simp; done) | (simp_all; done)) | (go_light; simp_all [results, Try.results53, go_sem, Pu.In, ]; done) | (go_light; simp_all [results, Try.results53, go_sem, Pu.In, ]; omega)
theorem c_impl_in_b (x : Int) (lo : Int) (hi : Int) (w : World) (b : Bool) (hb : Pu.In x lo hi = b) :
    Calls Try.prog 53 #[.int .i64 x, .int .i64 lo, .int .i64 hi] w (Ret w (.bool b)) := by subst hb; exact c_impl_in x lo hi w

-- spec.l1Min
set_option maxHeartbeats 1000000 in
set_option maxRecDepth 100000 in
theorem c_spec_l1Min (a : Int) (b : Int) (w : World)   :
    Calls Try.prog 88 #[.int .i64 a, .int .i64 b] w (Ret w (.int .i64 (min a b))) := by
  go_enter Try.func88, Try.ntmps88
  go_wp2_with (first
    | go_region)
  all_goals refine bodyPost_ret (v := .int .i64 (min a b)) ?_ rfl (Ret.mk (by repeat (first | exact Below.refl _ _ | apply below_alloc | apply below_junk | apply below_drew)))
  all_goals first | (simp [results, Try.results88, go_sem, *]; done) | (simp [results, Try.results88, go_sem, *]; omega)

-- spec.l1Max
set_option maxHeartbeats 1000000 in
set_option maxRecDepth 100000 in
theorem c_spec_l1Max (a : Int) (b : Int) (w : World)   :
    Calls Try.prog 87 #[.int .i64 a, .int .i64 b] w (Ret w (.int .i64 (max a b))) := by
  go_enter Try.func87, Try.ntmps87
  go_wp2_with (first
    | go_region)
  all_goals refine bodyPost_ret (v := .int .i64 (max a b)) ?_ rfl (Ret.mk (by repeat (first | exact Below.refl _ _ | apply below_alloc | apply below_junk | apply below_drew)))
  all_goals first | (simp [results, Try.results87, go_sem, *]; done) | (simp [results, Try.results87, go_sem, *]; omega)

-- spec.IvalOk
set_option maxHeartbeats 1000000 in
set_option maxRecDepth 100000 in
theorem c_spec_IvalOk (a_lo : Int) (a_hi : Int) (w : World)   :
    Calls Try.prog 49 #[.agg #[.int .i64 a_lo, .int .i64 a_hi]] w (Ret w (.bool (Pu.IvalOk (⟨a_lo, a_hi⟩ : Ival)))) := by
  go_enter Try.func49, Try.ntmps49
  go_wp2_with (first
    | (go_at_call 73; refine (c_spec_l1In _ _ _ _ ).mono ?_; rintro e w' hr; (rcases Ret.bool hr with ⟨rfl, hX, g, d, rfl⟩ | ⟨rfl, hX, g, d, rfl⟩ <;> first | (have hB := (Pu.In_iff _ _ _).1 hX; (try dsimp only at hB); obtain ⟨hB1, hB2⟩ := hB; clear hr) | (have hB := Pu.no_of (Pu.In_iff _ _ _) hX; (try dsimp only at hB); clear hr) | clear hr))
    | go_region)
  all_goals refine bodyPost_ret (v := .bool (Pu.IvalOk (⟨a_lo, a_hi⟩ : Ival))) ?_ rfl (Ret.mk (by repeat (first | exact Below.refl _ _ | apply below_alloc | apply below_junk | apply below_drew)))
  all_goals first | (simp [results, Try.results49, go_sem, Pu.IvalOk, *]; done) | (simp [results, Try.results49, go_sem, Pu.IvalOk, *]; omega) | (go_light; simp [results, Try.results49, go_sem, Pu.IvalOk, *]; intros; exfalso; omega) | (go_light; simp [results, Try.results49, go_sem, Pu.IvalOk, *]; (repeat' split) <;> first | omega | (simp; done) | (simp_all; done)) | (go_light; simp_all [results, Try.results49, go_sem, Pu.IvalOk, ]; done) | (go_light; simp_all [results, Try.results49, go_sem, Pu.IvalOk, ]; omega)
theorem c_spec_IvalOk_b (a_lo : Int) (a_hi : Int) (w : World) (b : Bool) (hb : Pu.IvalOk (⟨a_lo, a_hi⟩ : Ival) = b) :
    Calls Try.prog 49 #[.agg #[.int .i64 a_lo, .int .i64 a_hi]] w (Ret w (.bool b)) := by subst hb; exact c_spec_IvalOk a_lo a_hi w

-- impl.IvalOk
set_option maxHeartbeats 1000000 in
set_option maxRecDepth 100000 in
theorem c_impl_IvalOk (a_lo : Int) (a_hi : Int) (w : World)   :
    Calls Try.prog 52 #[.agg #[.int .i64 a_lo, .int .i64 a_hi]] w (Ret w (.bool (Pu.IvalOk (⟨a_lo, a_hi⟩ : Ival)))) := by
  go_enter Try.func52, Try.ntmps52
  go_wp2_with (first
    | go_region)
  all_goals refine bodyPost_ret (v := .bool (Pu.IvalOk (⟨a_lo, a_hi⟩ : Ival))) ?_ rfl (Ret.mk (by repeat (first | exact Below.refl _ _ | apply below_alloc | apply below_junk | apply below_drew)))
  all_goals first | (simp [results, Try.results52, go_sem, Pu.IvalOk, *]; done) | (simp [results, Try.results52, go_sem, Pu.IvalOk, *]; omega) | (go_light; simp [results, Try.results52, go_sem, Pu.IvalOk, *]; intros; exfalso; omega) | (go_light; simp [results, Try.results52, go_sem, Pu.IvalOk, *]; (repeat' split) <;> first | omega | (simp; done) | (simp_all; done)) | (go_light; simp_all [results, Try.results52, go_sem, Pu.IvalOk, ]; done) | (go_light; simp_all [results, Try.results52, go_sem, Pu.IvalOk, ]; omega)
theorem c_impl_IvalOk_b (a_lo : Int) (a_hi : Int) (w : World) (b : Bool) (hb : Pu.IvalOk (⟨a_lo, a_hi⟩ : Ival) = b) :
    Calls Try.prog 52 #[.agg #[.int .i64 a_lo, .int .i64 a_hi]] w (Ret w (.bool b)) := by subst hb; exact c_impl_IvalOk a_lo a_hi w

-- spec.l1Told
set_option maxHeartbeats 1000000 in
set_option maxRecDepth 100000 in
theorem c_spec_l1Told (lo : Int) (hi : Int) (w : World)   :
    Calls Try.prog 78 #[.int .i64 lo, .int .i64 hi] w (Ret w (.tuple #[.agg #[.int .i64 (((Pu.Told lo hi).1).lo), .int .i64 (((Pu.Told lo hi).1).hi)], .bool ((Pu.Told lo hi).2)])) := by
  go_enter Try.func78, Try.ntmps78
  go_wp2_with (first
    | (go_at_call 49; refine (c_spec_IvalOk _ _ _ ).mono ?_; rintro e w' hr; (rcases Ret.bool hr with ⟨rfl, hX, g, d, rfl⟩ | ⟨rfl, hX, g, d, rfl⟩ <;> first | (have hB := (Pu.IvalOk_iff _).1 hX; (try dsimp only at hB); obtain ⟨hB1, hB2, hB3⟩ := hB; clear hr) | clear hr))
    | go_region)
  all_goals refine bodyPost_ret (v := .tuple #[.agg #[.int .i64 (((Pu.Told lo hi).1).lo), .int .i64 (((Pu.Told lo hi).1).hi)], .bool ((Pu.Told lo hi).2)]) ?_ rfl (Ret.mk (by repeat (first | exact Below.refl _ _ | apply below_alloc | apply below_junk | apply below_drew)))
  all_goals first | (simp [results, Try.results78, go_sem, Pu.Told, *]; done) | (simp [results, Try.results78, go_sem, Pu.Told, *]; omega) | (go_light; simp [results, Try.results78, go_sem, Pu.Told, *]; intros; exfalso; omega) | (go_light; simp [results, Try.results78, go_sem, Pu.Told, *]; (repeat' split) <;> first | omega | (simp; done) | (simp_all; done)) | (go_light; simp_all [results, Try.results78, go_sem, Pu.Told, ]; done) | (go_light; simp_all [results, Try.results78, go_sem, Pu.Told, ]; omega)

-- impl.ival
set_option maxHeartbeats 1000000 in
set_option maxRecDepth 100000 in
theorem c_impl_ival (lo : Int) (hi : Int) (w : World)   :
    Calls Try.prog 81 #[.int .i64 lo, .int .i64 hi] w (Ret w (.tuple #[.agg #[.int .i64 (((Pu.Told lo hi).1).lo), .int .i64 (((Pu.Told lo hi).1).hi)], .bool ((Pu.Told lo hi).2)])) := by
  go_enter Try.func81, Try.ntmps81
  go_wp2_with (first
    | (go_at_call 52; refine (c_impl_IvalOk _ _ _ ).mono ?_; rintro e w' hr; (rcases Ret.bool hr with ⟨rfl, hX, g, d, rfl⟩ | ⟨rfl, hX, g, d, rfl⟩ <;> first | (have hB := (Pu.IvalOk_iff _).1 hX; (try dsimp only at hB); obtain ⟨hB1, hB2, hB3⟩ := hB; clear hr) | clear hr))
    | go_region)
  all_goals refine bodyPost_ret (v := .tuple #[.agg #[.int .i64 (((Pu.Told lo hi).1).lo), .int .i64 (((Pu.Told lo hi).1).hi)], .bool ((Pu.Told lo hi).2)]) ?_ rfl (Ret.mk (by repeat (first | exact Below.refl _ _ | apply below_alloc | apply below_junk | apply below_drew)))
  all_goals first | (simp [results, Try.results81, go_sem, Pu.Told, *]; done) | (simp [results, Try.results81, go_sem, Pu.Told, *]; omega) | (go_light; simp [results, Try.results81, go_sem, Pu.Told, *]; intros; exfalso; omega) | (go_light; simp [results, Try.results81, go_sem, Pu.Told, *]; (repeat' split) <;> first | omega | (simp; done) | (simp_all; done)) | (go_light; simp_all [results, Try.results81, go_sem, Pu.Told, ]; done) | (go_light; simp_all [results, Try.results81, go_sem, Pu.Told, ]; omega)

-- spec.Wide
set_option maxHeartbeats 1000000 in
set_option maxRecDepth 100000 in
theorem c_spec_Wide (a_lo : Int) (a_hi : Int) (w : World)   :
    Calls Try.prog 65 #[.agg #[.int .i64 a_lo, .int .i64 a_hi]] w (Ret w (.int .i64 (Pu.Wide (⟨a_lo, a_hi⟩ : Ival)))) := by
  go_enter Try.func65, Try.ntmps65
  go_wp2_with (first
    | (go_at_call 49; refine (c_spec_IvalOk _ _ _ ).mono ?_; rintro e w' hr; (rcases Ret.bool hr with ⟨rfl, hX, g, d, rfl⟩ | ⟨rfl, hX, g, d, rfl⟩ <;> first | (have hB := (Pu.IvalOk_iff _).1 hX; (try dsimp only at hB); obtain ⟨hB1, hB2, hB3⟩ := hB; clear hr) | clear hr))
    | go_region)
  all_goals refine bodyPost_ret (v := .int .i64 (Pu.Wide (⟨a_lo, a_hi⟩ : Ival))) ?_ rfl (Ret.mk (by repeat (first | exact Below.refl _ _ | apply below_alloc | apply below_junk | apply below_drew)))
  all_goals first | (simp [results, Try.results65, go_sem, Pu.Wide, *]; done) | (simp [results, Try.results65, go_sem, Pu.Wide, *]; omega) | (go_light; simp [results, Try.results65, go_sem, Pu.Wide, *]; intros; exfalso; omega) | (go_light; simp [results, Try.results65, go_sem, Pu.Wide, *]; (repeat' split) <;> first | omega | (simp; done) | (simp_all; done)) | (go_light; simp_all [results, Try.results65, go_sem, Pu.Wide, ]; done) | (go_light; simp_all [results, Try.results65, go_sem, Pu.Wide, ]; omega)

-- impl.Wide
set_option maxHeartbeats 1000000 in
set_option maxRecDepth 100000 in
theorem c_impl_Wide (a_lo : Int) (a_hi : Int) (w : World)   :
    Calls Try.prog 66 #[.agg #[.int .i64 a_lo, .int .i64 a_hi]] w (Ret w (.int .i64 (Pu.Wide (⟨a_lo, a_hi⟩ : Ival)))) := by
  go_enter Try.func66, Try.ntmps66
  go_wp2_with (first
    | (go_at_call 52; refine (c_impl_IvalOk _ _ _ ).mono ?_; rintro e w' hr; (rcases Ret.bool hr with ⟨rfl, hX, g, d, rfl⟩ | ⟨rfl, hX, g, d, rfl⟩ <;> first | (have hB := (Pu.IvalOk_iff _).1 hX; (try dsimp only at hB); obtain ⟨hB1, hB2, hB3⟩ := hB; clear hr) | clear hr))
    | go_region)
  all_goals refine bodyPost_ret (v := .int .i64 (Pu.Wide (⟨a_lo, a_hi⟩ : Ival))) ?_ rfl (Ret.mk (by repeat (first | exact Below.refl _ _ | apply below_alloc | apply below_junk | apply below_drew)))
  all_goals first | (simp [results, Try.results66, go_sem, Pu.Wide, *]; done) | (simp [results, Try.results66, go_sem, Pu.Wide, *]; omega) | (go_light; simp [results, Try.results66, go_sem, Pu.Wide, *]; intros; exfalso; omega) | (go_light; simp [results, Try.results66, go_sem, Pu.Wide, *]; (repeat' split) <;> first | omega | (simp; done) | (simp_all; done)) | (go_light; simp_all [results, Try.results66, go_sem, Pu.Wide, ]; done) | (go_light; simp_all [results, Try.results66, go_sem, Pu.Wide, ]; omega)

-- spec.Holds
set_option maxHeartbeats 1000000 in
set_option maxRecDepth 100000 in
theorem c_spec_Holds (a_lo : Int) (a_hi : Int) (t : Int) (w : World)   :
    Calls Try.prog 55 #[.agg #[.int .i64 a_lo, .int .i64 a_hi], .int .i64 t] w (Ret w (.bool (Pu.Holds (⟨a_lo, a_hi⟩ : Ival) t))) := by
  go_enter Try.func55, Try.ntmps55
  go_wp2_with (first
    | (go_at_call 49; refine (c_spec_IvalOk _ _ _ ).mono ?_; rintro e w' hr; (rcases Ret.bool hr with ⟨rfl, hX, g, d, rfl⟩ | ⟨rfl, hX, g, d, rfl⟩ <;> first | (have hB := (Pu.IvalOk_iff _).1 hX; (try dsimp only at hB); obtain ⟨hB1, hB2, hB3⟩ := hB; clear hr) | clear hr))
    | (go_at_call 73; refine (c_spec_l1In _ _ _ _ ).mono ?_; rintro e w' hr; (rcases Ret.bool hr with ⟨rfl, hX, g, d, rfl⟩ | ⟨rfl, hX, g, d, rfl⟩ <;> first | (have hB := (Pu.In_iff _ _ _).1 hX; (try dsimp only at hB); obtain ⟨hB1, hB2⟩ := hB; clear hr) | (have hB := Pu.no_of (Pu.In_iff _ _ _) hX; (try dsimp only at hB); clear hr) | clear hr))
    | go_region)
  all_goals refine bodyPost_ret (v := .bool (Pu.Holds (⟨a_lo, a_hi⟩ : Ival) t)) ?_ rfl (Ret.mk (by repeat (first | exact Below.refl _ _ | apply below_alloc | apply below_junk | apply below_drew)))
  all_goals first | (simp [results, Try.results55, go_sem, Pu.Holds, Pu.In, *]; done) | (simp [results, Try.results55, go_sem, Pu.Holds, Pu.In, *]; omega) | (go_light; simp [results, Try.results55, go_sem, Pu.Holds, Pu.In, *]; intros; exfalso; omega) | (go_light; simp [results, Try.results55, go_sem, Pu.Holds, Pu.In, *]; (repeat' split) <;> first | omega | (simp; done) | (simp_all; done)) | (go_light; simp_all [results, Try.results55, go_sem, Pu.Holds, Pu.In, ]; done) | (go_light; simp_all [results, Try.results55, go_sem, Pu.Holds, Pu.In, ]; omega)

-- impl.Holds
set_option maxHeartbeats 1000000 in
set_option maxRecDepth 100000 in
theorem c_impl_Holds (a_lo : Int) (a_hi : Int) (t : Int) (w : World)   :
    Calls Try.prog 58 #[.agg #[.int .i64 a_lo, .int .i64 a_hi], .int .i64 t] w (Ret w (.bool (Pu.Holds (⟨a_lo, a_hi⟩ : Ival) t))) := by
  go_enter Try.func58, Try.ntmps58
  go_wp2_with (first
    | (go_at_call 52; refine (c_impl_IvalOk _ _ _ ).mono ?_; rintro e w' hr; (rcases Ret.bool hr with ⟨rfl, hX, g, d, rfl⟩ | ⟨rfl, hX, g, d, rfl⟩ <;> first | (have hB := (Pu.IvalOk_iff _).1 hX; (try dsimp only at hB); obtain ⟨hB1, hB2, hB3⟩ := hB; clear hr) | clear hr))
    | (go_at_call 53; refine (c_impl_in _ _ _ _ ).mono ?_; rintro e w' hr; (rcases Ret.bool hr with ⟨rfl, hX, g, d, rfl⟩ | ⟨rfl, hX, g, d, rfl⟩ <;> first | (have hB := (Pu.In_iff _ _ _).1 hX; (try dsimp only at hB); obtain ⟨hB1, hB2⟩ := hB; clear hr) | (have hB := Pu.no_of (Pu.In_iff _ _ _) hX; (try dsimp only at hB); clear hr) | clear hr))
    | go_region)
  all_goals refine bodyPost_ret (v := .bool (Pu.Holds (⟨a_lo, a_hi⟩ : Ival) t)) ?_ rfl (Ret.mk (by repeat (first | exact Below.refl _ _ | apply below_alloc | apply below_junk | apply below_drew)))
  all_goals first | (simp [results, Try.results58, go_sem, Pu.Holds, Pu.In, *]; done) | (simp [results, Try.results58, go_sem, Pu.Holds, Pu.In, *]; omega) | (go_light; simp [results, Try.results58, go_sem, Pu.Holds, Pu.In, *]; intros; exfalso; omega) | (go_light; simp [results, Try.results58, go_sem, Pu.Holds, Pu.In, *]; (repeat' split) <;> first | omega | (simp; done) | (simp_all; done)) | (go_light; simp_all [results, Try.results58, go_sem, Pu.Holds, Pu.In, ]; done) | (go_light; simp_all [results, Try.results58, go_sem, Pu.Holds, Pu.In, ]; omega)

-- spec.Spread
set_option maxHeartbeats 1000000 in
set_option maxRecDepth 100000 in
theorem c_spec_Spread (a_lo : Int) (a_hi : Int) (low : Int) (high : Int) (w : World)   :
    Calls Try.prog 61 #[.agg #[.int .i64 a_lo, .int .i64 a_hi], .int .i64 low, .int .i64 high] w (Ret w (.tuple #[.agg #[.int .i64 (((Pu.Spread (⟨a_lo, a_hi⟩ : Ival) low high).1).lo), .int .i64 (((Pu.Spread (⟨a_lo, a_hi⟩ : Ival) low high).1).hi)], .bool ((Pu.Spread (⟨a_lo, a_hi⟩ : Ival) low high).2)])) := by
  go_enter Try.func61, Try.ntmps61
  go_wp2_with (first
    | (go_at_call 49; refine (c_spec_IvalOk _ _ _ ).mono ?_; rintro e w' hr; (rcases Ret.bool hr with ⟨rfl, hX, g, d, rfl⟩ | ⟨rfl, hX, g, d, rfl⟩ <;> first | (have hB := (Pu.IvalOk_iff _).1 hX; (try dsimp only at hB); obtain ⟨hB1, hB2, hB3⟩ := hB; clear hr) | clear hr))
    | (go_at_call 73; refine (c_spec_l1In _ _ _ _ ).mono ?_; rintro e w' hr; (rcases Ret.bool hr with ⟨rfl, hX, g, d, rfl⟩ | ⟨rfl, hX, g, d, rfl⟩ <;> first | (have hB := (Pu.In_iff _ _ _).1 hX; (try dsimp only at hB); obtain ⟨hB1, hB2⟩ := hB; clear hr) | (have hB := Pu.no_of (Pu.In_iff _ _ _) hX; (try dsimp only at hB); clear hr) | clear hr))
    | (go_at_call 78; refine (c_spec_l1Told _ _ _ ).mono ?_; rintro e w' hr; obtain ⟨rfl, g, d, rfl⟩ := Ret.open hr; clear hr)
    | go_region)
  all_goals refine bodyPost_ret (v := .tuple #[.agg #[.int .i64 (((Pu.Spread (⟨a_lo, a_hi⟩ : Ival) low high).1).lo), .int .i64 (((Pu.Spread (⟨a_lo, a_hi⟩ : Ival) low high).1).hi)], .bool ((Pu.Spread (⟨a_lo, a_hi⟩ : Ival) low high).2)]) ?_ rfl (Ret.mk (by repeat (first | exact Below.refl _ _ | apply below_alloc | apply below_junk | apply below_drew)))
  all_goals first | (simp [results, Try.results61, go_sem, Pu.Spread, *]; done) | (simp [results, Try.results61, go_sem, Pu.Spread, *]; omega) | (go_light; simp [results, Try.results61, go_sem, Pu.Spread, *]; intros; exfalso; omega) | (go_light; simp [results, Try.results61, go_sem, Pu.Spread, *]; (repeat' split) <;> first | omega | (simp; done) | (simp_all; done)) | (go_light; simp_all [results, Try.results61, go_sem, Pu.Spread, ]; done) | (go_light; simp_all [results, Try.results61, go_sem, Pu.Spread, ]; omega)

-- impl.Spread
set_option maxHeartbeats 1000000 in
set_option maxRecDepth 100000 in
theorem c_impl_Spread (a_lo : Int) (a_hi : Int) (low : Int) (high : Int) (w : World)   :
    Calls Try.prog 64 #[.agg #[.int .i64 a_lo, .int .i64 a_hi], .int .i64 low, .int .i64 high] w (Ret w (.tuple #[.agg #[.int .i64 (((Pu.Spread (⟨a_lo, a_hi⟩ : Ival) low high).1).lo), .int .i64 (((Pu.Spread (⟨a_lo, a_hi⟩ : Ival) low high).1).hi)], .bool ((Pu.Spread (⟨a_lo, a_hi⟩ : Ival) low high).2)])) := by
  go_enter Try.func64, Try.ntmps64
  go_wp2_with (first
    | (go_at_call 52; refine (c_impl_IvalOk _ _ _ ).mono ?_; rintro e w' hr; (rcases Ret.bool hr with ⟨rfl, hX, g, d, rfl⟩ | ⟨rfl, hX, g, d, rfl⟩ <;> first | (have hB := (Pu.IvalOk_iff _).1 hX; (try dsimp only at hB); obtain ⟨hB1, hB2, hB3⟩ := hB; clear hr) | clear hr))
    | (go_at_call 53; refine (c_impl_in _ _ _ _ ).mono ?_; rintro e w' hr; (rcases Ret.bool hr with ⟨rfl, hX, g, d, rfl⟩ | ⟨rfl, hX, g, d, rfl⟩ <;> first | (have hB := (Pu.In_iff _ _ _).1 hX; (try dsimp only at hB); obtain ⟨hB1, hB2⟩ := hB; clear hr) | (have hB := Pu.no_of (Pu.In_iff _ _ _) hX; (try dsimp only at hB); clear hr) | clear hr))
    | (go_at_call 81; refine (c_impl_ival _ _ _ ).mono ?_; rintro e w' hr; obtain ⟨rfl, g, d, rfl⟩ := Ret.open hr; clear hr)
    | go_region)
  all_goals refine bodyPost_ret (v := .tuple #[.agg #[.int .i64 (((Pu.Spread (⟨a_lo, a_hi⟩ : Ival) low high).1).lo), .int .i64 (((Pu.Spread (⟨a_lo, a_hi⟩ : Ival) low high).1).hi)], .bool ((Pu.Spread (⟨a_lo, a_hi⟩ : Ival) low high).2)]) ?_ rfl (Ret.mk (by repeat (first | exact Below.refl _ _ | apply below_alloc | apply below_junk | apply below_drew)))
  all_goals first | (simp [results, Try.results64, go_sem, Pu.Spread, *]; done) | (simp [results, Try.results64, go_sem, Pu.Spread, *]; omega) | (go_light; simp [results, Try.results64, go_sem, Pu.Spread, *]; intros; exfalso; omega) | (go_light; simp [results, Try.results64, go_sem, Pu.Spread, *]; (repeat' split) <;> first | omega | (simp; done) | (simp_all; done)) | (go_light; simp_all [results, Try.results64, go_sem, Pu.Spread, ]; done) | (go_light; simp_all [results, Try.results64, go_sem, Pu.Spread, ]; omega)

-- spec.Meet
set_option maxHeartbeats 1000000 in
set_option maxRecDepth 100000 in
theorem c_spec_Meet (a_lo : Int) (a_hi : Int) (b_lo : Int) (b_hi : Int) (w : World)   :
    Calls Try.prog 71 #[.agg #[.int .i64 a_lo, .int .i64 a_hi], .agg #[.int .i64 b_lo, .int .i64 b_hi]] w (Ret w (.tuple #[.agg #[.int .i64 (((Pu.Meet (⟨a_lo, a_hi⟩ : Ival) (⟨b_lo, b_hi⟩ : Ival)).1).lo), .int .i64 (((Pu.Meet (⟨a_lo, a_hi⟩ : Ival) (⟨b_lo, b_hi⟩ : Ival)).1).hi)], .bool ((Pu.Meet (⟨a_lo, a_hi⟩ : Ival) (⟨b_lo, b_hi⟩ : Ival)).2)])) := by
  go_enter Try.func71, Try.ntmps71
  go_wp2_with (first
    | ((with_reducible refine wp_region_tail (id := 3) 13 (by kernel_rfl) (by kernel_rfl) ?_); (simp only [List.take_succ_cons, List.take_zero, List.drop_succ_cons, List.drop_zero]); (repeat (go_big_quiet_step ((first | (go_at_call 87; exact calm_of (c_spec_l1Max _ _ _ )) | (go_at_call 88; exact calm_of (c_spec_l1Min _ _ _ )) | (go_at_call 78; exact calm_of (c_spec_l1Told _ _ _ )))))); refine wpQuiet_nil ?_; intro g d)
    | (go_at_call 49; refine (c_spec_IvalOk _ _ _ ).mono ?_; rintro e w' hr; (rcases Ret.bool hr with ⟨rfl, hX, g, d, rfl⟩ | ⟨rfl, hX, g, d, rfl⟩ <;> first | (have hB := (Pu.IvalOk_iff _).1 hX; (try dsimp only at hB); obtain ⟨hB1, hB2, hB3⟩ := hB; clear hr) | clear hr))
    | (go_at_call 78; refine (c_spec_l1Told _ _ _ ).mono ?_; rintro e w' hr; obtain ⟨rfl, g, d, rfl⟩ := Ret.open hr; clear hr)
    | (go_at_call 87; refine (c_spec_l1Max _ _ _ ).mono ?_; rintro e w' hr; obtain ⟨rfl, g, d, rfl⟩ := Ret.open hr; clear hr)
    | (go_at_call 88; refine (c_spec_l1Min _ _ _ ).mono ?_; rintro e w' hr; obtain ⟨rfl, g, d, rfl⟩ := Ret.open hr; clear hr)
    | go_region)
  all_goals refine bodyPost_ret (v := .tuple #[.agg #[.int .i64 (((Pu.Meet (⟨a_lo, a_hi⟩ : Ival) (⟨b_lo, b_hi⟩ : Ival)).1).lo), .int .i64 (((Pu.Meet (⟨a_lo, a_hi⟩ : Ival) (⟨b_lo, b_hi⟩ : Ival)).1).hi)], .bool ((Pu.Meet (⟨a_lo, a_hi⟩ : Ival) (⟨b_lo, b_hi⟩ : Ival)).2)]) ?_ rfl (Ret.mk (by repeat (first | exact Below.refl _ _ | apply below_alloc | apply below_junk | apply below_drew)))
  all_goals first | (simp [results, Try.results71, go_sem, Pu.Meet, *]; done) | (simp [results, Try.results71, go_sem, Pu.Meet, *]; omega) | (go_light; simp [results, Try.results71, go_sem, Pu.Meet, *]; intros; exfalso; omega) | (go_light; simp [results, Try.results71, go_sem, Pu.Meet, *]; (repeat' split) <;> first | omega | (simp; done) | (simp_all; done)) | (go_light; simp_all [results, Try.results71, go_sem, Pu.Meet, ]; done) | (go_light; simp_all [results, Try.results71, go_sem, Pu.Meet, ]; omega)

-- spec.PlusIval
set_option maxHeartbeats 1000000 in
set_option maxRecDepth 100000 in
theorem c_spec_PlusIval (a_lo : Int) (a_hi : Int) (b_lo : Int) (b_hi : Int) (w : World)   :
    Calls Try.prog 83 #[.agg #[.int .i64 a_lo, .int .i64 a_hi], .agg #[.int .i64 b_lo, .int .i64 b_hi]] w (Ret w (.tuple #[.agg #[.int .i64 (((Pu.PlusIval (⟨a_lo, a_hi⟩ : Ival) (⟨b_lo, b_hi⟩ : Ival)).1).lo), .int .i64 (((Pu.PlusIval (⟨a_lo, a_hi⟩ : Ival) (⟨b_lo, b_hi⟩ : Ival)).1).hi)], .bool ((Pu.PlusIval (⟨a_lo, a_hi⟩ : Ival) (⟨b_lo, b_hi⟩ : Ival)).2)])) := by
  go_enter Try.func83, Try.ntmps83
  go_wp2_with (first
    | (go_at_call 49; refine (c_spec_IvalOk _ _ _ ).mono ?_; rintro e w' hr; (rcases Ret.bool hr with ⟨rfl, hX, g, d, rfl⟩ | ⟨rfl, hX, g, d, rfl⟩ <;> first | (have hB := (Pu.IvalOk_iff _).1 hX; (try dsimp only at hB); obtain ⟨hB1, hB2, hB3⟩ := hB; clear hr) | clear hr))
    | (go_at_call 78; refine (c_spec_l1Told _ _ _ ).mono ?_; rintro e w' hr; obtain ⟨rfl, g, d, rfl⟩ := Ret.open hr; clear hr)
    | go_region)
  all_goals refine bodyPost_ret (v := .tuple #[.agg #[.int .i64 (((Pu.PlusIval (⟨a_lo, a_hi⟩ : Ival) (⟨b_lo, b_hi⟩ : Ival)).1).lo), .int .i64 (((Pu.PlusIval (⟨a_lo, a_hi⟩ : Ival) (⟨b_lo, b_hi⟩ : Ival)).1).hi)], .bool ((Pu.PlusIval (⟨a_lo, a_hi⟩ : Ival) (⟨b_lo, b_hi⟩ : Ival)).2)]) ?_ rfl (Ret.mk (by repeat (first | exact Below.refl _ _ | apply below_alloc | apply below_junk | apply below_drew)))
  all_goals first | (simp [results, Try.results83, go_sem, Pu.PlusIval, *]; done) | (simp [results, Try.results83, go_sem, Pu.PlusIval, *]; omega) | (go_light; simp [results, Try.results83, go_sem, Pu.PlusIval, *]; intros; exfalso; omega) | (go_light; simp [results, Try.results83, go_sem, Pu.PlusIval, *]; (repeat' split) <;> first | omega | (simp; done) | (simp_all; done)) | (go_light; simp_all [results, Try.results83, go_sem, Pu.PlusIval, ]; done) | (go_light; simp_all [results, Try.results83, go_sem, Pu.PlusIval, ]; omega)

-- impl.PlusIval
set_option maxHeartbeats 1000000 in
set_option maxRecDepth 100000 in
theorem c_impl_PlusIval (a_lo : Int) (a_hi : Int) (b_lo : Int) (b_hi : Int) (w : World)   :
    Calls Try.prog 86 #[.agg #[.int .i64 a_lo, .int .i64 a_hi], .agg #[.int .i64 b_lo, .int .i64 b_hi]] w (Ret w (.tuple #[.agg #[.int .i64 (((Pu.PlusIval (⟨a_lo, a_hi⟩ : Ival) (⟨b_lo, b_hi⟩ : Ival)).1).lo), .int .i64 (((Pu.PlusIval (⟨a_lo, a_hi⟩ : Ival) (⟨b_lo, b_hi⟩ : Ival)).1).hi)], .bool ((Pu.PlusIval (⟨a_lo, a_hi⟩ : Ival) (⟨b_lo, b_hi⟩ : Ival)).2)])) := by
  go_enter Try.func86, Try.ntmps86
  go_wp2_with (first
    | (go_at_call 52; refine (c_impl_IvalOk _ _ _ ).mono ?_; rintro e w' hr; (rcases Ret.bool hr with ⟨rfl, hX, g, d, rfl⟩ | ⟨rfl, hX, g, d, rfl⟩ <;> first | (have hB := (Pu.IvalOk_iff _).1 hX; (try dsimp only at hB); obtain ⟨hB1, hB2, hB3⟩ := hB; clear hr) | clear hr))
    | (go_at_call 81; refine (c_impl_ival _ _ _ ).mono ?_; rintro e w' hr; obtain ⟨rfl, g, d, rfl⟩ := Ret.open hr; clear hr)
    | go_region)
  all_goals refine bodyPost_ret (v := .tuple #[.agg #[.int .i64 (((Pu.PlusIval (⟨a_lo, a_hi⟩ : Ival) (⟨b_lo, b_hi⟩ : Ival)).1).lo), .int .i64 (((Pu.PlusIval (⟨a_lo, a_hi⟩ : Ival) (⟨b_lo, b_hi⟩ : Ival)).1).hi)], .bool ((Pu.PlusIval (⟨a_lo, a_hi⟩ : Ival) (⟨b_lo, b_hi⟩ : Ival)).2)]) ?_ rfl (Ret.mk (by repeat (first | exact Below.refl _ _ | apply below_alloc | apply below_junk | apply below_drew)))
  all_goals first | (simp [results, Try.results86, go_sem, Pu.PlusIval, *]; done) | (simp [results, Try.results86, go_sem, Pu.PlusIval, *]; omega) | (go_light; simp [results, Try.results86, go_sem, Pu.PlusIval, *]; intros; exfalso; omega) | (go_light; simp [results, Try.results86, go_sem, Pu.PlusIval, *]; (repeat' split) <;> first | omega | (simp; done) | (simp_all; done)) | (go_light; simp_all [results, Try.results86, go_sem, Pu.PlusIval, ]; done) | (go_light; simp_all [results, Try.results86, go_sem, Pu.PlusIval, ]; omega)

-- spec.DriftOk
set_option maxHeartbeats 1000000 in
set_option maxRecDepth 100000 in
theorem c_spec_DriftOk (d_num : Int) (d_den : Int) (w : World)   :
    Calls Try.prog 54 #[.agg #[.int .i64 d_num, .int .i64 d_den]] w (Ret w (.bool (Pu.DriftOk (⟨d_num, d_den⟩ : Drift)))) := by
  go_enter Try.func54, Try.ntmps54
  go_wp2_with (first
    | (go_at_call 73; refine (c_spec_l1In _ _ _ _ ).mono ?_; rintro e w' hr; (rcases Ret.bool hr with ⟨rfl, hX, g, d, rfl⟩ | ⟨rfl, hX, g, d, rfl⟩ <;> first | (have hB := (Pu.In_iff _ _ _).1 hX; (try dsimp only at hB); obtain ⟨hB1, hB2⟩ := hB; clear hr) | (have hB := Pu.no_of (Pu.In_iff _ _ _) hX; (try dsimp only at hB); clear hr) | clear hr))
    | go_region)
  all_goals refine bodyPost_ret (v := .bool (Pu.DriftOk (⟨d_num, d_den⟩ : Drift))) ?_ rfl (Ret.mk (by repeat (first | exact Below.refl _ _ | apply below_alloc | apply below_junk | apply below_drew)))
  all_goals first | (simp [results, Try.results54, go_sem, Pu.DriftOk, Pu.In, *]; done) | (simp [results, Try.results54, go_sem, Pu.DriftOk, Pu.In, *]; omega) | (go_light; simp [results, Try.results54, go_sem, Pu.DriftOk, Pu.In, *]; intros; exfalso; omega) | (go_light; simp [results, Try.results54, go_sem, Pu.DriftOk, Pu.In, *]; (repeat' split) <;> first | omega | (simp; done) | (simp_all; done)) | (go_light; simp_all [results, Try.results54, go_sem, Pu.DriftOk, Pu.In, ]; done) | (go_light; simp_all [results, Try.results54, go_sem, Pu.DriftOk, Pu.In, ]; omega)
theorem c_spec_DriftOk_b (d_num : Int) (d_den : Int) (w : World) (b : Bool) (hb : Pu.DriftOk (⟨d_num, d_den⟩ : Drift) = b) :
    Calls Try.prog 54 #[.agg #[.int .i64 d_num, .int .i64 d_den]] w (Ret w (.bool b)) := by subst hb; exact c_spec_DriftOk d_num d_den w

-- impl.DriftOk
set_option maxHeartbeats 1000000 in
set_option maxRecDepth 100000 in
theorem c_impl_DriftOk (d_num : Int) (d_den : Int) (w : World)   :
    Calls Try.prog 57 #[.agg #[.int .i64 d_num, .int .i64 d_den]] w (Ret w (.bool (Pu.DriftOk (⟨d_num, d_den⟩ : Drift)))) := by
  go_enter Try.func57, Try.ntmps57
  go_wp2_with (first
    | (go_at_call 53; refine (c_impl_in _ _ _ _ ).mono ?_; rintro e w' hr; (rcases Ret.bool hr with ⟨rfl, hX, g, d, rfl⟩ | ⟨rfl, hX, g, d, rfl⟩ <;> first | (have hB := (Pu.In_iff _ _ _).1 hX; (try dsimp only at hB); obtain ⟨hB1, hB2⟩ := hB; clear hr) | (have hB := Pu.no_of (Pu.In_iff _ _ _) hX; (try dsimp only at hB); clear hr) | clear hr))
    | go_region)
  all_goals refine bodyPost_ret (v := .bool (Pu.DriftOk (⟨d_num, d_den⟩ : Drift))) ?_ rfl (Ret.mk (by repeat (first | exact Below.refl _ _ | apply below_alloc | apply below_junk | apply below_drew)))
  all_goals first | (simp [results, Try.results57, go_sem, Pu.DriftOk, Pu.In, *]; done) | (simp [results, Try.results57, go_sem, Pu.DriftOk, Pu.In, *]; omega) | (go_light; simp [results, Try.results57, go_sem, Pu.DriftOk, Pu.In, *]; intros; exfalso; omega) | (go_light; simp [results, Try.results57, go_sem, Pu.DriftOk, Pu.In, *]; (repeat' split) <;> first | omega | (simp; done) | (simp_all; done)) | (go_light; simp_all [results, Try.results57, go_sem, Pu.DriftOk, Pu.In, ]; done) | (go_light; simp_all [results, Try.results57, go_sem, Pu.DriftOk, Pu.In, ]; omega)
theorem c_impl_DriftOk_b (d_num : Int) (d_den : Int) (w : World) (b : Bool) (hb : Pu.DriftOk (⟨d_num, d_den⟩ : Drift) = b) :
    Calls Try.prog 57 #[.agg #[.int .i64 d_num, .int .i64 d_den]] w (Ret w (.bool b)) := by subst hb; exact c_impl_DriftOk d_num d_den w

-- spec.l2Time
set_option maxHeartbeats 1000000 in
set_option maxRecDepth 100000 in
theorem c_spec_l2Time (t : Int) (w : World)   :
    Calls Try.prog 50 #[.int .i64 t] w (Ret w (.bool (Pu.isTime t))) := by
  go_enter Try.func50, Try.ntmps50
  go_wp2_with (first
    | (go_at_call 73; refine (c_spec_l1In _ _ _ _ ).mono ?_; rintro e w' hr; (rcases Ret.bool hr with ⟨rfl, hX, g, d, rfl⟩ | ⟨rfl, hX, g, d, rfl⟩ <;> first | (have hB := (Pu.In_iff _ _ _).1 hX; (try dsimp only at hB); obtain ⟨hB1, hB2⟩ := hB; clear hr) | (have hB := Pu.no_of (Pu.In_iff _ _ _) hX; (try dsimp only at hB); clear hr) | clear hr))
    | go_region)
  all_goals refine bodyPost_ret (v := .bool (Pu.isTime t)) ?_ rfl (Ret.mk (by repeat (first | exact Below.refl _ _ | apply below_alloc | apply below_junk | apply below_drew)))
  all_goals first | (simp [results, Try.results50, go_sem, Pu.isTime, Pu.In, *]; done) | (simp [results, Try.results50, go_sem, Pu.isTime, Pu.In, *]; omega) | (go_light; simp [results, Try.results50, go_sem, Pu.isTime, Pu.In, *]; intros; exfalso; omega) | (go_light; simp [results, Try.results50, go_sem, Pu.isTime, Pu.In, *]; (repeat' split) <;> first | omega | (simp; done) | (simp_all; done)) | (go_light; simp_all [results, Try.results50, go_sem, Pu.isTime, Pu.In, ]; done) | (go_light; simp_all [results, Try.results50, go_sem, Pu.isTime, Pu.In, ]; omega)
theorem c_spec_l2Time_b (t : Int) (w : World) (b : Bool) (hb : Pu.isTime t = b) :
    Calls Try.prog 50 #[.int .i64 t] w (Ret w (.bool b)) := by subst hb; exact c_spec_l2Time t w

-- impl.isTime
set_option maxHeartbeats 1000000 in
set_option maxRecDepth 100000 in
theorem c_impl_isTime (t : Int) (w : World)   :
    Calls Try.prog 62 #[.int .i64 t] w (Ret w (.bool (Pu.isTime t))) := by
  go_enter Try.func62, Try.ntmps62
  go_wp2_with (first
    | (go_at_call 53; refine (c_impl_in _ _ _ _ ).mono ?_; rintro e w' hr; (rcases Ret.bool hr with ⟨rfl, hX, g, d, rfl⟩ | ⟨rfl, hX, g, d, rfl⟩ <;> first | (have hB := (Pu.In_iff _ _ _).1 hX; (try dsimp only at hB); obtain ⟨hB1, hB2⟩ := hB; clear hr) | (have hB := Pu.no_of (Pu.In_iff _ _ _) hX; (try dsimp only at hB); clear hr) | clear hr))
    | go_region)
  all_goals refine bodyPost_ret (v := .bool (Pu.isTime t)) ?_ rfl (Ret.mk (by repeat (first | exact Below.refl _ _ | apply below_alloc | apply below_junk | apply below_drew)))
  all_goals first | (simp [results, Try.results62, go_sem, Pu.isTime, Pu.In, *]; done) | (simp [results, Try.results62, go_sem, Pu.isTime, Pu.In, *]; omega) | (go_light; simp [results, Try.results62, go_sem, Pu.isTime, Pu.In, *]; intros; exfalso; omega) | (go_light; simp [results, Try.results62, go_sem, Pu.isTime, Pu.In, *]; (repeat' split) <;> first | omega | (simp; done) | (simp_all; done)) | (go_light; simp_all [results, Try.results62, go_sem, Pu.isTime, Pu.In, ]; done) | (go_light; simp_all [results, Try.results62, go_sem, Pu.isTime, Pu.In, ]; omega)
theorem c_impl_isTime_b (t : Int) (w : World) (b : Bool) (hb : Pu.isTime t = b) :
    Calls Try.prog 62 #[.int .i64 t] w (Ret w (.bool b)) := by subst hb; exact c_impl_isTime t w

-- spec.l4Node
set_option maxHeartbeats 1000000 in
set_option maxRecDepth 100000 in
theorem c_spec_l4Node (t : Int) (w : World)   :
    Calls Try.prog 48 #[.int .i64 t] w (Ret w (.bool (Pu.isNode t))) := by
  go_enter Try.func48, Try.ntmps48
  go_wp2_with (first
    | (go_at_call 73; refine (c_spec_l1In _ _ _ _ ).mono ?_; rintro e w' hr; (rcases Ret.bool hr with ⟨rfl, hX, g, d, rfl⟩ | ⟨rfl, hX, g, d, rfl⟩ <;> first | (have hB := (Pu.In_iff _ _ _).1 hX; (try dsimp only at hB); obtain ⟨hB1, hB2⟩ := hB; clear hr) | (have hB := Pu.no_of (Pu.In_iff _ _ _) hX; (try dsimp only at hB); clear hr) | clear hr))
    | go_region)
  all_goals refine bodyPost_ret (v := .bool (Pu.isNode t)) ?_ rfl (Ret.mk (by repeat (first | exact Below.refl _ _ | apply below_alloc | apply below_junk | apply below_drew)))
  all_goals first | (simp [results, Try.results48, go_sem, Pu.isNode, Pu.In, *]; done) | (simp [results, Try.results48, go_sem, Pu.isNode, Pu.In, *]; omega) | (go_light; simp [results, Try.results48, go_sem, Pu.isNode, Pu.In, *]; intros; exfalso; omega) | (go_light; simp [results, Try.results48, go_sem, Pu.isNode, Pu.In, *]; (repeat' split) <;> first | omega | (simp; done) | (simp_all; done)) | (go_light; simp_all [results, Try.results48, go_sem, Pu.isNode, Pu.In, ]; done) | (go_light; simp_all [results, Try.results48, go_sem, Pu.isNode, Pu.In, ]; omega)
theorem c_spec_l4Node_b (t : Int) (w : World) (b : Bool) (hb : Pu.isNode t = b) :
    Calls Try.prog 48 #[.int .i64 t] w (Ret w (.bool b)) := by subst hb; exact c_spec_l4Node t w

-- impl.isNode
set_option maxHeartbeats 1000000 in
set_option maxRecDepth 100000 in
theorem c_impl_isNode (t : Int) (w : World)   :
    Calls Try.prog 51 #[.int .i64 t] w (Ret w (.bool (Pu.isNode t))) := by
  go_enter Try.func51, Try.ntmps51
  go_wp2_with (first
    | (go_at_call 53; refine (c_impl_in _ _ _ _ ).mono ?_; rintro e w' hr; (rcases Ret.bool hr with ⟨rfl, hX, g, d, rfl⟩ | ⟨rfl, hX, g, d, rfl⟩ <;> first | (have hB := (Pu.In_iff _ _ _).1 hX; (try dsimp only at hB); obtain ⟨hB1, hB2⟩ := hB; clear hr) | (have hB := Pu.no_of (Pu.In_iff _ _ _) hX; (try dsimp only at hB); clear hr) | clear hr))
    | go_region)
  all_goals refine bodyPost_ret (v := .bool (Pu.isNode t)) ?_ rfl (Ret.mk (by repeat (first | exact Below.refl _ _ | apply below_alloc | apply below_junk | apply below_drew)))
  all_goals first | (simp [results, Try.results51, go_sem, Pu.isNode, Pu.In, *]; done) | (simp [results, Try.results51, go_sem, Pu.isNode, Pu.In, *]; omega) | (go_light; simp [results, Try.results51, go_sem, Pu.isNode, Pu.In, *]; intros; exfalso; omega) | (go_light; simp [results, Try.results51, go_sem, Pu.isNode, Pu.In, *]; (repeat' split) <;> first | omega | (simp; done) | (simp_all; done)) | (go_light; simp_all [results, Try.results51, go_sem, Pu.isNode, Pu.In, ]; done) | (go_light; simp_all [results, Try.results51, go_sem, Pu.isNode, Pu.In, ]; omega)
theorem c_impl_isNode_b (t : Int) (w : World) (b : Bool) (hb : Pu.isNode t = b) :
    Calls Try.prog 51 #[.int .i64 t] w (Ret w (.bool b)) := by subst hb; exact c_impl_isNode t w

-- spec.l1Down
set_option maxHeartbeats 1000000 in
set_option maxRecDepth 100000 in
theorem c_spec_l1Down (x : Int) (n : Int) (w : World)  (hn : 1 ≤ n) (hx0 : -5000000000000000000 ≤ x) (hx1 : x ≤ 5000000000000000000) :
    Calls Try.prog 77 #[.int .i64 x, .int .i64 n] w (Ret w (.int .i64 (x / n))) := by
  have hq := Pu.tdiv_bd x n 5000000000000000000 hn hx0 hx1
  obtain ⟨hq0, hq1⟩ := hq
  have Hc := Lib.hid (Pu.tdiv_cases x n hn)
  go_enter Try.func77, Try.ntmps77
  go_wp2_with (first
    | go_region)
  all_goals refine bodyPost_ret (v := .int .i64 (x / n)) ?_ rfl (Ret.mk (by repeat (first | exact Below.refl _ _ | apply below_alloc | apply below_junk | apply below_drew)))
  all_goals (have hc := Hc.out; first | (simp [results, Try.results77, go_sem]; omega) | (simp [results, Try.results77, go_sem]; done))

-- impl.down
set_option maxHeartbeats 1000000 in
set_option maxRecDepth 100000 in
theorem c_impl_down (x : Int) (n : Int) (w : World)  (hn : 1 ≤ n) (hx0 : -5000000000000000000 ≤ x) (hx1 : x ≤ 5000000000000000000) :
    Calls Try.prog 98 #[.int .i64 x, .int .i64 n] w (Ret w (.int .i64 (x / n))) := by
  have hq := Pu.tdiv_bd x n 5000000000000000000 hn hx0 hx1
  obtain ⟨hq0, hq1⟩ := hq
  have Hc := Lib.hid (Pu.tdiv_cases x n hn)
  go_enter Try.func98, Try.ntmps98
  go_wp2_with (first
    | go_region)
  all_goals refine bodyPost_ret (v := .int .i64 (x / n)) ?_ rfl (Ret.mk (by repeat (first | exact Below.refl _ _ | apply below_alloc | apply below_junk | apply below_drew)))
  all_goals (have hc := Hc.out; first | (simp [results, Try.results98, go_sem]; omega) | (simp [results, Try.results98, go_sem]; done))

-- spec.l1Up
set_option maxHeartbeats 1000000 in
set_option maxRecDepth 100000 in
theorem c_spec_l1Up (x : Int) (n : Int) (w : World)  (hn : 1 ≤ n) (hx0 : -5000000000000000000 ≤ x) (hx1 : x ≤ 5000000000000000000) :
    Calls Try.prog 95 #[.int .i64 x, .int .i64 n] w (Ret w (.int .i64 (Pu.up x n))) := by
  have hq := Pu.ediv_bd (-x) n 5000000000000000000 hn (by omega) (by omega)
  obtain ⟨hq0, hq1⟩ := hq
  go_enter Try.func95, Try.ntmps95
  go_wp2_with (first
    | (go_at_call 77; refine (c_spec_l1Down _ _ _ (by omega) (by omega) (by omega)).mono ?_; rintro e w' hr; obtain ⟨rfl, g, d, rfl⟩ := Ret.open hr; clear hr)
    | go_region)
  all_goals refine bodyPost_ret (v := .int .i64 (Pu.up x n)) ?_ rfl (Ret.mk (by repeat (first | exact Below.refl _ _ | apply below_alloc | apply below_junk | apply below_drew)))
  all_goals first | (simp [results, Try.results95, go_sem, Pu.up, *]; done) | (simp [results, Try.results95, go_sem, Pu.up, *]; omega) | (go_light; simp [results, Try.results95, go_sem, Pu.up, *]; intros; exfalso; omega) | (go_light; simp [results, Try.results95, go_sem, Pu.up, *]; (repeat' split) <;> first | omega | (simp; done) | (simp_all; done)) | (go_light; simp_all [results, Try.results95, go_sem, Pu.up, ]; done) | (go_light; simp_all [results, Try.results95, go_sem, Pu.up, ]; omega)

-- impl.up
set_option maxHeartbeats 1000000 in
set_option maxRecDepth 100000 in
theorem c_impl_up (x : Int) (n : Int) (w : World)  (hn : 1 ≤ n) (hx0 : -5000000000000000000 ≤ x) (hx1 : x ≤ 5000000000000000000) :
    Calls Try.prog 97 #[.int .i64 x, .int .i64 n] w (Ret w (.int .i64 (Pu.up x n))) := by
  have hq := Pu.ediv_bd (-x) n 5000000000000000000 hn (by omega) (by omega)
  obtain ⟨hq0, hq1⟩ := hq
  go_enter Try.func97, Try.ntmps97
  go_wp2_with (first
    | (go_at_call 98; refine (c_impl_down _ _ _ (by omega) (by omega) (by omega)).mono ?_; rintro e w' hr; obtain ⟨rfl, g, d, rfl⟩ := Ret.open hr; clear hr)
    | go_region)
  all_goals refine bodyPost_ret (v := .int .i64 (Pu.up x n)) ?_ rfl (Ret.mk (by repeat (first | exact Below.refl _ _ | apply below_alloc | apply below_junk | apply below_drew)))
  all_goals first | (simp [results, Try.results97, go_sem, Pu.up, *]; done) | (simp [results, Try.results97, go_sem, Pu.up, *]; omega) | (go_light; simp [results, Try.results97, go_sem, Pu.up, *]; intros; exfalso; omega) | (go_light; simp [results, Try.results97, go_sem, Pu.up, *]; (repeat' split) <;> first | omega | (simp; done) | (simp_all; done)) | (go_light; simp_all [results, Try.results97, go_sem, Pu.up, ]; done) | (go_light; simp_all [results, Try.results97, go_sem, Pu.up, ]; omega)

-- spec.MayCount
set_option maxHeartbeats 1000000 in
set_option maxRecDepth 100000 in
theorem c_spec_MayCount (d_num : Int) (d_den : Int) (t : Int) (n : Int) (w : World)   :
    Calls Try.prog 56 #[.agg #[.int .i64 d_num, .int .i64 d_den], .int .i64 t, .int .i64 n] w (Ret w (.bool (Pu.MayCount (⟨d_num, d_den⟩ : Drift) t n))) := by
  have hm1 := Pu.mul18 t (d_den - d_num)
  have hm2 := Pu.mul18 n d_den
  have hm3 := Pu.mul18 t (d_den + d_num)
  go_enter Try.func56, Try.ntmps56
  go_wp2_with (first
    | (go_at_call 54; refine (c_spec_DriftOk _ _ _ ).mono ?_; rintro e w' hr; (rcases Ret.bool hr with ⟨rfl, hX, g, d, rfl⟩ | ⟨rfl, hX, g, d, rfl⟩ <;> first | (have hB := (Pu.DriftOk_iff _).1 hX; (try dsimp only at hB); obtain ⟨hB1, hB2, hB3, hB4, hB5⟩ := hB; clear hr) | clear hr))
    | (go_at_call 50; refine (c_spec_l2Time _ _ ).mono ?_; rintro e w' hr; (rcases Ret.bool hr with ⟨rfl, hX, g, d, rfl⟩ | ⟨rfl, hX, g, d, rfl⟩ <;> first | (have hB := (Pu.isTime_iff _).1 hX; (try dsimp only at hB); obtain ⟨hB1, hB2⟩ := hB; clear hr) | (have hB := Pu.no_of (Pu.isTime_iff _) hX; (try dsimp only at hB); clear hr) | clear hr))
    | go_region)
  all_goals refine bodyPost_ret (v := .bool (Pu.MayCount (⟨d_num, d_den⟩ : Drift) t n)) ?_ rfl (Ret.mk (by repeat (first | exact Below.refl _ _ | apply below_alloc | apply below_junk | apply below_drew)))
  all_goals first | (simp [results, Try.results56, go_sem, Pu.MayCount, *]; done) | (simp [results, Try.results56, go_sem, Pu.MayCount, *]; omega) | (go_light; simp [results, Try.results56, go_sem, Pu.MayCount, *]; intros; exfalso; omega) | (go_light; simp [results, Try.results56, go_sem, Pu.MayCount, *]; (repeat' split) <;> first | omega | (simp; done) | (simp_all; done)) | (go_light; simp_all [results, Try.results56, go_sem, Pu.MayCount, ]; done) | (go_light; simp_all [results, Try.results56, go_sem, Pu.MayCount, ]; omega)

-- impl.MayCount
set_option maxHeartbeats 1000000 in
set_option maxRecDepth 100000 in
theorem c_impl_MayCount (d_num : Int) (d_den : Int) (t : Int) (n : Int) (w : World)   :
    Calls Try.prog 59 #[.agg #[.int .i64 d_num, .int .i64 d_den], .int .i64 t, .int .i64 n] w (Ret w (.bool (Pu.MayCount (⟨d_num, d_den⟩ : Drift) t n))) := by
  have hm1 := Pu.mul18 t (d_den - d_num)
  have hm2 := Pu.mul18 n d_den
  have hm3 := Pu.mul18 t (d_den + d_num)
  go_enter Try.func59, Try.ntmps59
  go_wp2_with (first
    | (go_at_call 57; refine (c_impl_DriftOk _ _ _ ).mono ?_; rintro e w' hr; (rcases Ret.bool hr with ⟨rfl, hX, g, d, rfl⟩ | ⟨rfl, hX, g, d, rfl⟩ <;> first | (have hB := (Pu.DriftOk_iff _).1 hX; (try dsimp only at hB); obtain ⟨hB1, hB2, hB3, hB4, hB5⟩ := hB; clear hr) | clear hr))
    | (go_at_call 62; refine (c_impl_isTime _ _ ).mono ?_; rintro e w' hr; (rcases Ret.bool hr with ⟨rfl, hX, g, d, rfl⟩ | ⟨rfl, hX, g, d, rfl⟩ <;> first | (have hB := (Pu.isTime_iff _).1 hX; (try dsimp only at hB); obtain ⟨hB1, hB2⟩ := hB; clear hr) | (have hB := Pu.no_of (Pu.isTime_iff _) hX; (try dsimp only at hB); clear hr) | clear hr))
    | go_region)
  all_goals refine bodyPost_ret (v := .bool (Pu.MayCount (⟨d_num, d_den⟩ : Drift) t n)) ?_ rfl (Ret.mk (by repeat (first | exact Below.refl _ _ | apply below_alloc | apply below_junk | apply below_drew)))
  all_goals first | (simp [results, Try.results59, go_sem, Pu.MayCount, *]; done) | (simp [results, Try.results59, go_sem, Pu.MayCount, *]; omega) | (go_light; simp [results, Try.results59, go_sem, Pu.MayCount, *]; intros; exfalso; omega) | (go_light; simp [results, Try.results59, go_sem, Pu.MayCount, *]; (repeat' split) <;> first | omega | (simp; done) | (simp_all; done)) | (go_light; simp_all [results, Try.results59, go_sem, Pu.MayCount, ]; done) | (go_light; simp_all [results, Try.results59, go_sem, Pu.MayCount, ]; omega)

-- spec.l2Told
set_option maxHeartbeats 1000000 in
set_option maxRecDepth 100000 in
theorem c_spec_l2Told (x : Int) (w : World)   :
    Calls Try.prog 76 #[.int .i64 x] w (Ret w (.tuple #[.int .i64 ((Pu.Told2 x).1), .bool ((Pu.Told2 x).2)])) := by
  go_enter Try.func76, Try.ntmps76
  go_wp2_with (first
    | go_region)
  all_goals refine bodyPost_ret (v := .tuple #[.int .i64 ((Pu.Told2 x).1), .bool ((Pu.Told2 x).2)]) ?_ rfl (Ret.mk (by repeat (first | exact Below.refl _ _ | apply below_alloc | apply below_junk | apply below_drew)))
  all_goals first | (simp [results, Try.results76, go_sem, Pu.Told2, *]; done) | (simp [results, Try.results76, go_sem, Pu.Told2, *]; omega) | (go_light; simp [results, Try.results76, go_sem, Pu.Told2, *]; intros; exfalso; omega) | (go_light; simp [results, Try.results76, go_sem, Pu.Told2, *]; (repeat' split) <;> first | omega | (simp; done) | (simp_all; done)) | (go_light; simp_all [results, Try.results76, go_sem, Pu.Told2, ]; done) | (go_light; simp_all [results, Try.results76, go_sem, Pu.Told2, ]; omega)

end Go.Proofs.Ytcbeajdkockhaaa
