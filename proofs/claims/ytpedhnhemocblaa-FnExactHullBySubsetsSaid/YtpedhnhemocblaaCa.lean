/-
  Contracts of Go functions of this seat: what each call hands back, as a plain function of its arguments, and that nothing that was there has turned.
  No statement of the seat is proved here.
-/
import Derived.Test.YtpedhnhemocblaaProg
import Derived.Test.YtpedhnhemocblaaPure
import Derived.Test.YtpedhnhemocblaaActs
import Derived.Deep.Light
import Derived.RegionTactic
import Derived.Deep.RegionWith
import Derived.BigRegion
import Derived.ChangeAlike
namespace Go.Proofs.Ytpedhnhemocblaa
open Go.RowKit
set_option linter.unusedVariables false
set_option linter.unusedSimpArgs false

-- spec.l1In
set_option maxHeartbeats 1000000 in
set_option maxRecDepth 100000 in
theorem c_spec_l1In (x : Int) (lo : Int) (hi : Int) (w : World)   :
    Calls Try.prog 79 #[.int .i64 x, .int .i64 lo, .int .i64 hi] w (Ret w (.bool (Pu.In x lo hi))) := by
  go_enter Try.func79, Try.ntmps79
  go_wp2_with (first
    | go_region)
  all_goals refine bodyPost_ret (v := .bool (Pu.In x lo hi)) ?_ rfl (Ret.mk (by repeat (first | exact Below.refl _ _ | apply below_alloc | apply below_junk | apply below_drew)))
  all_goals first | (simp [results, Try.results79, go_sem, Pu.In, *]; done) | (simp [results, Try.results79, go_sem, Pu.In, *]; omega) | (go_light; simp [results, Try.results79, go_sem, Pu.In, *]; intros; exfalso; omega) | (go_light; simp [results, Try.results79, go_sem, Pu.In, *]; (repeat' split) <;> first | omega | (simp; done) | (simp_all; done)) | (go_light; simp_all [results, Try.results79, go_sem, Pu.In, ]; done) | (go_light; simp_all [results, Try.results79, go_sem, Pu.In, ]; omega)
theorem c_spec_l1In_b (x : Int) (lo : Int) (hi : Int) (w : World) (b : Bool) (hb : Pu.In x lo hi = b) :
    Calls Try.prog 79 #[.int .i64 x, .int .i64 lo, .int .i64 hi] w (Ret w (.bool b)) := by subst hb; exact c_spec_l1In x lo hi w

-- impl.in
set_option maxHeartbeats 1000000 in
set_option maxRecDepth 100000 in
theorem c_impl_in (x : Int) (lo : Int) (hi : Int) (w : World)   :
    Calls Try.prog 76 #[.int .i64 x, .int .i64 lo, .int .i64 hi] w (Ret w (.bool (Pu.In x lo hi))) := by
  go_enter Try.func76, Try.ntmps76
  go_wp2_with (first
    | go_region)
  all_goals refine bodyPost_ret (v := .bool (Pu.In x lo hi)) ?_ rfl (Ret.mk (by repeat (first | exact Below.refl _ _ | apply below_alloc | apply below_junk | apply below_drew)))
  all_goals first | (simp [results, Try.results76, go_sem, Pu.In, *]; done) | (simp [results, Try.results76, go_sem, Pu.In, *]; omega) | (go_light; simp [results, Try.results76, go_sem, Pu.In, *]; intros; exfalso; omega) | (go_light; simp [results, Try.results76, go_sem, Pu.In, *]; (repeat' split) <;> first | omega | (simp; done) | (simp_all; done)) | (go_light; simp_all [results, Try.results76, go_sem, Pu.In, ]; done) | (go_light; simp_all [results, Try.results76, go_sem, Pu.In, ]; omega)
theorem c_impl_in_b (x : Int) (lo : Int) (hi : Int) (w : World) (b : Bool) (hb : Pu.In x lo hi = b) :
    Calls Try.prog 76 #[.int .i64 x, .int .i64 lo, .int .i64 hi] w (Ret w (.bool b)) := by subst hb; exact c_impl_in x lo hi w

-- spec.l1Min
set_option maxHeartbeats 1000000 in
set_option maxRecDepth 100000 in
theorem c_spec_l1Min (a : Int) (b : Int) (w : World)   :
    Calls Try.prog 81 #[.int .i64 a, .int .i64 b] w (Ret w (.int .i64 (min a b))) := by
  go_enter Try.func81, Try.ntmps81
  go_wp2_with (first
    | go_region)
  all_goals refine bodyPost_ret (v := .int .i64 (min a b)) ?_ rfl (Ret.mk (by repeat (first | exact Below.refl _ _ | apply below_alloc | apply below_junk | apply below_drew)))
  all_goals first | (simp [results, Try.results81, go_sem, *]; done) | (simp [results, Try.results81, go_sem, *]; omega)

-- spec.l1Max
set_option maxHeartbeats 1000000 in
set_option maxRecDepth 100000 in
theorem c_spec_l1Max (a : Int) (b : Int) (w : World)   :
    Calls Try.prog 75 #[.int .i64 a, .int .i64 b] w (Ret w (.int .i64 (max a b))) := by
  go_enter Try.func75, Try.ntmps75
  go_wp2_with (first
    | go_region)
  all_goals refine bodyPost_ret (v := .int .i64 (max a b)) ?_ rfl (Ret.mk (by repeat (first | exact Below.refl _ _ | apply below_alloc | apply below_junk | apply below_drew)))
  all_goals first | (simp [results, Try.results75, go_sem, *]; done) | (simp [results, Try.results75, go_sem, *]; omega)

-- spec.IvalOk
set_option maxHeartbeats 1000000 in
set_option maxRecDepth 100000 in
theorem c_spec_IvalOk (a_lo : Int) (a_hi : Int) (w : World)   :
    Calls Try.prog 49 #[.agg #[.int .i64 a_lo, .int .i64 a_hi]] w (Ret w (.bool (Pu.IvalOk (⟨a_lo, a_hi⟩ : Ival)))) := by
  go_enter Try.func49, Try.ntmps49
  go_wp2_with (first
    | (go_at_call 79; refine (c_spec_l1In _ _ _ _ ).mono ?_; rintro e w' hr; (rcases Ret.bool hr with ⟨rfl, hX, g, d, rfl⟩ | ⟨rfl, hX, g, d, rfl⟩ <;> first | (have hB := (Pu.In_iff _ _ _).1 hX; (try dsimp only at hB); obtain ⟨hB1, hB2⟩ := hB; clear hr) | (have hB := Pu.no_of (Pu.In_iff _ _ _) hX; (try dsimp only at hB); clear hr) | clear hr))
    | go_region)
  all_goals refine bodyPost_ret (v := .bool (Pu.IvalOk (⟨a_lo, a_hi⟩ : Ival))) ?_ rfl (Ret.mk (by repeat (first | exact Below.refl _ _ | apply below_alloc | apply below_junk | apply below_drew)))
  all_goals first | (simp [results, Try.results49, go_sem, Pu.IvalOk, *]; done) | (simp [results, Try.results49, go_sem, Pu.IvalOk, *]; omega) | (go_light; simp [results, Try.results49, go_sem, Pu.IvalOk, *]; intros; exfalso; omega) | (go_light; simp [results, Try.results49, go_sem, Pu.IvalOk, *]; (repeat' split) <;> first | omega | (simp; done) | (simp_all; done)) | (go_light; simp_all [results, Try.results49, go_sem, Pu.IvalOk, ]; done) | (go_light; simp_all [results, Try.results49, go_sem, Pu.IvalOk, ]; omega)
theorem c_spec_IvalOk_b (a_lo : Int) (a_hi : Int) (w : World) (b : Bool) (hb : Pu.IvalOk (⟨a_lo, a_hi⟩ : Ival) = b) :
    Calls Try.prog 49 #[.agg #[.int .i64 a_lo, .int .i64 a_hi]] w (Ret w (.bool b)) := by subst hb; exact c_spec_IvalOk a_lo a_hi w

-- impl.IvalOk
set_option maxHeartbeats 1000000 in
set_option maxRecDepth 100000 in
theorem c_impl_IvalOk (a_lo : Int) (a_hi : Int) (w : World)   :
    Calls Try.prog 54 #[.agg #[.int .i64 a_lo, .int .i64 a_hi]] w (Ret w (.bool (Pu.IvalOk (⟨a_lo, a_hi⟩ : Ival)))) := by
  go_enter Try.func54, Try.ntmps54
  go_wp2_with (first
    | go_region)
  all_goals refine bodyPost_ret (v := .bool (Pu.IvalOk (⟨a_lo, a_hi⟩ : Ival))) ?_ rfl (Ret.mk (by repeat (first | exact Below.refl _ _ | apply below_alloc | apply below_junk | apply below_drew)))
  all_goals first | (simp [results, Try.results54, go_sem, Pu.IvalOk, *]; done) | (simp [results, Try.results54, go_sem, Pu.IvalOk, *]; omega) | (go_light; simp [results, Try.results54, go_sem, Pu.IvalOk, *]; intros; exfalso; omega) | (go_light; simp [results, Try.results54, go_sem, Pu.IvalOk, *]; (repeat' split) <;> first | omega | (simp; done) | (simp_all; done)) | (go_light; simp_all [results, Try.results54, go_sem, Pu.IvalOk, ]; done) | (go_light; simp_all [results, Try.results54, go_sem, Pu.IvalOk, ]; omega)
theorem c_impl_IvalOk_b (a_lo : Int) (a_hi : Int) (w : World) (b : Bool) (hb : Pu.IvalOk (⟨a_lo, a_hi⟩ : Ival) = b) :
    Calls Try.prog 54 #[.agg #[.int .i64 a_lo, .int .i64 a_hi]] w (Ret w (.bool b)) := by subst hb; exact c_impl_IvalOk a_lo a_hi w

-- spec.l1Told
set_option maxHeartbeats 1000000 in
set_option maxRecDepth 100000 in
theorem c_spec_l1Told (lo : Int) (hi : Int) (w : World)   :
    Calls Try.prog 80 #[.int .i64 lo, .int .i64 hi] w (Ret w (.tuple #[.agg #[.int .i64 (((Pu.Told lo hi).1).lo), .int .i64 (((Pu.Told lo hi).1).hi)], .bool ((Pu.Told lo hi).2)])) := by
  go_enter Try.func80, Try.ntmps80
  go_wp2_with (first
    | (go_at_call 49; refine (c_spec_IvalOk _ _ _ ).mono ?_; rintro e w' hr; (rcases Ret.bool hr with ⟨rfl, hX, g, d, rfl⟩ | ⟨rfl, hX, g, d, rfl⟩ <;> first | (have hB := (Pu.IvalOk_iff _).1 hX; (try dsimp only at hB); obtain ⟨hB1, hB2, hB3⟩ := hB; clear hr) | clear hr))
    | go_region)
  all_goals refine bodyPost_ret (v := .tuple #[.agg #[.int .i64 (((Pu.Told lo hi).1).lo), .int .i64 (((Pu.Told lo hi).1).hi)], .bool ((Pu.Told lo hi).2)]) ?_ rfl (Ret.mk (by repeat (first | exact Below.refl _ _ | apply below_alloc | apply below_junk | apply below_drew)))
  all_goals first | (simp [results, Try.results80, go_sem, Pu.Told, *]; done) | (simp [results, Try.results80, go_sem, Pu.Told, *]; omega) | (go_light; simp [results, Try.results80, go_sem, Pu.Told, *]; intros; exfalso; omega) | (go_light; simp [results, Try.results80, go_sem, Pu.Told, *]; (repeat' split) <;> first | omega | (simp; done) | (simp_all; done)) | (go_light; simp_all [results, Try.results80, go_sem, Pu.Told, ]; done) | (go_light; simp_all [results, Try.results80, go_sem, Pu.Told, ]; omega)

-- impl.ival
set_option maxHeartbeats 1000000 in
set_option maxRecDepth 100000 in
theorem c_impl_ival (lo : Int) (hi : Int) (w : World)   :
    Calls Try.prog 94 #[.int .i64 lo, .int .i64 hi] w (Ret w (.tuple #[.agg #[.int .i64 (((Pu.Told lo hi).1).lo), .int .i64 (((Pu.Told lo hi).1).hi)], .bool ((Pu.Told lo hi).2)])) := by
  go_enter Try.func94, Try.ntmps94
  go_wp2_with (first
    | (go_at_call 54; refine (c_impl_IvalOk _ _ _ ).mono ?_; rintro e w' hr; (rcases Ret.bool hr with ⟨rfl, hX, g, d, rfl⟩ | ⟨rfl, hX, g, d, rfl⟩ <;> first | (have hB := (Pu.IvalOk_iff _).1 hX; (try dsimp only at hB); obtain ⟨hB1, hB2, hB3⟩ := hB; clear hr) | clear hr))
    | go_region)
  all_goals refine bodyPost_ret (v := .tuple #[.agg #[.int .i64 (((Pu.Told lo hi).1).lo), .int .i64 (((Pu.Told lo hi).1).hi)], .bool ((Pu.Told lo hi).2)]) ?_ rfl (Ret.mk (by repeat (first | exact Below.refl _ _ | apply below_alloc | apply below_junk | apply below_drew)))
  all_goals first | (simp [results, Try.results94, go_sem, Pu.Told, *]; done) | (simp [results, Try.results94, go_sem, Pu.Told, *]; omega) | (go_light; simp [results, Try.results94, go_sem, Pu.Told, *]; intros; exfalso; omega) | (go_light; simp [results, Try.results94, go_sem, Pu.Told, *]; (repeat' split) <;> first | omega | (simp; done) | (simp_all; done)) | (go_light; simp_all [results, Try.results94, go_sem, Pu.Told, ]; done) | (go_light; simp_all [results, Try.results94, go_sem, Pu.Told, ]; omega)

-- spec.Holds
set_option maxHeartbeats 1000000 in
set_option maxRecDepth 100000 in
theorem c_spec_Holds (a_lo : Int) (a_hi : Int) (t : Int) (w : World)   :
    Calls Try.prog 55 #[.agg #[.int .i64 a_lo, .int .i64 a_hi], .int .i64 t] w (Ret w (.bool (Pu.Holds (⟨a_lo, a_hi⟩ : Ival) t))) := by
  go_enter Try.func55, Try.ntmps55
  go_wp2_with (first
    | (go_at_call 49; refine (c_spec_IvalOk _ _ _ ).mono ?_; rintro e w' hr; (rcases Ret.bool hr with ⟨rfl, hX, g, d, rfl⟩ | ⟨rfl, hX, g, d, rfl⟩ <;> first | (have hB := (Pu.IvalOk_iff _).1 hX; (try dsimp only at hB); obtain ⟨hB1, hB2, hB3⟩ := hB; clear hr) | clear hr))
    | (go_at_call 79; refine (c_spec_l1In _ _ _ _ ).mono ?_; rintro e w' hr; (rcases Ret.bool hr with ⟨rfl, hX, g, d, rfl⟩ | ⟨rfl, hX, g, d, rfl⟩ <;> first | (have hB := (Pu.In_iff _ _ _).1 hX; (try dsimp only at hB); obtain ⟨hB1, hB2⟩ := hB; clear hr) | (have hB := Pu.no_of (Pu.In_iff _ _ _) hX; (try dsimp only at hB); clear hr) | clear hr))
    | go_region)
  all_goals refine bodyPost_ret (v := .bool (Pu.Holds (⟨a_lo, a_hi⟩ : Ival) t)) ?_ rfl (Ret.mk (by repeat (first | exact Below.refl _ _ | apply below_alloc | apply below_junk | apply below_drew)))
  all_goals first | (simp [results, Try.results55, go_sem, Pu.Holds, Pu.In, *]; done) | (simp [results, Try.results55, go_sem, Pu.Holds, Pu.In, *]; omega) | (go_light; simp [results, Try.results55, go_sem, Pu.Holds, Pu.In, *]; intros; exfalso; omega) | (go_light; simp [results, Try.results55, go_sem, Pu.Holds, Pu.In, *]; (repeat' split) <;> first | omega | (simp; done) | (simp_all; done)) | (go_light; simp_all [results, Try.results55, go_sem, Pu.Holds, Pu.In, ]; done) | (go_light; simp_all [results, Try.results55, go_sem, Pu.Holds, Pu.In, ]; omega)

-- impl.Holds
set_option maxHeartbeats 1000000 in
set_option maxRecDepth 100000 in
theorem c_impl_Holds (a_lo : Int) (a_hi : Int) (t : Int) (w : World)   :
    Calls Try.prog 44 #[.agg #[.int .i64 a_lo, .int .i64 a_hi], .int .i64 t] w (Ret w (.bool (Pu.Holds (⟨a_lo, a_hi⟩ : Ival) t))) := by
  go_enter Try.func44, Try.ntmps44
  go_wp2_with (first
    | (go_at_call 54; refine (c_impl_IvalOk _ _ _ ).mono ?_; rintro e w' hr; (rcases Ret.bool hr with ⟨rfl, hX, g, d, rfl⟩ | ⟨rfl, hX, g, d, rfl⟩ <;> first | (have hB := (Pu.IvalOk_iff _).1 hX; (try dsimp only at hB); obtain ⟨hB1, hB2, hB3⟩ := hB; clear hr) | clear hr))
    | (go_at_call 76; refine (c_impl_in _ _ _ _ ).mono ?_; rintro e w' hr; (rcases Ret.bool hr with ⟨rfl, hX, g, d, rfl⟩ | ⟨rfl, hX, g, d, rfl⟩ <;> first | (have hB := (Pu.In_iff _ _ _).1 hX; (try dsimp only at hB); obtain ⟨hB1, hB2⟩ := hB; clear hr) | (have hB := Pu.no_of (Pu.In_iff _ _ _) hX; (try dsimp only at hB); clear hr) | clear hr))
    | go_region)
  all_goals refine bodyPost_ret (v := .bool (Pu.Holds (⟨a_lo, a_hi⟩ : Ival) t)) ?_ rfl (Ret.mk (by repeat (first | exact Below.refl _ _ | apply below_alloc | apply below_junk | apply below_drew)))
  all_goals first | (simp [results, Try.results44, go_sem, Pu.Holds, Pu.In, *]; done) | (simp [results, Try.results44, go_sem, Pu.Holds, Pu.In, *]; omega) | (go_light; simp [results, Try.results44, go_sem, Pu.Holds, Pu.In, *]; intros; exfalso; omega) | (go_light; simp [results, Try.results44, go_sem, Pu.Holds, Pu.In, *]; (repeat' split) <;> first | omega | (simp; done) | (simp_all; done)) | (go_light; simp_all [results, Try.results44, go_sem, Pu.Holds, Pu.In, ]; done) | (go_light; simp_all [results, Try.results44, go_sem, Pu.Holds, Pu.In, ]; omega)

-- impl.Within
set_option maxHeartbeats 1000000 in
set_option maxRecDepth 100000 in
theorem c_impl_Within (a_lo : Int) (a_hi : Int) (b_lo : Int) (b_hi : Int) (w : World)   :
    Calls Try.prog 45 #[.agg #[.int .i64 a_lo, .int .i64 a_hi], .agg #[.int .i64 b_lo, .int .i64 b_hi]] w (Ret w (.bool (Pu.Within (⟨a_lo, a_hi⟩ : Ival) (⟨b_lo, b_hi⟩ : Ival)))) := by
  go_enter Try.func45, Try.ntmps45
  go_wp2_with (first
    | (go_at_call 54; refine (c_impl_IvalOk _ _ _ ).mono ?_; rintro e w' hr; (rcases Ret.bool hr with ⟨rfl, hX, g, d, rfl⟩ | ⟨rfl, hX, g, d, rfl⟩ <;> first | (have hB := (Pu.IvalOk_iff _).1 hX; (try dsimp only at hB); obtain ⟨hB1, hB2, hB3⟩ := hB; clear hr) | clear hr))
    | go_region)
  all_goals refine bodyPost_ret (v := .bool (Pu.Within (⟨a_lo, a_hi⟩ : Ival) (⟨b_lo, b_hi⟩ : Ival))) ?_ rfl (Ret.mk (by repeat (first | exact Below.refl _ _ | apply below_alloc | apply below_junk | apply below_drew)))
  all_goals first | (simp [results, Try.results45, go_sem, Pu.Within, Pu.Holds, Pu.In, *]; done) | (go_light; simp [results, Try.results45, go_sem, Pu.Within, Pu.Holds, Pu.In, *]; done) | (go_light; rw [Bool.eq_iff_iff]; simp_all [results, Try.results45, go_sem, Pu.Within, Pu.Holds, Pu.In, Pu.IvalOk]; omega) | (go_light; simp_all [results, Try.results45, go_sem, Pu.Within, Pu.Holds, Pu.In, Pu.IvalOk]; (try rw [Bool.eq_iff_iff]); (try simp); omega)

-- spec.Apart
set_option maxHeartbeats 1000000 in
set_option maxRecDepth 100000 in
theorem c_spec_Apart (a_lo : Int) (a_hi : Int) (b_lo : Int) (b_hi : Int) (w : World)   :
    Calls Try.prog 58 #[.agg #[.int .i64 a_lo, .int .i64 a_hi], .agg #[.int .i64 b_lo, .int .i64 b_hi]] w (Ret w (.int .i64 (Pu.Apart (⟨a_lo, a_hi⟩ : Ival) (⟨b_lo, b_hi⟩ : Ival)))) := by
  go_enter Try.func58, Try.ntmps58
  go_wp2_with (first
    | ((with_reducible refine wp_region_calm (id := 3) (by kernel_rfl) (by kernel_rfl) ?_); (repeat (go_big_quiet_step ((first | (go_at_call 75; exact calm_of (c_spec_l1Max _ _ _ )) | (go_at_call 81; exact calm_of (c_spec_l1Min _ _ _ )))))); refine wpQuiet_nil ?_; intro g d)
    | (go_at_call 49; refine (c_spec_IvalOk _ _ _ ).mono ?_; rintro e w' hr; (rcases Ret.bool hr with ⟨rfl, hX, g, d, rfl⟩ | ⟨rfl, hX, g, d, rfl⟩ <;> first | (have hB := (Pu.IvalOk_iff _).1 hX; (try dsimp only at hB); obtain ⟨hB1, hB2, hB3⟩ := hB; clear hr) | clear hr))
    | (go_at_call 75; refine (c_spec_l1Max _ _ _ ).mono ?_; rintro e w' hr; obtain ⟨rfl, g, d, rfl⟩ := Ret.open hr; clear hr)
    | (go_at_call 81; refine (c_spec_l1Min _ _ _ ).mono ?_; rintro e w' hr; obtain ⟨rfl, g, d, rfl⟩ := Ret.open hr; clear hr)
    | go_region)
  all_goals refine bodyPost_ret (v := .int .i64 (Pu.Apart (⟨a_lo, a_hi⟩ : Ival) (⟨b_lo, b_hi⟩ : Ival))) ?_ rfl (Ret.mk (by repeat (first | exact Below.refl _ _ | apply below_alloc | apply below_junk | apply below_drew)))
  all_goals first | (simp [results, Try.results58, go_sem, Pu.Apart, *]; done) | (simp [results, Try.results58, go_sem, Pu.Apart, *]; omega) | (go_light; simp [results, Try.results58, go_sem, Pu.Apart, *]; intros; exfalso; omega) | (go_light; simp [results, Try.results58, go_sem, Pu.Apart, *]; (repeat' split) <;> first | omega | (simp; done) | (simp_all; done)) | (go_light; simp_all [results, Try.results58, go_sem, Pu.Apart, ]; done) | (go_light; simp_all [results, Try.results58, go_sem, Pu.Apart, ]; omega)

-- impl.Apart
set_option maxHeartbeats 1000000 in
set_option maxRecDepth 100000 in
theorem c_impl_Apart (a_lo : Int) (a_hi : Int) (b_lo : Int) (b_hi : Int) (w : World)   :
    Calls Try.prog 60 #[.agg #[.int .i64 a_lo, .int .i64 a_hi], .agg #[.int .i64 b_lo, .int .i64 b_hi]] w (Ret w (.int .i64 (Pu.Apart (⟨a_lo, a_hi⟩ : Ival) (⟨b_lo, b_hi⟩ : Ival)))) := by
  go_enter Try.func60, Try.ntmps60
  go_wp2_with (first
    | (go_at_call 54; refine (c_impl_IvalOk _ _ _ ).mono ?_; rintro e w' hr; (rcases Ret.bool hr with ⟨rfl, hX, g, d, rfl⟩ | ⟨rfl, hX, g, d, rfl⟩ <;> first | (have hB := (Pu.IvalOk_iff _).1 hX; (try dsimp only at hB); obtain ⟨hB1, hB2, hB3⟩ := hB; clear hr) | clear hr))
    | go_region)
  all_goals refine bodyPost_ret (v := .int .i64 (Pu.Apart (⟨a_lo, a_hi⟩ : Ival) (⟨b_lo, b_hi⟩ : Ival))) ?_ rfl (Ret.mk (by repeat (first | exact Below.refl _ _ | apply below_alloc | apply below_junk | apply below_drew)))
  all_goals first | (simp [results, Try.results60, go_sem, Pu.Apart, *]; done) | (simp [results, Try.results60, go_sem, Pu.Apart, *]; omega) | (go_light; simp [results, Try.results60, go_sem, Pu.Apart, *]; intros; exfalso; omega) | (go_light; simp [results, Try.results60, go_sem, Pu.Apart, *]; (repeat' split) <;> first | omega | (simp; done) | (simp_all; done)) | (go_light; simp_all [results, Try.results60, go_sem, Pu.Apart, ]; done) | (go_light; simp_all [results, Try.results60, go_sem, Pu.Apart, ]; omega)

-- spec.Meet
set_option maxHeartbeats 1000000 in
set_option maxRecDepth 100000 in
theorem c_spec_Meet (a_lo : Int) (a_hi : Int) (b_lo : Int) (b_hi : Int) (w : World)   :
    Calls Try.prog 50 #[.agg #[.int .i64 a_lo, .int .i64 a_hi], .agg #[.int .i64 b_lo, .int .i64 b_hi]] w (Ret w (.tuple #[.agg #[.int .i64 (((Pu.Meet (⟨a_lo, a_hi⟩ : Ival) (⟨b_lo, b_hi⟩ : Ival)).1).lo), .int .i64 (((Pu.Meet (⟨a_lo, a_hi⟩ : Ival) (⟨b_lo, b_hi⟩ : Ival)).1).hi)], .bool ((Pu.Meet (⟨a_lo, a_hi⟩ : Ival) (⟨b_lo, b_hi⟩ : Ival)).2)])) := by
  go_enter Try.func50, Try.ntmps50
  go_wp2_with (first
    | ((with_reducible refine wp_region_tail (id := 3) 13 (by kernel_rfl) (by kernel_rfl) ?_); (simp only [List.take_succ_cons, List.take_zero, List.drop_succ_cons, List.drop_zero]); (repeat (go_big_quiet_step ((first | (go_at_call 75; exact calm_of (c_spec_l1Max _ _ _ )) | (go_at_call 81; exact calm_of (c_spec_l1Min _ _ _ )) | (go_at_call 80; exact calm_of (c_spec_l1Told _ _ _ )))))); refine wpQuiet_nil ?_; intro g d)
    | (go_at_call 49; refine (c_spec_IvalOk _ _ _ ).mono ?_; rintro e w' hr; (rcases Ret.bool hr with ⟨rfl, hX, g, d, rfl⟩ | ⟨rfl, hX, g, d, rfl⟩ <;> first | (have hB := (Pu.IvalOk_iff _).1 hX; (try dsimp only at hB); obtain ⟨hB1, hB2, hB3⟩ := hB; clear hr) | clear hr))
    | (go_at_call 80; refine (c_spec_l1Told _ _ _ ).mono ?_; rintro e w' hr; obtain ⟨rfl, g, d, rfl⟩ := Ret.open hr; clear hr)
    | (go_at_call 75; refine (c_spec_l1Max _ _ _ ).mono ?_; rintro e w' hr; obtain ⟨rfl, g, d, rfl⟩ := Ret.open hr; clear hr)
    | (go_at_call 81; refine (c_spec_l1Min _ _ _ ).mono ?_; rintro e w' hr; obtain ⟨rfl, g, d, rfl⟩ := Ret.open hr; clear hr)
    | go_region)
  all_goals refine bodyPost_ret (v := .tuple #[.agg #[.int .i64 (((Pu.Meet (⟨a_lo, a_hi⟩ : Ival) (⟨b_lo, b_hi⟩ : Ival)).1).lo), .int .i64 (((Pu.Meet (⟨a_lo, a_hi⟩ : Ival) (⟨b_lo, b_hi⟩ : Ival)).1).hi)], .bool ((Pu.Meet (⟨a_lo, a_hi⟩ : Ival) (⟨b_lo, b_hi⟩ : Ival)).2)]) ?_ rfl (Ret.mk (by repeat (first | exact Below.refl _ _ | apply below_alloc | apply below_junk | apply below_drew)))
  all_goals first | (simp [results, Try.results50, go_sem, Pu.Meet, *]; done) | (simp [results, Try.results50, go_sem, Pu.Meet, *]; omega) | (go_light; simp [results, Try.results50, go_sem, Pu.Meet, *]; intros; exfalso; omega) | (go_light; simp [results, Try.results50, go_sem, Pu.Meet, *]; (repeat' split) <;> first | omega | (simp; done) | (simp_all; done)) | (go_light; simp_all [results, Try.results50, go_sem, Pu.Meet, ]; done) | (go_light; simp_all [results, Try.results50, go_sem, Pu.Meet, ]; omega)

-- spec.Join
set_option maxHeartbeats 1000000 in
set_option maxRecDepth 100000 in
theorem c_spec_Join (a_lo : Int) (a_hi : Int) (b_lo : Int) (b_hi : Int) (w : World)   :
    Calls Try.prog 83 #[.agg #[.int .i64 a_lo, .int .i64 a_hi], .agg #[.int .i64 b_lo, .int .i64 b_hi]] w (Ret w (.tuple #[.agg #[.int .i64 (((Pu.Join (⟨a_lo, a_hi⟩ : Ival) (⟨b_lo, b_hi⟩ : Ival)).1).lo), .int .i64 (((Pu.Join (⟨a_lo, a_hi⟩ : Ival) (⟨b_lo, b_hi⟩ : Ival)).1).hi)], .bool ((Pu.Join (⟨a_lo, a_hi⟩ : Ival) (⟨b_lo, b_hi⟩ : Ival)).2)])) := by
  go_enter Try.func83, Try.ntmps83
  go_wp2_with (first
    | ((with_reducible refine wp_region_tail (id := 3) 13 (by kernel_rfl) (by kernel_rfl) ?_); (simp only [List.take_succ_cons, List.take_zero, List.drop_succ_cons, List.drop_zero]); (repeat (go_big_quiet_step ((first | (go_at_call 81; exact calm_of (c_spec_l1Min _ _ _ )) | (go_at_call 75; exact calm_of (c_spec_l1Max _ _ _ )) | (go_at_call 80; exact calm_of (c_spec_l1Told _ _ _ )))))); refine wpQuiet_nil ?_; intro g d)
    | (go_at_call 49; refine (c_spec_IvalOk _ _ _ ).mono ?_; rintro e w' hr; (rcases Ret.bool hr with ⟨rfl, hX, g, d, rfl⟩ | ⟨rfl, hX, g, d, rfl⟩ <;> first | (have hB := (Pu.IvalOk_iff _).1 hX; (try dsimp only at hB); obtain ⟨hB1, hB2, hB3⟩ := hB; clear hr) | clear hr))
    | (go_at_call 80; refine (c_spec_l1Told _ _ _ ).mono ?_; rintro e w' hr; obtain ⟨rfl, g, d, rfl⟩ := Ret.open hr; clear hr)
    | (go_at_call 81; refine (c_spec_l1Min _ _ _ ).mono ?_; rintro e w' hr; obtain ⟨rfl, g, d, rfl⟩ := Ret.open hr; clear hr)
    | (go_at_call 75; refine (c_spec_l1Max _ _ _ ).mono ?_; rintro e w' hr; obtain ⟨rfl, g, d, rfl⟩ := Ret.open hr; clear hr)
    | go_region)
  all_goals refine bodyPost_ret (v := .tuple #[.agg #[.int .i64 (((Pu.Join (⟨a_lo, a_hi⟩ : Ival) (⟨b_lo, b_hi⟩ : Ival)).1).lo), .int .i64 (((Pu.Join (⟨a_lo, a_hi⟩ : Ival) (⟨b_lo, b_hi⟩ : Ival)).1).hi)], .bool ((Pu.Join (⟨a_lo, a_hi⟩ : Ival) (⟨b_lo, b_hi⟩ : Ival)).2)]) ?_ rfl (Ret.mk (by repeat (first | exact Below.refl _ _ | apply below_alloc | apply below_junk | apply below_drew)))
  all_goals first | (simp [results, Try.results83, go_sem, Pu.Join, *]; done) | (simp [results, Try.results83, go_sem, Pu.Join, *]; omega) | (go_light; simp [results, Try.results83, go_sem, Pu.Join, *]; intros; exfalso; omega) | (go_light; simp [results, Try.results83, go_sem, Pu.Join, *]; (repeat' split) <;> first | omega | (simp; done) | (simp_all; done)) | (go_light; simp_all [results, Try.results83, go_sem, Pu.Join, ]; done) | (go_light; simp_all [results, Try.results83, go_sem, Pu.Join, ]; omega)

-- impl.down
set_option maxHeartbeats 1000000 in
set_option maxRecDepth 100000 in
theorem c_impl_down (x : Int) (n : Int) (w : World)  (hn : 1 ≤ n) (hx0 : -5000000000000000000 ≤ x) (hx1 : x ≤ 5000000000000000000) :
    Calls Try.prog 78 #[.int .i64 x, .int .i64 n] w (Ret w (.int .i64 (x / n))) := by
  have hq := Pu.tdiv_bd x n 5000000000000000000 hn hx0 hx1
  obtain ⟨hq0, hq1⟩ := hq
  have Hc := Lib.hid (Pu.tdiv_cases x n hn)
  go_enter Try.func78, Try.ntmps78
  go_wp2_with (first
    | go_region)
  all_goals refine bodyPost_ret (v := .int .i64 (x / n)) ?_ rfl (Ret.mk (by repeat (first | exact Below.refl _ _ | apply below_alloc | apply below_junk | apply below_drew)))
  all_goals (have hc := Hc.out; first | (simp [results, Try.results78, go_sem]; omega) | (simp [results, Try.results78, go_sem]; done))

-- impl.Middle
set_option maxHeartbeats 1000000 in
set_option maxRecDepth 100000 in
theorem c_impl_Middle (a_lo : Int) (a_hi : Int) (w : World)   :
    Calls Try.prog 48 #[.agg #[.int .i64 a_lo, .int .i64 a_hi]] w (Ret w (.tuple #[.int .i64 ((Pu.Middle (⟨a_lo, a_hi⟩ : Ival)).1), .bool ((Pu.Middle (⟨a_lo, a_hi⟩ : Ival)).2)])) := by
  go_enter Try.func48, Try.ntmps48
  go_wp2_with (first
    | (go_at_call 54; refine (c_impl_IvalOk _ _ _ ).mono ?_; rintro e w' hr; (rcases Ret.bool hr with ⟨rfl, hX, g, d, rfl⟩ | ⟨rfl, hX, g, d, rfl⟩ <;> first | (have hB := (Pu.IvalOk_iff _).1 hX; (try dsimp only at hB); obtain ⟨hB1, hB2, hB3⟩ := hB; clear hr) | clear hr))
    | (go_at_call 78; refine (c_impl_down _ _ _ (by omega) (by omega) (by omega)).mono ?_; rintro e w' hr; obtain ⟨rfl, g, d, rfl⟩ := Ret.open hr; clear hr)
    | go_region)
  all_goals refine bodyPost_ret (v := .tuple #[.int .i64 ((Pu.Middle (⟨a_lo, a_hi⟩ : Ival)).1), .bool ((Pu.Middle (⟨a_lo, a_hi⟩ : Ival)).2)]) ?_ rfl (Ret.mk (by repeat (first | exact Below.refl _ _ | apply below_alloc | apply below_junk | apply below_drew)))
  all_goals first | (simp [results, Try.results48, go_sem, Pu.Middle, *]; done) | (simp [results, Try.results48, go_sem, Pu.Middle, *]; omega) | (go_light; simp [results, Try.results48, go_sem, Pu.Middle, *]; intros; exfalso; omega) | (go_light; simp [results, Try.results48, go_sem, Pu.Middle, *]; (repeat' split) <;> first | omega | (simp; done) | (simp_all; done)) | (go_light; simp_all [results, Try.results48, go_sem, Pu.Middle, ]; done) | (go_light; simp_all [results, Try.results48, go_sem, Pu.Middle, ]; omega)

end Go.Proofs.Ytpedhnhemocblaa
