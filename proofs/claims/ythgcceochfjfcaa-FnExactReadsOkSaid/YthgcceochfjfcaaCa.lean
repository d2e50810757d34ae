/-
  Contracts of Go functions of this seat: what each call hands back, as a plain function of its arguments, and that nothing that was there has turned.
  No statement of the seat is proved here.
-/
import Derived.Test.YthgcceochfjfcaaProg
import Derived.Test.YthgcceochfjfcaaPure
import Derived.Test.YthgcceochfjfcaaActs
import Derived.Deep.Light
import Derived.RegionTactic
import Derived.Deep.RegionWith
import Derived.BigRegion
import Derived.ChangeAlike
namespace Go.Proofs.Ythgcceochfjfcaa
open Go.RowKit
set_option linter.unusedVariables false
set_option linter.unusedSimpArgs false

-- spec.l1In
set_option maxHeartbeats 1000000 in
set_option maxRecDepth 100000 in
theorem c_spec_l1In (x : Int) (lo : Int) (hi : Int) (w : World)   :
    Calls Try.prog 52 #[.int .i64 x, .int .i64 lo, .int .i64 hi] w (Ret w (.bool (Pu.In x lo hi))) := by
  go_enter Try.func52, Try.ntmps52
  go_wp2_with (first
    | go_region)
  all_goals refine bodyPost_ret (v := .bool (Pu.In x lo hi)) ?_ rfl (Ret.mk (by repeat (first | exact Below.refl _ _ | apply below_alloc | apply below_junk | apply below_drew)))
  all_goals first | (simp [results, Try.results52, go_sem, Pu.In, *]; done) | (simp [results, Try.results52, go_sem, Pu.In, *]; omega) | (go_light; simp [results, Try.results52, go_sem, Pu.In, *]; intros; exfalso; omega) | (go_light; simp [results, Try.results52, go_sem, Pu.In, *]; (repeat' split) <;> first | omega | (simp; done) | (simp_all; done)) | (go_light; simp_all [results, Try.results52, go_sem, Pu.In, ]; done) | (go_light; simp_all [results, Try.results52, go_sem, Pu.In, ]; omega)
theorem c_spec_l1In_b (x : Int) (lo : Int) (hi : Int) (w : World) (b : Bool) (hb : Pu.In x lo hi = b) :
    Calls Try.prog 52 #[.int .i64 x, .int .i64 lo, .int .i64 hi] w (Ret w (.bool b)) := by subst hb; exact c_spec_l1In x lo hi w

-- impl.in
set_option maxHeartbeats 1000000 in
set_option maxRecDepth 100000 in
theorem c_impl_in (x : Int) (lo : Int) (hi : Int) (w : World)   :
    Calls Try.prog 53 #[.int .i64 x, .int .i64 lo, .int .i64 hi] w (Ret w (.bool (Pu.In x lo hi))) := by
  go_enter Try.func53, Try.ntmps53
  go_wp2_with (first
    | go_region)
  all_goals refine bodyPost_ret (v := .bool (Pu.In x lo hi)) ?_ rfl (Ret.mk (by repeat (first | exact Below.refl _ _ | apply below_alloc | apply below_junk | apply below_drew)))
  all_goals first | (simp [results, Try.results53, go_sem, Pu.In, *]; done) | (simp [results, Try.results53, go_sem, Pu.In, *]; omega) | (go_light; simp [results, Try.results53, go_sem, Pu.In, *]; intros; exfalso; omega) | (go_light; simp [results, Try.results53, go_sem, Pu.In, *]; (repeat' split) <;> first | omega | (simp; done) | (simp_all; done)) | (go_light; simp_all [results, Try.results53, go_sem, Pu.In, ]; done) | (go_light; simp_all [results, Try.results53, go_sem, Pu.In, ]; omega)
theorem c_impl_in_b (x : Int) (lo : Int) (hi : Int) (w : World) (b : Bool) (hb : Pu.In x lo hi = b) :
    Calls Try.prog 53 #[.int .i64 x, .int .i64 lo, .int .i64 hi] w (Ret w (.bool b)) := by subst hb; exact c_impl_in x lo hi w

-- spec.l1Max
set_option maxHeartbeats 1000000 in
set_option maxRecDepth 100000 in
theorem c_spec_l1Max (a : Int) (b : Int) (w : World)   :
    Calls Try.prog 55 #[.int .i64 a, .int .i64 b] w (Ret w (.int .i64 (max a b))) := by
  go_enter Try.func55, Try.ntmps55
  go_wp2_with (first
    | go_region)
  all_goals refine bodyPost_ret (v := .int .i64 (max a b)) ?_ rfl (Ret.mk (by repeat (first | exact Below.refl _ _ | apply below_alloc | apply below_junk | apply below_drew)))
  all_goals first | (simp [results, Try.results55, go_sem, *]; done) | (simp [results, Try.results55, go_sem, *]; omega)

-- spec.IvalOk
set_option maxHeartbeats 1000000 in
set_option maxRecDepth 100000 in
theorem c_spec_IvalOk (a_lo : Int) (a_hi : Int) (w : World)   :
    Calls Try.prog 54 #[.agg #[.int .i64 a_lo, .int .i64 a_hi]] w (Ret w (.bool (Pu.IvalOk (⟨a_lo, a_hi⟩ : Ival)))) := by
  go_enter Try.func54, Try.ntmps54
  go_wp2_with (first
    | (go_at_call 52; refine (c_spec_l1In _ _ _ _ ).mono ?_; rintro e w' hr; (rcases Ret.bool hr with ⟨rfl, hX, g, d, rfl⟩ | ⟨rfl, hX, g, d, rfl⟩ <;> first | (have hB := (Pu.In_iff _ _ _).1 hX; (try dsimp only at hB); obtain ⟨hB1, hB2⟩ := hB; clear hr) | (have hB := Pu.no_of (Pu.In_iff _ _ _) hX; (try dsimp only at hB); clear hr) | clear hr))
    | go_region)
  all_goals refine bodyPost_ret (v := .bool (Pu.IvalOk (⟨a_lo, a_hi⟩ : Ival))) ?_ rfl (Ret.mk (by repeat (first | exact Below.refl _ _ | apply below_alloc | apply below_junk | apply below_drew)))
  all_goals first | (simp [results, Try.results54, go_sem, Pu.IvalOk, *]; done) | (simp [results, Try.results54, go_sem, Pu.IvalOk, *]; omega) | (go_light; simp [results, Try.results54, go_sem, Pu.IvalOk, *]; intros; exfalso; omega) | (go_light; simp [results, Try.results54, go_sem, Pu.IvalOk, *]; (repeat' split) <;> first | omega | (simp; done) | (simp_all; done)) | (go_light; simp_all [results, Try.results54, go_sem, Pu.IvalOk, ]; done) | (go_light; simp_all [results, Try.results54, go_sem, Pu.IvalOk, ]; omega)
theorem c_spec_IvalOk_b (a_lo : Int) (a_hi : Int) (w : World) (b : Bool) (hb : Pu.IvalOk (⟨a_lo, a_hi⟩ : Ival) = b) :
    Calls Try.prog 54 #[.agg #[.int .i64 a_lo, .int .i64 a_hi]] w (Ret w (.bool b)) := by subst hb; exact c_spec_IvalOk a_lo a_hi w

-- impl.IvalOk
set_option maxHeartbeats 1000000 in
set_option maxRecDepth 100000 in
theorem c_impl_IvalOk (a_lo : Int) (a_hi : Int) (w : World)   :
    Calls Try.prog 56 #[.agg #[.int .i64 a_lo, .int .i64 a_hi]] w (Ret w (.bool (Pu.IvalOk (⟨a_lo, a_hi⟩ : Ival)))) := by
  go_enter Try.func56, Try.ntmps56
  go_wp2_with (first
    | go_region)
  all_goals refine bodyPost_ret (v := .bool (Pu.IvalOk (⟨a_lo, a_hi⟩ : Ival))) ?_ rfl (Ret.mk (by repeat (first | exact Below.refl _ _ | apply below_alloc | apply below_junk | apply below_drew)))
  all_goals first | (simp [results, Try.results56, go_sem, Pu.IvalOk, *]; done) | (simp [results, Try.results56, go_sem, Pu.IvalOk, *]; omega) | (go_light; simp [results, Try.results56, go_sem, Pu.IvalOk, *]; intros; exfalso; omega) | (go_light; simp [results, Try.results56, go_sem, Pu.IvalOk, *]; (repeat' split) <;> first | omega | (simp; done) | (simp_all; done)) | (go_light; simp_all [results, Try.results56, go_sem, Pu.IvalOk, ]; done) | (go_light; simp_all [results, Try.results56, go_sem, Pu.IvalOk, ]; omega)
theorem c_impl_IvalOk_b (a_lo : Int) (a_hi : Int) (w : World) (b : Bool) (hb : Pu.IvalOk (⟨a_lo, a_hi⟩ : Ival) = b) :
    Calls Try.prog 56 #[.agg #[.int .i64 a_lo, .int .i64 a_hi]] w (Ret w (.bool b)) := by subst hb; exact c_impl_IvalOk a_lo a_hi w

-- spec.l1Told
set_option maxHeartbeats 1000000 in
set_option maxRecDepth 100000 in
theorem c_spec_l1Told (lo : Int) (hi : Int) (w : World)   :
    Calls Try.prog 71 #[.int .i64 lo, .int .i64 hi] w (Ret w (.tuple #[.agg #[.int .i64 (((Pu.Told lo hi).1).lo), .int .i64 (((Pu.Told lo hi).1).hi)], .bool ((Pu.Told lo hi).2)])) := by
  go_enter Try.func71, Try.ntmps71
  go_wp2_with (first
    | (go_at_call 54; refine (c_spec_IvalOk _ _ _ ).mono ?_; rintro e w' hr; (rcases Ret.bool hr with ⟨rfl, hX, g, d, rfl⟩ | ⟨rfl, hX, g, d, rfl⟩ <;> first | (have hB := (Pu.IvalOk_iff _).1 hX; (try dsimp only at hB); obtain ⟨hB1, hB2, hB3⟩ := hB; clear hr) | clear hr))
    | go_region)
  all_goals refine bodyPost_ret (v := .tuple #[.agg #[.int .i64 (((Pu.Told lo hi).1).lo), .int .i64 (((Pu.Told lo hi).1).hi)], .bool ((Pu.Told lo hi).2)]) ?_ rfl (Ret.mk (by repeat (first | exact Below.refl _ _ | apply below_alloc | apply below_junk | apply below_drew)))
  all_goals first | (simp [results, Try.results71, go_sem, Pu.Told, *]; done) | (simp [results, Try.results71, go_sem, Pu.Told, *]; omega) | (go_light; simp [results, Try.results71, go_sem, Pu.Told, *]; intros; exfalso; omega) | (go_light; simp [results, Try.results71, go_sem, Pu.Told, *]; (repeat' split) <;> first | omega | (simp; done) | (simp_all; done)) | (go_light; simp_all [results, Try.results71, go_sem, Pu.Told, ]; done) | (go_light; simp_all [results, Try.results71, go_sem, Pu.Told, ]; omega)

-- impl.ival
set_option maxHeartbeats 1000000 in
set_option maxRecDepth 100000 in
theorem c_impl_ival (lo : Int) (hi : Int) (w : World)   :
    Calls Try.prog 74 #[.int .i64 lo, .int .i64 hi] w (Ret w (.tuple #[.agg #[.int .i64 (((Pu.Told lo hi).1).lo), .int .i64 (((Pu.Told lo hi).1).hi)], .bool ((Pu.Told lo hi).2)])) := by
  go_enter Try.func74, Try.ntmps74
  go_wp2_with (first
    | (go_at_call 56; refine (c_impl_IvalOk _ _ _ ).mono ?_; rintro e w' hr; (rcases Ret.bool hr with ⟨rfl, hX, g, d, rfl⟩ | ⟨rfl, hX, g, d, rfl⟩ <;> first | (have hB := (Pu.IvalOk_iff _).1 hX; (try dsimp only at hB); obtain ⟨hB1, hB2, hB3⟩ := hB; clear hr) | clear hr))
    | go_region)
  all_goals refine bodyPost_ret (v := .tuple #[.agg #[.int .i64 (((Pu.Told lo hi).1).lo), .int .i64 (((Pu.Told lo hi).1).hi)], .bool ((Pu.Told lo hi).2)]) ?_ rfl (Ret.mk (by repeat (first | exact Below.refl _ _ | apply below_alloc | apply below_junk | apply below_drew)))
  all_goals first | (simp [results, Try.results74, go_sem, Pu.Told, *]; done) | (simp [results, Try.results74, go_sem, Pu.Told, *]; omega) | (go_light; simp [results, Try.results74, go_sem, Pu.Told, *]; intros; exfalso; omega) | (go_light; simp [results, Try.results74, go_sem, Pu.Told, *]; (repeat' split) <;> first | omega | (simp; done) | (simp_all; done)) | (go_light; simp_all [results, Try.results74, go_sem, Pu.Told, ]; done) | (go_light; simp_all [results, Try.results74, go_sem, Pu.Told, ]; omega)

-- spec.Holds
set_option maxHeartbeats 1000000 in
set_option maxRecDepth 100000 in
theorem c_spec_Holds (a_lo : Int) (a_hi : Int) (t : Int) (w : World)   :
    Calls Try.prog 59 #[.agg #[.int .i64 a_lo, .int .i64 a_hi], .int .i64 t] w (Ret w (.bool (Pu.Holds (⟨a_lo, a_hi⟩ : Ival) t))) := by
  go_enter Try.func59, Try.ntmps59
  go_wp2_with (first
    | (go_at_call 54; refine (c_spec_IvalOk _ _ _ ).mono ?_; rintro e w' hr; (rcases Ret.bool hr with ⟨rfl, hX, g, d, rfl⟩ | ⟨rfl, hX, g, d, rfl⟩ <;> first | (have hB := (Pu.IvalOk_iff _).1 hX; (try dsimp only at hB); obtain ⟨hB1, hB2, hB3⟩ := hB; clear hr) | clear hr))
    | (go_at_call 52; refine (c_spec_l1In _ _ _ _ ).mono ?_; rintro e w' hr; (rcases Ret.bool hr with ⟨rfl, hX, g, d, rfl⟩ | ⟨rfl, hX, g, d, rfl⟩ <;> first | (have hB := (Pu.In_iff _ _ _).1 hX; (try dsimp only at hB); obtain ⟨hB1, hB2⟩ := hB; clear hr) | (have hB := Pu.no_of (Pu.In_iff _ _ _) hX; (try dsimp only at hB); clear hr) | clear hr))
    | go_region)
  all_goals refine bodyPost_ret (v := .bool (Pu.Holds (⟨a_lo, a_hi⟩ : Ival) t)) ?_ rfl (Ret.mk (by repeat (first | exact Below.refl _ _ | apply below_alloc | apply below_junk | apply below_drew)))
  all_goals first | (simp [results, Try.results59, go_sem, Pu.Holds, Pu.In, *]; done) | (simp [results, Try.results59, go_sem, Pu.Holds, Pu.In, *]; omega) | (go_light; simp [results, Try.results59, go_sem, Pu.Holds, Pu.In, *]; intros; exfalso; omega) | (go_light; simp [results, Try.results59, go_sem, Pu.Holds, Pu.In, *]; (repeat' split) <;> first | omega | (simp; done) | (simp_all; done)) | (go_light; simp_all [results, Try.results59, go_sem, Pu.Holds, Pu.In, ]; done) | (go_light; simp_all [results, Try.results59, go_sem, Pu.Holds, Pu.In, ]; omega)

-- impl.Holds
set_option maxHeartbeats 1000000 in
set_option maxRecDepth 100000 in
theorem c_impl_Holds (a_lo : Int) (a_hi : Int) (t : Int) (w : World)   :
    Calls Try.prog 62 #[.agg #[.int .i64 a_lo, .int .i64 a_hi], .int .i64 t] w (Ret w (.bool (Pu.Holds (⟨a_lo, a_hi⟩ : Ival) t))) := by
  go_enter Try.func62, Try.ntmps62
  go_wp2_with (first
    | (go_at_call 56; refine (c_impl_IvalOk _ _ _ ).mono ?_; rintro e w' hr; (rcases Ret.bool hr with ⟨rfl, hX, g, d, rfl⟩ | ⟨rfl, hX, g, d, rfl⟩ <;> first | (have hB := (Pu.IvalOk_iff _).1 hX; (try dsimp only at hB); obtain ⟨hB1, hB2, hB3⟩ := hB; clear hr) | clear hr))
    | (go_at_call 53; refine (c_impl_in _ _ _ _ ).mono ?_; rintro e w' hr; (rcases Ret.bool hr with ⟨rfl, hX, g, d, rfl⟩ | ⟨rfl, hX, g, d, rfl⟩ <;> first | (have hB := (Pu.In_iff _ _ _).1 hX; (try dsimp only at hB); obtain ⟨hB1, hB2⟩ := hB; clear hr) | (have hB := Pu.no_of (Pu.In_iff _ _ _) hX; (try dsimp only at hB); clear hr) | clear hr))
    | go_region)
  all_goals refine bodyPost_ret (v := .bool (Pu.Holds (⟨a_lo, a_hi⟩ : Ival) t)) ?_ rfl (Ret.mk (by repeat (first | exact Below.refl _ _ | apply below_alloc | apply below_junk | apply below_drew)))
  all_goals first | (simp [results, Try.results62, go_sem, Pu.Holds, Pu.In, *]; done) | (simp [results, Try.results62, go_sem, Pu.Holds, Pu.In, *]; omega) | (go_light; simp [results, Try.results62, go_sem, Pu.Holds, Pu.In, *]; intros; exfalso; omega) | (go_light; simp [results, Try.results62, go_sem, Pu.Holds, Pu.In, *]; (repeat' split) <;> first | omega | (simp; done) | (simp_all; done)) | (go_light; simp_all [results, Try.results62, go_sem, Pu.Holds, Pu.In, ]; done) | (go_light; simp_all [results, Try.results62, go_sem, Pu.Holds, Pu.In, ]; omega)

-- spec.DriftOk
set_option maxHeartbeats 1000000 in
set_option maxRecDepth 100000 in
theorem c_spec_DriftOk (d_num : Int) (d_den : Int) (w : World)   :
    Calls Try.prog 69 #[.agg #[.int .i64 d_num, .int .i64 d_den]] w (Ret w (.bool (Pu.DriftOk (⟨d_num, d_den⟩ : Drift)))) := by
  go_enter Try.func69, Try.ntmps69
  go_wp2_with (first
    | (go_at_call 52; refine (c_spec_l1In _ _ _ _ ).mono ?_; rintro e w' hr; (rcases Ret.bool hr with ⟨rfl, hX, g, d, rfl⟩ | ⟨rfl, hX, g, d, rfl⟩ <;> first | (have hB := (Pu.In_iff _ _ _).1 hX; (try dsimp only at hB); obtain ⟨hB1, hB2⟩ := hB; clear hr) | (have hB := Pu.no_of (Pu.In_iff _ _ _) hX; (try dsimp only at hB); clear hr) | clear hr))
    | go_region)
  all_goals refine bodyPost_ret (v := .bool (Pu.DriftOk (⟨d_num, d_den⟩ : Drift))) ?_ rfl (Ret.mk (by repeat (first | exact Below.refl _ _ | apply below_alloc | apply below_junk | apply below_drew)))
  all_goals first | (simp [results, Try.results69, go_sem, Pu.DriftOk, Pu.In, *]; done) | (simp [results, Try.results69, go_sem, Pu.DriftOk, Pu.In, *]; omega) | (go_light; simp [results, Try.results69, go_sem, Pu.DriftOk, Pu.In, *]; intros; exfalso; omega) | (go_light; simp [results, Try.results69, go_sem, Pu.DriftOk, Pu.In, *]; (repeat' split) <;> first | omega | (simp; done) | (simp_all; done)) | (go_light; simp_all [results, Try.results69, go_sem, Pu.DriftOk, Pu.In, ]; done) | (go_light; simp_all [results, Try.results69, go_sem, Pu.DriftOk, Pu.In, ]; omega)
theorem c_spec_DriftOk_b (d_num : Int) (d_den : Int) (w : World) (b : Bool) (hb : Pu.DriftOk (⟨d_num, d_den⟩ : Drift) = b) :
    Calls Try.prog 69 #[.agg #[.int .i64 d_num, .int .i64 d_den]] w (Ret w (.bool b)) := by subst hb; exact c_spec_DriftOk d_num d_den w

-- impl.DriftOk
set_option maxHeartbeats 1000000 in
set_option maxRecDepth 100000 in
theorem c_impl_DriftOk (d_num : Int) (d_den : Int) (w : World)   :
    Calls Try.prog 70 #[.agg #[.int .i64 d_num, .int .i64 d_den]] w (Ret w (.bool (Pu.DriftOk (⟨d_num, d_den⟩ : Drift)))) := by
  go_enter Try.func70, Try.ntmps70
  go_wp2_with (first
    | (go_at_call 53; refine (c_impl_in _ _ _ _ ).mono ?_; rintro e w' hr; (rcases Ret.bool hr with ⟨rfl, hX, g, d, rfl⟩ | ⟨rfl, hX, g, d, rfl⟩ <;> first | (have hB := (Pu.In_iff _ _ _).1 hX; (try dsimp only at hB); obtain ⟨hB1, hB2⟩ := hB; clear hr) | (have hB := Pu.no_of (Pu.In_iff _ _ _) hX; (try dsimp only at hB); clear hr) | clear hr))
    | go_region)
  all_goals refine bodyPost_ret (v := .bool (Pu.DriftOk (⟨d_num, d_den⟩ : Drift))) ?_ rfl (Ret.mk (by repeat (first | exact Below.refl _ _ | apply below_alloc | apply below_junk | apply below_drew)))
  all_goals first | (simp [results, Try.results70, go_sem, Pu.DriftOk, Pu.In, *]; done) | (simp [results, Try.results70, go_sem, Pu.DriftOk, Pu.In, *]; omega) | (go_light; simp [results, Try.results70, go_sem, Pu.DriftOk, Pu.In, *]; intros; exfalso; omega) | (go_light; simp [results, Try.results70, go_sem, Pu.DriftOk, Pu.In, *]; (repeat' split) <;> first | omega | (simp; done) | (simp_all; done)) | (go_light; simp_all [results, Try.results70, go_sem, Pu.DriftOk, Pu.In, ]; done) | (go_light; simp_all [results, Try.results70, go_sem, Pu.DriftOk, Pu.In, ]; omega)
theorem c_impl_DriftOk_b (d_num : Int) (d_den : Int) (w : World) (b : Bool) (hb : Pu.DriftOk (⟨d_num, d_den⟩ : Drift) = b) :
    Calls Try.prog 70 #[.agg #[.int .i64 d_num, .int .i64 d_den]] w (Ret w (.bool b)) := by subst hb; exact c_impl_DriftOk d_num d_den w

-- spec.l1Down
set_option maxHeartbeats 1000000 in
set_option maxRecDepth 100000 in
theorem c_spec_l1Down (x : Int) (n : Int) (w : World)  (hn : 1 ≤ n) (hx0 : -5000000000000000000 ≤ x) (hx1 : x ≤ 5000000000000000000) :
    Calls Try.prog 73 #[.int .i64 x, .int .i64 n] w (Ret w (.int .i64 (x / n))) := by
  have hq := Pu.tdiv_bd x n 5000000000000000000 hn hx0 hx1
  obtain ⟨hq0, hq1⟩ := hq
  have Hc := Lib.hid (Pu.tdiv_cases x n hn)
  go_enter Try.func73, Try.ntmps73
  go_wp2_with (first
    | go_region)
  all_goals refine bodyPost_ret (v := .int .i64 (x / n)) ?_ rfl (Ret.mk (by repeat (first | exact Below.refl _ _ | apply below_alloc | apply below_junk | apply below_drew)))
  all_goals (have hc := Hc.out; first | (simp [results, Try.results73, go_sem]; omega) | (simp [results, Try.results73, go_sem]; done))

-- impl.down
set_option maxHeartbeats 1000000 in
set_option maxRecDepth 100000 in
theorem c_impl_down (x : Int) (n : Int) (w : World)  (hn : 1 ≤ n) (hx0 : -5000000000000000000 ≤ x) (hx1 : x ≤ 5000000000000000000) :
    Calls Try.prog 76 #[.int .i64 x, .int .i64 n] w (Ret w (.int .i64 (x / n))) := by
  have hq := Pu.tdiv_bd x n 5000000000000000000 hn hx0 hx1
  obtain ⟨hq0, hq1⟩ := hq
  have Hc := Lib.hid (Pu.tdiv_cases x n hn)
  go_enter Try.func76, Try.ntmps76
  go_wp2_with (first
    | go_region)
  all_goals refine bodyPost_ret (v := .int .i64 (x / n)) ?_ rfl (Ret.mk (by repeat (first | exact Below.refl _ _ | apply below_alloc | apply below_junk | apply below_drew)))
  all_goals (have hc := Hc.out; first | (simp [results, Try.results76, go_sem]; omega) | (simp [results, Try.results76, go_sem]; done))

-- spec.l1Up
set_option maxHeartbeats 1000000 in
set_option maxRecDepth 100000 in
theorem c_spec_l1Up (x : Int) (n : Int) (w : World)  (hn : 1 ≤ n) (hx0 : -5000000000000000000 ≤ x) (hx1 : x ≤ 5000000000000000000) :
    Calls Try.prog 72 #[.int .i64 x, .int .i64 n] w (Ret w (.int .i64 (Pu.up x n))) := by
  have hq := Pu.ediv_bd (-x) n 5000000000000000000 hn (by omega) (by omega)
  obtain ⟨hq0, hq1⟩ := hq
  go_enter Try.func72, Try.ntmps72
  go_wp2_with (first
    | (go_at_call 73; refine (c_spec_l1Down _ _ _ (by omega) (by omega) (by omega)).mono ?_; rintro e w' hr; obtain ⟨rfl, g, d, rfl⟩ := Ret.open hr; clear hr)
    | go_region)
  all_goals refine bodyPost_ret (v := .int .i64 (Pu.up x n)) ?_ rfl (Ret.mk (by repeat (first | exact Below.refl _ _ | apply below_alloc | apply below_junk | apply below_drew)))
  all_goals first | (simp [results, Try.results72, go_sem, Pu.up, *]; done) | (simp [results, Try.results72, go_sem, Pu.up, *]; omega) | (go_light; simp [results, Try.results72, go_sem, Pu.up, *]; intros; exfalso; omega) | (go_light; simp [results, Try.results72, go_sem, Pu.up, *]; (repeat' split) <;> first | omega | (simp; done) | (simp_all; done)) | (go_light; simp_all [results, Try.results72, go_sem, Pu.up, ]; done) | (go_light; simp_all [results, Try.results72, go_sem, Pu.up, ]; omega)

-- impl.up
set_option maxHeartbeats 1000000 in
set_option maxRecDepth 100000 in
theorem c_impl_up (x : Int) (n : Int) (w : World)  (hn : 1 ≤ n) (hx0 : -5000000000000000000 ≤ x) (hx1 : x ≤ 5000000000000000000) :
    Calls Try.prog 75 #[.int .i64 x, .int .i64 n] w (Ret w (.int .i64 (Pu.up x n))) := by
  have hq := Pu.ediv_bd (-x) n 5000000000000000000 hn (by omega) (by omega)
  obtain ⟨hq0, hq1⟩ := hq
  go_enter Try.func75, Try.ntmps75
  go_wp2_with (first
    | (go_at_call 76; refine (c_impl_down _ _ _ (by omega) (by omega) (by omega)).mono ?_; rintro e w' hr; obtain ⟨rfl, g, d, rfl⟩ := Ret.open hr; clear hr)
    | go_region)
  all_goals refine bodyPost_ret (v := .int .i64 (Pu.up x n)) ?_ rfl (Ret.mk (by repeat (first | exact Below.refl _ _ | apply below_alloc | apply below_junk | apply below_drew)))
  all_goals first | (simp [results, Try.results75, go_sem, Pu.up, *]; done) | (simp [results, Try.results75, go_sem, Pu.up, *]; omega) | (go_light; simp [results, Try.results75, go_sem, Pu.up, *]; intros; exfalso; omega) | (go_light; simp [results, Try.results75, go_sem, Pu.up, *]; (repeat' split) <;> first | omega | (simp; done) | (simp_all; done)) | (go_light; simp_all [results, Try.results75, go_sem, Pu.up, ]; done) | (go_light; simp_all [results, Try.results75, go_sem, Pu.up, ]; omega)

-- spec.Middle
set_option maxHeartbeats 1000000 in
set_option maxRecDepth 100000 in
theorem c_spec_Middle (a_lo : Int) (a_hi : Int) (w : World)   :
    Calls Try.prog 57 #[.agg #[.int .i64 a_lo, .int .i64 a_hi]] w (Ret w (.tuple #[.int .i64 ((Pu.Middle (⟨a_lo, a_hi⟩ : Ival)).1), .bool ((Pu.Middle (⟨a_lo, a_hi⟩ : Ival)).2)])) := by
  go_enter Try.func57, Try.ntmps57
  go_wp2_with (first
    | (go_at_call 54; refine (c_spec_IvalOk _ _ _ ).mono ?_; rintro e w' hr; (rcases Ret.bool hr with ⟨rfl, hX, g, d, rfl⟩ | ⟨rfl, hX, g, d, rfl⟩ <;> first | (have hB := (Pu.IvalOk_iff _).1 hX; (try dsimp only at hB); obtain ⟨hB1, hB2, hB3⟩ := hB; clear hr) | clear hr))
    | (go_at_call 73; refine (c_spec_l1Down _ _ _ (by omega) (by omega) (by omega)).mono ?_; rintro e w' hr; obtain ⟨rfl, g, d, rfl⟩ := Ret.open hr; clear hr)
    | go_region)
  all_goals refine bodyPost_ret (v := .tuple #[.int .i64 ((Pu.Middle (⟨a_lo, a_hi⟩ : Ival)).1), .bool ((Pu.Middle (⟨a_lo, a_hi⟩ : Ival)).2)]) ?_ rfl (Ret.mk (by repeat (first | exact Below.refl _ _ | apply below_alloc | apply below_junk | apply below_drew)))
  all_goals first | (simp [results, Try.results57, go_sem, Pu.Middle, *]; done) | (simp [results, Try.results57, go_sem, Pu.Middle, *]; omega) | (go_light; simp [results, Try.results57, go_sem, Pu.Middle, *]; intros; exfalso; omega) | (go_light; simp [results, Try.results57, go_sem, Pu.Middle, *]; (repeat' split) <;> first | omega | (simp; done) | (simp_all; done)) | (go_light; simp_all [results, Try.results57, go_sem, Pu.Middle, ]; done) | (go_light; simp_all [results, Try.results57, go_sem, Pu.Middle, ]; omega)

-- impl.Middle
set_option maxHeartbeats 1000000 in
set_option maxRecDepth 100000 in
theorem c_impl_Middle (a_lo : Int) (a_hi : Int) (w : World)   :
    Calls Try.prog 58 #[.agg #[.int .i64 a_lo, .int .i64 a_hi]] w (Ret w (.tuple #[.int .i64 ((Pu.Middle (⟨a_lo, a_hi⟩ : Ival)).1), .bool ((Pu.Middle (⟨a_lo, a_hi⟩ : Ival)).2)])) := by
  go_enter Try.func58, Try.ntmps58
  go_wp2_with (first
    | (go_at_call 56; refine (c_impl_IvalOk _ _ _ ).mono ?_; rintro e w' hr; (rcases Ret.bool hr with ⟨rfl, hX, g, d, rfl⟩ | ⟨rfl, hX, g, d, rfl⟩ <;> first | (have hB := (Pu.IvalOk_iff _).1 hX; (try dsimp only at hB); obtain ⟨hB1, hB2, hB3⟩ := hB; clear hr) | clear hr))
    | (go_at_call 76; refine (c_impl_down _ _ _ (by omega) (by omega) (by omega)).mono ?_; rintro e w' hr; obtain ⟨rfl, g, d, rfl⟩ := Ret.open hr; clear hr)
    | go_region)
  all_goals refine bodyPost_ret (v := .tuple #[.int .i64 ((Pu.Middle (⟨a_lo, a_hi⟩ : Ival)).1), .bool ((Pu.Middle (⟨a_lo, a_hi⟩ : Ival)).2)]) ?_ rfl (Ret.mk (by repeat (first | exact Below.refl _ _ | apply below_alloc | apply below_junk | apply below_drew)))
  all_goals first | (simp [results, Try.results58, go_sem, Pu.Middle, *]; done) | (simp [results, Try.results58, go_sem, Pu.Middle, *]; omega) | (go_light; simp [results, Try.results58, go_sem, Pu.Middle, *]; intros; exfalso; omega) | (go_light; simp [results, Try.results58, go_sem, Pu.Middle, *]; (repeat' split) <;> first | omega | (simp; done) | (simp_all; done)) | (go_light; simp_all [results, Try.results58, go_sem, Pu.Middle, ]; done) | (go_light; simp_all [results, Try.results58, go_sem, Pu.Middle, ]; omega)

end Go.Proofs.Ythgcceochfjfcaa
