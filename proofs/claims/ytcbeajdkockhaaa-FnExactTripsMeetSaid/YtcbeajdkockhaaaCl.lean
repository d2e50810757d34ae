/-
  Contracts of Go functions of this seat: what each call hands back, as a plain function of its arguments, and that nothing that was there has turned.
  No statement of the seat is proved here.
-/
import Derived.Test.YtcbeajdkockhaaaProg
import Derived.Test.YtcbeajdkockhaaaPure
import Derived.Test.YtcbeajdkockhaaaActs
import Derived.Deep.Light
import Derived.RegionTactic
import Derived.Deep.RegionWith
import Derived.BigRegion
import Derived.ChangeAlike
import Derived.Test.YtcbeajdkockhaaaCa
namespace Go.Proofs.Ytcbeajdkockhaaa
open Go.RowKit
set_option linter.unusedVariables false
set_option linter.unusedSimpArgs false

-- laws.toIval
set_option maxHeartbeats 1000000 in
set_option maxRecDepth 100000 in
theorem c_laws_toIval (a_lo : Int) (a_hi : Int) (w : World)   :
    Calls Try.prog 22 #[.agg #[.int .i64 a_lo, .int .i64 a_hi]] w (Ret w (.agg #[.int .i64 a_lo, .int .i64 a_hi])) := by
  go_enter Try.func22, Try.ntmps22
  go_wp2_with (first
    | go_region)
  all_goals refine bodyPost_ret (v := .agg #[.int .i64 a_lo, .int .i64 a_hi]) ?_ rfl (Ret.mk (by repeat (first | exact Below.refl _ _ | apply below_alloc | apply below_junk | apply below_drew)))
  all_goals first | (simp [results, Try.results22, go_sem, *]; done) | (simp [results, Try.results22, go_sem, *]; omega) | (go_light; simp [results, Try.results22, go_sem, *]; intros; exfalso; omega) | (go_light; simp [results, Try.results22, go_sem, *]; (repeat' split) <;> first | omega | (simp; done) | (simp_all; done)) | (go_light; simp_all [results, Try.results22, go_sem, ]; done) | (go_light; simp_all [results, Try.results22, go_sem, ]; omega)

-- laws.eqIval
set_option maxHeartbeats 1000000 in
set_option maxRecDepth 100000 in
theorem c_laws_eqIval (a_lo : Int) (a_hi : Int) (b_lo : Int) (b_hi : Int) (w : World)   :
    Calls Try.prog 24 #[.agg #[.int .i64 a_lo, .int .i64 a_hi], .agg #[.int .i64 b_lo, .int .i64 b_hi]] w (Ret w (.bool (Pu.eqIval (⟨a_lo, a_hi⟩ : Ival) (⟨b_lo, b_hi⟩ : Ival)))) := by
  go_enter Try.func24, Try.ntmps24
  go_wp2_with (first
    | go_region)
  all_goals refine bodyPost_ret (v := .bool (Pu.eqIval (⟨a_lo, a_hi⟩ : Ival) (⟨b_lo, b_hi⟩ : Ival))) ?_ rfl (Ret.mk (by repeat (first | exact Below.refl _ _ | apply below_alloc | apply below_junk | apply below_drew)))
  all_goals first | (simp [results, Try.results24, go_sem, Pu.eqIval, *]; done) | (simp [results, Try.results24, go_sem, Pu.eqIval, *]; omega) | (go_light; simp [results, Try.results24, go_sem, Pu.eqIval, *]; intros; exfalso; omega) | (go_light; simp [results, Try.results24, go_sem, Pu.eqIval, *]; (repeat' split) <;> first | omega | (simp; done) | (simp_all; done)) | (go_light; simp_all [results, Try.results24, go_sem, Pu.eqIval, ]; done) | (go_light; simp_all [results, Try.results24, go_sem, Pu.eqIval, ]; omega)

-- laws.toDrift
set_option maxHeartbeats 1000000 in
set_option maxRecDepth 100000 in
theorem c_laws_toDrift (a_num : Int) (a_den : Int) (w : World)   :
    Calls Try.prog 19 #[.agg #[.int .i64 a_num, .int .i64 a_den]] w (Ret w (.agg #[.int .i64 a_num, .int .i64 a_den])) := by
  go_enter Try.func19, Try.ntmps19
  go_wp2_with (first
    | go_region)
  all_goals refine bodyPost_ret (v := .agg #[.int .i64 a_num, .int .i64 a_den]) ?_ rfl (Ret.mk (by repeat (first | exact Below.refl _ _ | apply below_alloc | apply below_junk | apply below_drew)))
  all_goals first | (simp [results, Try.results19, go_sem, *]; done) | (simp [results, Try.results19, go_sem, *]; omega) | (go_light; simp [results, Try.results19, go_sem, *]; intros; exfalso; omega) | (go_light; simp [results, Try.results19, go_sem, *]; (repeat' split) <;> first | omega | (simp; done) | (simp_all; done)) | (go_light; simp_all [results, Try.results19, go_sem, ]; done) | (go_light; simp_all [results, Try.results19, go_sem, ]; omega)

-- laws.toTrip
set_option maxHeartbeats 1000000 in
set_option maxRecDepth 100000 in
theorem c_laws_toTrip (a_src : Int) (a_said_lo : Int) (a_said_hi : Int) (a_sent : Int) (a_got : Int) (w : World)   :
    Calls Try.prog 16 #[.agg #[.int .i64 a_src, .int .i64 a_said_lo, .int .i64 a_said_hi, .int .i64 a_sent, .int .i64 a_got]] w (Ret w (.agg #[.int .i64 a_src, .int .i64 a_said_lo, .int .i64 a_said_hi, .int .i64 a_sent, .int .i64 a_got])) := by
  go_enter Try.func16, Try.ntmps16
  go_wp2_with (first
    | (go_at_call 22; refine (c_laws_toIval _ _ _ ).mono ?_; rintro e w' hr; obtain ⟨rfl, g, d, rfl⟩ := Ret.open hr; clear hr)
    | go_region)
  all_goals refine bodyPost_ret (v := .agg #[.int .i64 a_src, .int .i64 a_said_lo, .int .i64 a_said_hi, .int .i64 a_sent, .int .i64 a_got]) ?_ rfl (Ret.mk (by repeat (first | exact Below.refl _ _ | apply below_alloc | apply below_junk | apply below_drew)))
  all_goals first | (simp [results, Try.results16, go_sem, *]; done) | (simp [results, Try.results16, go_sem, *]; omega) | (go_light; simp [results, Try.results16, go_sem, *]; intros; exfalso; omega) | (go_light; simp [results, Try.results16, go_sem, *]; (repeat' split) <;> first | omega | (simp; done) | (simp_all; done)) | (go_light; simp_all [results, Try.results16, go_sem, ]; done) | (go_light; simp_all [results, Try.results16, go_sem, ]; omega)

-- laws.eqTrip
set_option maxHeartbeats 1000000 in
set_option maxRecDepth 100000 in
theorem c_laws_eqTrip (a_src : Int) (a_said_lo : Int) (a_said_hi : Int) (a_sent : Int) (a_got : Int) (b_src : Int) (b_said_lo : Int) (b_said_hi : Int) (b_sent : Int) (b_got : Int) (w : World)   :
    Calls Try.prog 69 #[.agg #[.int .i64 a_src, .int .i64 a_said_lo, .int .i64 a_said_hi, .int .i64 a_sent, .int .i64 a_got], .agg #[.int .i64 b_src, .int .i64 b_said_lo, .int .i64 b_said_hi, .int .i64 b_sent, .int .i64 b_got]] w (Ret w (.bool (Pu.eqTrip (⟨a_src, ⟨a_said_lo, a_said_hi⟩, a_sent, a_got⟩ : Trip) (⟨b_src, ⟨b_said_lo, b_said_hi⟩, b_sent, b_got⟩ : Trip)))) := by
  go_enter Try.func69, Try.ntmps69
  go_wp2_with (first
    | (go_at_call 24; refine (c_laws_eqIval _ _ _ _ _ ).mono ?_; rintro e w' hr; obtain ⟨rfl, g, d, rfl⟩ := Ret.open hr; clear hr)
    | go_region)
  all_goals refine bodyPost_ret (v := .bool (Pu.eqTrip (⟨a_src, ⟨a_said_lo, a_said_hi⟩, a_sent, a_got⟩ : Trip) (⟨b_src, ⟨b_said_lo, b_said_hi⟩, b_sent, b_got⟩ : Trip))) ?_ rfl (Ret.mk (by repeat (first | exact Below.refl _ _ | apply below_alloc | apply below_junk | apply below_drew)))
  all_goals first | (simp [results, Try.results69, go_sem, Pu.eqTrip, *]; done) | (simp [results, Try.results69, go_sem, Pu.eqTrip, *]; omega) | (go_light; simp [results, Try.results69, go_sem, Pu.eqTrip, *]; intros; exfalso; omega) | (go_light; simp [results, Try.results69, go_sem, Pu.eqTrip, *]; (repeat' split) <;> first | omega | (simp; done) | (simp_all; done)) | (go_light; simp_all [results, Try.results69, go_sem, Pu.eqTrip, ]; done) | (go_light; simp_all [results, Try.results69, go_sem, Pu.eqTrip, ]; omega)

-- laws.toLocal
set_option maxHeartbeats 1000000 in
set_option maxRecDepth 100000 in
theorem c_laws_toLocal (a_known : Bool) (a_bound_lo : Int) (a_bound_hi : Int) (a_pt : Int) (w : World)   :
    Calls Try.prog 30 #[.agg #[.bool a_known, .int .i64 a_bound_lo, .int .i64 a_bound_hi, .int .i64 a_pt]] w (Ret w (.agg #[.bool a_known, .int .i64 a_bound_lo, .int .i64 a_bound_hi, .int .i64 a_pt])) := by
  go_enter Try.func30, Try.ntmps30
  go_wp2_with (first
    | (go_at_call 22; refine (c_laws_toIval _ _ _ ).mono ?_; rintro e w' hr; obtain ⟨rfl, g, d, rfl⟩ := Ret.open hr; clear hr)
    | go_region)
  all_goals refine bodyPost_ret (v := .agg #[.bool a_known, .int .i64 a_bound_lo, .int .i64 a_bound_hi, .int .i64 a_pt]) ?_ rfl (Ret.mk (by repeat (first | exact Below.refl _ _ | apply below_alloc | apply below_junk | apply below_drew)))
  all_goals first | (simp [results, Try.results30, go_sem, *]; done) | (simp [results, Try.results30, go_sem, *]; omega) | (go_light; simp [results, Try.results30, go_sem, *]; intros; exfalso; omega) | (go_light; simp [results, Try.results30, go_sem, *]; (repeat' split) <;> first | omega | (simp; done) | (simp_all; done)) | (go_light; simp_all [results, Try.results30, go_sem, ]; done) | (go_light; simp_all [results, Try.results30, go_sem, ]; omega)

-- laws.eqLocal
set_option maxHeartbeats 1000000 in
set_option maxRecDepth 100000 in
theorem c_laws_eqLocal (a_known : Bool) (a_bound_lo : Int) (a_bound_hi : Int) (a_pt : Int) (b_known : Bool) (b_bound_lo : Int) (b_bound_hi : Int) (b_pt : Int) (w : World)   :
    Calls Try.prog 34 #[.agg #[.bool a_known, .int .i64 a_bound_lo, .int .i64 a_bound_hi, .int .i64 a_pt], .agg #[.bool b_known, .int .i64 b_bound_lo, .int .i64 b_bound_hi, .int .i64 b_pt]] w (Ret w (.bool (Pu.eqLocal (⟨a_known, ⟨a_bound_lo, a_bound_hi⟩, a_pt⟩ : Local) (⟨b_known, ⟨b_bound_lo, b_bound_hi⟩, b_pt⟩ : Local)))) := by
  go_enter Try.func34, Try.ntmps34
  go_wp2_with (first
    | (go_at_call 24; refine (c_laws_eqIval _ _ _ _ _ ).mono ?_; rintro e w' hr; obtain ⟨rfl, g, d, rfl⟩ := Ret.open hr; clear hr)
    | go_region)
  all_goals refine bodyPost_ret (v := .bool (Pu.eqLocal (⟨a_known, ⟨a_bound_lo, a_bound_hi⟩, a_pt⟩ : Local) (⟨b_known, ⟨b_bound_lo, b_bound_hi⟩, b_pt⟩ : Local))) ?_ rfl (Ret.mk (by repeat (first | exact Below.refl _ _ | apply below_alloc | apply below_junk | apply below_drew)))
  all_goals first | (simp [results, Try.results34, go_sem, Pu.eqLocal, *]; done) | (simp [results, Try.results34, go_sem, Pu.eqLocal, *]; omega) | (go_light; simp [results, Try.results34, go_sem, Pu.eqLocal, *]; intros; exfalso; omega) | (go_light; simp [results, Try.results34, go_sem, Pu.eqLocal, *]; (repeat' split) <;> first | omega | (simp; done) | (simp_all; done)) | (go_light; simp_all [results, Try.results34, go_sem, Pu.eqLocal, ]; done) | (go_light; simp_all [results, Try.results34, go_sem, Pu.eqLocal, ]; omega)

end Go.Proofs.Ytcbeajdkockhaaa
