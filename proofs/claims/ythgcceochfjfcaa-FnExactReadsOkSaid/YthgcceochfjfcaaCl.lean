/-
  Contracts of Go functions of this seat: what each call hands back, as a plain function of its arguments, and that nothing that was there has turned.
  No statement of the seat is proved here.
-/
import Derived.Test.YthgcceochfjfcaaProg
import Derived.Test.YthgcceochfjfcaaPure
import Derived.Test.YthgcceochfjfcaaActs
import Derived.Deep.Light
import Derived.RegionTactic
import Derived.Deep.RegionWith
import Derived.BigRegion
import Derived.ChangeAlike
import Derived.Test.YthgcceochfjfcaaCa
namespace Go.Proofs.Ythgcceochfjfcaa
open Go.RowKit
set_option linter.unusedVariables false
set_option linter.unusedSimpArgs false

-- laws.toApp
set_option maxHeartbeats 1000000 in
set_option maxRecDepth 100000 in
theorem c_laws_toApp (a_has : Bool) (a_last : Int) (w : World)   :
    Calls Try.prog 16 #[.agg #[.bool a_has, .int .i64 a_last]] w (Ret w (.agg #[.bool a_has, .int .i64 a_last])) := by
  go_enter Try.func16, Try.ntmps16
  go_wp2_with (first
    | go_region)
  all_goals refine bodyPost_ret (v := .agg #[.bool a_has, .int .i64 a_last]) ?_ rfl (Ret.mk (by repeat (first | exact Below.refl _ _ | apply below_alloc | apply below_junk | apply below_drew)))
  all_goals first | (simp [results, Try.results16, go_sem, *]; done) | (simp [results, Try.results16, go_sem, *]; omega) | (go_light; simp [results, Try.results16, go_sem, *]; intros; exfalso; omega) | (go_light; simp [results, Try.results16, go_sem, *]; (repeat' split) <;> first | omega | (simp; done) | (simp_all; done)) | (go_light; simp_all [results, Try.results16, go_sem, ]; done) | (go_light; simp_all [results, Try.results16, go_sem, ]; omega)

-- laws.eqApp
set_option maxHeartbeats 1000000 in
set_option maxRecDepth 100000 in
theorem c_laws_eqApp (a_has : Bool) (a_last : Int) (b_has : Bool) (b_last : Int) (w : World)   :
    Calls Try.prog 23 #[.agg #[.bool a_has, .int .i64 a_last], .agg #[.bool b_has, .int .i64 b_last]] w (Ret w (.bool (Pu.eqApp (⟨a_has, a_last⟩ : App) (⟨b_has, b_last⟩ : App)))) := by
  go_enter Try.func23, Try.ntmps23
  go_wp2_with (first
    | go_region)
  all_goals refine bodyPost_ret (v := .bool (Pu.eqApp (⟨a_has, a_last⟩ : App) (⟨b_has, b_last⟩ : App))) ?_ rfl (Ret.mk (by repeat (first | exact Below.refl _ _ | apply below_alloc | apply below_junk | apply below_drew)))
  all_goals first | (simp [results, Try.results23, go_sem, Pu.eqApp, *]; done) | (simp [results, Try.results23, go_sem, Pu.eqApp, *]; omega) | (go_light; simp [results, Try.results23, go_sem, Pu.eqApp, *]; intros; exfalso; omega) | (go_light; simp [results, Try.results23, go_sem, Pu.eqApp, *]; (repeat' split) <;> first | omega | (simp; done) | (simp_all; done)) | (go_light; simp_all [results, Try.results23, go_sem, Pu.eqApp, ]; done) | (go_light; simp_all [results, Try.results23, go_sem, Pu.eqApp, ]; omega)

-- laws.toIval
set_option maxHeartbeats 1000000 in
set_option maxRecDepth 100000 in
theorem c_laws_toIval (a_lo : Int) (a_hi : Int) (w : World)   :
    Calls Try.prog 19 #[.agg #[.int .i64 a_lo, .int .i64 a_hi]] w (Ret w (.agg #[.int .i64 a_lo, .int .i64 a_hi])) := by
  go_enter Try.func19, Try.ntmps19
  go_wp2_with (first
    | go_region)
  all_goals refine bodyPost_ret (v := .agg #[.int .i64 a_lo, .int .i64 a_hi]) ?_ rfl (Ret.mk (by repeat (first | exact Below.refl _ _ | apply below_alloc | apply below_junk | apply below_drew)))
  all_goals first | (simp [results, Try.results19, go_sem, *]; done) | (simp [results, Try.results19, go_sem, *]; omega) | (go_light; simp [results, Try.results19, go_sem, *]; intros; exfalso; omega) | (go_light; simp [results, Try.results19, go_sem, *]; (repeat' split) <;> first | omega | (simp; done) | (simp_all; done)) | (go_light; simp_all [results, Try.results19, go_sem, ]; done) | (go_light; simp_all [results, Try.results19, go_sem, ]; omega)

-- laws.eqIval
set_option maxHeartbeats 1000000 in
set_option maxRecDepth 100000 in
theorem c_laws_eqIval (a_lo : Int) (a_hi : Int) (b_lo : Int) (b_hi : Int) (w : World)   :
    Calls Try.prog 45 #[.agg #[.int .i64 a_lo, .int .i64 a_hi], .agg #[.int .i64 b_lo, .int .i64 b_hi]] w (Ret w (.bool (Pu.eqIval (⟨a_lo, a_hi⟩ : Ival) (⟨b_lo, b_hi⟩ : Ival)))) := by
  go_enter Try.func45, Try.ntmps45
  go_wp2_with (first
    | go_region)
  all_goals refine bodyPost_ret (v := .bool (Pu.eqIval (⟨a_lo, a_hi⟩ : Ival) (⟨b_lo, b_hi⟩ : Ival))) ?_ rfl (Ret.mk (by repeat (first | exact Below.refl _ _ | apply below_alloc | apply below_junk | apply below_drew)))
  all_goals first | (simp [results, Try.results45, go_sem, Pu.eqIval, *]; done) | (simp [results, Try.results45, go_sem, Pu.eqIval, *]; omega) | (go_light; simp [results, Try.results45, go_sem, Pu.eqIval, *]; intros; exfalso; omega) | (go_light; simp [results, Try.results45, go_sem, Pu.eqIval, *]; (repeat' split) <;> first | omega | (simp; done) | (simp_all; done)) | (go_light; simp_all [results, Try.results45, go_sem, Pu.eqIval, ]; done) | (go_light; simp_all [results, Try.results45, go_sem, Pu.eqIval, ]; omega)

-- laws.toDrift
set_option maxHeartbeats 1000000 in
set_option maxRecDepth 100000 in
theorem c_laws_toDrift (a_num : Int) (a_den : Int) (w : World)   :
    Calls Try.prog 39 #[.agg #[.int .i64 a_num, .int .i64 a_den]] w (Ret w (.agg #[.int .i64 a_num, .int .i64 a_den])) := by
  go_enter Try.func39, Try.ntmps39
  go_wp2_with (first
    | go_region)
  all_goals refine bodyPost_ret (v := .agg #[.int .i64 a_num, .int .i64 a_den]) ?_ rfl (Ret.mk (by repeat (first | exact Below.refl _ _ | apply below_alloc | apply below_junk | apply below_drew)))
  all_goals first | (simp [results, Try.results39, go_sem, *]; done) | (simp [results, Try.results39, go_sem, *]; omega) | (go_light; simp [results, Try.results39, go_sem, *]; intros; exfalso; omega) | (go_light; simp [results, Try.results39, go_sem, *]; (repeat' split) <;> first | omega | (simp; done) | (simp_all; done)) | (go_light; simp_all [results, Try.results39, go_sem, ]; done) | (go_light; simp_all [results, Try.results39, go_sem, ]; omega)

-- laws.toFrac
set_option maxHeartbeats 1000000 in
set_option maxRecDepth 100000 in
theorem c_laws_toFrac (a_num : Int) (a_den : Int) (w : World)   :
    Calls Try.prog 33 #[.agg #[.int .i64 a_num, .int .i64 a_den]] w (Ret w (.agg #[.int .i64 a_num, .int .i64 a_den])) := by
  go_enter Try.func33, Try.ntmps33
  go_wp2_with (first
    | go_region)
  all_goals refine bodyPost_ret (v := .agg #[.int .i64 a_num, .int .i64 a_den]) ?_ rfl (Ret.mk (by repeat (first | exact Below.refl _ _ | apply below_alloc | apply below_junk | apply below_drew)))
  all_goals first | (simp [results, Try.results33, go_sem, *]; done) | (simp [results, Try.results33, go_sem, *]; omega) | (go_light; simp [results, Try.results33, go_sem, *]; intros; exfalso; omega) | (go_light; simp [results, Try.results33, go_sem, *]; (repeat' split) <;> first | omega | (simp; done) | (simp_all; done)) | (go_light; simp_all [results, Try.results33, go_sem, ]; done) | (go_light; simp_all [results, Try.results33, go_sem, ]; omega)

-- laws.eqFrac
set_option maxHeartbeats 1000000 in
set_option maxRecDepth 100000 in
theorem c_laws_eqFrac (a_num : Int) (a_den : Int) (b_num : Int) (b_den : Int) (w : World)   :
    Calls Try.prog 37 #[.agg #[.int .i64 a_num, .int .i64 a_den], .agg #[.int .i64 b_num, .int .i64 b_den]] w (Ret w (.bool (Pu.eqFrac (⟨a_num, a_den⟩ : Frac) (⟨b_num, b_den⟩ : Frac)))) := by
  go_enter Try.func37, Try.ntmps37
  go_wp2_with (first
    | go_region)
  all_goals refine bodyPost_ret (v := .bool (Pu.eqFrac (⟨a_num, a_den⟩ : Frac) (⟨b_num, b_den⟩ : Frac))) ?_ rfl (Ret.mk (by repeat (first | exact Below.refl _ _ | apply below_alloc | apply below_junk | apply below_drew)))
  all_goals first | (simp [results, Try.results37, go_sem, Pu.eqFrac, *]; done) | (simp [results, Try.results37, go_sem, Pu.eqFrac, *]; omega) | (go_light; simp [results, Try.results37, go_sem, Pu.eqFrac, *]; intros; exfalso; omega) | (go_light; simp [results, Try.results37, go_sem, Pu.eqFrac, *]; (repeat' split) <;> first | omega | (simp; done) | (simp_all; done)) | (go_light; simp_all [results, Try.results37, go_sem, Pu.eqFrac, ]; done) | (go_light; simp_all [results, Try.results37, go_sem, Pu.eqFrac, ]; omega)

-- laws.toLook
set_option maxHeartbeats 1000000 in
set_option maxRecDepth 100000 in
theorem c_laws_toLook (a_known : Bool) (a_now_lo : Int) (a_now_hi : Int) (w : World)   :
    Calls Try.prog 60 #[.agg #[.bool a_known, .int .i64 a_now_lo, .int .i64 a_now_hi]] w (Ret w (.agg #[.bool a_known, .int .i64 a_now_lo, .int .i64 a_now_hi])) := by
  go_enter Try.func60, Try.ntmps60
  go_wp2_with (first
    | (go_at_call 19; refine (c_laws_toIval _ _ _ ).mono ?_; rintro e w' hr; obtain ⟨rfl, g, d, rfl⟩ := Ret.open hr; clear hr)
    | go_region)
  all_goals refine bodyPost_ret (v := .agg #[.bool a_known, .int .i64 a_now_lo, .int .i64 a_now_hi]) ?_ rfl (Ret.mk (by repeat (first | exact Below.refl _ _ | apply below_alloc | apply below_junk | apply below_drew)))
  all_goals first | (simp [results, Try.results60, go_sem, *]; done) | (simp [results, Try.results60, go_sem, *]; omega) | (go_light; simp [results, Try.results60, go_sem, *]; intros; exfalso; omega) | (go_light; simp [results, Try.results60, go_sem, *]; (repeat' split) <;> first | omega | (simp; done) | (simp_all; done)) | (go_light; simp_all [results, Try.results60, go_sem, ]; done) | (go_light; simp_all [results, Try.results60, go_sem, ]; omega)

-- laws.eqLook
set_option maxHeartbeats 1000000 in
set_option maxRecDepth 100000 in
theorem c_laws_eqLook (a_known : Bool) (a_now_lo : Int) (a_now_hi : Int) (b_known : Bool) (b_now_lo : Int) (b_now_hi : Int) (w : World)   :
    Calls Try.prog 63 #[.agg #[.bool a_known, .int .i64 a_now_lo, .int .i64 a_now_hi], .agg #[.bool b_known, .int .i64 b_now_lo, .int .i64 b_now_hi]] w (Ret w (.bool (Pu.eqLook (⟨a_known, ⟨a_now_lo, a_now_hi⟩⟩ : Look) (⟨b_known, ⟨b_now_lo, b_now_hi⟩⟩ : Look)))) := by
  go_enter Try.func63, Try.ntmps63
  go_wp2_with (first
    | (go_at_call 45; refine (c_laws_eqIval _ _ _ _ _ ).mono ?_; rintro e w' hr; obtain ⟨rfl, g, d, rfl⟩ := Ret.open hr; clear hr)
    | go_region)
  all_goals refine bodyPost_ret (v := .bool (Pu.eqLook (⟨a_known, ⟨a_now_lo, a_now_hi⟩⟩ : Look) (⟨b_known, ⟨b_now_lo, b_now_hi⟩⟩ : Look))) ?_ rfl (Ret.mk (by repeat (first | exact Below.refl _ _ | apply below_alloc | apply below_junk | apply below_drew)))
  all_goals first | (simp [results, Try.results63, go_sem, Pu.eqLook, *]; done) | (simp [results, Try.results63, go_sem, Pu.eqLook, *]; omega) | (go_light; simp [results, Try.results63, go_sem, Pu.eqLook, *]; intros; exfalso; omega) | (go_light; simp [results, Try.results63, go_sem, Pu.eqLook, *]; (repeat' split) <;> first | omega | (simp; done) | (simp_all; done)) | (go_light; simp_all [results, Try.results63, go_sem, Pu.eqLook, ]; done) | (go_light; simp_all [results, Try.results63, go_sem, Pu.eqLook, ]; omega)

-- laws.toReading
set_option maxHeartbeats 1000000 in
set_option maxRecDepth 100000 in
theorem c_laws_toReading (a_value : Int) (a_holds : Bool) (a_code : Int) (w : World)   :
    Calls Try.prog 61 #[.agg #[.int .i64 a_value, .bool a_holds, .int .i64 a_code]] w (Ret w (.agg #[.int .i64 a_value, .bool a_holds, .int .i64 a_code])) := by
  go_enter Try.func61, Try.ntmps61
  go_wp2_with (first
    | go_region)
  all_goals refine bodyPost_ret (v := .agg #[.int .i64 a_value, .bool a_holds, .int .i64 a_code]) ?_ rfl (Ret.mk (by repeat (first | exact Below.refl _ _ | apply below_alloc | apply below_junk | apply below_drew)))
  all_goals first | (simp [results, Try.results61, go_sem, *]; done) | (simp [results, Try.results61, go_sem, *]; omega) | (go_light; simp [results, Try.results61, go_sem, *]; intros; exfalso; omega) | (go_light; simp [results, Try.results61, go_sem, *]; (repeat' split) <;> first | omega | (simp; done) | (simp_all; done)) | (go_light; simp_all [results, Try.results61, go_sem, ]; done) | (go_light; simp_all [results, Try.results61, go_sem, ]; omega)

-- laws.eqReading
set_option maxHeartbeats 1000000 in
set_option maxRecDepth 100000 in
theorem c_laws_eqReading (a_value : Int) (a_holds : Bool) (a_code : Int) (b_value : Int) (b_holds : Bool) (b_code : Int) (w : World)   :
    Calls Try.prog 64 #[.agg #[.int .i64 a_value, .bool a_holds, .int .i64 a_code], .agg #[.int .i64 b_value, .bool b_holds, .int .i64 b_code]] w (Ret w (.bool (Pu.eqReading (⟨a_value, a_holds, a_code⟩ : Reading) (⟨b_value, b_holds, b_code⟩ : Reading)))) := by
  go_enter Try.func64, Try.ntmps64
  go_wp2_with (first
    | go_region)
  all_goals refine bodyPost_ret (v := .bool (Pu.eqReading (⟨a_value, a_holds, a_code⟩ : Reading) (⟨b_value, b_holds, b_code⟩ : Reading))) ?_ rfl (Ret.mk (by repeat (first | exact Below.refl _ _ | apply below_alloc | apply below_junk | apply below_drew)))
  all_goals first | (simp [results, Try.results64, go_sem, Pu.eqReading, *]; done) | (simp [results, Try.results64, go_sem, Pu.eqReading, *]; omega) | (go_light; simp [results, Try.results64, go_sem, Pu.eqReading, *]; intros; exfalso; omega) | (go_light; simp [results, Try.results64, go_sem, Pu.eqReading, *]; (repeat' split) <;> first | omega | (simp; done) | (simp_all; done)) | (go_light; simp_all [results, Try.results64, go_sem, Pu.eqReading, ]; done) | (go_light; simp_all [results, Try.results64, go_sem, Pu.eqReading, ]; omega)

end Go.Proofs.Ythgcceochfjfcaa
