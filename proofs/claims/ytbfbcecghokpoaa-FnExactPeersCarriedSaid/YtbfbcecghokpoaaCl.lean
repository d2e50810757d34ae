/-
  Contracts of Go functions of this seat: what each call hands back, as a plain function of its arguments, and that nothing that was there has turned.
  No statement of the seat is proved here.
-/
import Derived.Test.YtbfbcecghokpoaaProg
import Derived.Test.YtbfbcecghokpoaaPure
import Derived.Test.YtbfbcecghokpoaaActs
import Derived.Deep.Light
import Derived.RegionTactic
import Derived.Deep.RegionWith
import Derived.BigRegion
import Derived.ChangeAlike
import Derived.Test.YtbfbcecghokpoaaCa
import Derived.Test.YtbfbcecghokpoaaTypes
namespace Go.Proofs.Ytbfbcecghokpoaa
open Go.RowKit
set_option linter.unusedVariables false
set_option linter.unusedSimpArgs false

-- laws.toIval
set_option maxHeartbeats 1000000 in
set_option maxRecDepth 100000 in
theorem c_laws_toIval (a_lo : Int) (a_hi : Int) (w : World)   :
    Calls Try.prog 33 #[.agg #[.int .i64 a_lo, .int .i64 a_hi]] w (Ret w (.agg #[.int .i64 a_lo, .int .i64 a_hi])) := by
  go_enter Try.func33, Try.ntmps33
  go_wp2_with (first
    | go_region)
  all_goals refine bodyPost_ret (v := .agg #[.int .i64 a_lo, .int .i64 a_hi]) ?_ rfl (Ret.mk (by repeat (first | exact Below.refl _ _ | apply below_alloc | apply below_junk | apply below_drew)))
  all_goals first | (simp [results, Try.results33, go_sem, *]; done) | (simp [results, Try.results33, go_sem, *]; omega) | (go_light; simp [results, Try.results33, go_sem, *]; intros; exfalso; omega) | (go_light; simp [results, Try.results33, go_sem, *]; (repeat' split) <;> first | omega | (simp; done) | (simp_all; done)) | (go_light; simp_all [results, Try.results33, go_sem, ]; done) | (go_light; simp_all [results, Try.results33, go_sem, ]; omega)

-- laws.eqIval
set_option maxHeartbeats 1000000 in
set_option maxRecDepth 100000 in
theorem c_laws_eqIval (a_lo : Int) (a_hi : Int) (b_lo : Int) (b_hi : Int) (w : World)   :
    Calls Try.prog 70 #[.agg #[.int .i64 a_lo, .int .i64 a_hi], .agg #[.int .i64 b_lo, .int .i64 b_hi]] w (Ret w (.bool (Pu.eqIval (⟨a_lo, a_hi⟩ : Ival) (⟨b_lo, b_hi⟩ : Ival)))) := by
  go_enter Try.func70, Try.ntmps70
  go_wp2_with (first
    | go_region)
  all_goals refine bodyPost_ret (v := .bool (Pu.eqIval (⟨a_lo, a_hi⟩ : Ival) (⟨b_lo, b_hi⟩ : Ival))) ?_ rfl (Ret.mk (by repeat (first | exact Below.refl _ _ | apply below_alloc | apply below_junk | apply below_drew)))
  all_goals first | (simp [results, Try.results70, go_sem, Pu.eqIval, *]; done) | (simp [results, Try.results70, go_sem, Pu.eqIval, *]; omega) | (go_light; simp [results, Try.results70, go_sem, Pu.eqIval, *]; intros; exfalso; omega) | (go_light; simp [results, Try.results70, go_sem, Pu.eqIval, *]; (repeat' split) <;> first | omega | (simp; done) | (simp_all; done)) | (go_light; simp_all [results, Try.results70, go_sem, Pu.eqIval, ]; done) | (go_light; simp_all [results, Try.results70, go_sem, Pu.eqIval, ]; omega)

-- laws.toDrift
set_option maxHeartbeats 1000000 in
set_option maxRecDepth 100000 in
theorem c_laws_toDrift (a_num : Int) (a_den : Int) (w : World)   :
    Calls Try.prog 36 #[.agg #[.int .i64 a_num, .int .i64 a_den]] w (Ret w (.agg #[.int .i64 a_num, .int .i64 a_den])) := by
  go_enter Try.func36, Try.ntmps36
  go_wp2_with (first
    | go_region)
  all_goals refine bodyPost_ret (v := .agg #[.int .i64 a_num, .int .i64 a_den]) ?_ rfl (Ret.mk (by repeat (first | exact Below.refl _ _ | apply below_alloc | apply below_junk | apply below_drew)))
  all_goals first | (simp [results, Try.results36, go_sem, *]; done) | (simp [results, Try.results36, go_sem, *]; omega) | (go_light; simp [results, Try.results36, go_sem, *]; intros; exfalso; omega) | (go_light; simp [results, Try.results36, go_sem, *]; (repeat' split) <;> first | omega | (simp; done) | (simp_all; done)) | (go_light; simp_all [results, Try.results36, go_sem, ]; done) | (go_light; simp_all [results, Try.results36, go_sem, ]; omega)

-- laws.toPeer
set_option maxHeartbeats 1000000 in
set_option maxRecDepth 100000 in
theorem c_laws_toPeer (a_id : Int) (a_bound_lo : Int) (a_bound_hi : Int) (a_pt : Int) (a_suspect : Bool) (w : World)   :
    Calls Try.prog 54 #[.agg #[.int .i64 a_id, .int .i64 a_bound_lo, .int .i64 a_bound_hi, .int .i64 a_pt, .bool a_suspect]] w (Ret w (.agg #[.int .i64 a_id, .int .i64 a_bound_lo, .int .i64 a_bound_hi, .int .i64 a_pt, .bool a_suspect])) := by
  go_enter Try.func54, Try.ntmps54
  go_wp2_with (first
    | (go_at_call 33; refine (c_laws_toIval _ _ _ ).mono ?_; rintro e w' hr; obtain ⟨rfl, g, d, rfl⟩ := Ret.open hr; clear hr)
    | go_region)
  all_goals refine bodyPost_ret (v := .agg #[.int .i64 a_id, .int .i64 a_bound_lo, .int .i64 a_bound_hi, .int .i64 a_pt, .bool a_suspect]) ?_ rfl (Ret.mk (by repeat (first | exact Below.refl _ _ | apply below_alloc | apply below_junk | apply below_drew)))
  all_goals first | (simp [results, Try.results54, go_sem, *]; done) | (simp [results, Try.results54, go_sem, *]; omega) | (go_light; simp [results, Try.results54, go_sem, *]; intros; exfalso; omega) | (go_light; simp [results, Try.results54, go_sem, *]; (repeat' split) <;> first | omega | (simp; done) | (simp_all; done)) | (go_light; simp_all [results, Try.results54, go_sem, ]; done) | (go_light; simp_all [results, Try.results54, go_sem, ]; omega)

-- laws.eqPeer
set_option maxHeartbeats 1000000 in
set_option maxRecDepth 100000 in
theorem c_laws_eqPeer (a_id : Int) (a_bound_lo : Int) (a_bound_hi : Int) (a_pt : Int) (a_suspect : Bool) (b_id : Int) (b_bound_lo : Int) (b_bound_hi : Int) (b_pt : Int) (b_suspect : Bool) (w : World)   :
    Calls Try.prog 58 #[.agg #[.int .i64 a_id, .int .i64 a_bound_lo, .int .i64 a_bound_hi, .int .i64 a_pt, .bool a_suspect], .agg #[.int .i64 b_id, .int .i64 b_bound_lo, .int .i64 b_bound_hi, .int .i64 b_pt, .bool b_suspect]] w (Ret w (.bool (Pu.eqPeer (⟨a_id, ⟨a_bound_lo, a_bound_hi⟩, a_pt, a_suspect⟩ : Peer) (⟨b_id, ⟨b_bound_lo, b_bound_hi⟩, b_pt, b_suspect⟩ : Peer)))) := by
  go_enter Try.func58, Try.ntmps58
  go_wp2_with (first
    | (go_at_call 70; refine (c_laws_eqIval _ _ _ _ _ ).mono ?_; rintro e w' hr; obtain ⟨rfl, g, d, rfl⟩ := Ret.open hr; clear hr)
    | go_region)
  all_goals refine bodyPost_ret (v := .bool (Pu.eqPeer (⟨a_id, ⟨a_bound_lo, a_bound_hi⟩, a_pt, a_suspect⟩ : Peer) (⟨b_id, ⟨b_bound_lo, b_bound_hi⟩, b_pt, b_suspect⟩ : Peer))) ?_ rfl (Ret.mk (by repeat (first | exact Below.refl _ _ | apply below_alloc | apply below_junk | apply below_drew)))
  all_goals first | (simp [results, Try.results58, go_sem, Pu.eqPeer, *]; done) | (simp [results, Try.results58, go_sem, Pu.eqPeer, *]; omega) | (go_light; simp [results, Try.results58, go_sem, Pu.eqPeer, *]; intros; exfalso; omega) | (go_light; simp [results, Try.results58, go_sem, Pu.eqPeer, *]; (repeat' split) <;> first | omega | (simp; done) | (simp_all; done)) | (go_light; simp_all [results, Try.results58, go_sem, Pu.eqPeer, ]; done) | (go_light; simp_all [results, Try.results58, go_sem, Pu.eqPeer, ]; omega)

end Go.Proofs.Ytbfbcecghokpoaa
