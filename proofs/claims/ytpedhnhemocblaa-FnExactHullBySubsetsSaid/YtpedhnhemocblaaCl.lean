/-
  Contracts of Go functions of this seat: what each call hands back, as a plain function of its arguments, and that nothing that was there has turned.
  No statement of the seat is proved here.
-/
import Derived.Test.YtpedhnhemocblaaProg
import Derived.Test.YtpedhnhemocblaaPure
import Derived.Test.YtpedhnhemocblaaActs
import Derived.Deep.Light
import Derived.RegionTactic
import Derived.Deep.RegionWith
import Derived.BigRegion
import Derived.ChangeAlike
import Derived.Test.YtpedhnhemocblaaCa
namespace Go.Proofs.Ytpedhnhemocblaa
open Go.RowKit
set_option linter.unusedVariables false
set_option linter.unusedSimpArgs false

-- laws.toIval
set_option maxHeartbeats 1000000 in
set_option maxRecDepth 100000 in
theorem c_laws_toIval (a_lo : Int) (a_hi : Int) (w : World)   :
    Calls Try.prog 23 #[.agg #[.int .i64 a_lo, .int .i64 a_hi]] w (Ret w (.agg #[.int .i64 a_lo, .int .i64 a_hi])) := by
  go_enter Try.func23, Try.ntmps23
  go_wp2_with (first
    | go_region)
  all_goals refine bodyPost_ret (v := .agg #[.int .i64 a_lo, .int .i64 a_hi]) ?_ rfl (Ret.mk (by repeat (first | exact Below.refl _ _ | apply below_alloc | apply below_junk | apply below_drew)))
  all_goals first | (simp [results, Try.results23, go_sem, *]; done) | (simp [results, Try.results23, go_sem, *]; omega) | (go_light; simp [results, Try.results23, go_sem, *]; intros; exfalso; omega) | (go_light; simp [results, Try.results23, go_sem, *]; (repeat' split) <;> first | omega | (simp; done) | (simp_all; done)) | (go_light; simp_all [results, Try.results23, go_sem, ]; done) | (go_light; simp_all [results, Try.results23, go_sem, ]; omega)

-- laws.eqIval
set_option maxHeartbeats 1000000 in
set_option maxRecDepth 100000 in
theorem c_laws_eqIval (a_lo : Int) (a_hi : Int) (b_lo : Int) (b_hi : Int) (w : World)   :
    Calls Try.prog 31 #[.agg #[.int .i64 a_lo, .int .i64 a_hi], .agg #[.int .i64 b_lo, .int .i64 b_hi]] w (Ret w (.bool (Pu.eqIval (⟨a_lo, a_hi⟩ : Ival) (⟨b_lo, b_hi⟩ : Ival)))) := by
  go_enter Try.func31, Try.ntmps31
  go_wp2_with (first
    | go_region)
  all_goals refine bodyPost_ret (v := .bool (Pu.eqIval (⟨a_lo, a_hi⟩ : Ival) (⟨b_lo, b_hi⟩ : Ival))) ?_ rfl (Ret.mk (by repeat (first | exact Below.refl _ _ | apply below_alloc | apply below_junk | apply below_drew)))
  all_goals first | (simp [results, Try.results31, go_sem, Pu.eqIval, *]; done) | (simp [results, Try.results31, go_sem, Pu.eqIval, *]; omega) | (go_light; simp [results, Try.results31, go_sem, Pu.eqIval, *]; intros; exfalso; omega) | (go_light; simp [results, Try.results31, go_sem, Pu.eqIval, *]; (repeat' split) <;> first | omega | (simp; done) | (simp_all; done)) | (go_light; simp_all [results, Try.results31, go_sem, Pu.eqIval, ]; done) | (go_light; simp_all [results, Try.results31, go_sem, Pu.eqIval, ]; omega)

end Go.Proofs.Ytpedhnhemocblaa
