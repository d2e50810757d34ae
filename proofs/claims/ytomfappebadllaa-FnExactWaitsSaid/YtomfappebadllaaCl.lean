/-
  Contracts of Go functions of this seat: what each call hands back, as a plain function of its arguments, and that nothing that was there has turned.
  No statement of the seat is proved here.
-/
import Derived.Test.YtomfappebadllaaProg
import Derived.Test.YtomfappebadllaaPure
import Derived.Test.YtomfappebadllaaActs
import Derived.Deep.Light
import Derived.RegionTactic
import Derived.Deep.RegionWith
import Derived.BigRegion
import Derived.ChangeAlike
import Derived.Test.YtomfappebadllaaCa
import Derived.Test.YtomfappebadllaaTypes
namespace Go.Proofs.Ytomfappebadllaa
open Go.RowKit
set_option linter.unusedVariables false
set_option linter.unusedSimpArgs false

-- laws.toAsk
set_option maxHeartbeats 1000000 in
set_option maxRecDepth 100000 in
theorem c_laws_toAsk (a_nonce : Int) (a_dest : Int) (a_pt : Int) (a_tries : Int) (w : World)   :
    Calls Try.prog 45 #[.agg #[.int .i64 a_nonce, .int .i64 a_dest, .int .i64 a_pt, .int .i64 a_tries]] w (Ret w (.agg #[.int .i64 a_nonce, .int .i64 a_dest, .int .i64 a_pt, .int .i64 a_tries])) := by
  go_enter Try.func45, Try.ntmps45
  go_wp2_with (first
    | go_region)
  all_goals refine bodyPost_ret (v := .agg #[.int .i64 a_nonce, .int .i64 a_dest, .int .i64 a_pt, .int .i64 a_tries]) ?_ rfl (Ret.mk (by repeat (first | exact Below.refl _ _ | apply below_alloc | apply below_junk | apply below_drew)))
  all_goals first | (simp [results, Try.results45, go_sem, *]; done) | (simp [results, Try.results45, go_sem, *]; omega) | (go_light; simp [results, Try.results45, go_sem, *]; intros; exfalso; omega) | (go_light; simp [results, Try.results45, go_sem, *]; (repeat' split) <;> first | omega | (simp; done) | (simp_all; done)) | (go_light; simp_all [results, Try.results45, go_sem, ]; done) | (go_light; simp_all [results, Try.results45, go_sem, ]; omega)

-- laws.eqAsk
set_option maxHeartbeats 1000000 in
set_option maxRecDepth 100000 in
theorem c_laws_eqAsk (a_nonce : Int) (a_dest : Int) (a_pt : Int) (a_tries : Int) (b_nonce : Int) (b_dest : Int) (b_pt : Int) (b_tries : Int) (w : World)   :
    Calls Try.prog 43 #[.agg #[.int .i64 a_nonce, .int .i64 a_dest, .int .i64 a_pt, .int .i64 a_tries], .agg #[.int .i64 b_nonce, .int .i64 b_dest, .int .i64 b_pt, .int .i64 b_tries]] w (Ret w (.bool (Pu.eqAsk (⟨a_nonce, a_dest, a_pt, a_tries⟩ : Ask) (⟨b_nonce, b_dest, b_pt, b_tries⟩ : Ask)))) := by
  go_enter Try.func43, Try.ntmps43
  go_wp2_with (first
    | go_region)
  all_goals refine bodyPost_ret (v := .bool (Pu.eqAsk (⟨a_nonce, a_dest, a_pt, a_tries⟩ : Ask) (⟨b_nonce, b_dest, b_pt, b_tries⟩ : Ask))) ?_ rfl (Ret.mk (by repeat (first | exact Below.refl _ _ | apply below_alloc | apply below_junk | apply below_drew)))
  all_goals first | (simp [results, Try.results43, go_sem, Pu.eqAsk, *]; done) | (simp [results, Try.results43, go_sem, Pu.eqAsk, *]; omega) | (go_light; simp [results, Try.results43, go_sem, Pu.eqAsk, *]; intros; exfalso; omega) | (go_light; simp [results, Try.results43, go_sem, Pu.eqAsk, *]; (repeat' split) <;> first | omega | (simp; done) | (simp_all; done)) | (go_light; simp_all [results, Try.results43, go_sem, Pu.eqAsk, ]; done) | (go_light; simp_all [results, Try.results43, go_sem, Pu.eqAsk, ]; omega)

end Go.Proofs.Ytomfappebadllaa
