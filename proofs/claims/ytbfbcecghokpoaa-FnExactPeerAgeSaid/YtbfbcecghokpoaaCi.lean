/-
  Contracts of Go functions of this seat: what each call hands back, as a plain function of its arguments, and that nothing that was there has turned.
  No statement of the seat is proved here.
-/
import Derived.Test.YtbfbcecghokpoaaProg
import Derived.Test.YtbfbcecghokpoaaPure
import Derived.Test.YtbfbcecghokpoaaActs
import Derived.Deep.Light
import Derived.RegionTactic
import Derived.Deep.RegionWith
import Derived.BigRegion
import Derived.ChangeAlike
import Derived.Test.YtbfbcecghokpoaaCa
import Derived.Test.YtbfbcecghokpoaaCl
import Derived.Test.YtbfbcecghokpoaaFracs
namespace Go.Proofs.Ytbfbcecghokpoaa
open Go.RowKit
set_option linter.unusedVariables false
set_option linter.unusedSimpArgs false

-- cmp.isNaN[int]
set_option maxHeartbeats 1000000 in
set_option maxRecDepth 100000 in
theorem c_cmp_isNaN_int (x : Int) (w : World)   :
    Calls Try.prog 107 #[.int .i64 x] w (Ret w (.bool false)) := by
  go_enter Try.func107, Try.ntmps107
  go_wp2_with (first
    | go_region)
  all_goals refine bodyPost_ret (v := .bool false) ?_ rfl (Ret.mk (by repeat (first | exact Below.refl _ _ | apply below_alloc | apply below_junk | apply below_drew)))
  all_goals first | (simp [results, Try.results107, go_sem, *]; done) | (simp [results, Try.results107, go_sem, *]; omega) | (go_light; simp [results, Try.results107, go_sem, *]; intros; exfalso; omega) | (go_light; simp [results, Try.results107, go_sem, *]; (repeat' split) <;> first | omega | (simp; done) | (simp_all; done)) | (go_light; simp_all [results, Try.results107, go_sem, ]; done) | (go_light; simp_all [results, Try.results107, go_sem, ]; omega)

-- cmp.Compare[int]
set_option maxHeartbeats 1000000 in
set_option maxRecDepth 100000 in
theorem c_cmp_Compare_int (x : Int) (y : Int) (w : World)   :
    Calls Try.prog 88 #[.int .i64 x, .int .i64 y] w (Ret w (.int .i64 (Pu.Cmp x y))) := by
  go_enter Try.func88, Try.ntmps88
  go_wp2_with (first
    | (go_at_call 107; refine (c_cmp_isNaN_int _ _ ).mono ?_; rintro e w' hr; obtain ⟨rfl, g, d, rfl⟩ := Ret.open hr; clear hr)
    | go_region)
  all_goals refine bodyPost_ret (v := .int .i64 (Pu.Cmp x y)) ?_ rfl (Ret.mk (by repeat (first | exact Below.refl _ _ | apply below_alloc | apply below_junk | apply below_drew)))
  all_goals first | (simp [results, Try.results88, go_sem, Pu.Cmp, *]; done) | (simp [results, Try.results88, go_sem, Pu.Cmp, *]; omega) | (go_light; simp [results, Try.results88, go_sem, Pu.Cmp, *]; intros; exfalso; omega) | (go_light; simp [results, Try.results88, go_sem, Pu.Cmp, *]; (repeat' split) <;> first | omega | (simp; done) | (simp_all; done)) | (go_light; simp_all [results, Try.results88, go_sem, Pu.Cmp, ]; done) | (go_light; simp_all [results, Try.results88, go_sem, Pu.Cmp, ]; omega)

end Go.Proofs.Ytbfbcecghokpoaa
