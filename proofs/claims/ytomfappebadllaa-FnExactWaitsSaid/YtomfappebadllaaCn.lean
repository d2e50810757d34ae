/-
  Contracts of Go functions of this seat: what each call hands back, as a plain function of its arguments, and that nothing that was there has turned.
  No statement of the seat is proved here.
-/
import Derived.Test.YtomfappebadllaaProg
import Derived.Test.YtomfappebadllaaPure
import Derived.Test.YtomfappebadllaaActs
import Derived.Deep.Light
import Derived.RegionTactic
import Derived.Deep.RegionWith
import Derived.BigRegion
import Derived.ChangeAlike
import Derived.Test.YtomfappebadllaaCa
import Derived.Test.YtomfappebadllaaCl
namespace Go.Proofs.Ytomfappebadllaa
open Go.RowKit
set_option linter.unusedVariables false
set_option linter.unusedSimpArgs false

-- spec.NonceOf
set_option maxHeartbeats 1000000 in
set_option maxRecDepth 100000 in
theorem c_spec_NonceOf (e : Int) (k : Int) (w : World)   :
    Calls Try.prog 10 #[.int .i64 e, .int .i64 k] w (Ret w (.tuple #[.int .i64 ((Pu.NonceOf e k).1), .bool ((Pu.NonceOf e k).2)])) := by
  go_enter Try.func10, Try.ntmps10
  go_wp2_with (first
    | (go_at_call 32; refine (c_spec_l1In _ _ _ _ ).mono ?_; rintro e w' hr; (rcases Ret.bool hr with ⟨rfl, hX, g, d, rfl⟩ | ⟨rfl, hX, g, d, rfl⟩ <;> first | (have hB := (Pu.In_iff _ _ _).1 hX; (try dsimp only at hB); obtain ⟨hB1, hB2⟩ := hB; clear hr) | (have hB := Pu.no_of (Pu.In_iff _ _ _) hX; (try dsimp only at hB); clear hr) | clear hr))
    | go_region)
  all_goals refine bodyPost_ret (v := .tuple #[.int .i64 ((Pu.NonceOf e k).1), .bool ((Pu.NonceOf e k).2)]) ?_ rfl (Ret.mk (by repeat (first | exact Below.refl _ _ | apply below_alloc | apply below_junk | apply below_drew)))
  all_goals first | (simp [results, Try.results10, go_sem, Pu.NonceOf, *]; done) | (simp [results, Try.results10, go_sem, Pu.NonceOf, *]; omega) | (go_light; simp [results, Try.results10, go_sem, Pu.NonceOf, *]; intros; exfalso; omega) | (go_light; simp [results, Try.results10, go_sem, Pu.NonceOf, *]; (repeat' split) <;> first | omega | (simp; done) | (simp_all; done)) | (go_light; simp_all [results, Try.results10, go_sem, Pu.NonceOf, ]; done) | (go_light; simp_all [results, Try.results10, go_sem, Pu.NonceOf, ]; omega)

-- impl.NonceOf
set_option maxHeartbeats 1000000 in
set_option maxRecDepth 100000 in
theorem c_impl_NonceOf (e : Int) (k : Int) (w : World)   :
    Calls Try.prog 11 #[.int .i64 e, .int .i64 k] w (Ret w (.tuple #[.int .i64 ((Pu.NonceOf e k).1), .bool ((Pu.NonceOf e k).2)])) := by
  go_enter Try.func11, Try.ntmps11
  go_wp2_with (first
    | (go_at_call 33; refine (c_impl_in _ _ _ _ ).mono ?_; rintro e w' hr; (rcases Ret.bool hr with ⟨rfl, hX, g, d, rfl⟩ | ⟨rfl, hX, g, d, rfl⟩ <;> first | (have hB := (Pu.In_iff _ _ _).1 hX; (try dsimp only at hB); obtain ⟨hB1, hB2⟩ := hB; clear hr) | (have hB := Pu.no_of (Pu.In_iff _ _ _) hX; (try dsimp only at hB); clear hr) | clear hr))
    | go_region)
  all_goals refine bodyPost_ret (v := .tuple #[.int .i64 ((Pu.NonceOf e k).1), .bool ((Pu.NonceOf e k).2)]) ?_ rfl (Ret.mk (by repeat (first | exact Below.refl _ _ | apply below_alloc | apply below_junk | apply below_drew)))
  all_goals first | (simp [results, Try.results11, go_sem, Pu.NonceOf, *]; done) | (simp [results, Try.results11, go_sem, Pu.NonceOf, *]; omega) | (go_light; simp [results, Try.results11, go_sem, Pu.NonceOf, *]; intros; exfalso; omega) | (go_light; simp [results, Try.results11, go_sem, Pu.NonceOf, *]; (repeat' split) <;> first | omega | (simp; done) | (simp_all; done)) | (go_light; simp_all [results, Try.results11, go_sem, Pu.NonceOf, ]; done) | (go_light; simp_all [results, Try.results11, go_sem, Pu.NonceOf, ]; omega)

-- spec.NonceParts
set_option maxHeartbeats 1000000 in
set_option maxRecDepth 100000 in
theorem c_spec_NonceParts (n : Int) (w : World)   :
    Calls Try.prog 12 #[.int .i64 n] w (Ret w (.tuple #[.int .i64 ((Pu.NonceParts n).1), .int .i64 ((Pu.NonceParts n).2.1), .bool ((Pu.NonceParts n).2.2)])) := by
  go_enter Try.func12, Try.ntmps12
  go_wp2_with (first
    | (go_at_call 32; refine (c_spec_l1In _ _ _ _ ).mono ?_; rintro e w' hr; (rcases Ret.bool hr with ⟨rfl, hX, g, d, rfl⟩ | ⟨rfl, hX, g, d, rfl⟩ <;> first | (have hB := (Pu.In_iff _ _ _).1 hX; (try dsimp only at hB); obtain ⟨hB1, hB2⟩ := hB; clear hr) | (have hB := Pu.no_of (Pu.In_iff _ _ _) hX; (try dsimp only at hB); clear hr) | clear hr))
    | go_region)
  all_goals refine bodyPost_ret (v := .tuple #[.int .i64 ((Pu.NonceParts n).1), .int .i64 ((Pu.NonceParts n).2.1), .bool ((Pu.NonceParts n).2.2)]) ?_ rfl (Ret.mk (by repeat (first | exact Below.refl _ _ | apply below_alloc | apply below_junk | apply below_drew)))
  all_goals first | (simp [results, Try.results12, go_sem, Pu.NonceParts, *]; done) | (simp [results, Try.results12, go_sem, Pu.NonceParts, *]; omega) | (go_light; simp [results, Try.results12, go_sem, Pu.NonceParts, *]; intros; exfalso; omega) | (go_light; simp [results, Try.results12, go_sem, Pu.NonceParts, *]; (repeat' split) <;> first | omega | (simp; done) | (simp_all; done)) | (go_light; simp_all [results, Try.results12, go_sem, Pu.NonceParts, ]; done) | (go_light; simp_all [results, Try.results12, go_sem, Pu.NonceParts, ]; omega)

-- impl.NonceParts
set_option maxHeartbeats 1000000 in
set_option maxRecDepth 100000 in
theorem c_impl_NonceParts (n : Int) (w : World)   :
    Calls Try.prog 13 #[.int .i64 n] w (Ret w (.tuple #[.int .i64 ((Pu.NonceParts n).1), .int .i64 ((Pu.NonceParts n).2.1), .bool ((Pu.NonceParts n).2.2)])) := by
  go_enter Try.func13, Try.ntmps13
  go_wp2_with (first
    | (go_at_call 33; refine (c_impl_in _ _ _ _ ).mono ?_; rintro e w' hr; (rcases Ret.bool hr with ⟨rfl, hX, g, d, rfl⟩ | ⟨rfl, hX, g, d, rfl⟩ <;> first | (have hB := (Pu.In_iff _ _ _).1 hX; (try dsimp only at hB); obtain ⟨hB1, hB2⟩ := hB; clear hr) | (have hB := Pu.no_of (Pu.In_iff _ _ _) hX; (try dsimp only at hB); clear hr) | clear hr))
    | go_region)
  all_goals refine bodyPost_ret (v := .tuple #[.int .i64 ((Pu.NonceParts n).1), .int .i64 ((Pu.NonceParts n).2.1), .bool ((Pu.NonceParts n).2.2)]) ?_ rfl (Ret.mk (by repeat (first | exact Below.refl _ _ | apply below_alloc | apply below_junk | apply below_drew)))
  all_goals first | (simp [results, Try.results13, go_sem, Pu.NonceParts, *]; done) | (simp [results, Try.results13, go_sem, Pu.NonceParts, *]; omega) | (go_light; simp [results, Try.results13, go_sem, Pu.NonceParts, *]; intros; exfalso; omega) | (go_light; simp [results, Try.results13, go_sem, Pu.NonceParts, *]; (repeat' split) <;> first | omega | (simp; done) | (simp_all; done)) | (go_light; simp_all [results, Try.results13, go_sem, Pu.NonceParts, ]; done) | (go_light; simp_all [results, Try.results13, go_sem, Pu.NonceParts, ]; omega)

-- laws.FnExactNonceOf
set_option maxHeartbeats 1000000 in
set_option maxRecDepth 100000 in
theorem c_laws_FnExactNonceOf (e : Int) (k : Int) (w : World)   :
    Calls Try.prog 3 #[.int .i64 e, .int .i64 k] w (Ret w (.bool true)) := by
  go_enter Try.func3, Try.ntmps3
  go_wp2_with (first
    | (go_at_call 10; refine (c_spec_NonceOf _ _ _ ).mono ?_; rintro e w' hr; obtain ⟨rfl, g, d, rfl⟩ := Ret.open hr; clear hr)
    | (go_at_call 11; refine (c_impl_NonceOf _ _ _ ).mono ?_; rintro e w' hr; obtain ⟨rfl, g, d, rfl⟩ := Ret.open hr; clear hr)
    | go_region)
  all_goals refine bodyPost_ret (v := .bool true) ?_ rfl (Ret.mk (by repeat (first | exact Below.refl _ _ | apply below_alloc | apply below_junk | apply below_drew)))
  all_goals first | (simp [results, Try.results3, go_sem, *]; done) | (simp [results, Try.results3, go_sem, *]; omega) | (go_light; simp [results, Try.results3, go_sem, *]; intros; exfalso; omega) | (go_light; simp [results, Try.results3, go_sem, *]; (repeat' split) <;> first | omega | (simp; done) | (simp_all; done)) | (go_light; simp_all [results, Try.results3, go_sem, ]; done) | (go_light; simp_all [results, Try.results3, go_sem, ]; omega)

-- laws.FnExactNonceParts
set_option maxHeartbeats 1000000 in
set_option maxRecDepth 100000 in
theorem c_laws_FnExactNonceParts (n : Int) (w : World)   :
    Calls Try.prog 4 #[.int .i64 n] w (Ret w (.bool true)) := by
  go_enter Try.func4, Try.ntmps4
  go_wp2_with (first
    | (go_at_call 12; refine (c_spec_NonceParts _ _ ).mono ?_; rintro e w' hr; obtain ⟨rfl, g, d, rfl⟩ := Ret.open hr; clear hr)
    | (go_at_call 13; refine (c_impl_NonceParts _ _ ).mono ?_; rintro e w' hr; obtain ⟨rfl, g, d, rfl⟩ := Ret.open hr; clear hr)
    | go_region)
  all_goals refine bodyPost_ret (v := .bool true) ?_ rfl (Ret.mk (by repeat (first | exact Below.refl _ _ | apply below_alloc | apply below_junk | apply below_drew)))
  all_goals first | (simp [results, Try.results4, go_sem, *]; done) | (simp [results, Try.results4, go_sem, *]; omega) | (go_light; simp [results, Try.results4, go_sem, *]; intros; exfalso; omega) | (go_light; simp [results, Try.results4, go_sem, *]; (repeat' split) <;> first | omega | (simp; done) | (simp_all; done)) | (go_light; simp_all [results, Try.results4, go_sem, ]; done) | (go_light; simp_all [results, Try.results4, go_sem, ]; omega)

end Go.Proofs.Ytomfappebadllaa
