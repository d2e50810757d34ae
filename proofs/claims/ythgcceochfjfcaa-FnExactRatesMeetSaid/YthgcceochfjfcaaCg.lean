/-
  Contracts of Go functions of this seat: what each call hands back, as a plain function of its arguments, and that nothing that was there has turned.
  No statement of the seat is proved here.
-/
import Derived.Test.YthgcceochfjfcaaProg
import Derived.Test.YthgcceochfjfcaaPure
import Derived.Test.YthgcceochfjfcaaActs
import Derived.Deep.Light
import Derived.RegionTactic
import Derived.Deep.RegionWith
import Derived.BigRegion
import Derived.ChangeAlike
import Derived.Test.YthgcceochfjfcaaCa
import Derived.Test.YthgcceochfjfcaaCl
import Derived.Test.YthgcceochfjfcaaCf
import Derived.Test.YthgcceochfjfcaaFracs
namespace Go.Proofs.Ythgcceochfjfcaa
open Go.RowKit
set_option linter.unusedVariables false
set_option linter.unusedSimpArgs false

-- spec.FracOf
set_option maxHeartbeats 1000000 in
set_option maxRecDepth 100000 in
theorem c_spec_FracOf (num : Int) (den : Int) (w : World)  :
    Calls Try.prog 35 #[.int .i64 num, .int .i64 den] w (Ret w (.tuple #[.agg #[.int .i64 (((Pu.FracOf num den).1).num), .int .i64 (((Pu.FracOf num den).1).den)], .bool ((Pu.FracOf num den).2)])) := by
  have hg := Pu.FracOf_facts num den
  obtain ⟨hg1, hg2, hg3⟩ := hg
  have HQ := Lib.hid (Pu.FracOf_quo num den)
  go_enter Try.func35, Try.ntmps35
  go_wp2_with (first
    | (go_at_call 65; refine (c_spec_l11Size _ _ ).mono ?_; rintro e w' hr; (rcases Ret.bool hr with ⟨rfl, hX, g, d, rfl⟩ | ⟨rfl, hX, g, d, rfl⟩ <;> first | (have hB := (Pu.In_iff _ _ _).1 hX; (try dsimp only at hB); obtain ⟨hB1, hB2⟩ := hB; clear hr) | (have hB := Pu.no_of (Pu.In_iff _ _ _) hX; (try dsimp only at hB); clear hr) | clear hr))
    | (go_at_call 66; refine (c_spec_l11Gcd _ _ _ (by omega) (by omega) (by omega) (by omega)).mono ?_; rintro e w' hr; obtain ⟨rfl, g, d, rfl⟩ := Ret.open hr; clear hr)
    | go_region)
  all_goals refine bodyPost_ret (v := .tuple #[.agg #[.int .i64 (((Pu.FracOf num den).1).num), .int .i64 (((Pu.FracOf num den).1).den)], .bool ((Pu.FracOf num den).2)]) ?_ rfl (Ret.mk (by repeat (first | exact Below.refl _ _ | apply below_alloc | apply below_junk | apply below_drew)))
  all_goals (have q := HQ.out; obtain ⟨q1, q2, q3, q4, q5, q6⟩ := q; rw [q1] at hg2; rw [q2] at hg3; (try have hn : ¬ den < 0 := by omega); (try have hw0 : wrap64 ((num / (Int.gcd num den : Int))) = (num / (Int.gcd num den : Int)) := IntWalk.wrap64_in _ (by omega)); (try have hw1 : wrap64 (-(num / (Int.gcd num den : Int))) = -(num / (Int.gcd num den : Int)) := IntWalk.wrap64_in _ (by omega)); (try have hw2 : wrap64 ((den / (Int.gcd num den : Int))) = (den / (Int.gcd num den : Int)) := IntWalk.wrap64_in _ (by omega)); (try have hw3 : wrap64 (-(den / (Int.gcd num den : Int))) = -(den / (Int.gcd num den : Int)) := IntWalk.wrap64_in _ (by omega)); clear hg1 hg2 hg3; simp [results, Try.results35, go_sem, Pu.FracOf, *])

-- impl.FracOf
set_option maxHeartbeats 1000000 in
set_option maxRecDepth 100000 in
theorem c_impl_FracOf (num : Int) (den : Int) (w : World)  :
    Calls Try.prog 36 #[.int .i64 num, .int .i64 den] w (Ret w (.tuple #[.agg #[.int .i64 (((Pu.FracOf num den).1).num), .int .i64 (((Pu.FracOf num den).1).den)], .bool ((Pu.FracOf num den).2)])) := by
  have hg := Pu.FracOf_facts num den
  obtain ⟨hg1, hg2, hg3⟩ := hg
  have HQ := Lib.hid (Pu.FracOf_quo num den)
  go_enter Try.func36, Try.ntmps36
  go_wp2_with (first
    | (go_at_call 53; refine (c_impl_in _ _ _ _ ).mono ?_; rintro e w' hr; (rcases Ret.bool hr with ⟨rfl, hX, g, d, rfl⟩ | ⟨rfl, hX, g, d, rfl⟩ <;> first | (have hB := (Pu.In_iff _ _ _).1 hX; (try dsimp only at hB); obtain ⟨hB1, hB2⟩ := hB; clear hr) | (have hB := Pu.no_of (Pu.In_iff _ _ _) hX; (try dsimp only at hB); clear hr) | clear hr))
    | (go_at_call 67; refine (c_impl_gcd _ _ _ (by omega) (by omega) (by omega) (by omega)).mono ?_; rintro e w' hr; obtain ⟨rfl, g, d, rfl⟩ := Ret.open hr; clear hr)
    | (go_at_call 68; refine (c_impl_size _ _ (by omega) (by omega)).mono ?_; rintro e w' hr; obtain ⟨rfl, g, d, rfl⟩ := Ret.open hr; clear hr)
    | go_region)
  all_goals refine bodyPost_ret (v := .tuple #[.agg #[.int .i64 (((Pu.FracOf num den).1).num), .int .i64 (((Pu.FracOf num den).1).den)], .bool ((Pu.FracOf num den).2)]) ?_ rfl (Ret.mk (by repeat (first | exact Below.refl _ _ | apply below_alloc | apply below_junk | apply below_drew)))
  all_goals (have q := HQ.out; obtain ⟨q1, q2, q3, q4, q5, q6⟩ := q; rw [q1] at hg2; rw [q2] at hg3; (try have hn : ¬ den < 0 := by omega); (try have hw0 : wrap64 ((num / (Int.gcd num den : Int))) = (num / (Int.gcd num den : Int)) := IntWalk.wrap64_in _ (by omega)); (try have hw1 : wrap64 (-(num / (Int.gcd num den : Int))) = -(num / (Int.gcd num den : Int)) := IntWalk.wrap64_in _ (by omega)); (try have hw2 : wrap64 ((den / (Int.gcd num den : Int))) = (den / (Int.gcd num den : Int)) := IntWalk.wrap64_in _ (by omega)); (try have hw3 : wrap64 (-(den / (Int.gcd num den : Int))) = -(den / (Int.gcd num den : Int)) := IntWalk.wrap64_in _ (by omega)); clear hg1 hg2 hg3; simp [results, Try.results36, go_sem, Pu.FracOf, *])

-- laws.FnExactFracOf
set_option maxHeartbeats 1000000 in
set_option maxRecDepth 100000 in
theorem c_laws_FnExactFracOf (num : Int) (den : Int) (w : World)  :
    Calls Try.prog 8 #[.int .i64 num, .int .i64 den] w (Ret w (.bool true)) := by
  go_enter Try.func8, Try.ntmps8
  go_wp2_with (first
    | (go_at_call 35; refine (c_spec_FracOf _ _ _ ).mono ?_; rintro e w' hr; obtain ⟨rfl, g, d, rfl⟩ := Ret.open hr; clear hr)
    | (go_at_call 36; refine (c_impl_FracOf _ _ _ ).mono ?_; rintro e w' hr; obtain ⟨rfl, g, d, rfl⟩ := Ret.open hr; clear hr)
    | (go_at_call 37; refine (c_laws_eqFrac _ _ _ _ _ ).mono ?_; rintro e w' hr; obtain ⟨rfl, g, d, rfl⟩ := Ret.open hr; clear hr)
    | go_region)
  all_goals refine bodyPost_ret (v := .bool true) ?_ rfl (Ret.mk (by repeat (first | exact Below.refl _ _ | apply below_alloc | apply below_junk | apply below_drew)))
  all_goals first | (simp [results, Try.results8, go_sem, *]; done) | (simp [results, Try.results8, go_sem, *]; omega) | (go_light; simp [results, Try.results8, go_sem, *]; intros; exfalso; omega) | (go_light; simp [results, Try.results8, go_sem, *]; (repeat' split) <;> first | omega | (simp; done) | (simp_all; done)) | (go_light; simp_all [results, Try.results8, go_sem, ]; done) | (go_light; simp_all [results, Try.results8, go_sem, ]; omega)

end Go.Proofs.Ythgcceochfjfcaa
