/-
  The program's RatesMeet returns what the reference's returns, for all arguments.
  For every input: no condition.
-/
import Derived.Test.YthgcceochfjfcaaRows
import Derived.Test.YthgcceochfjfcaaRow
import Derived.Test.YthgcceochfjfcaaCr
namespace Go.Proofs.Ythgcceochfjfcaa.fnExactRatesMeet
open Go.ChangeShapes Go.WideShapes Go.ChangeAt Go.RowKit
set_option linter.unusedVariables false
theorem own : ownKnob Try.prog.godebug = none := by kernel_rfl
set_option maxRecDepth 100000 in
theorem lifted (os : Os) (started : os.Started) (H : Type) (enc : TypeId × Value → H) :
    ReturnsInHanded {} Try.checked os 13 .any (Rows.fnExactRatesMeetSpec.pre6 enc Try.prog Try.f13 Rows.fnExactRatesMeetRow.domain false) (Rows.fnExactRatesMeetSpec.post enc Try.prog Try.f13 false true false false) := by
  refine returnsInHanded_of_change_sized (C := Try.checked) own started (by kernel_rfl) Try.func13
    (ChangeSpec.witness6 (enc := enc) (C := Try.checked) false ⟨#[], #[.agg #[.int .i64 0, .int .i64 0], .agg #[.int .i64 0, .int .i64 0], .agg #[.int .i64 0, .int .i64 0], .agg #[.int .i64 0, .int .i64 0]], []⟩ 8 (by kernel_rfl) (by kernel_rfl) (by kernel_rfl) (by kernel_rfl)) ?_
  intro W base args ds gs before hval0 hW hcnd hsz0 _
  have hval : ∀ (j : Nat) t v, Try.f13.params[j]? = some t → args[j]? = some v → Value.okWide Try.prog W .any base t v := hval0
  have hW' := hW
  obtain ⟨p, q, hA0, hV, rfl, hfz, hnd⟩ := hW
  have hA : DataW.TrodAll enc Try.prog W 0 (fun _ => true) true Try.f13.params.toList args.toList ds p := hA0
  rw [Try.params13] at hA hval
  have hA1 := hA
  obtain ⟨v0, vs0, d0, ds0, p0, q0, hargs, rfl, rfl, h0, r0⟩ := trodAll_cons hA
  obtain ⟨v1, vs1, d1, ds1, p1, q1, rfl, rfl, rfl, h1, r1⟩ := trodAll_cons r0
  obtain ⟨v2, vs2, d2, ds2, p2, q2, rfl, rfl, rfl, h2, r2⟩ := trodAll_cons r1
  obtain ⟨v3, vs3, d3, ds3, p3, q3, rfl, rfl, rfl, h3, r3⟩ := trodAll_cons r2
  obtain ⟨rfl, rfl, rfl⟩ := trodAll_nil r3
  obtain rfl : args = #[v0, v1, v2, v3] := by cases args; simp_all
  obtain ⟨rfl, rfl⟩ := trodVars_none hV
  obtain ⟨_, rfl, x0_0, _, rfl, w0_0, x0_1, _, rfl, w0_1, rfl⟩ := open_flat 5 [.i, .i] Try.underlying51 (by kernel_rfl) (hval 0 51 v0 rfl rfl) h0
  obtain ⟨_, rfl, x1_0, _, rfl, w1_0, x1_1, _, rfl, w1_1, rfl⟩ := open_flat 5 [.i, .i] Try.underlying51 (by kernel_rfl) (hval 1 51 v1 rfl rfl) h1
  obtain ⟨_, rfl, x2_0, _, rfl, w2_0, x2_1, _, rfl, w2_1, rfl⟩ := open_flat 5 [.i, .i] Try.underlying51 (by kernel_rfl) (hval 2 51 v2 rfl rfl) h2
  obtain ⟨_, rfl, x3_0, _, rfl, w3_0, x3_1, _, rfl, w3_1, rfl⟩ := open_flat 5 [.i, .i] Try.underlying51 (by kernel_rfl) (hval 3 51 v3 rfl rfl) h3
  refine (c_laws_FnExactRatesMeet x0_0 x0_1 x1_0 x1_1 x2_0 x2_1 x3_0 x3_1 W).mono fun e W' hr => ?_
  have hr' : e = .returned (.bool true) ∧ Below W.heap.size W W' := hr
  obtain ⟨rfl, bel⟩ := hr'
  exact ⟨_, rfl, _, _, _, [], _, [], hW', trodAll_mk1 (shut_bool Try.underlying4 _), trodAll_below (ts := [51, 51, 51, 51]) (by kernel_rfl) bel (by intro t ht; simp only [List.mem_cons, List.not_mem_nil, or_false] at ht; rcases ht with rfl | rfl | rfl | rfl <;> exact ⟨by kernel_rfl, of_decide_eq_true (by kernel_rfl)⟩) hA1 (fun x hx => hW'.lt x (by first | (exfalso; revert hx; simp; done) | simpa using hx)), rfl, bel.frame _, fun h => by cases h⟩
theorem over : Rows.fnExactRatesMeetRow.holds Try.pinned (OpenSpec.ofChange Rows.fnExactRatesMeetSpec) :=
  OpenClaim.holds_of_wide 13 Try.f13 rfl rfl rfl rfl rfl rfl rfl ⟨rfl, rfl, rfl, rfl, rfl⟩ rfl rfl rfl rfl rfl (by kernel_rfl) Try.func13 (by kernel_rfl)
    (of_decide_eq_true (by kernel_rfl)) (by unfold Func.isWrapper; first | (rw [if_pos (by decide +kernel)]; kernel_rfl) | (rw [if_neg (by decide +kernel)]; exact ⟨rfl, rfl⟩))
    (fun os started H enc _ => lifted os started H enc)
end Go.Proofs.Ythgcceochfjfcaa.fnExactRatesMeet
namespace Go.Proofs.Ythgcceochfjfcaa
theorem fnExactRatesMeet_holds : Rows.FnExactRatesMeetSaid := fnExactRatesMeet.over
#print axioms fnExactRatesMeet_holds
end Go.Proofs.Ythgcceochfjfcaa
