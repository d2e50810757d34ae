/-
  The program's Narrow returns what the reference's returns, for all arguments.
  For every input: no condition.
-/
import Derived.Test.YtcbeajdkockhaaaRows
import Derived.Test.YtcbeajdkockhaaaRow
import Derived.Test.YtcbeajdkockhaaaNb
namespace Go.Proofs.Ytcbeajdkockhaaa.fnExactNarrow
open Go.ChangeShapes Go.WideShapes Go.ChangeAt Go.RowKit
set_option linter.unusedVariables false
theorem own : ownKnob Try.prog.godebug = none := by kernel_rfl
set_option maxRecDepth 100000 in
theorem lifted (os : Os) (started : os.Started) (H : Type) (enc : TypeId × Value → H) :
    ReturnsInHanded {} Try.checked os 12 .any (Rows.fnExactNarrowSpec.pre6 enc Try.prog Try.f12 Rows.fnExactNarrowRow.domain false) (Rows.fnExactNarrowSpec.post enc Try.prog Try.f12 false true false false) := by
  refine returnsInHanded_of_change_sized (C := Try.checked) own started (by kernel_rfl) Try.func12
    (ChangeSpec.witness6 (enc := enc) (C := Try.checked) false ⟨#[], #[.agg #[.bool false, .int .i64 0, .int .i64 0, .int .i64 0], .agg #[.int .i64 0, .int .i64 0], .int .i64 0, .agg #[.int .i64 0, .int .i64 0]], []⟩ 8 (by kernel_rfl) (by kernel_rfl) (by kernel_rfl) (by kernel_rfl)) ?_
  intro W base args ds gs before hval0 hW hcnd hsz0 _
  have hval : ∀ (j : Nat) t v, Try.f12.params[j]? = some t → args[j]? = some v → Value.okWide Try.prog W .any base t v := hval0
  have hW' := hW
  obtain ⟨p, q, hA0, hV, rfl, hfz, hnd⟩ := hW
  have hA : DataW.TrodAll enc Try.prog W 0 (fun _ => true) true Try.f12.params.toList args.toList ds p := hA0
  rw [Try.params12] at hA hval
  have hA1 := hA
  obtain ⟨v0, vs0, d0, ds0, p0, q0, hargs, rfl, rfl, h0, r0⟩ := trodAll_cons hA
  obtain ⟨v1, vs1, d1, ds1, p1, q1, rfl, rfl, rfl, h1, r1⟩ := trodAll_cons r0
  obtain ⟨v2, vs2, d2, ds2, p2, q2, rfl, rfl, rfl, h2, r2⟩ := trodAll_cons r1
  obtain ⟨v3, vs3, d3, ds3, p3, q3, rfl, rfl, rfl, h3, r3⟩ := trodAll_cons r2
  obtain ⟨rfl, rfl, rfl⟩ := trodAll_nil r3
  obtain rfl : args = #[v0, v1, v2, v3] := by cases args; simp_all
  obtain ⟨rfl, rfl⟩ := trodVars_none hV
  obtain ⟨_, rfl, x0_0, _, rfl, x0_1, _, rfl, w0_1, x0_2, _, rfl, w0_2, x0_3, _, rfl, w0_3, rfl⟩ := open_flat 5 [.b, .i, .i, .i] Try.underlying47 (by kernel_rfl) (hval 0 47 v0 rfl rfl) h0
  obtain ⟨_, rfl, x1_0, _, rfl, w1_0, x1_1, _, rfl, w1_1, rfl⟩ := open_flat 5 [.i, .i] Try.underlying33 (by kernel_rfl) (hval 1 33 v1 rfl rfl) h1
  obtain ⟨x2, rfl, rfl, rfl, w2⟩ := open_int Try.underlying3 (hval 2 3 v2 rfl rfl) h2
  obtain ⟨_, rfl, x3_0, _, rfl, w3_0, x3_1, _, rfl, w3_1, rfl⟩ := open_flat 5 [.i, .i] Try.underlying23 (by kernel_rfl) (hval 3 23 v3 rfl rfl) h3
  refine (c_laws_FnExactNarrow x0_0 x0_1 x0_2 x0_3 x1_0 x1_1 x2 x3_0 x3_1 W ).mono fun e W' hr => ?_
  have hr' : e = .returned (.bool true) ∧ Below W.heap.size W W' := hr
  obtain ⟨rfl, bel⟩ := hr'
  exact ⟨_, rfl, _, _, _, [], _, [], hW', trodAll_mk1 (shut_bool Try.underlying4 _), trodAll_below (ts := [47, 33, 3, 23]) (by kernel_rfl) bel (by intro t ht; simp only [List.mem_cons, List.not_mem_nil, or_false] at ht; rcases ht with rfl | rfl | rfl | rfl <;> exact ⟨by kernel_rfl, of_decide_eq_true (by kernel_rfl)⟩) hA1 (fun x hx => hW'.lt x (by first | (exfalso; revert hx; simp; done) | simpa using hx)), rfl, bel.frame _, fun h => by cases h⟩
theorem over : Rows.fnExactNarrowRow.holds Try.pinned (OpenSpec.ofChange Rows.fnExactNarrowSpec) :=
  OpenClaim.holds_of_wide 12 Try.f12 rfl rfl rfl rfl rfl rfl rfl ⟨rfl, rfl, rfl, rfl, rfl⟩ rfl rfl rfl rfl rfl (by kernel_rfl) Try.func12 (by kernel_rfl)
    (of_decide_eq_true (by kernel_rfl)) (by unfold Func.isWrapper; first | (rw [if_pos (by decide +kernel)]; kernel_rfl) | (rw [if_neg (by decide +kernel)]; exact ⟨rfl, rfl⟩))
    (fun os started H enc _ => lifted os started H enc)
end Go.Proofs.Ytcbeajdkockhaaa.fnExactNarrow
namespace Go.Proofs.Ytcbeajdkockhaaa
theorem fnExactNarrow_holds : Rows.FnExactNarrowSaid := fnExactNarrow.over
#print axioms fnExactNarrow_holds
end Go.Proofs.Ytcbeajdkockhaaa
