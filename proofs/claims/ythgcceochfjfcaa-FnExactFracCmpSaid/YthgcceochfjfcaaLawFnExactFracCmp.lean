/-
  The program's FracCmp returns what the reference's returns, for all arguments.
  For every input: no condition.
-/
import Derived.Test.YthgcceochfjfcaaRows
import Derived.Test.YthgcceochfjfcaaRow
import Derived.Test.YthgcceochfjfcaaCq
namespace Go.Proofs.Ythgcceochfjfcaa.fnExactFracCmp
open Go.ChangeShapes Go.WideShapes Go.ChangeAt Go.RowKit
set_option linter.unusedVariables false
theorem own : ownKnob Try.prog.godebug = none := by kernel_rfl
set_option maxRecDepth 100000 in
theorem lifted (os : Os) (started : os.Started) (H : Type) (enc : TypeId × Value → H) :
    ReturnsInHanded {} Try.checked os 12 .any (Rows.fnExactFracCmpSpec.pre6 enc Try.prog Try.f12 Rows.fnExactFracCmpRow.domain false) (Rows.fnExactFracCmpSpec.post enc Try.prog Try.f12 false true false false) := by
  refine returnsInHanded_of_change_sized (C := Try.checked) own started (by kernel_rfl) Try.func12
    (ChangeSpec.witness6 (enc := enc) (C := Try.checked) false ⟨#[], #[.agg #[.int .i64 0, .int .i64 0], .agg #[.int .i64 0, .int .i64 0]], []⟩ 8 (by kernel_rfl) (by kernel_rfl) (by kernel_rfl) (by kernel_rfl)) ?_
  intro W base args ds gs before hval0 hW hcnd hsz0 _
  have hval : ∀ (j : Nat) t v, Try.f12.params[j]? = some t → args[j]? = some v → Value.okWide Try.prog W .any base t v := hval0
  have hW' := hW
  obtain ⟨p, q, hA0, hV, rfl, hfz, hnd⟩ := hW
  have hA : DataW.TrodAll enc Try.prog W 0 (fun _ => true) true Try.f12.params.toList args.toList ds p := hA0
  rw [Try.params12] at hA hval
  have hA1 := hA
  obtain ⟨v0, vs0, d0, ds0, p0, q0, hargs, rfl, rfl, h0, r0⟩ := trodAll_cons hA
  obtain ⟨v1, vs1, d1, ds1, p1, q1, rfl, rfl, rfl, h1, r1⟩ := trodAll_cons r0
  obtain ⟨rfl, rfl, rfl⟩ := trodAll_nil r1
  obtain rfl : args = #[v0, v1] := by cases args; simp_all
  obtain ⟨rfl, rfl⟩ := trodVars_none hV
  obtain ⟨_, rfl, x0_0, _, rfl, w0_0, x0_1, _, rfl, w0_1, rfl⟩ := open_flat 5 [.i, .i] Try.underlying51 (by kernel_rfl) (hval 0 51 v0 rfl rfl) h0
  obtain ⟨_, rfl, x1_0, _, rfl, w1_0, x1_1, _, rfl, w1_1, rfl⟩ := open_flat 5 [.i, .i] Try.underlying51 (by kernel_rfl) (hval 1 51 v1 rfl rfl) h1
  refine (c_laws_FnExactFracCmp x0_0 x0_1 x1_0 x1_1 W).mono fun e W' hr => ?_
  have hr' : e = .returned (.bool true) ∧ Below W.heap.size W W' := hr
  obtain ⟨rfl, bel⟩ := hr'
  exact ⟨_, rfl, _, _, _, [], _, [], hW', trodAll_mk1 (shut_bool Try.underlying4 _), trodAll_below (ts := [51, 51]) (by kernel_rfl) bel (by intro t ht; simp only [List.mem_cons, List.not_mem_nil, or_false] at ht; rcases ht with rfl | rfl <;> exact ⟨by kernel_rfl, of_decide_eq_true (by kernel_rfl)⟩) hA1 (fun x hx => hW'.lt x (by first | (exfalso; revert hx; simp; done) | simpa using hx)), rfl, bel.frame _, fun h => by cases h⟩
theorem over : Rows.fnExactFracCmpRow.holds Try.pinned (OpenSpec.ofChange Rows.fnExactFracCmpSpec) :=
  OpenClaim.holds_of_wide 12 Try.f12 rfl rfl rfl rfl rfl rfl rfl ⟨rfl, rfl, rfl, rfl, rfl⟩ rfl rfl rfl rfl rfl (by kernel_rfl) Try.func12 (by kernel_rfl)
    (of_decide_eq_true (by kernel_rfl)) (by unfold Func.isWrapper; first | (rw [if_pos (by decide +kernel)]; kernel_rfl) | (rw [if_neg (by decide +kernel)]; exact ⟨rfl, rfl⟩))
    (fun os started H enc _ => lifted os started H enc)
end Go.Proofs.Ythgcceochfjfcaa.fnExactFracCmp
namespace Go.Proofs.Ythgcceochfjfcaa
theorem fnExactFracCmp_holds : Rows.FnExactFracCmpSaid := fnExactFracCmp.over
#print axioms fnExactFracCmp_holds
end Go.Proofs.Ythgcceochfjfcaa
