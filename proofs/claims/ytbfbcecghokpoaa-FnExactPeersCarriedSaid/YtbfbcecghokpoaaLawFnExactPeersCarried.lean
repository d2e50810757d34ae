/-
  The program's PeersCarried returns what the reference's returns, for all arguments.
  For every input: no condition.
-/
import Derived.Test.YtbfbcecghokpoaaRows
import Derived.Test.YtbfbcecghokpoaaRow
import Derived.Test.YtbfbcecghokpoaaRowSl
import Derived.Test.YtbfbcecghokpoaaJh2
namespace Go.Proofs.Ytbfbcecghokpoaa.fnExactPeersCarried
open Go.ChangeShapes Go.WideShapes Go.ChangeAt Go.RowKit Go.Proofs.YtbfbcecghokpoaaW.PrintWords
set_option linter.unusedVariables false
theorem own : ownKnob Try.prog.godebug = none := by kernel_rfl
set_option maxRecDepth 100000 in
theorem lifted (os : Os) (started : os.Started) (H : Type) (enc : TypeId × Value → H) :
    ReturnsInHanded {} Try.checked os 9 .any (Rows.fnExactPeersCarriedSpec.pre6 enc Try.prog Try.f9 Rows.fnExactPeersCarriedRow.domain false) (Rows.fnExactPeersCarriedSpec.post enc Try.prog Try.f9 false true false false) := by
  refine returnsInHanded_of_change_sized (C := Try.checked) own started (by kernel_rfl) Try.func9
    (ChangeSpec.witness6 (enc := enc) (C := Try.checked) false ⟨#[], #[.slice none 0 0, .agg #[.int .i64 0, .int .i64 0], .int .i64 0, .int .i64 0], []⟩ 8 (by kernel_rfl) (by kernel_rfl) (by kernel_rfl) (by kernel_rfl)) ?_
  intro W base args ds gs before hval0 hW hcnd hsz0 _
  have hval : ∀ (j : Nat) t v, Try.f9.params[j]? = some t → args[j]? = some v → Value.okWide Try.prog W .any base t v := hval0
  have hW' := hW
  obtain ⟨p, q, hA0, hV, rfl, hfz, hnd⟩ := hW
  have hA : DataW.TrodAll enc Try.prog W 0 (fun _ => true) true Try.f9.params.toList args.toList ds p := hA0
  rw [Try.params9] at hA hval
  have hA1 := hA
  obtain ⟨v0, vs0, d0, ds0, p0, q0, hargs, rfl, rfl, h0, r0⟩ := trodAll_cons hA
  obtain ⟨v1, vs1, d1, ds1, p1, q1, rfl, rfl, rfl, h1, r1⟩ := trodAll_cons r0
  obtain ⟨v2, vs2, d2, ds2, p2, q2, rfl, rfl, rfl, h2, r2⟩ := trodAll_cons r1
  obtain ⟨v3, vs3, d3, ds3, p3, q3, rfl, rfl, rfl, h3, r3⟩ := trodAll_cons r2
  obtain ⟨rfl, rfl, rfl⟩ := trodAll_nil r3
  obtain rfl : args = #[v0, v1, v2, v3] := by cases args; simp_all
  obtain ⟨rfl, rfl⟩ := trodVars_none hV
  obtain ⟨A0, c0, x0, rfl, r0_, s0_⟩ := open_rows (k := kPeer) 5 [.i, .i, .i, .i, .b] decPeer decPeer_ok Try.underlying22 (by kernel_rfl) (by kernel_rfl) (hval 0 22 v0 rfl rfl) h0
  obtain ⟨_, rfl, x1_0, _, rfl, w1_0, x1_1, _, rfl, w1_1, rfl⟩ := open_flat 5 [.i, .i] Try.underlying47 (by kernel_rfl) (hval 1 47 v1 rfl rfl) h1
  obtain ⟨x2, rfl, rfl, rfl, w2⟩ := open_int Try.underlying3 (hval 2 3 v2 rfl rfl) h2
  obtain ⟨x3, rfl, rfl, rfl, w3⟩ := open_int Try.underlying3 (hval 3 3 v3 rfl rfl) h3
  refine (c_laws_FnExactPeersCarried A0 c0 x0 x1_0 x1_1 x2 x3 W r0_ s0_).mono fun e W' hr => ?_
  have hr' : e = .returned (.bool true) ∧ Below W.heap.size W W' := hr
  obtain ⟨rfl, bel⟩ := hr'
  exact ⟨_, rfl, _, _, _, [], _, [], hW', trodAll_mk1 (shut_bool Try.underlying4 _), trodAll_below (ts := [22, 47, 3, 3]) (by kernel_rfl) bel (by intro t ht; simp only [List.mem_cons, List.not_mem_nil, or_false] at ht; rcases ht with rfl | rfl | rfl | rfl <;> exact ⟨by kernel_rfl, of_decide_eq_true (by kernel_rfl)⟩) hA1 (fun x hx => hW'.lt x (by first | (exfalso; revert hx; simp; done) | simpa using hx)), rfl, bel.frame _, fun h => by cases h⟩
theorem over : Rows.fnExactPeersCarriedRow.holds Try.pinned (OpenSpec.ofChange Rows.fnExactPeersCarriedSpec) :=
  OpenClaim.holds_of_wide 9 Try.f9 rfl rfl rfl rfl rfl rfl rfl ⟨rfl, rfl, rfl, rfl, rfl⟩ rfl rfl rfl rfl rfl (by kernel_rfl) Try.func9 (by kernel_rfl)
    (of_decide_eq_true (by kernel_rfl)) (by unfold Func.isWrapper; first | (rw [if_pos (by decide +kernel)]; kernel_rfl) | (rw [if_neg (by decide +kernel)]; exact ⟨rfl, rfl⟩))
    (fun os started H enc _ => lifted os started H enc)
end Go.Proofs.Ytbfbcecghokpoaa.fnExactPeersCarried
namespace Go.Proofs.Ytbfbcecghokpoaa
theorem fnExactPeersCarried_holds : Rows.FnExactPeersCarriedSaid := fnExactPeersCarried.over
#print axioms fnExactPeersCarried_holds
end Go.Proofs.Ytbfbcecghokpoaa
