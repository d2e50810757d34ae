/-
  The program's PeersSure returns what the reference's returns, for all arguments.
  For every input: no condition.
-/
import Derived.Test.YtbfbcecghokpoaaRows
import Derived.Test.YtbfbcecghokpoaaRow
import Derived.Test.YtbfbcecghokpoaaRowSl
import Derived.Test.YtbfbcecghokpoaaJp1
namespace Go.Proofs.Ytbfbcecghokpoaa.fnExactPeersSure
open Go.ChangeShapes Go.WideShapes Go.ChangeAt Go.RowKit Go.Proofs.YtbfbcecghokpoaaW.PrintWords
set_option linter.unusedVariables false
theorem own : ownKnob Try.prog.godebug = none := by kernel_rfl
set_option maxRecDepth 100000 in
theorem lifted (os : Os) (started : os.Started) (H : Type) (enc : TypeId × Value → H) :
    ReturnsInHanded {} Try.checked os 4 .any (Rows.fnExactPeersSureSpec.pre6 enc Try.prog Try.f4 Rows.fnExactPeersSureRow.domain false) (Rows.fnExactPeersSureSpec.post enc Try.prog Try.f4 false true false false) := by
  refine returnsInHanded_of_change_sized (C := Try.checked) own started (by kernel_rfl) Try.func4
    (ChangeSpec.witness6 (enc := enc) (C := Try.checked) false ⟨#[], #[.slice none 0 0], []⟩ 8 (by kernel_rfl) (by kernel_rfl) (by kernel_rfl) (by kernel_rfl)) ?_
  intro W base args ds gs before hval0 hW hcnd hsz0 _
  have hval : ∀ (j : Nat) t v, Try.f4.params[j]? = some t → args[j]? = some v → Value.okWide Try.prog W .any base t v := hval0
  have hW' := hW
  obtain ⟨p, q, hA0, hV, rfl, hfz, hnd⟩ := hW
  have hA : DataW.TrodAll enc Try.prog W 0 (fun _ => true) true Try.f4.params.toList args.toList ds p := hA0
  rw [Try.params4] at hA hval
  have hA1 := hA
  obtain ⟨v0, vs0, d0, ds0, p0, q0, hargs, rfl, rfl, h0, r0⟩ := trodAll_cons hA
  obtain ⟨rfl, rfl, rfl⟩ := trodAll_nil r0
  obtain rfl : args = #[v0] := by cases args; simp_all
  obtain ⟨rfl, rfl⟩ := trodVars_none hV
  obtain ⟨A0, c0, x0, rfl, r0_, s0_⟩ := open_rows (k := kPeer) 5 [.i, .i, .i, .i, .b] decPeer decPeer_ok Try.underlying22 (by kernel_rfl) (by kernel_rfl) (hval 0 22 v0 rfl rfl) h0
  refine (c_laws_FnExactPeersSure A0 c0 x0 W r0_ s0_).mono fun e W' hr => ?_
  have hr' : e = .returned (.bool true) ∧ Below W.heap.size W W' := hr
  obtain ⟨rfl, bel⟩ := hr'
  exact ⟨_, rfl, _, _, _, [], _, [], hW', trodAll_mk1 (shut_bool Try.underlying4 _), trodAll_below (ts := [22]) (by kernel_rfl) bel (by intro t ht; simp only [List.mem_cons, List.not_mem_nil, or_false] at ht; rcases ht with rfl <;> exact ⟨by kernel_rfl, of_decide_eq_true (by kernel_rfl)⟩) hA1 (fun x hx => hW'.lt x (by first | (exfalso; revert hx; simp; done) | simpa using hx)), rfl, bel.frame _, fun h => by cases h⟩
theorem over : Rows.fnExactPeersSureRow.holds Try.pinned (OpenSpec.ofChange Rows.fnExactPeersSureSpec) :=
  OpenClaim.holds_of_wide 4 Try.f4 rfl rfl rfl rfl rfl rfl rfl ⟨rfl, rfl, rfl, rfl, rfl⟩ rfl rfl rfl rfl rfl (by kernel_rfl) Try.func4 (by kernel_rfl)
    (of_decide_eq_true (by kernel_rfl)) (by unfold Func.isWrapper; first | (rw [if_pos (by decide +kernel)]; kernel_rfl) | (rw [if_neg (by decide +kernel)]; exact ⟨rfl, rfl⟩))
    (fun os started H enc _ => lifted os started H enc)
end Go.Proofs.Ytbfbcecghokpoaa.fnExactPeersSure
namespace Go.Proofs.Ytbfbcecghokpoaa
theorem fnExactPeersSure_holds : Rows.FnExactPeersSureSaid := fnExactPeersSure.over
#print axioms fnExactPeersSure_holds
end Go.Proofs.Ytbfbcecghokpoaa
