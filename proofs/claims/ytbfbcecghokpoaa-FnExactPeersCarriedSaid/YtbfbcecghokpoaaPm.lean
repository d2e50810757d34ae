/-
  Contracts of Go functions of this seat: what each call hands back, as a plain function of its arguments, and that nothing that was there has turned.
  No statement of the seat is proved here.
-/
import Derived.Test.YtbfbcecghokpoaaProg
import Derived.Test.YtbfbcecghokpoaaPure
import Derived.Test.YtbfbcecghokpoaaActs
import Derived.Deep.Light
import Derived.RegionTactic
import Derived.Deep.RegionWith
import Derived.BigRegion
import Derived.ChangeAlike
import Derived.Test.YtbfbcecghokpoaaCa
import Derived.Test.YtbfbcecghokpoaaCl
import Derived.Test.YtbfbcecghokpoaaSa
import Derived.Test.YtbfbcecghokpoaaPeers
import Derived.Test.YtbfbcecghokpoaaSl
import Derived.Test.YtbfbcecghokpoaaTypes
import Derived.Test.YtbfbcecghokpoaaWKept
namespace Go.Proofs.Ytbfbcecghokpoaa
open Go.RowKit Go.Proofs.YtbfbcecghokpoaaW.PrintWords
set_option linter.unusedVariables false
set_option linter.unusedSimpArgs false

-- laws.markPeerS
set_option maxHeartbeats 1000000 in
set_option maxRecDepth 100000 in
theorem c_laws_markPeerS (P : Nat → Prop) (v : Value) (xs : List Peer) (w0 w : World) (hB : Below w0.heap.size w0 w) (ho : Kd.R kPeer 63 w w0.heap.size P v xs) (hn : xs.length ≤ 3000000) :
    Calls Try.prog 22 #[v, .int .i64 1] w (fun e w' => e = .returned (.int .i64 (1 + 5 * (xs.length : Int))) ∧ Kd.R kPeer 63 w' w0.heap.size (fun k_ => P k_ ∨ w.heap.size ≤ k_) v ((List.range' 0 xs.length).map Pu.mkPeer) ∧ Below w0.heap.size w0 w' ∧ Kept w w' P) := by
  obtain ⟨A, c, rfl⟩ := Kd.R_slice ho
  have hm := (Kd.R_reads' ho).2.1
  have hmx : xs.length ≤ 9223372036854775807 := by omega
  go_enter Try.func22, Try.ntmps22
  go_wp2
  go_loopw [1, 5] (fun kk n wr => ∃ i : Nat, i ≤ xs.length ∧ kk = .int .i64 (1 + 5 * (i : Int)) ∧ n = .int .i64 i ∧ Hid (Kd.R kPeer 63 wr w0.heap.size (fun k_ => P k_ ∨ w.heap.size ≤ k_) (.slice A xs.length c) ((List.range' 0 i).map Pu.mkPeer ++ xs.drop i)) ∧ Hid (Kept w wr P) ∧ Below w0.heap.size w0 wr) (fun _ n _ => xs.length - (intOf n).toNat)
  case atStart => exact ⟨0, by omega, rfl, rfl, Lib.hid (by simpa using Kd.R_mono ho (fun k hk => .inl hk)), Lib.hid (Kept.refl _ _), hB⟩
  case round =>
    obtain ⟨i, hi, rfl, rfl, HE, HK, HBW⟩ := hrel
    by_cases hlt : i < xs.length
    · have hl : ((List.range' 0 i).map Pu.mkPeer ++ xs.drop i).length = xs.length := by simp; omega
      obtain ⟨g, cap, x0, hv, hg0, hg1, hx0, ho0, ho1, ho2, ho3, ho4, hf0, hf1, hf2, hf3, hf4⟩ := own_Peer HE.out i (by rw [hl]; exact hlt)
      injection hv with hv1 hv2 hv3
      subst hv1 hv3
      clear hv2
      have HM := Lib.hid (HE.out.1 g (by simp [Value.ownBlock]))
      go_wp2
      go_roundw
      case rel =>
        have hp := put_Peer HE.out i hlt (Pu.mkPeer i)
        rw [Pu.mark_set xs i hlt] at hp
        exact ⟨i + 1, by omega, by go_num, by go_num, Lib.hid hp, Lib.hid (by repeat (first | exact HK.out | refine Kept.setCell ?_ HM.out _)), by repeat (first | exact HBW | refine below_set ?_ hg0)⟩
      case measure => simp [intOf]; omega
    · have hi' : i = xs.length := by omega
      subst hi'
      go_wp2
      go_ret
      exact ⟨rfl, by have := HE.out; simpa using this, HBW, HK.out⟩

end Go.Proofs.Ytbfbcecghokpoaa
