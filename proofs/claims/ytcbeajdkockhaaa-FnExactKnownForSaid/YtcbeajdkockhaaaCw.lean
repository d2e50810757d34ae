/-
  Contracts of Go functions of this seat: what each call hands back, as a plain function of its arguments, and that nothing that was there has turned.
  No statement of the seat is proved here.
-/
import Derived.Test.YtcbeajdkockhaaaProg
import Derived.Test.YtcbeajdkockhaaaPure
import Derived.Test.YtcbeajdkockhaaaActs
import Derived.Deep.Light
import Derived.RegionTactic
import Derived.Deep.RegionWith
import Derived.BigRegion
import Derived.ChangeAlike
import Derived.Test.YtcbeajdkockhaaaCa
import Derived.Test.YtcbeajdkockhaaaCl
import Derived.Test.YtcbeajdkockhaaaCd
import Derived.Test.YtcbeajdkockhaaaCk
import Derived.Test.YtcbeajdkockhaaaKnown
namespace Go.Proofs.Ytcbeajdkockhaaa
open Go.RowKit
set_option linter.unusedVariables false
set_option linter.unusedSimpArgs false

-- spec.KnownFor
set_option maxHeartbeats 1000000 in
set_option maxRecDepth 100000 in
theorem c_spec_KnownFor (l_known : Bool) (l_bound_lo : Int) (l_bound_hi : Int) (l_pt : Int) (d_num : Int) (d_den : Int) (most : Int) (w : World)  :
    Calls Try.prog 40 #[.agg #[.bool l_known, .int .i64 l_bound_lo, .int .i64 l_bound_hi, .int .i64 l_pt], .agg #[.int .i64 d_num, .int .i64 d_den], .int .i64 most] w (Ret w (.tuple #[.int .i64 ((Pu.KnownFor (⟨l_known, ⟨l_bound_lo, l_bound_hi⟩, l_pt⟩ : Local) (⟨d_num, d_den⟩ : Drift) most).1), .bool ((Pu.KnownFor (⟨l_known, ⟨l_bound_lo, l_bound_hi⟩, l_pt⟩ : Local) (⟨d_num, d_den⟩ : Drift) most).2)])) := by
  rcases l_known with _ | _
  · go_enter Try.func40, Try.ntmps40
    go_wp2_with (first | (go_at_call 70; refine (c_spec_LocalOk _ _ _ _ _ ).mono ?_; rintro e w' hr; (rcases Ret.bool hr with ⟨rfl, hX, g, d, rfl⟩ | ⟨rfl, hX, g, d, rfl⟩ <;> first | (have hB := Pu.LocalOk_bd hX; (try dsimp only at hB); obtain ⟨hB1, hB2, hB3, hB4, hB5⟩ := hB; clear hr) | clear hr)) | (go_at_call 29; refine (c_spec_WidthAt _ _ _ _ _ _ _ _ ).mono ?_; rintro e w' hr; obtain ⟨rfl, g, d, rfl⟩ := Ret.open hr; clear hr) | go_region)
    all_goals refine bodyPost_ret (v := (.tuple #[.int .i64 (Pu.KnownFor (⟨false, ⟨l_bound_lo, l_bound_hi⟩, l_pt⟩ : Local) (⟨d_num, d_den⟩ : Drift) most).1, .bool (Pu.KnownFor (⟨false, ⟨l_bound_lo, l_bound_hi⟩, l_pt⟩ : Local) (⟨d_num, d_den⟩ : Drift) most).2])) ?_ rfl (Ret.mk (by repeat (first | exact Below.refl _ _ | apply below_alloc | apply below_junk | apply below_drew)))
    all_goals (have hf : Pu.KnownFor (⟨false, ⟨l_bound_lo, l_bound_hi⟩, l_pt⟩ : Local) (⟨d_num, d_den⟩ : Drift) most = (0, false) := by unfold Pu.KnownFor; rw [if_neg (by simp)])
    all_goals (rw [hf]; simp [results, Try.results40, go_sem])
  · go_enter Try.func40, Try.ntmps40
    go_wp2_with (first | (go_at_call 70; refine (c_spec_LocalOk _ _ _ _ _ ).mono ?_; rintro e w' hr; (rcases Ret.bool hr with ⟨rfl, hX, g, d, rfl⟩ | ⟨rfl, hX, g, d, rfl⟩ <;> first | (have hB := Pu.LocalOk_bd hX; (try dsimp only at hB); obtain ⟨hB1, hB2, hB3, hB4, hB5⟩ := hB; clear hr) | clear hr)) | (go_at_call 29; refine (c_spec_WidthAt _ _ _ _ _ _ _ _ ).mono ?_; rintro e w' hr; obtain ⟨rfl, g, d, rfl⟩ := Ret.open hr; clear hr) | go_region)
    · have HL := Lib.hid hX; clear hX
      go_loopw [8, 9] (fun b n wr => ∃ k : Nat, k ≤ 4001 ∧ n = .int .i64 k ∧ b = .int .i64 (Pu.lastOk (Pu.narrow (⟨true, ⟨l_bound_lo, l_bound_hi⟩, l_pt⟩ : Local) (⟨d_num, d_den⟩ : Drift) most) k) ∧ ∃ g d, wr = junk ((w.alloc (Obj.cells #[Value.bool true, Value.int IntKind.i64 l_bound_lo, Value.int IntKind.i64 l_bound_hi, Value.int IntKind.i64 l_pt] 50)).alloc (Obj.cells #[Value.int IntKind.i64 d_num, Value.int IntKind.i64 d_den] 35)) g d) (fun _ n _ => 4001 - (intOf n).toNat)
      case atStart => exact ⟨0, by omega, rfl, rfl, _, _, rfl⟩
      case round =>
        obtain ⟨k, hk, rfl, rfl, g', d', rfl⟩ := hrel
        have hbd := Pu.lastOk_bd (Pu.narrow (⟨true, ⟨l_bound_lo, l_bound_hi⟩, l_pt⟩ : Local) (⟨d_num, d_den⟩ : Drift) most) k
        obtain ⟨hbd1, hbd2⟩ := hbd
        by_cases hlt : (k : Int) ≤ 4000
        · have HN := Lib.hid (show Pu.narrow (⟨true, ⟨l_bound_lo, l_bound_hi⟩, l_pt⟩ : Local) (⟨d_num, d_den⟩ : Drift) most k = Pu.In (Pu.WidthAt (⟨true, ⟨l_bound_lo, l_bound_hi⟩, l_pt⟩ : Local) (⟨d_num, d_den⟩ : Drift) (l_pt + k)) 0 most by unfold Pu.narrow; rw [IntWalk.wrap64_in _ (by dsimp only; omega)])
          go_wp2_with (first | (go_at_call 70; refine (c_spec_LocalOk _ _ _ _ _ ).mono ?_; rintro e w' hr; (rcases Ret.bool hr with ⟨rfl, hX, g, d, rfl⟩ | ⟨rfl, hX, g, d, rfl⟩ <;> first | (have hB := Pu.LocalOk_bd hX; (try dsimp only at hB); obtain ⟨hB1, hB2, hB3, hB4, hB5⟩ := hB; clear hr) | clear hr)) | (go_at_call 29; refine (c_spec_WidthAt _ _ _ _ _ _ _ _ ).mono ?_; rintro e w' hr; obtain ⟨rfl, g, d, rfl⟩ := Ret.open hr; clear hr) | go_region)
          all_goals
            go_roundw
            case rel =>
              refine ⟨k + 1, by omega, by go_num, ?_, _, _, junk_junk _ _ _ _ _⟩
              conv => rhs; unfold Pu.lastOk
              first
                | (have hn : (Pu.narrow (⟨true, ⟨l_bound_lo, l_bound_hi⟩, l_pt⟩ : Local) (⟨d_num, d_den⟩ : Drift) most) k = true := by rw [HN.out]; exact (Pu.In_iff _ _ _).2 ⟨by assumption, by assumption⟩
                   rw [if_pos hn])
                | (have hn : (Pu.narrow (⟨true, ⟨l_bound_lo, l_bound_hi⟩, l_pt⟩ : Local) (⟨d_num, d_den⟩ : Drift) most) k = false := by
                     rw [HN.out]; simp only [Pu.In, Bool.and_eq_false_iff, decide_eq_false_iff_not]; omega
                   rw [if_neg (by rw [hn]; decide)])
            case measure => simp [intOf]; omega
        · have hlt' := Int.not_le.1 hlt
          clear hlt
          by_cases hneg : Pu.lastOk (Pu.narrow (⟨true, ⟨l_bound_lo, l_bound_hi⟩, l_pt⟩ : Local) (⟨d_num, d_den⟩ : Drift) most) k < 0
          · go_wp2_with (first | (go_at_call 70; refine (c_spec_LocalOk _ _ _ _ _ ).mono ?_; rintro e w' hr; (rcases Ret.bool hr with ⟨rfl, hX, g, d, rfl⟩ | ⟨rfl, hX, g, d, rfl⟩ <;> first | (have hB := Pu.LocalOk_bd hX; (try dsimp only at hB); obtain ⟨hB1, hB2, hB3, hB4, hB5⟩ := hB; clear hr) | clear hr)) | (go_at_call 29; refine (c_spec_WidthAt _ _ _ _ _ _ _ _ ).mono ?_; rintro e w' hr; obtain ⟨rfl, g, d, rfl⟩ := Ret.open hr; clear hr) | go_region)
            refine bodyPost_ret (v := (.tuple #[.int .i64 (Pu.KnownFor (⟨true, ⟨l_bound_lo, l_bound_hi⟩, l_pt⟩ : Local) (⟨d_num, d_den⟩ : Drift) most).1, .bool (Pu.KnownFor (⟨true, ⟨l_bound_lo, l_bound_hi⟩, l_pt⟩ : Local) (⟨d_num, d_den⟩ : Drift) most).2])) ?_ rfl (Ret.mk (by repeat (first | exact Below.refl _ _ | apply below_alloc | apply below_junk | apply below_drew)))
            have hf : Pu.KnownFor (⟨true, ⟨l_bound_lo, l_bound_hi⟩, l_pt⟩ : Local) (⟨d_num, d_den⟩ : Drift) most = (0, false) := by unfold Pu.KnownFor; rw [show (4001 : Nat) = k by omega, if_neg (by omega)]
            rw [hf]; simp [results, Try.results40, go_sem]
          · go_wp2_with (first | (go_at_call 70; refine (c_spec_LocalOk _ _ _ _ _ ).mono ?_; rintro e w' hr; (rcases Ret.bool hr with ⟨rfl, hX, g, d, rfl⟩ | ⟨rfl, hX, g, d, rfl⟩ <;> first | (have hB := Pu.LocalOk_bd hX; (try dsimp only at hB); obtain ⟨hB1, hB2, hB3, hB4, hB5⟩ := hB; clear hr) | clear hr)) | (go_at_call 29; refine (c_spec_WidthAt _ _ _ _ _ _ _ _ ).mono ?_; rintro e w' hr; obtain ⟨rfl, g, d, rfl⟩ := Ret.open hr; clear hr) | go_region)
            refine bodyPost_ret (v := (.tuple #[.int .i64 (Pu.KnownFor (⟨true, ⟨l_bound_lo, l_bound_hi⟩, l_pt⟩ : Local) (⟨d_num, d_den⟩ : Drift) most).1, .bool (Pu.KnownFor (⟨true, ⟨l_bound_lo, l_bound_hi⟩, l_pt⟩ : Local) (⟨d_num, d_den⟩ : Drift) most).2])) ?_ rfl (Ret.mk (by repeat (first | exact Below.refl _ _ | apply below_alloc | apply below_junk | apply below_drew)))
            have hf : Pu.KnownFor (⟨true, ⟨l_bound_lo, l_bound_hi⟩, l_pt⟩ : Local) (⟨d_num, d_den⟩ : Drift) most = (Pu.lastOk (Pu.narrow (⟨true, ⟨l_bound_lo, l_bound_hi⟩, l_pt⟩ : Local) (⟨d_num, d_den⟩ : Drift) most) k, true) := by unfold Pu.KnownFor; rw [show (4001 : Nat) = k by omega, if_pos ⟨rfl, by omega⟩]
            rw [hf]; simp [results, Try.results40, go_sem]
    · refine bodyPost_ret (v := (.tuple #[.int .i64 (Pu.KnownFor (⟨true, ⟨l_bound_lo, l_bound_hi⟩, l_pt⟩ : Local) (⟨d_num, d_den⟩ : Drift) most).1, .bool (Pu.KnownFor (⟨true, ⟨l_bound_lo, l_bound_hi⟩, l_pt⟩ : Local) (⟨d_num, d_den⟩ : Drift) most).2])) ?_ rfl (Ret.mk (by repeat (first | exact Below.refl _ _ | apply below_alloc | apply below_junk | apply below_drew)))
      rw [Pu.KnownFor_bad hX]; simp [results, Try.results40, go_sem]

-- impl.KnownFor
set_option maxHeartbeats 1000000 in
set_option maxRecDepth 100000 in
theorem c_impl_KnownFor (l_known : Bool) (l_bound_lo : Int) (l_bound_hi : Int) (l_pt : Int) (d_num : Int) (d_den : Int) (most : Int) (w : World)  :
    Calls Try.prog 41 #[.agg #[.bool l_known, .int .i64 l_bound_lo, .int .i64 l_bound_hi, .int .i64 l_pt], .agg #[.int .i64 d_num, .int .i64 d_den], .int .i64 most] w (Ret w (.tuple #[.int .i64 ((Pu.KnownFor (⟨l_known, ⟨l_bound_lo, l_bound_hi⟩, l_pt⟩ : Local) (⟨d_num, d_den⟩ : Drift) most).1), .bool ((Pu.KnownFor (⟨l_known, ⟨l_bound_lo, l_bound_hi⟩, l_pt⟩ : Local) (⟨d_num, d_den⟩ : Drift) most).2)])) := by
  rcases l_known with _ | _
  · go_enter Try.func41, Try.ntmps41
    go_wp2_with (first | (go_at_call 31; refine (c_impl_WidthAt _ _ _ _ _ _ _ _ ).mono ?_; rintro e w' hr; obtain ⟨rfl, g, d, rfl⟩ := Ret.open hr; clear hr) | (go_at_call 53; refine (c_impl_in _ _ _ _ ).mono ?_; rintro e w' hr; (rcases Ret.bool hr with ⟨rfl, hX, g, d, rfl⟩ | ⟨rfl, hX, g, d, rfl⟩ <;> first | (have hB := (Pu.In_iff _ _ _).1 hX; (try dsimp only at hB); obtain ⟨hB1, hB2⟩ := hB; clear hr) | (have hB := Pu.no_of (Pu.In_iff _ _ _) hX; (try dsimp only at hB); clear hr) | clear hr)) | go_region)
    all_goals refine bodyPost_ret (v := (.tuple #[.int .i64 (Pu.KnownFor (⟨false, ⟨l_bound_lo, l_bound_hi⟩, l_pt⟩ : Local) (⟨d_num, d_den⟩ : Drift) most).1, .bool (Pu.KnownFor (⟨false, ⟨l_bound_lo, l_bound_hi⟩, l_pt⟩ : Local) (⟨d_num, d_den⟩ : Drift) most).2])) ?_ rfl (Ret.mk (by repeat (first | exact Below.refl _ _ | apply below_alloc | apply below_junk | apply below_drew)))
    all_goals (have hf : Pu.KnownFor (⟨false, ⟨l_bound_lo, l_bound_hi⟩, l_pt⟩ : Local) (⟨d_num, d_den⟩ : Drift) most = (0, false) := by unfold Pu.KnownFor; rw [if_neg (by simp)])
    all_goals (rw [hf]; simp [results, Try.results41, go_sem])
  · go_enter Try.func41, Try.ntmps41
    go_wp2_with (first | (go_at_call 31; refine (c_impl_WidthAt _ _ _ _ _ _ _ _ ).mono ?_; rintro e w' hr; obtain ⟨rfl, g, d, rfl⟩ := Ret.open hr; clear hr) | (go_at_call 53; refine (c_impl_in _ _ _ _ ).mono ?_; rintro e w' hr; (rcases Ret.bool hr with ⟨rfl, hX, g, d, rfl⟩ | ⟨rfl, hX, g, d, rfl⟩ <;> first | (have hB := (Pu.In_iff _ _ _).1 hX; (try dsimp only at hB); obtain ⟨hB1, hB2⟩ := hB; clear hr) | (have hB := Pu.no_of (Pu.In_iff _ _ _) hX; (try dsimp only at hB); clear hr) | clear hr)) | go_region)
    go_loopw [8] (fun n wr => ∃ m : Int, -1 ≤ m ∧ m ≤ 4000 ∧ n = .int .i64 m ∧ Pu.lastOk (Pu.narrow (⟨true, ⟨l_bound_lo, l_bound_hi⟩, l_pt⟩ : Local) (⟨d_num, d_den⟩ : Drift) most) 4001 = Pu.lastOk (Pu.narrow (⟨true, ⟨l_bound_lo, l_bound_hi⟩, l_pt⟩ : Local) (⟨d_num, d_den⟩ : Drift) most) (m + 1).toNat ∧ ∃ g d, wr = junk ((w.alloc (Obj.cells #[Value.bool true, Value.int IntKind.i64 l_bound_lo, Value.int IntKind.i64 l_bound_hi, Value.int IntKind.i64 l_pt] 50)).alloc (Obj.cells #[Value.int IntKind.i64 d_num, Value.int IntKind.i64 d_den] 35)) g d) (fun n _ => (intOf n + 1).toNat)
    case atStart => exact ⟨4000, by omega, by omega, rfl, rfl, #[], _, junk_none _⟩
    case round =>
      obtain ⟨m, hm0, hm1, rfl, hK, g', d', rfl⟩ := hrel
      have HK := Lib.hid hK; clear hK
      by_cases hlt : 0 ≤ m
      · go_wp2_with (first | (go_at_call 31; refine (c_impl_WidthAt _ _ _ _ _ _ _ _ ).mono ?_; rintro e w' hr; obtain ⟨rfl, g, d, rfl⟩ := Ret.open hr; clear hr) | (go_at_call 53; refine (c_impl_in _ _ _ _ ).mono ?_; rintro e w' hr; (rcases Ret.bool hr with ⟨rfl, hX, g, d, rfl⟩ | ⟨rfl, hX, g, d, rfl⟩ <;> first | (have hB := (Pu.In_iff _ _ _).1 hX; (try dsimp only at hB); obtain ⟨hB1, hB2⟩ := hB; clear hr) | (have hB := Pu.no_of (Pu.In_iff _ _ _) hX; (try dsimp only at hB); clear hr) | clear hr)) | go_region)
        · refine bodyPost_ret (v := (.tuple #[.int .i64 (Pu.KnownFor (⟨true, ⟨l_bound_lo, l_bound_hi⟩, l_pt⟩ : Local) (⟨d_num, d_den⟩ : Drift) most).1, .bool (Pu.KnownFor (⟨true, ⟨l_bound_lo, l_bound_hi⟩, l_pt⟩ : Local) (⟨d_num, d_den⟩ : Drift) most).2])) ?_ rfl (Ret.mk (by repeat (first | exact Below.refl _ _ | apply below_alloc | apply below_junk | apply below_drew)))
          have hn : (Pu.narrow (⟨true, ⟨l_bound_lo, l_bound_hi⟩, l_pt⟩ : Local) (⟨d_num, d_den⟩ : Drift) most) m.toNat = true := by unfold Pu.narrow; rw [Int.toNat_of_nonneg hlt]; exact hX
          have hl : Pu.lastOk (Pu.narrow (⟨true, ⟨l_bound_lo, l_bound_hi⟩, l_pt⟩ : Local) (⟨d_num, d_den⟩ : Drift) most) 4001 = m := by
            rw [HK.out, show (m + 1).toNat = m.toNat + 1 by omega]; unfold Pu.lastOk; rw [if_pos hn]; omega
          have hf : Pu.KnownFor (⟨true, ⟨l_bound_lo, l_bound_hi⟩, l_pt⟩ : Local) (⟨d_num, d_den⟩ : Drift) most = (m, true) := by unfold Pu.KnownFor; rw [hl, if_pos ⟨rfl, hlt⟩]
          rw [hf]; simp [results, Try.results41, go_sem]
        · go_roundw
          case rel =>
            have hn : (Pu.narrow (⟨true, ⟨l_bound_lo, l_bound_hi⟩, l_pt⟩ : Local) (⟨d_num, d_den⟩ : Drift) most) m.toNat = false := by unfold Pu.narrow; rw [Int.toNat_of_nonneg hlt]; exact hX
            refine ⟨m - 1, by omega, by omega, rfl, ?_, _, _, (by rw [junk_junk, junk_junk])⟩
            rw [HK.out, show (m + 1).toNat = (m - 1 + 1).toNat + 1 by omega]
            have e : (m - 1 + 1).toNat = m.toNat := by omega
            rw [e]; conv => lhs; unfold Pu.lastOk
            rw [if_neg (by rw [hn]; decide)]
          case measure => simp [intOf]; omega
      · have hm := Int.not_le.1 hlt
        clear hlt
        go_wp2_with (first | (go_at_call 31; refine (c_impl_WidthAt _ _ _ _ _ _ _ _ ).mono ?_; rintro e w' hr; obtain ⟨rfl, g, d, rfl⟩ := Ret.open hr; clear hr) | (go_at_call 53; refine (c_impl_in _ _ _ _ ).mono ?_; rintro e w' hr; (rcases Ret.bool hr with ⟨rfl, hX, g, d, rfl⟩ | ⟨rfl, hX, g, d, rfl⟩ <;> first | (have hB := (Pu.In_iff _ _ _).1 hX; (try dsimp only at hB); obtain ⟨hB1, hB2⟩ := hB; clear hr) | (have hB := Pu.no_of (Pu.In_iff _ _ _) hX; (try dsimp only at hB); clear hr) | clear hr)) | go_region)
        refine bodyPost_ret (v := (.tuple #[.int .i64 (Pu.KnownFor (⟨true, ⟨l_bound_lo, l_bound_hi⟩, l_pt⟩ : Local) (⟨d_num, d_den⟩ : Drift) most).1, .bool (Pu.KnownFor (⟨true, ⟨l_bound_lo, l_bound_hi⟩, l_pt⟩ : Local) (⟨d_num, d_den⟩ : Drift) most).2])) ?_ rfl (Ret.mk (by repeat (first | exact Below.refl _ _ | apply below_alloc | apply below_junk | apply below_drew)))
        have hf : Pu.KnownFor (⟨true, ⟨l_bound_lo, l_bound_hi⟩, l_pt⟩ : Local) (⟨d_num, d_den⟩ : Drift) most = (0, false) := by
          unfold Pu.KnownFor; rw [HK.out, show m = -1 by omega, if_neg]; simp [Pu.lastOk]
        rw [hf]; simp [results, Try.results41, go_sem]

-- laws.FnExactKnownFor
set_option maxHeartbeats 1000000 in
set_option maxRecDepth 100000 in
theorem c_laws_FnExactKnownFor (l_known : Bool) (l_bound_lo : Int) (l_bound_hi : Int) (l_pt : Int) (d_num : Int) (d_den : Int) (most : Int) (w : World)  :
    Calls Try.prog 11 #[.agg #[.bool l_known, .int .i64 l_bound_lo, .int .i64 l_bound_hi, .int .i64 l_pt], .agg #[.int .i64 d_num, .int .i64 d_den], .int .i64 most] w (Ret w (.bool true)) := by
  go_enter Try.func11, Try.ntmps11
  go_wp2_with (first
    | ((with_reducible refine wp_region_calm (id := 1) (by kernel_rfl) (by kernel_rfl) ?_); (repeat (go_big_quiet_step ((first | (go_at_call 30; exact calm_of (c_laws_toLocal _ _ _ _ _ )) | (go_at_call 19; exact calm_of (c_laws_toDrift _ _ _ )) | (go_at_call 40; exact calm_of (c_spec_KnownFor _ _ _ _ _ _ _ _ )))))); refine wpQuiet_nil ?_; intro g d)
    | ((with_reducible refine wp_region_calm (id := 2) (by kernel_rfl) (by kernel_rfl) ?_); (repeat (go_big_quiet_step ((first | (go_at_call 30; exact calm_of (c_laws_toLocal _ _ _ _ _ )) | (go_at_call 19; exact calm_of (c_laws_toDrift _ _ _ )) | (go_at_call 41; exact calm_of (c_impl_KnownFor _ _ _ _ _ _ _ _ )))))); refine wpQuiet_nil ?_; intro g d)
    | (go_at_call 40; refine (c_spec_KnownFor _ _ _ _ _ _ _ _ ).mono ?_; rintro e w' hr; obtain ⟨rfl, g, d, rfl⟩ := Ret.open hr; clear hr)
    | (go_at_call 30; refine (c_laws_toLocal _ _ _ _ _ ).mono ?_; rintro e w' hr; obtain ⟨rfl, g, d, rfl⟩ := Ret.open hr; clear hr)
    | (go_at_call 19; refine (c_laws_toDrift _ _ _ ).mono ?_; rintro e w' hr; obtain ⟨rfl, g, d, rfl⟩ := Ret.open hr; clear hr)
    | (go_at_call 41; refine (c_impl_KnownFor _ _ _ _ _ _ _ _ ).mono ?_; rintro e w' hr; obtain ⟨rfl, g, d, rfl⟩ := Ret.open hr; clear hr)
    | go_region)
  all_goals refine bodyPost_ret (v := .bool true) ?_ rfl (Ret.mk (by repeat (first | exact Below.refl _ _ | apply below_alloc | apply below_junk | apply below_drew)))
  all_goals first | (simp [results, Try.results11, go_sem, *]; done) | (simp [results, Try.results11, go_sem, *]; omega) | (go_light; simp [results, Try.results11, go_sem, *]; intros; exfalso; omega) | (go_light; simp [results, Try.results11, go_sem, *]; (repeat' split) <;> first | omega | (simp; done) | (simp_all; done)) | (go_light; simp_all [results, Try.results11, go_sem, ]; done) | (go_light; simp_all [results, Try.results11, go_sem, ]; omega)

end Go.Proofs.Ytcbeajdkockhaaa
