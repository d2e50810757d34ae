/-
  Contracts of Go functions of this seat: what each call hands back, as a plain function of its arguments, and that nothing that was there has turned.
  No statement of the seat is proved here.
-/
import Derived.Test.YtbfbcecghokpoaaProg
import Derived.Test.YtbfbcecghokpoaaPure
import Derived.Test.YtbfbcecghokpoaaActs
import Derived.Deep.Light
import Derived.RegionTactic
import Derived.Deep.RegionWith
import Derived.BigRegion
import Derived.ChangeAlike
import Derived.Test.YtbfbcecghokpoaaCa
import Derived.Test.YtbfbcecghokpoaaCl
import Derived.Test.YtbfbcecghokpoaaSa
import Derived.Test.YtbfbcecghokpoaaPeers
import Derived.Test.YtbfbcecghokpoaaSl
import Derived.Test.YtbfbcecghokpoaaTypes
namespace Go.Proofs.Ytbfbcecghokpoaa
open Go.RowKit Go.Proofs.YtbfbcecghokpoaaW.PrintWords
set_option linter.unusedVariables false
set_option linter.unusedSimpArgs false

-- impl.PeersOk
set_option maxHeartbeats 1000000 in
set_option maxRecDepth 100000 in
theorem c_impl_PeersOk (l_A : Option Addr) (l_c : Nat) (l : List Peer) (w : World) (l_r : Kd.C kPeer w l_A l.length l) (l_h : l.length ≤ l_c)  :
    Calls Try.prog 17 #[.slice l_A l.length l_c] w (Ret w (.bool (Pu.PeersOk l))) := by
  have l_m := Kd.C_max l_r
  go_enter Try.func17, Try.ntmps17
  go_wp2_with (first | ((with_reducible refine wp_region_calm (id := 4) (by kernel_rfl) (by kernel_rfl) ?_); (repeat (go_big_quiet_step ((first | (go_at_call 55; exact calm_of (c_impl_isNode _ _ )) | (go_at_call 56; exact calm_of (c_impl_IvalOk _ _ _ )) | (go_at_call 57; exact calm_of (c_impl_isTime _ _ )))))); refine wpQuiet_nil ?_; intro g d) | (go_at_call 55; refine (c_impl_isNode _ _ ).mono ?_; rintro e w' hr; (rcases Ret.bool hr with ⟨rfl, hX, g, d, rfl⟩ | ⟨rfl, hX, g, d, rfl⟩ <;> first | (have hB := (Pu.isNode_iff _).1 hX; (try dsimp only at hB); obtain ⟨hB1, hB2⟩ := hB; clear hr) | clear hr)) | (go_at_call 56; refine (c_impl_IvalOk _ _ _ ).mono ?_; rintro e w' hr; (rcases Ret.bool hr with ⟨rfl, hX, g, d, rfl⟩ | ⟨rfl, hX, g, d, rfl⟩ <;> first | (have hB := (Pu.IvalOk_iff _).1 hX; (try dsimp only at hB); obtain ⟨hB1, hB2, hB3⟩ := hB; clear hr) | clear hr)) | (go_at_call 57; refine (c_impl_isTime _ _ ).mono ?_; rintro e w' hr; (rcases Ret.bool hr with ⟨rfl, hX, g, d, rfl⟩ | ⟨rfl, hX, g, d, rfl⟩ <;> first | (have hB := (Pu.isTime_iff _).1 hX; (try dsimp only at hB); obtain ⟨hB1, hB2⟩ := hB; clear hr) | (have hB := Pu.no_of (Pu.isTime_iff _) hX; (try dsimp only at hB); clear hr) | clear hr)) | go_region)
  go_loopw [7] (fun n wr => ∃ k : Nat, k ≤ l.length ∧ n = .int .i64 k ∧ Hid (Pu.peersFrom (Pu.prevId l k) (l.drop k) = Pu.peersFrom none l) ∧ Below w.heap.size w wr) (fun n _ => l.length - (intOf n).toNat)
  case atStart => exact ⟨0, by omega, rfl, Lib.hid (by simp [Pu.prevId]), (by repeat (first | exact Below.refl _ _ | assumption | apply below_alloc | apply below_junk | apply below_drew))⟩
  case round =>
    obtain ⟨k, hk, rfl, HE, HBW⟩ := hrel
    by_cases hlt : k < l.length
    · obtain ⟨ad, x, rfl, hx, hbx, hx0, hx1, hx2, hx3, hx4⟩ := at_Peer (Kd.C_below l_r HBW) k hlt
      have HP := Lib.hid (Pu.peersFrom_drop hx)
      rcases Bool.eq_false_or_eq_true (Pu.isNode x.id) with h1 | h1
      · rcases Bool.eq_false_or_eq_true (Pu.IvalOk x.bound) with h2 | h2
        · rcases Bool.eq_false_or_eq_true (Pu.isTime x.pt) with h3 | h3
          · by_cases hk0 : k = 0
            · have hq : Pu.prevId l k = none := by rw [hk0]; rfl
              have hkn : decide (0 < k) = false := by simp; omega
              clear hk0
              go_wp2_with (first | (with_reducible refine wp_region_calm (id := 4) (by kernel_rfl) (by kernel_rfl) ?_; (repeat (go_big_quiet_step (first | (go_at_call 55; exact calm_of (c_impl_isNode_b _ _ _ h1)) | (go_at_call 56; exact calm_of (c_impl_IvalOk_b _ _ _ _ h2)) | (go_at_call 57; exact calm_of (c_impl_isTime_b _ _ _ h3))))); refine wpQuiet_nil ?_; intro g d))
              all_goals
                go_roundw
                case rel => exact ⟨k + 1, by omega, by go_num, Lib.hid (by rw [← HE.out, HP.out, h1, h2, h3, hq]; simp), (by repeat (first | exact Below.refl _ _ | assumption | apply below_alloc | apply below_junk | apply below_drew))⟩
                case measure => simp [intOf]; omega
            · obtain ⟨j, rfl⟩ : ∃ j, k = j + 1 := ⟨k - 1, by omega⟩
              obtain ⟨ad', y, e', hy, hby, hy0, hy1, hy2, hy3, hy4⟩ := at_Peer (Kd.C_below l_r HBW) j (by omega)
              cases e'
              have hq : Pu.prevId l (j + 1) = some y.id := by simp [Pu.prevId, hy]
              by_cases hlq : y.id < x.id
              · go_wp2_with (first | (with_reducible refine wp_region_calm (id := 4) (by kernel_rfl) (by kernel_rfl) ?_; (repeat (go_big_quiet_step (first | (go_at_call 55; exact calm_of (c_impl_isNode_b _ _ _ h1)) | (go_at_call 56; exact calm_of (c_impl_IvalOk_b _ _ _ _ h2)) | (go_at_call 57; exact calm_of (c_impl_isTime_b _ _ _ h3))))); refine wpQuiet_nil ?_; intro g d))
                all_goals
                  go_roundw
                  case rel => exact ⟨j + 1 + 1, by omega, by go_num, Lib.hid (by rw [← HE.out, HP.out, h1, h2, h3, hq]; simp [hlq]), (by repeat (first | exact Below.refl _ _ | assumption | apply below_alloc | apply below_junk | apply below_drew))⟩
                  case measure => simp [intOf]; omega
              · have hlq' := Int.not_lt.1 hlq
                go_wp2_with (first | (with_reducible refine wp_region_calm (id := 4) (by kernel_rfl) (by kernel_rfl) ?_; (repeat (go_big_quiet_step (first | (go_at_call 55; exact calm_of (c_impl_isNode_b _ _ _ h1)) | (go_at_call 56; exact calm_of (c_impl_IvalOk_b _ _ _ _ h2)) | (go_at_call 57; exact calm_of (c_impl_isTime_b _ _ _ h3))))); refine wpQuiet_nil ?_; intro g d))
                all_goals refine bodyPost_ret (v := .bool (Pu.PeersOk l)) ?_ rfl (Ret.mk (by repeat (first | exact Below.refl _ _ | assumption | apply below_alloc | apply below_junk | apply below_drew)))
                all_goals go_light
                all_goals (have he := HE.out; rw [HP.out, hq] at he; (try simp at he); simp [results, Try.results17, go_sem, Pu.PeersOk, ← he, *]; try (intros; omega))
          · skip
            go_wp2_with (first | (with_reducible refine wp_region_calm (id := 4) (by kernel_rfl) (by kernel_rfl) ?_; (repeat (go_big_quiet_step (first | (go_at_call 55; exact calm_of (c_impl_isNode_b _ _ _ h1)) | (go_at_call 56; exact calm_of (c_impl_IvalOk_b _ _ _ _ h2)) | (go_at_call 57; exact calm_of (c_impl_isTime_b _ _ _ h3))))); refine wpQuiet_nil ?_; intro g d))
            all_goals refine bodyPost_ret (v := .bool (Pu.PeersOk l)) ?_ rfl (Ret.mk (by repeat (first | exact Below.refl _ _ | assumption | apply below_alloc | apply below_junk | apply below_drew)))

            all_goals go_light
            all_goals (have he := HE.out; rw [HP.out] at he; (try simp at he); simp [results, Try.results17, go_sem, Pu.PeersOk, ← he, *]; try (intros; omega))
        · skip
          go_wp2_with (first | (with_reducible refine wp_region_calm (id := 4) (by kernel_rfl) (by kernel_rfl) ?_; (repeat (go_big_quiet_step (first | (go_at_call 55; exact calm_of (c_impl_isNode_b _ _ _ h1)) | (go_at_call 56; exact calm_of (c_impl_IvalOk_b _ _ _ _ h2)) | (go_at_call 57; exact calm_of (c_impl_isTime_b _ _ _ h3))))); refine wpQuiet_nil ?_; intro g d))
          all_goals refine bodyPost_ret (v := .bool (Pu.PeersOk l)) ?_ rfl (Ret.mk (by repeat (first | exact Below.refl _ _ | assumption | apply below_alloc | apply below_junk | apply below_drew)))

          all_goals go_light
          all_goals (have he := HE.out; rw [HP.out] at he; (try simp at he); simp [results, Try.results17, go_sem, Pu.PeersOk, ← he, *]; try (intros; omega))
      · skip
        go_wp2_with (first | (with_reducible refine wp_region_calm (id := 4) (by kernel_rfl) (by kernel_rfl) ?_; (repeat (go_big_quiet_step (first | (go_at_call 55; exact calm_of (c_impl_isNode_b _ _ _ h1)) | (go_at_call 56; exact calm_of (c_impl_IvalOk_b _ _ _ _ h2)) | (go_at_call 57; exact calm_of (c_impl_isTime_b _ _ _ h3))))); refine wpQuiet_nil ?_; intro g d))
        all_goals refine bodyPost_ret (v := .bool (Pu.PeersOk l)) ?_ rfl (Ret.mk (by repeat (first | exact Below.refl _ _ | assumption | apply below_alloc | apply below_junk | apply below_drew)))

        all_goals go_light
        all_goals (have he := HE.out; rw [HP.out] at he; (try simp at he); simp [results, Try.results17, go_sem, Pu.PeersOk, ← he, *]; try (intros; omega))
    · have hkl : k = l.length := by omega
      subst hkl
      go_wp2_with (first | ((with_reducible refine wp_region_calm (id := 4) (by kernel_rfl) (by kernel_rfl) ?_); (repeat (go_big_quiet_step ((first | (go_at_call 55; exact calm_of (c_impl_isNode _ _ )) | (go_at_call 56; exact calm_of (c_impl_IvalOk _ _ _ )) | (go_at_call 57; exact calm_of (c_impl_isTime _ _ )))))); refine wpQuiet_nil ?_; intro g d) | (go_at_call 55; refine (c_impl_isNode _ _ ).mono ?_; rintro e w' hr; (rcases Ret.bool hr with ⟨rfl, hX, g, d, rfl⟩ | ⟨rfl, hX, g, d, rfl⟩ <;> first | (have hB := (Pu.isNode_iff _).1 hX; (try dsimp only at hB); obtain ⟨hB1, hB2⟩ := hB; clear hr) | clear hr)) | (go_at_call 56; refine (c_impl_IvalOk _ _ _ ).mono ?_; rintro e w' hr; (rcases Ret.bool hr with ⟨rfl, hX, g, d, rfl⟩ | ⟨rfl, hX, g, d, rfl⟩ <;> first | (have hB := (Pu.IvalOk_iff _).1 hX; (try dsimp only at hB); obtain ⟨hB1, hB2, hB3⟩ := hB; clear hr) | clear hr)) | (go_at_call 57; refine (c_impl_isTime _ _ ).mono ?_; rintro e w' hr; (rcases Ret.bool hr with ⟨rfl, hX, g, d, rfl⟩ | ⟨rfl, hX, g, d, rfl⟩ <;> first | (have hB := (Pu.isTime_iff _).1 hX; (try dsimp only at hB); obtain ⟨hB1, hB2⟩ := hB; clear hr) | (have hB := Pu.no_of (Pu.isTime_iff _) hX; (try dsimp only at hB); clear hr) | clear hr)) | go_region)
      all_goals refine bodyPost_ret (v := .bool (Pu.PeersOk l)) ?_ rfl (Ret.mk (by repeat (first | exact Below.refl _ _ | assumption | apply below_alloc | apply below_junk | apply below_drew)))
      all_goals go_light
      all_goals (have he := HE.out; simp [Pu.peersFrom] at he; simp [results, Try.results17, go_sem, Pu.PeersOk, he]; (try (rw [Bool.eq_iff_iff]; simp [he])); (try (constructor <;> intro h <;> omega)); (try omega))

-- spec.PeersOk
set_option maxHeartbeats 1000000 in
set_option maxRecDepth 100000 in
theorem c_spec_PeersOk (l_A : Option Addr) (l_c : Nat) (l : List Peer) (w : World) (l_r : Kd.C kPeer w l_A l.length l) (l_h : l.length ≤ l_c)  :
    Calls Try.prog 15 #[.slice l_A l.length l_c] w (Ret w (.bool (Pu.PeersOk l))) := by
  have l_m := Kd.C_max l_r
  by_cases h8 : l.length ≤ 8
  · have h8' : ¬ 8 < l.length := by omega
    go_enter Try.func15, Try.ntmps15
    go_wp2_with (first | ((with_reducible refine wp_region_calm (id := 7) (by kernel_rfl) (by kernel_rfl) ?_); (repeat (go_big_quiet_step ((first | (go_at_call 52; exact calm_of (c_spec_l4Node _ _ )) | (go_at_call 47; exact calm_of (c_spec_IvalOk _ _ _ )) | (go_at_call 53; exact calm_of (c_spec_l2Time _ _ )))))); refine wpQuiet_nil ?_; intro g d) | (go_at_call 52; refine (c_spec_l4Node _ _ ).mono ?_; rintro e w' hr; (rcases Ret.bool hr with ⟨rfl, hX, g, d, rfl⟩ | ⟨rfl, hX, g, d, rfl⟩ <;> first | (have hB := (Pu.isNode_iff _).1 hX; (try dsimp only at hB); obtain ⟨hB1, hB2⟩ := hB; clear hr) | clear hr)) | (go_at_call 47; refine (c_spec_IvalOk _ _ _ ).mono ?_; rintro e w' hr; (rcases Ret.bool hr with ⟨rfl, hX, g, d, rfl⟩ | ⟨rfl, hX, g, d, rfl⟩ <;> first | (have hB := (Pu.IvalOk_iff _).1 hX; (try dsimp only at hB); obtain ⟨hB1, hB2, hB3⟩ := hB; clear hr) | clear hr)) | (go_at_call 53; refine (c_spec_l2Time _ _ ).mono ?_; rintro e w' hr; (rcases Ret.bool hr with ⟨rfl, hX, g, d, rfl⟩ | ⟨rfl, hX, g, d, rfl⟩ <;> first | (have hB := (Pu.isTime_iff _).1 hX; (try dsimp only at hB); obtain ⟨hB1, hB2⟩ := hB; clear hr) | (have hB := Pu.no_of (Pu.isTime_iff _) hX; (try dsimp only at hB); clear hr) | clear hr)) | go_region)
    go_loopw [3] (fun n wr => ∃ k : Nat, k ≤ l.length ∧ n = .int .i64 k ∧ Hid (Pu.peersFrom (Pu.prevId l k) (l.drop k) = Pu.peersFrom none l) ∧ Below w.heap.size w wr) (fun n _ => l.length - (intOf n).toNat)
    case atStart => exact ⟨0, by omega, rfl, Lib.hid (by simp [Pu.prevId]), (by repeat (first | exact Below.refl _ _ | assumption | apply below_alloc | apply below_junk | apply below_drew))⟩
    case round =>
      obtain ⟨k, hk, rfl, HE, HBW⟩ := hrel
      by_cases hlt : k < l.length
      · obtain ⟨ad, x, rfl, hx, hbx, hx0, hx1, hx2, hx3, hx4⟩ := at_Peer (Kd.C_below l_r HBW) k hlt
        have HP := Lib.hid (Pu.peersFrom_drop hx)
        rcases Bool.eq_false_or_eq_true (Pu.isNode x.id) with h1 | h1
        · rcases Bool.eq_false_or_eq_true (Pu.IvalOk x.bound) with h2 | h2
          · rcases Bool.eq_false_or_eq_true (Pu.isTime x.pt) with h3 | h3
            · by_cases hk0 : k = 0
              · have hq : Pu.prevId l k = none := by rw [hk0]; rfl
                have hkn : decide (0 < k) = false := by simp; omega
                clear hk0
                go_wp2_with (first | (with_reducible refine wp_region_calm (id := 7) (by kernel_rfl) (by kernel_rfl) ?_; (repeat (go_big_quiet_step (first | (go_at_call 52; exact calm_of (c_spec_l4Node_b _ _ _ h1)) | (go_at_call 47; exact calm_of (c_spec_IvalOk_b _ _ _ _ h2)) | (go_at_call 53; exact calm_of (c_spec_l2Time_b _ _ _ h3))))); refine wpQuiet_nil ?_; intro g d))
                all_goals
                  go_roundw
                  case rel => exact ⟨k + 1, by omega, by go_num, Lib.hid (by rw [← HE.out, HP.out, h1, h2, h3, hq]; simp), (by repeat (first | exact Below.refl _ _ | assumption | apply below_alloc | apply below_junk | apply below_drew))⟩
                  case measure => simp [intOf]; omega
              · obtain ⟨j, rfl⟩ : ∃ j, k = j + 1 := ⟨k - 1, by omega⟩
                obtain ⟨ad', y, e', hy, hby, hy0, hy1, hy2, hy3, hy4⟩ := at_Peer (Kd.C_below l_r HBW) j (by omega)
                cases e'
                have hq : Pu.prevId l (j + 1) = some y.id := by simp [Pu.prevId, hy]
                by_cases hlq : y.id < x.id
                · go_wp2_with (first | (with_reducible refine wp_region_calm (id := 7) (by kernel_rfl) (by kernel_rfl) ?_; (repeat (go_big_quiet_step (first | (go_at_call 52; exact calm_of (c_spec_l4Node_b _ _ _ h1)) | (go_at_call 47; exact calm_of (c_spec_IvalOk_b _ _ _ _ h2)) | (go_at_call 53; exact calm_of (c_spec_l2Time_b _ _ _ h3))))); refine wpQuiet_nil ?_; intro g d))
                  all_goals
                    go_roundw
                    case rel => exact ⟨j + 1 + 1, by omega, by go_num, Lib.hid (by rw [← HE.out, HP.out, h1, h2, h3, hq]; simp [hlq]), (by repeat (first | exact Below.refl _ _ | assumption | apply below_alloc | apply below_junk | apply below_drew))⟩
                    case measure => simp [intOf]; omega
                · have hlq' := Int.not_lt.1 hlq
                  go_wp2_with (first | (with_reducible refine wp_region_calm (id := 7) (by kernel_rfl) (by kernel_rfl) ?_; (repeat (go_big_quiet_step (first | (go_at_call 52; exact calm_of (c_spec_l4Node_b _ _ _ h1)) | (go_at_call 47; exact calm_of (c_spec_IvalOk_b _ _ _ _ h2)) | (go_at_call 53; exact calm_of (c_spec_l2Time_b _ _ _ h3))))); refine wpQuiet_nil ?_; intro g d))
                  all_goals refine bodyPost_ret (v := .bool (Pu.PeersOk l)) ?_ rfl (Ret.mk (by repeat (first | exact Below.refl _ _ | assumption | apply below_alloc | apply below_junk | apply below_drew)))
                  all_goals go_light
                  all_goals (have he := HE.out; rw [HP.out, hq] at he; (try simp at he); simp [results, Try.results15, go_sem, Pu.PeersOk, ← he, *]; try (intros; omega))
            · skip
              go_wp2_with (first | (with_reducible refine wp_region_calm (id := 7) (by kernel_rfl) (by kernel_rfl) ?_; (repeat (go_big_quiet_step (first | (go_at_call 52; exact calm_of (c_spec_l4Node_b _ _ _ h1)) | (go_at_call 47; exact calm_of (c_spec_IvalOk_b _ _ _ _ h2)) | (go_at_call 53; exact calm_of (c_spec_l2Time_b _ _ _ h3))))); refine wpQuiet_nil ?_; intro g d))
              all_goals refine bodyPost_ret (v := .bool (Pu.PeersOk l)) ?_ rfl (Ret.mk (by repeat (first | exact Below.refl _ _ | assumption | apply below_alloc | apply below_junk | apply below_drew)))
  
              all_goals go_light
              all_goals (have he := HE.out; rw [HP.out] at he; (try simp at he); simp [results, Try.results15, go_sem, Pu.PeersOk, ← he, *]; try (intros; omega))
          · skip
            go_wp2_with (first | (with_reducible refine wp_region_calm (id := 7) (by kernel_rfl) (by kernel_rfl) ?_; (repeat (go_big_quiet_step (first | (go_at_call 52; exact calm_of (c_spec_l4Node_b _ _ _ h1)) | (go_at_call 47; exact calm_of (c_spec_IvalOk_b _ _ _ _ h2)) | (go_at_call 53; exact calm_of (c_spec_l2Time_b _ _ _ h3))))); refine wpQuiet_nil ?_; intro g d))
            all_goals refine bodyPost_ret (v := .bool (Pu.PeersOk l)) ?_ rfl (Ret.mk (by repeat (first | exact Below.refl _ _ | assumption | apply below_alloc | apply below_junk | apply below_drew)))
  
            all_goals go_light
            all_goals (have he := HE.out; rw [HP.out] at he; (try simp at he); simp [results, Try.results15, go_sem, Pu.PeersOk, ← he, *]; try (intros; omega))
        · skip
          go_wp2_with (first | (with_reducible refine wp_region_calm (id := 7) (by kernel_rfl) (by kernel_rfl) ?_; (repeat (go_big_quiet_step (first | (go_at_call 52; exact calm_of (c_spec_l4Node_b _ _ _ h1)) | (go_at_call 47; exact calm_of (c_spec_IvalOk_b _ _ _ _ h2)) | (go_at_call 53; exact calm_of (c_spec_l2Time_b _ _ _ h3))))); refine wpQuiet_nil ?_; intro g d))
          all_goals refine bodyPost_ret (v := .bool (Pu.PeersOk l)) ?_ rfl (Ret.mk (by repeat (first | exact Below.refl _ _ | assumption | apply below_alloc | apply below_junk | apply below_drew)))
  
          all_goals go_light
          all_goals (have he := HE.out; rw [HP.out] at he; (try simp at he); simp [results, Try.results15, go_sem, Pu.PeersOk, ← he, *]; try (intros; omega))
      · have hkl : k = l.length := by omega
        subst hkl
        go_wp2_with (first | ((with_reducible refine wp_region_calm (id := 7) (by kernel_rfl) (by kernel_rfl) ?_); (repeat (go_big_quiet_step ((first | (go_at_call 52; exact calm_of (c_spec_l4Node _ _ )) | (go_at_call 47; exact calm_of (c_spec_IvalOk _ _ _ )) | (go_at_call 53; exact calm_of (c_spec_l2Time _ _ )))))); refine wpQuiet_nil ?_; intro g d) | (go_at_call 52; refine (c_spec_l4Node _ _ ).mono ?_; rintro e w' hr; (rcases Ret.bool hr with ⟨rfl, hX, g, d, rfl⟩ | ⟨rfl, hX, g, d, rfl⟩ <;> first | (have hB := (Pu.isNode_iff _).1 hX; (try dsimp only at hB); obtain ⟨hB1, hB2⟩ := hB; clear hr) | clear hr)) | (go_at_call 47; refine (c_spec_IvalOk _ _ _ ).mono ?_; rintro e w' hr; (rcases Ret.bool hr with ⟨rfl, hX, g, d, rfl⟩ | ⟨rfl, hX, g, d, rfl⟩ <;> first | (have hB := (Pu.IvalOk_iff _).1 hX; (try dsimp only at hB); obtain ⟨hB1, hB2, hB3⟩ := hB; clear hr) | clear hr)) | (go_at_call 53; refine (c_spec_l2Time _ _ ).mono ?_; rintro e w' hr; (rcases Ret.bool hr with ⟨rfl, hX, g, d, rfl⟩ | ⟨rfl, hX, g, d, rfl⟩ <;> first | (have hB := (Pu.isTime_iff _).1 hX; (try dsimp only at hB); obtain ⟨hB1, hB2⟩ := hB; clear hr) | (have hB := Pu.no_of (Pu.isTime_iff _) hX; (try dsimp only at hB); clear hr) | clear hr)) | go_region)
        all_goals refine bodyPost_ret (v := .bool (Pu.PeersOk l)) ?_ rfl (Ret.mk (by repeat (first | exact Below.refl _ _ | assumption | apply below_alloc | apply below_junk | apply below_drew)))
        all_goals go_light
        all_goals (have he := HE.out; simp [Pu.peersFrom] at he; simp [results, Try.results15, go_sem, Pu.PeersOk, he]; (try (rw [Bool.eq_iff_iff]; simp [he])); (try (constructor <;> intro h <;> omega)); (try omega))
  · have h8' : 8 < l.length := by omega
    go_enter Try.func15, Try.ntmps15
    go_wp2_with (first | ((with_reducible refine wp_region_calm (id := 7) (by kernel_rfl) (by kernel_rfl) ?_); (repeat (go_big_quiet_step ((first | (go_at_call 52; exact calm_of (c_spec_l4Node _ _ )) | (go_at_call 47; exact calm_of (c_spec_IvalOk _ _ _ )) | (go_at_call 53; exact calm_of (c_spec_l2Time _ _ )))))); refine wpQuiet_nil ?_; intro g d) | (go_at_call 52; refine (c_spec_l4Node _ _ ).mono ?_; rintro e w' hr; (rcases Ret.bool hr with ⟨rfl, hX, g, d, rfl⟩ | ⟨rfl, hX, g, d, rfl⟩ <;> first | (have hB := (Pu.isNode_iff _).1 hX; (try dsimp only at hB); obtain ⟨hB1, hB2⟩ := hB; clear hr) | clear hr)) | (go_at_call 47; refine (c_spec_IvalOk _ _ _ ).mono ?_; rintro e w' hr; (rcases Ret.bool hr with ⟨rfl, hX, g, d, rfl⟩ | ⟨rfl, hX, g, d, rfl⟩ <;> first | (have hB := (Pu.IvalOk_iff _).1 hX; (try dsimp only at hB); obtain ⟨hB1, hB2, hB3⟩ := hB; clear hr) | clear hr)) | (go_at_call 53; refine (c_spec_l2Time _ _ ).mono ?_; rintro e w' hr; (rcases Ret.bool hr with ⟨rfl, hX, g, d, rfl⟩ | ⟨rfl, hX, g, d, rfl⟩ <;> first | (have hB := (Pu.isTime_iff _).1 hX; (try dsimp only at hB); obtain ⟨hB1, hB2⟩ := hB; clear hr) | (have hB := Pu.no_of (Pu.isTime_iff _) hX; (try dsimp only at hB); clear hr) | clear hr)) | go_region)
    refine bodyPost_ret (v := .bool (Pu.PeersOk l)) ?_ rfl (Ret.mk (by repeat (first | exact Below.refl _ _ | assumption | apply below_alloc | apply below_junk | apply below_drew)))
    go_light
    have hq : Pu.PeersOk l = false := by simp [Pu.PeersOk]; intro h; omega
    rw [hq]; simp [results, Try.results15, go_sem]

end Go.Proofs.Ytbfbcecghokpoaa
