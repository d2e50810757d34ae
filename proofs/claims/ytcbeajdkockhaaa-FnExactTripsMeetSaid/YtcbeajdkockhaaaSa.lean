/-
  Contracts of Go functions of this seat: what each call hands back, as a plain function of its arguments, and that nothing that was there has turned.
  No statement of the seat is proved here.
-/
import Derived.Test.YtcbeajdkockhaaaProg
import Derived.Test.YtcbeajdkockhaaaPure
import Derived.Test.YtcbeajdkockhaaaActs
import Derived.Deep.Light
import Derived.RegionTactic
import Derived.Deep.RegionWith
import Derived.BigRegion
import Derived.ChangeAlike
import Derived.Test.YtcbeajdkockhaaaCa
import Derived.Test.YtcbeajdkockhaaaCl
import Derived.Test.YtcbeajdkockhaaaSl
namespace Go.Proofs.Ytcbeajdkockhaaa
open Go.RowKit Go.Proofs.YtcbeajdkockhaaaW.PrintWords
set_option linter.unusedVariables false
set_option linter.unusedSimpArgs false

-- laws.szTripS
set_option maxHeartbeats 1000000 in
set_option maxRecDepth 100000 in
theorem c_laws_szTripS (a_A : Option Addr) (a_c : Nat) (a : List Trip) (left : Int) (w : World) (a_r : Kd.C kTrip w a_A a.length a) (a_h : a.length ≤ a_c) (hl0 : 0 ≤ left) (hl1 : left ≤ 1048576) :
    Calls Try.prog 35 #[.slice a_A a.length a_c, .int .i64 left] w (Ret w (.int .i64 (Pu.sz left a.length))) := by
  have a_m := Kd.C_max a_r
  go_enter Try.func35, Try.ntmps35
  go_wp2_with (first
    | go_region)
  all_goals refine bodyPost_ret (v := .int .i64 (Pu.sz left a.length)) ?_ rfl (Ret.mk (by repeat (first | exact Below.refl _ _ | apply below_alloc | apply below_junk | apply below_drew)))
  all_goals first | (simp [results, Try.results35, go_sem, Pu.sz, *]; done) | (simp [results, Try.results35, go_sem, Pu.sz, *]; omega) | (go_light; simp [results, Try.results35, go_sem, Pu.sz, *]; intros; exfalso; omega) | (go_light; simp [results, Try.results35, go_sem, Pu.sz, *]; (repeat' split) <;> first | omega | (simp; done) | (simp_all; done)) | (go_light; simp_all [results, Try.results35, go_sem, Pu.sz, ]; done) | (go_light; simp_all [results, Try.results35, go_sem, Pu.sz, ]; omega)

-- laws.eqTripS
set_option maxHeartbeats 1000000 in
set_option maxRecDepth 100000 in
theorem c_laws_eqTripS (a_A : Option Addr) (a_c : Nat) (a : List Trip) (b_A : Option Addr) (b_c : Nat) (b : List Trip) (w : World) (a_r : Kd.C kTrip w a_A a.length a) (a_h : a.length ≤ a_c) (b_r : Kd.C kTrip w b_A b.length b) (b_h : b.length ≤ b_c)  :
    Calls Try.prog 39 #[.slice a_A a.length a_c, .slice b_A b.length b_c] w (Ret w (.bool (Pu.eqS Pu.eqTrip a b))) := by
  have a_m := Kd.C_max a_r
  have b_m := Kd.C_max b_r
  go_enter Try.func39, Try.ntmps39
  go_wp2_with (first | ((with_reducible refine wp_region_calm (id := 6) (by kernel_rfl) (by kernel_rfl) ?_); (repeat (go_big_quiet_step ((first | (go_at_call 69; exact calm_of (c_laws_eqTrip _ _ _ _ _ _ _ _ _ _ _ )))))); refine wpQuiet_nil ?_; intro g d) | (go_at_call 69; refine (c_laws_eqTrip _ _ _ _ _ _ _ _ _ _ _ ).mono ?_; rintro e w' hr; obtain ⟨rfl, g, d, rfl⟩ := Ret.open hr; clear hr) | go_region)
  · refine bodyPost_ret (v := .bool (Pu.eqS Pu.eqTrip a b)) ?_ rfl (Ret.mk (by repeat (first | exact Below.refl _ _ | assumption | apply below_alloc | apply below_junk | apply below_drew)))
    go_light
    rw [Pu.eqS_len (by simp only [bne_iff_ne, ne_eq] at *; omega)]; simp [results, Try.results39, go_sem]
  · go_loopw [5] (fun n wr => ∃ k : Nat, k ≤ a.length ∧ n = .int .i64 k ∧ Pu.eqS Pu.eqTrip (a.drop k) (b.drop k) = Pu.eqS Pu.eqTrip a b ∧ Below w.heap.size w wr) (fun n _ => a.length - (intOf n).toNat)
    case atStart => exact ⟨0, by omega, rfl, rfl, Below.refl _ _⟩
    case round =>
      obtain ⟨k, hk, rfl, hE, HBW⟩ := hrel
      have HE := Lib.hid hE; clear hE
      have hab : a.length = b.length := by simp only [bne_eq_false_iff_eq] at *; omega
      by_cases hlt : k < a.length
      · obtain ⟨ad, x, rfl, hx, hbx, hxc⟩ := at_Trip (Kd.C_below a_r HBW) k hlt
        obtain ⟨bd, y, rfl, hy, hby, hyc⟩ := at_Trip (Kd.C_below b_r HBW) k (by omega)
        obtain ⟨hx0, hx1, hx2, hx3, hx4⟩ := hxc
        obtain ⟨hy0, hy1, hy2, hy3, hy4⟩ := hyc
        have HX := Lib.hid (Pu.eqS_drop (e := Pu.eqTrip) hx hy)
        go_wp2_with (first | ((with_reducible refine wp_region_calm (id := 6) (by kernel_rfl) (by kernel_rfl) ?_); (repeat (go_big_quiet_step ((first | (go_at_call 69; exact calm_of (c_laws_eqTrip _ _ _ _ _ _ _ _ _ _ _ )))))); refine wpQuiet_nil ?_; intro g d) | (go_at_call 69; refine (c_laws_eqTrip _ _ _ _ _ _ _ _ _ _ _ ).mono ?_; rintro e w' hr; obtain ⟨rfl, g, d, rfl⟩ := Ret.open hr; clear hr) | go_region)
        · refine bodyPost_ret (v := .bool (Pu.eqS Pu.eqTrip a b)) ?_ rfl (Ret.mk (by repeat (first | exact Below.refl _ _ | assumption | apply below_alloc | apply below_junk | apply below_drew)))
          have hq : Pu.eqTrip x y = false := by simpa using (by assumption : (!Pu.eqTrip x y) = true)
          go_light
          rw [← HE.out, HX.out, hq]; simp [results, Try.results39, go_sem]
        · have hq : Pu.eqTrip x y = true := by simpa using (by assumption : (!Pu.eqTrip x y) = false)
          go_roundw
          case rel => exact ⟨k + 1, by omega, by go_num, by rw [← HE.out, HX.out, hq]; simp, (by repeat (first | exact Below.refl _ _ | assumption | apply below_alloc | apply below_junk | apply below_drew))⟩
          case measure => simp [intOf]; omega
      · go_wp2_with (first | ((with_reducible refine wp_region_calm (id := 6) (by kernel_rfl) (by kernel_rfl) ?_); (repeat (go_big_quiet_step ((first | (go_at_call 69; exact calm_of (c_laws_eqTrip _ _ _ _ _ _ _ _ _ _ _ )))))); refine wpQuiet_nil ?_; intro g d) | (go_at_call 69; refine (c_laws_eqTrip _ _ _ _ _ _ _ _ _ _ _ ).mono ?_; rintro e w' hr; obtain ⟨rfl, g, d, rfl⟩ := Ret.open hr; clear hr) | go_region)
        refine bodyPost_ret (v := .bool (Pu.eqS Pu.eqTrip a b)) ?_ rfl (Ret.mk (by repeat (first | exact Below.refl _ _ | assumption | apply below_alloc | apply below_junk | apply below_drew)))
        go_light
        rw [← HE.out, List.drop_eq_nil_of_le (by omega), List.drop_eq_nil_of_le (by omega)]; simp [results, Try.results39, go_sem, Pu.eqS]

-- laws.toTripS
set_option maxHeartbeats 1000000 in
set_option maxRecDepth 100000 in
theorem c_laws_toTripS (a_A : Option Addr) (a_c : Nat) (a : List Trip) (w : World) (a_r : Kd.C kTrip w a_A a.length a) (a_h : a.length ≤ a_c) (hn : a.length ≤ 1048576) :
    Calls Try.prog 37 #[.slice a_A a.length a_c] w (fun e w' => ∃ v0 : Value, e = .returned (v0) ∧ Kd.R kTrip 29 w' w.heap.size (fun _ => True) v0 (a) ∧ Below w.heap.size w w') := by
  have a_m := Kd.C_max a_r
  have hz : Kd.M kTrip w w.heap.size (fun _ => True) (⟨0, ⟨0, 0⟩, 0, 0⟩ : Trip) [.int .i64 0, .int .i64 0, .int .i64 0, .int .i64 0, .int .i64 0] := kTrip_mkM _ _ _ ⟨0, ⟨0, 0⟩, 0, 0⟩
  go_enter Try.func37, Try.ntmps37
  go_wp2_with (first | ((with_reducible refine gate_dst (N := 7) rfl ?_); refine Kd.R_make kTrip _ 29 rfl (N := 7) rfl 59 _ _ rfl (a.length : Int) rfl rfl Try.underlying59 (.agg #[.int .i64 0, .int .i64 0, .int .i64 0, .int .i64 0, .int .i64 0]) 40 (by kernel_rfl) rfl (by decide) (by omega) (⟨0, ⟨0, 0⟩, 0, 0⟩ : Trip) (ok := fun _ => True) (okp := fun _ => True) hz (fun _ hk => hk) trivial (by omega) (by omega) (Below.refl _ _) (Nat.le_refl _) ?_; intro v w1 hR hb hg hnew; clear hg hnew; obtain ⟨g0, d0, rfl⟩ := junk_of_below hb; clear hb))
  have HR := Lib.hid hR; clear hR
  go_loopw [4] (fun n wr => ∃ k : Nat, k ≤ a.length ∧ n = .int .i64 k ∧ Hid (Kd.R kTrip 29 wr w.heap.size (fun _ => True) v (a.take k ++ List.replicate (a.length - k) ⟨0, ⟨0, 0⟩, 0, 0⟩)) ∧ Below w.heap.size w wr) (fun n _ => a.length - (intOf n).toNat)
  case atStart => exact ⟨0, by omega, rfl, Lib.hid (by have := HR.out; simpa using this), (by repeat (first | exact Below.refl _ _ | assumption | apply below_alloc | apply below_junk | apply below_drew))⟩
  case round =>
    obtain ⟨k, hk, rfl, HE, HBW⟩ := hrel
    by_cases hlt : k < a.length
    · obtain ⟨ad, x, rfl, hx, hbx, hx0_, hx1_, hx2_, hx3_, hx4_⟩ := at_Trip (Kd.C_below a_r HBW) k hlt
      obtain ⟨g, cap, x0, rfl, hg0, hg1, hx0, ho0, ho1, ho2, ho3, ho4, hf0, hf1, hf2, hf3, hf4⟩ := own_Trip HE.out k (by simp; omega)
      have hl : (a.take k ++ List.replicate (a.length - k) (⟨0, ⟨0, 0⟩, 0, 0⟩ : Trip)).length = a.length := by simp; omega
      simp only [hl] at HE
      rw [hl]
      go_wp2_with (first | (go_at_call 16; refine (c_laws_toTrip _ _ _ _ _ _ ).mono ?_; rintro e w' hr; obtain ⟨rfl, g, d, rfl⟩ := Ret.open hr; clear hr) | go_region)
      go_roundw
      case rel =>
        refine ⟨k + 1, by omega, by go_num, Lib.hid ?_, by repeat (first | exact HBW | apply below_alloc | apply below_junk | apply below_drew | refine below_set ?_ hg0)⟩
        have hp := Kd.R_below (put_Trip HE.out k (by omega) x) (below_junk g d (Below.refl _ _))
        rw [Pu.fill hx] at hp
        exact hp
      case measure => simp [intOf]; omega
    · go_wp2_with (first | (go_at_call 16; refine (c_laws_toTrip _ _ _ _ _ _ ).mono ?_; rintro e w' hr; obtain ⟨rfl, g, d, rfl⟩ := Ret.open hr; clear hr) | go_region)
      go_ret
      have hkl : k = a.length := by omega
      subst hkl
      exact ⟨_, rfl, by have := HE.out; simpa using this, HBW⟩

end Go.Proofs.Ytcbeajdkockhaaa
