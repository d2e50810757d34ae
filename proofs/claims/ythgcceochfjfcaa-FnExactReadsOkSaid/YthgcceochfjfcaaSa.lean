/-
  Contracts of Go functions of this seat: what each call hands back, as a plain function of its arguments, and that nothing that was there has turned.
  No statement of the seat is proved here.
-/
import Derived.Test.YthgcceochfjfcaaProg
import Derived.Test.YthgcceochfjfcaaPure
import Derived.Test.YthgcceochfjfcaaActs
import Derived.Deep.Light
import Derived.RegionTactic
import Derived.Deep.RegionWith
import Derived.BigRegion
import Derived.ChangeAlike
import Derived.Test.YthgcceochfjfcaaCa
import Derived.Test.YthgcceochfjfcaaCl
import Derived.Test.YthgcceochfjfcaaSl
namespace Go.Proofs.Ythgcceochfjfcaa
open Go.RowKit Go.Proofs.YthgcceochfjfcaaW.PrintWords
set_option linter.unusedVariables false
set_option linter.unusedSimpArgs false

-- laws.szLookS
set_option maxHeartbeats 1000000 in
set_option maxRecDepth 100000 in
theorem c_laws_szLookS (a_A : Option Addr) (a_c : Nat) (a : List Look) (left : Int) (w : World) (a_r : Kd.C kLook w a_A a.length a) (a_h : a.length ≤ a_c) (hl0 : 0 ≤ left) (hl1 : left ≤ 1048576) :
    Calls Try.prog 24 #[.slice a_A a.length a_c, .int .i64 left] w (Ret w (.int .i64 (Pu.sz left a.length))) := by
  have a_m := Kd.C_max a_r
  go_enter Try.func24, Try.ntmps24
  go_wp2_with (first
    | go_region)
  all_goals refine bodyPost_ret (v := .int .i64 (Pu.sz left a.length)) ?_ rfl (Ret.mk (by repeat (first | exact Below.refl _ _ | apply below_alloc | apply below_junk | apply below_drew)))
  all_goals first | (simp [results, Try.results24, go_sem, Pu.sz, *]; done) | (simp [results, Try.results24, go_sem, Pu.sz, *]; omega) | (go_light; simp [results, Try.results24, go_sem, Pu.sz, *]; intros; exfalso; omega) | (go_light; simp [results, Try.results24, go_sem, Pu.sz, *]; (repeat' split) <;> first | omega | (simp; done) | (simp_all; done)) | (go_light; simp_all [results, Try.results24, go_sem, Pu.sz, ]; done) | (go_light; simp_all [results, Try.results24, go_sem, Pu.sz, ]; omega)

-- laws.eqLookS
set_option maxHeartbeats 1000000 in
set_option maxRecDepth 100000 in
theorem c_laws_eqLookS (a_A : Option Addr) (a_c : Nat) (a : List Look) (b_A : Option Addr) (b_c : Nat) (b : List Look) (w : World) (a_r : Kd.C kLook w a_A a.length a) (a_h : a.length ≤ a_c) (b_r : Kd.C kLook w b_A b.length b) (b_h : b.length ≤ b_c)  :
    Calls Try.prog 30 #[.slice a_A a.length a_c, .slice b_A b.length b_c] w (Ret w (.bool (Pu.eqS Pu.eqLook a b))) := by
  have a_m := Kd.C_max a_r
  have b_m := Kd.C_max b_r
  go_enter Try.func30, Try.ntmps30
  go_wp2_with (first | ((with_reducible refine wp_region_calm (id := 6) (by kernel_rfl) (by kernel_rfl) ?_); (repeat (go_big_quiet_step ((first | (go_at_call 63; exact calm_of (c_laws_eqLook _ _ _ _ _ _ _ )))))); refine wpQuiet_nil ?_; intro g d) | (go_at_call 63; refine (c_laws_eqLook _ _ _ _ _ _ _ ).mono ?_; rintro e w' hr; obtain ⟨rfl, g, d, rfl⟩ := Ret.open hr; clear hr) | go_region)
  · refine bodyPost_ret (v := .bool (Pu.eqS Pu.eqLook a b)) ?_ rfl (Ret.mk (by repeat (first | exact Below.refl _ _ | assumption | apply below_alloc | apply below_junk | apply below_drew)))
    go_light
    rw [Pu.eqS_len (by simp only [bne_iff_ne, ne_eq] at *; omega)]; simp [results, Try.results30, go_sem]
  · go_loopw [5] (fun n wr => ∃ k : Nat, k ≤ a.length ∧ n = .int .i64 k ∧ Pu.eqS Pu.eqLook (a.drop k) (b.drop k) = Pu.eqS Pu.eqLook a b ∧ Below w.heap.size w wr) (fun n _ => a.length - (intOf n).toNat)
    case atStart => exact ⟨0, by omega, rfl, rfl, Below.refl _ _⟩
    case round =>
      obtain ⟨k, hk, rfl, hE, HBW⟩ := hrel
      have HE := Lib.hid hE; clear hE
      have hab : a.length = b.length := by simp only [bne_eq_false_iff_eq] at *; omega
      by_cases hlt : k < a.length
      · obtain ⟨ad, x, rfl, hx, hbx, hxc⟩ := at_Look (Kd.C_below a_r HBW) k hlt
        obtain ⟨bd, y, rfl, hy, hby, hyc⟩ := at_Look (Kd.C_below b_r HBW) k (by omega)
        obtain ⟨hx0, hx1, hx2⟩ := hxc
        obtain ⟨hy0, hy1, hy2⟩ := hyc
        have HX := Lib.hid (Pu.eqS_drop (e := Pu.eqLook) hx hy)
        go_wp2_with (first | ((with_reducible refine wp_region_calm (id := 6) (by kernel_rfl) (by kernel_rfl) ?_); (repeat (go_big_quiet_step ((first | (go_at_call 63; exact calm_of (c_laws_eqLook _ _ _ _ _ _ _ )))))); refine wpQuiet_nil ?_; intro g d) | (go_at_call 63; refine (c_laws_eqLook _ _ _ _ _ _ _ ).mono ?_; rintro e w' hr; obtain ⟨rfl, g, d, rfl⟩ := Ret.open hr; clear hr) | go_region)
        · refine bodyPost_ret (v := .bool (Pu.eqS Pu.eqLook a b)) ?_ rfl (Ret.mk (by repeat (first | exact Below.refl _ _ | assumption | apply below_alloc | apply below_junk | apply below_drew)))
          have hq : Pu.eqLook x y = false := by simpa using (by assumption : (!Pu.eqLook x y) = true)
          go_light
          rw [← HE.out, HX.out, hq]; simp [results, Try.results30, go_sem]
        · have hq : Pu.eqLook x y = true := by simpa using (by assumption : (!Pu.eqLook x y) = false)
          go_roundw
          case rel => exact ⟨k + 1, by omega, by go_num, by rw [← HE.out, HX.out, hq]; simp, (by repeat (first | exact Below.refl _ _ | assumption | apply below_alloc | apply below_junk | apply below_drew))⟩
          case measure => simp [intOf]; omega
      · go_wp2_with (first | ((with_reducible refine wp_region_calm (id := 6) (by kernel_rfl) (by kernel_rfl) ?_); (repeat (go_big_quiet_step ((first | (go_at_call 63; exact calm_of (c_laws_eqLook _ _ _ _ _ _ _ )))))); refine wpQuiet_nil ?_; intro g d) | (go_at_call 63; refine (c_laws_eqLook _ _ _ _ _ _ _ ).mono ?_; rintro e w' hr; obtain ⟨rfl, g, d, rfl⟩ := Ret.open hr; clear hr) | go_region)
        refine bodyPost_ret (v := .bool (Pu.eqS Pu.eqLook a b)) ?_ rfl (Ret.mk (by repeat (first | exact Below.refl _ _ | assumption | apply below_alloc | apply below_junk | apply below_drew)))
        go_light
        rw [← HE.out, List.drop_eq_nil_of_le (by omega), List.drop_eq_nil_of_le (by omega)]; simp [results, Try.results30, go_sem, Pu.eqS]

-- laws.toLookS
set_option maxHeartbeats 1000000 in
set_option maxRecDepth 100000 in
theorem c_laws_toLookS (a_A : Option Addr) (a_c : Nat) (a : List Look) (w : World) (a_r : Kd.C kLook w a_A a.length a) (a_h : a.length ≤ a_c) (hn : a.length ≤ 1048576) :
    Calls Try.prog 27 #[.slice a_A a.length a_c] w (fun e w' => ∃ v0 : Value, e = .returned (v0) ∧ Kd.R kLook 84 w' w.heap.size (fun _ => True) v0 (a) ∧ Below w.heap.size w w') := by
  have a_m := Kd.C_max a_r
  have hz : Kd.M kLook w w.heap.size (fun _ => True) (⟨false, ⟨0, 0⟩⟩ : Look) [.bool false, .int .i64 0, .int .i64 0] := kLook_mkM _ _ _ ⟨false, ⟨0, 0⟩⟩
  go_enter Try.func27, Try.ntmps27
  go_wp2_with (first | ((with_reducible refine gate_dst (N := 7) rfl ?_); refine Kd.R_make kLook _ 84 rfl (N := 7) rfl 43 _ _ rfl (a.length : Int) rfl rfl Try.underlying43 (.agg #[.bool false, .int .i64 0, .int .i64 0]) 24 (by kernel_rfl) rfl (by decide) (by omega) (⟨false, ⟨0, 0⟩⟩ : Look) (ok := fun _ => True) (okp := fun _ => True) hz (fun _ hk => hk) trivial (by omega) (by omega) (Below.refl _ _) (Nat.le_refl _) ?_; intro v w1 hR hb hg hnew; clear hg hnew; obtain ⟨g0, d0, rfl⟩ := junk_of_below hb; clear hb))
  have HR := Lib.hid hR; clear hR
  go_loopw [4] (fun n wr => ∃ k : Nat, k ≤ a.length ∧ n = .int .i64 k ∧ Hid (Kd.R kLook 84 wr w.heap.size (fun _ => True) v (a.take k ++ List.replicate (a.length - k) ⟨false, ⟨0, 0⟩⟩)) ∧ Below w.heap.size w wr) (fun n _ => a.length - (intOf n).toNat)
  case atStart => exact ⟨0, by omega, rfl, Lib.hid (by have := HR.out; simpa using this), (by repeat (first | exact Below.refl _ _ | assumption | apply below_alloc | apply below_junk | apply below_drew))⟩
  case round =>
    obtain ⟨k, hk, rfl, HE, HBW⟩ := hrel
    by_cases hlt : k < a.length
    · obtain ⟨ad, x, rfl, hx, hbx, hx0_, hx1_, hx2_⟩ := at_Look (Kd.C_below a_r HBW) k hlt
      obtain ⟨g, cap, x0, rfl, hg0, hg1, hx0, ho0, ho1, ho2, hf0, hf1, hf2⟩ := own_Look HE.out k (by simp; omega)
      have hl : (a.take k ++ List.replicate (a.length - k) (⟨false, ⟨0, 0⟩⟩ : Look)).length = a.length := by simp; omega
      simp only [hl] at HE
      rw [hl]
      go_wp2_with (first | (go_at_call 60; refine (c_laws_toLook _ _ _ _ ).mono ?_; rintro e w' hr; obtain ⟨rfl, g, d, rfl⟩ := Ret.open hr; clear hr) | go_region)
      go_roundw
      case rel =>
        refine ⟨k + 1, by omega, by go_num, Lib.hid ?_, by repeat (first | exact HBW | apply below_alloc | apply below_junk | apply below_drew | refine below_set ?_ hg0)⟩
        have hp := Kd.R_below (put_Look HE.out k (by omega) x) (below_junk g d (Below.refl _ _))
        rw [Pu.fill hx] at hp
        exact hp
      case measure => simp [intOf]; omega
    · go_wp2_with (first | (go_at_call 60; refine (c_laws_toLook _ _ _ _ ).mono ?_; rintro e w' hr; obtain ⟨rfl, g, d, rfl⟩ := Ret.open hr; clear hr) | go_region)
      go_ret
      have hkl : k = a.length := by omega
      subst hkl
      exact ⟨_, rfl, by have := HE.out; simpa using this, HBW⟩

-- laws.szReadingS
set_option maxHeartbeats 1000000 in
set_option maxRecDepth 100000 in
theorem c_laws_szReadingS (a_A : Option Addr) (a_c : Nat) (a : List Reading) (left : Int) (w : World) (a_r : Kd.C kReading w a_A a.length a) (a_h : a.length ≤ a_c) (hl0 : 0 ≤ left) (hl1 : left ≤ 1048576) :
    Calls Try.prog 25 #[.slice a_A a.length a_c, .int .i64 left] w (Ret w (.int .i64 (Pu.sz left a.length))) := by
  have a_m := Kd.C_max a_r
  go_enter Try.func25, Try.ntmps25
  go_wp2_with (first
    | go_region)
  all_goals refine bodyPost_ret (v := .int .i64 (Pu.sz left a.length)) ?_ rfl (Ret.mk (by repeat (first | exact Below.refl _ _ | apply below_alloc | apply below_junk | apply below_drew)))
  all_goals first | (simp [results, Try.results25, go_sem, Pu.sz, *]; done) | (simp [results, Try.results25, go_sem, Pu.sz, *]; omega) | (go_light; simp [results, Try.results25, go_sem, Pu.sz, *]; intros; exfalso; omega) | (go_light; simp [results, Try.results25, go_sem, Pu.sz, *]; (repeat' split) <;> first | omega | (simp; done) | (simp_all; done)) | (go_light; simp_all [results, Try.results25, go_sem, Pu.sz, ]; done) | (go_light; simp_all [results, Try.results25, go_sem, Pu.sz, ]; omega)

-- laws.eqReadingS
set_option maxHeartbeats 1000000 in
set_option maxRecDepth 100000 in
theorem c_laws_eqReadingS (a_A : Option Addr) (a_c : Nat) (a : List Reading) (b_A : Option Addr) (b_c : Nat) (b : List Reading) (w : World) (a_r : Kd.C kReading w a_A a.length a) (a_h : a.length ≤ a_c) (b_r : Kd.C kReading w b_A b.length b) (b_h : b.length ≤ b_c)  :
    Calls Try.prog 31 #[.slice a_A a.length a_c, .slice b_A b.length b_c] w (Ret w (.bool (Pu.eqS Pu.eqReading a b))) := by
  have a_m := Kd.C_max a_r
  have b_m := Kd.C_max b_r
  go_enter Try.func31, Try.ntmps31
  go_wp2_with (first | ((with_reducible refine wp_region_calm (id := 6) (by kernel_rfl) (by kernel_rfl) ?_); (repeat (go_big_quiet_step ((first | (go_at_call 64; exact calm_of (c_laws_eqReading _ _ _ _ _ _ _ )))))); refine wpQuiet_nil ?_; intro g d) | (go_at_call 64; refine (c_laws_eqReading _ _ _ _ _ _ _ ).mono ?_; rintro e w' hr; obtain ⟨rfl, g, d, rfl⟩ := Ret.open hr; clear hr) | go_region)
  · refine bodyPost_ret (v := .bool (Pu.eqS Pu.eqReading a b)) ?_ rfl (Ret.mk (by repeat (first | exact Below.refl _ _ | assumption | apply below_alloc | apply below_junk | apply below_drew)))
    go_light
    rw [Pu.eqS_len (by simp only [bne_iff_ne, ne_eq] at *; omega)]; simp [results, Try.results31, go_sem]
  · go_loopw [5] (fun n wr => ∃ k : Nat, k ≤ a.length ∧ n = .int .i64 k ∧ Pu.eqS Pu.eqReading (a.drop k) (b.drop k) = Pu.eqS Pu.eqReading a b ∧ Below w.heap.size w wr) (fun n _ => a.length - (intOf n).toNat)
    case atStart => exact ⟨0, by omega, rfl, rfl, Below.refl _ _⟩
    case round =>
      obtain ⟨k, hk, rfl, hE, HBW⟩ := hrel
      have HE := Lib.hid hE; clear hE
      have hab : a.length = b.length := by simp only [bne_eq_false_iff_eq] at *; omega
      by_cases hlt : k < a.length
      · obtain ⟨ad, x, rfl, hx, hbx, hxc⟩ := at_Reading (Kd.C_below a_r HBW) k hlt
        obtain ⟨bd, y, rfl, hy, hby, hyc⟩ := at_Reading (Kd.C_below b_r HBW) k (by omega)
        obtain ⟨hx0, hx1, hx2⟩ := hxc
        obtain ⟨hy0, hy1, hy2⟩ := hyc
        have HX := Lib.hid (Pu.eqS_drop (e := Pu.eqReading) hx hy)
        go_wp2_with (first | ((with_reducible refine wp_region_calm (id := 6) (by kernel_rfl) (by kernel_rfl) ?_); (repeat (go_big_quiet_step ((first | (go_at_call 64; exact calm_of (c_laws_eqReading _ _ _ _ _ _ _ )))))); refine wpQuiet_nil ?_; intro g d) | (go_at_call 64; refine (c_laws_eqReading _ _ _ _ _ _ _ ).mono ?_; rintro e w' hr; obtain ⟨rfl, g, d, rfl⟩ := Ret.open hr; clear hr) | go_region)
        · refine bodyPost_ret (v := .bool (Pu.eqS Pu.eqReading a b)) ?_ rfl (Ret.mk (by repeat (first | exact Below.refl _ _ | assumption | apply below_alloc | apply below_junk | apply below_drew)))
          have hq : Pu.eqReading x y = false := by simpa using (by assumption : (!Pu.eqReading x y) = true)
          go_light
          rw [← HE.out, HX.out, hq]; simp [results, Try.results31, go_sem]
        · have hq : Pu.eqReading x y = true := by simpa using (by assumption : (!Pu.eqReading x y) = false)
          go_roundw
          case rel => exact ⟨k + 1, by omega, by go_num, by rw [← HE.out, HX.out, hq]; simp, (by repeat (first | exact Below.refl _ _ | assumption | apply below_alloc | apply below_junk | apply below_drew))⟩
          case measure => simp [intOf]; omega
      · go_wp2_with (first | ((with_reducible refine wp_region_calm (id := 6) (by kernel_rfl) (by kernel_rfl) ?_); (repeat (go_big_quiet_step ((first | (go_at_call 64; exact calm_of (c_laws_eqReading _ _ _ _ _ _ _ )))))); refine wpQuiet_nil ?_; intro g d) | (go_at_call 64; refine (c_laws_eqReading _ _ _ _ _ _ _ ).mono ?_; rintro e w' hr; obtain ⟨rfl, g, d, rfl⟩ := Ret.open hr; clear hr) | go_region)
        refine bodyPost_ret (v := .bool (Pu.eqS Pu.eqReading a b)) ?_ rfl (Ret.mk (by repeat (first | exact Below.refl _ _ | assumption | apply below_alloc | apply below_junk | apply below_drew)))
        go_light
        rw [← HE.out, List.drop_eq_nil_of_le (by omega), List.drop_eq_nil_of_le (by omega)]; simp [results, Try.results31, go_sem, Pu.eqS]

-- laws.toReadingS
set_option maxHeartbeats 1000000 in
set_option maxRecDepth 100000 in
theorem c_laws_toReadingS (a_A : Option Addr) (a_c : Nat) (a : List Reading) (w : World) (a_r : Kd.C kReading w a_A a.length a) (a_h : a.length ≤ a_c) (hn : a.length ≤ 1048576) :
    Calls Try.prog 28 #[.slice a_A a.length a_c] w (fun e w' => ∃ v0 : Value, e = .returned (v0) ∧ Kd.R kReading 86 w' w.heap.size (fun _ => True) v0 (a) ∧ Below w.heap.size w w') := by
  have a_m := Kd.C_max a_r
  have hz : Kd.M kReading w w.heap.size (fun _ => True) (⟨0, false, 0⟩ : Reading) [.int .i64 0, .bool false, .int .i64 0] := kReading_mkM _ _ _ ⟨0, false, 0⟩
  go_enter Try.func28, Try.ntmps28
  go_wp2_with (first | ((with_reducible refine gate_dst (N := 7) rfl ?_); refine Kd.R_make kReading _ 86 rfl (N := 7) rfl 45 _ _ rfl (a.length : Int) rfl rfl Try.underlying45 (.agg #[.int .i64 0, .bool false, .int .i64 0]) 24 (by kernel_rfl) rfl (by decide) (by omega) (⟨0, false, 0⟩ : Reading) (ok := fun _ => True) (okp := fun _ => True) hz (fun _ hk => hk) trivial (by omega) (by omega) (Below.refl _ _) (Nat.le_refl _) ?_; intro v w1 hR hb hg hnew; clear hg hnew; obtain ⟨g0, d0, rfl⟩ := junk_of_below hb; clear hb))
  have HR := Lib.hid hR; clear hR
  go_loopw [4] (fun n wr => ∃ k : Nat, k ≤ a.length ∧ n = .int .i64 k ∧ Hid (Kd.R kReading 86 wr w.heap.size (fun _ => True) v (a.take k ++ List.replicate (a.length - k) ⟨0, false, 0⟩)) ∧ Below w.heap.size w wr) (fun n _ => a.length - (intOf n).toNat)
  case atStart => exact ⟨0, by omega, rfl, Lib.hid (by have := HR.out; simpa using this), (by repeat (first | exact Below.refl _ _ | assumption | apply below_alloc | apply below_junk | apply below_drew))⟩
  case round =>
    obtain ⟨k, hk, rfl, HE, HBW⟩ := hrel
    by_cases hlt : k < a.length
    · obtain ⟨ad, x, rfl, hx, hbx, hx0_, hx1_, hx2_⟩ := at_Reading (Kd.C_below a_r HBW) k hlt
      obtain ⟨g, cap, x0, rfl, hg0, hg1, hx0, ho0, ho1, ho2, hf0, hf1, hf2⟩ := own_Reading HE.out k (by simp; omega)
      have hl : (a.take k ++ List.replicate (a.length - k) (⟨0, false, 0⟩ : Reading)).length = a.length := by simp; omega
      simp only [hl] at HE
      rw [hl]
      go_wp2_with (first | (go_at_call 61; refine (c_laws_toReading _ _ _ _ ).mono ?_; rintro e w' hr; obtain ⟨rfl, g, d, rfl⟩ := Ret.open hr; clear hr) | go_region)
      go_roundw
      case rel =>
        refine ⟨k + 1, by omega, by go_num, Lib.hid ?_, by repeat (first | exact HBW | apply below_alloc | apply below_junk | apply below_drew | refine below_set ?_ hg0)⟩
        have hp := Kd.R_below (put_Reading HE.out k (by omega) x) (below_junk g d (Below.refl _ _))
        rw [Pu.fill hx] at hp
        exact hp
      case measure => simp [intOf]; omega
    · go_wp2_with (first | (go_at_call 61; refine (c_laws_toReading _ _ _ _ ).mono ?_; rintro e w' hr; obtain ⟨rfl, g, d, rfl⟩ := Ret.open hr; clear hr) | go_region)
      go_ret
      have hkl : k = a.length := by omega
      subst hkl
      exact ⟨_, rfl, by have := HE.out; simpa using this, HBW⟩

end Go.Proofs.Ythgcceochfjfcaa
