/-
  Contracts of Go functions of this seat: what each call hands back, as a plain function of its arguments, and that nothing that was there has turned.
  No statement of the seat is proved here.
-/
import Derived.Test.YthgcceochfjfcaaProg
import Derived.Test.YthgcceochfjfcaaPure
import Derived.Test.YthgcceochfjfcaaActs
import Derived.Deep.Light
import Derived.RegionTactic
import Derived.Deep.RegionWith
import Derived.BigRegion
import Derived.ChangeAlike
import Derived.Test.YthgcceochfjfcaaCa
import Derived.Test.YthgcceochfjfcaaCl
import Derived.Test.YthgcceochfjfcaaFracs
namespace Go.Proofs.Ythgcceochfjfcaa
open Go.RowKit
set_option linter.unusedVariables false
set_option linter.unusedSimpArgs false

-- spec.l11Size
set_option maxHeartbeats 1000000 in
set_option maxRecDepth 100000 in
theorem c_spec_l11Size (x : Int) (w : World)  :
    Calls Try.prog 65 #[.int .i64 x] w (Ret w (.bool (Pu.In x (-4000000000000) 4000000000000))) := by
  go_enter Try.func65, Try.ntmps65
  go_wp2_with (first
    | (go_at_call 52; refine (c_spec_l1In _ _ _ _ ).mono ?_; rintro e w' hr; (rcases Ret.bool hr with ⟨rfl, hX, g, d, rfl⟩ | ⟨rfl, hX, g, d, rfl⟩ <;> first | (have hB := (Pu.In_iff _ _ _).1 hX; (try dsimp only at hB); obtain ⟨hB1, hB2⟩ := hB; clear hr) | (have hB := Pu.no_of (Pu.In_iff _ _ _) hX; (try dsimp only at hB); clear hr) | clear hr))
    | go_region)
  all_goals refine bodyPost_ret (v := .bool (Pu.In x (-4000000000000) 4000000000000)) ?_ rfl (Ret.mk (by repeat (first | exact Below.refl _ _ | apply below_alloc | apply below_junk | apply below_drew)))
  all_goals first | (simp [results, Try.results65, go_sem, *]; done) | (simp [results, Try.results65, go_sem, *]; omega) | (go_light; simp [results, Try.results65, go_sem, *]; intros; exfalso; omega) | (go_light; simp [results, Try.results65, go_sem, *]; (repeat' split) <;> first | omega | (simp; done) | (simp_all; done)) | (go_light; simp_all [results, Try.results65, go_sem, ]; done) | (go_light; simp_all [results, Try.results65, go_sem, ]; omega)
theorem c_spec_l11Size_b (x : Int) (w : World) (b : Bool) (hb : Pu.In x (-4000000000000) 4000000000000 = b) :
    Calls Try.prog 65 #[.int .i64 x] w (Ret w (.bool b)) := by subst hb; exact c_spec_l11Size x w

-- impl.size
set_option maxHeartbeats 1000000 in
set_option maxRecDepth 100000 in
theorem c_impl_size (x : Int) (w : World) (hx0 : -5000000000000000000 ≤ x) (hx1 : x ≤ 5000000000000000000) :
    Calls Try.prog 68 #[.int .i64 x] w (Ret w (.int .i64 (max x (-x)))) := by
  go_enter Try.func68, Try.ntmps68
  go_wp2_with (first
    | go_region)
  all_goals refine bodyPost_ret (v := .int .i64 (max x (-x))) ?_ rfl (Ret.mk (by repeat (first | exact Below.refl _ _ | apply below_alloc | apply below_junk | apply below_drew)))
  all_goals first | (simp [results, Try.results68, go_sem, *]; done) | (simp [results, Try.results68, go_sem, *]; omega) | (go_light; simp [results, Try.results68, go_sem, *]; intros; exfalso; omega) | (go_light; simp [results, Try.results68, go_sem, *]; (repeat' split) <;> first | omega | (simp; done) | (simp_all; done)) | (go_light; simp_all [results, Try.results68, go_sem, ]; done) | (go_light; simp_all [results, Try.results68, go_sem, ]; omega)

-- spec.l11Gcd
set_option maxHeartbeats 1000000 in
set_option maxRecDepth 100000 in
theorem c_spec_l11Gcd (a : Int) (b : Int) (w : World) (ha0 : -4000000000000 ≤ a) (ha1 : a ≤ 4000000000000) (hb0 : -4000000000000 ≤ b) (hb1 : b ≤ 4000000000000) :
    Calls Try.prog 66 #[.int .i64 a, .int .i64 b] w (Ret w (.int .i64 (Int.gcd a b : Int))) := by
  go_enter Try.func66, Try.ntmps66
  go_wp2
  go_loop [0, 1] (fun x y => ∃ p q : Int, x = .int .i64 p ∧ y = .int .i64 q ∧ -4000000000000 ≤ p ∧ p ≤ 4000000000000 ∧ -4000000000000 ≤ q ∧ q ≤ 4000000000000 ∧ Int.gcd p q = Int.gcd a b) (fun _ y => (intOf y).natAbs)
  case atStart => exact ⟨a, b, rfl, rfl, ha0, ha1, hb0, hb1, rfl⟩
  case round =>
    obtain ⟨p, q, rfl, rfl, hp0, hp1, hq0, hq1, hg⟩ := hrel
    have HG := Lib.hid hg; clear hg
    have hm := Pu.tmod_bd p q 4000000000000 hp0 hp1
    obtain ⟨hm0, hm1⟩ := hm
    by_cases hz : q = 0
    · subst hz
      have hs := Pu.gcd_stop p
      have HS := Lib.hid hs; clear hs
      go_wp2
      all_goals go_ret
      all_goals refine Ret.mk' ?_ (by repeat (first | exact Below.refl _ _ | apply below_alloc | apply below_junk | apply below_drew))
      all_goals (rw [← HG.out, HS.out]; first | (rw [if_pos (by assumption)]; rfl) | (rw [if_neg (by omega)]; rfl))
    · have hz' : (q != 0) = true := by simpa using hz
      go_wp2
      go_round
      case rel =>
        refine ⟨q, p.tmod q, rfl, rfl, hq0, hq1, hm0, hm1, ?_⟩
        rw [Pu.gcd_step]; exact HG.out
      case measure => simp only [intOf]; exact Pu.tmod_lt p q hz

-- impl.gcd
set_option maxHeartbeats 1000000 in
set_option maxRecDepth 100000 in
theorem c_impl_gcd (a : Int) (b : Int) (w : World) (ha0 : 0 ≤ a) (ha1 : a ≤ 4000000000000) (hb0 : 0 ≤ b) (hb1 : b ≤ 4000000000000) :
    Calls Try.prog 67 #[.int .i64 a, .int .i64 b] w (Ret w (.int .i64 (Int.gcd a b : Int))) := by
  go_enter Try.func67, Try.ntmps67
  go_wp2
  go_loopw [0, 1] (fun x y wr => ∃ p q : Int, x = .int .i64 p ∧ y = .int .i64 q ∧ 0 ≤ p ∧ p ≤ 4000000000000 ∧ 0 ≤ q ∧ q ≤ 4000000000000 ∧ Int.gcd p q = Int.gcd a b ∧ Below w.heap.size w wr) (fun _ y _ => (intOf y).natAbs)
  case atStart => exact ⟨a, b, rfl, rfl, ha0, ha1, hb0, hb1, rfl, Below.refl _ _⟩
  case round =>
    obtain ⟨p, q, rfl, rfl, hp0, hp1, hq0, hq1, hg, HBW⟩ := hrel
    have HG := Lib.hid hg; clear hg
    by_cases hz : q = 0
    · subst hz
      have hs := Pu.gcd_stop p
      have HS := Lib.hid hs; clear hs
      go_wp2
      all_goals go_ret
      all_goals refine Ret.mk' ?_ HBW
      rw [← HG.out, HS.out, if_neg (by omega)]; rfl
    · have hz' : (q != 0) = true := by simpa using hz
      have hq : 1 ≤ q := by omega
      have hm1 := Int.emod_nonneg p hz
      have hm2 := Int.emod_lt_of_pos p (show 0 < q by omega)
      go_wp2_with (go_region)
      go_roundw
      case rel =>
        refine ⟨q, p % q, rfl, rfl, hq0, hq1, hm1, by omega, ?_, ?_⟩
        · rw [← Int.tmod_eq_emod_of_nonneg hp0, Pu.gcd_step]; exact HG.out
        · exact (by repeat (first | exact HBW | apply below_alloc | apply below_junk | apply below_drew))
      case measure => simp only [intOf]; rw [← Int.tmod_eq_emod_of_nonneg hp0]; exact Pu.tmod_lt p q hz

-- spec.FracOk
set_option maxHeartbeats 1000000 in
set_option maxRecDepth 100000 in
theorem c_spec_FracOk (a_num : Int) (a_den : Int) (w : World)  :
    Calls Try.prog 32 #[.agg #[.int .i64 a_num, .int .i64 a_den]] w (Ret w (.bool (Pu.FracOk (⟨a_num, a_den⟩ : Frac)))) := by
  go_enter Try.func32, Try.ntmps32
  go_wp2_with (first
    | (go_at_call 65; refine (c_spec_l11Size _ _ ).mono ?_; rintro e w' hr; (rcases Ret.bool hr with ⟨rfl, hX, g, d, rfl⟩ | ⟨rfl, hX, g, d, rfl⟩ <;> first | (have hB := (Pu.In_iff _ _ _).1 hX; (try dsimp only at hB); obtain ⟨hB1, hB2⟩ := hB; clear hr) | (have hB := Pu.no_of (Pu.In_iff _ _ _) hX; (try dsimp only at hB); clear hr) | clear hr))
    | (go_at_call 52; refine (c_spec_l1In _ _ _ _ ).mono ?_; rintro e w' hr; (rcases Ret.bool hr with ⟨rfl, hX, g, d, rfl⟩ | ⟨rfl, hX, g, d, rfl⟩ <;> first | (have hB := (Pu.In_iff _ _ _).1 hX; (try dsimp only at hB); obtain ⟨hB1, hB2⟩ := hB; clear hr) | (have hB := Pu.no_of (Pu.In_iff _ _ _) hX; (try dsimp only at hB); clear hr) | clear hr))
    | (go_at_call 66; refine (c_spec_l11Gcd _ _ _ (by omega) (by omega) (by omega) (by omega)).mono ?_; rintro e w' hr; obtain ⟨rfl, g, d, rfl⟩ := Ret.open hr; clear hr)
    | go_region)
  all_goals refine bodyPost_ret (v := .bool (Pu.FracOk (⟨a_num, a_den⟩ : Frac))) ?_ rfl (Ret.mk (by repeat (first | exact Below.refl _ _ | apply below_alloc | apply below_junk | apply below_drew)))
  all_goals first | (simp [results, Try.results32, go_sem, Pu.FracOk, Pu.In, Pu.one_beq, *]; done) | (simp [results, Try.results32, go_sem, Pu.FracOk, Pu.In, Pu.one_beq, *]; omega) | (go_light; simp [results, Try.results32, go_sem, Pu.FracOk, Pu.In, Pu.one_beq, *]; intros; exfalso; omega) | (go_light; simp [results, Try.results32, go_sem, Pu.FracOk, Pu.In, Pu.one_beq, *]; (repeat' split) <;> first | omega | (simp; done) | (simp_all; done)) | (go_light; simp_all [results, Try.results32, go_sem, Pu.FracOk, Pu.In, Pu.one_beq, ]; done) | (go_light; simp_all [results, Try.results32, go_sem, Pu.FracOk, Pu.In, Pu.one_beq, ]; omega)
theorem c_spec_FracOk_b (a_num : Int) (a_den : Int) (w : World) (b : Bool) (hb : Pu.FracOk (⟨a_num, a_den⟩ : Frac) = b) :
    Calls Try.prog 32 #[.agg #[.int .i64 a_num, .int .i64 a_den]] w (Ret w (.bool b)) := by subst hb; exact c_spec_FracOk a_num a_den w

-- impl.FracOk
set_option maxHeartbeats 1000000 in
set_option maxRecDepth 100000 in
theorem c_impl_FracOk (a_num : Int) (a_den : Int) (w : World)  :
    Calls Try.prog 34 #[.agg #[.int .i64 a_num, .int .i64 a_den]] w (Ret w (.bool (Pu.FracOk (⟨a_num, a_den⟩ : Frac)))) := by
  rcases Bool.eq_false_or_eq_true (Pu.In a_den 1 4000000000000) with h1 | h1
  · have hd := (Pu.In_iff _ _ _).1 h1
    obtain ⟨hd0, hd1⟩ := hd
    rcases Bool.eq_false_or_eq_true (Pu.In a_num (-4000000000000) 4000000000000) with h2 | h2
    · have hn := (Pu.In_iff _ _ _).1 h2
      obtain ⟨hn0, hn1⟩ := hn
      go_enter Try.func34, Try.ntmps34
      go_wp2_with (with_reducible refine wp_region_calm (id := 1) (by kernel_rfl) (by kernel_rfl) ?_; (repeat (go_big_quiet_step (first | (go_at_call 53; exact calm_of (c_impl_in_b _ _ _ _ _ (by assumption))) | (go_at_call 68; exact calm_of (c_impl_size _ _ (by omega) (by omega))) | (go_at_call 67; exact calm_of (c_impl_gcd _ _ _ (by omega) (by omega) (by omega) (by omega)))))); refine wpQuiet_nil ?_; intro g d)
      go_ret
      exact Ret.mk' (by simp [Pu.FracOk, h1, h2, Pu.gcd_size, Pu.one_beq]) (by repeat (first | exact Below.refl _ _ | apply below_alloc | apply below_junk | apply below_drew))
    · go_enter Try.func34, Try.ntmps34
      go_wp2_with (with_reducible refine wp_region_calm (id := 1) (by kernel_rfl) (by kernel_rfl) ?_; (repeat (go_big_quiet_step (first | (go_at_call 53; exact calm_of (c_impl_in_b _ _ _ _ _ (by assumption)))))); refine wpQuiet_nil ?_; intro g d)
      go_ret
      exact Ret.mk' (by simp [Pu.FracOk, h1, h2]) (by repeat (first | exact Below.refl _ _ | apply below_alloc | apply below_junk | apply below_drew))
  · go_enter Try.func34, Try.ntmps34
    go_wp2_with (with_reducible refine wp_region_calm (id := 1) (by kernel_rfl) (by kernel_rfl) ?_; (repeat (go_big_quiet_step (first | (go_at_call 53; exact calm_of (c_impl_in_b _ _ _ _ _ (by assumption)))))); refine wpQuiet_nil ?_; intro g d)
    go_ret
    exact Ret.mk' (by simp [Pu.FracOk, h1]) (by repeat (first | exact Below.refl _ _ | apply below_alloc | apply below_junk | apply below_drew))
theorem c_impl_FracOk_b (a_num : Int) (a_den : Int) (w : World) (b : Bool) (hb : Pu.FracOk (⟨a_num, a_den⟩ : Frac) = b) :
    Calls Try.prog 34 #[.agg #[.int .i64 a_num, .int .i64 a_den]] w (Ret w (.bool b)) := by subst hb; exact c_impl_FracOk a_num a_den w

-- laws.FnExactFracOk
set_option maxHeartbeats 1000000 in
set_option maxRecDepth 100000 in
theorem c_laws_FnExactFracOk (a_num : Int) (a_den : Int) (w : World)  :
    Calls Try.prog 7 #[.agg #[.int .i64 a_num, .int .i64 a_den]] w (Ret w (.bool true)) := by
  go_enter Try.func7, Try.ntmps7
  go_wp2_with (first
    | (go_at_call 32; refine (c_spec_FracOk _ _ _ ).mono ?_; rintro e w' hr; (rcases Ret.bool hr with ⟨rfl, hX, g, d, rfl⟩ | ⟨rfl, hX, g, d, rfl⟩ <;> first | (have hB := Pu.FracOk_bd hX; (try dsimp only at hB); obtain ⟨hB1, hB2, hB3, hB4⟩ := hB; clear hr) | clear hr))
    | (go_at_call 33; refine (c_laws_toFrac _ _ _ ).mono ?_; rintro e w' hr; obtain ⟨rfl, g, d, rfl⟩ := Ret.open hr; clear hr)
    | (go_at_call 34; refine (c_impl_FracOk _ _ _ ).mono ?_; rintro e w' hr; (rcases Ret.bool hr with ⟨rfl, hX, g, d, rfl⟩ | ⟨rfl, hX, g, d, rfl⟩ <;> first | (have hB := Pu.FracOk_bd hX; (try dsimp only at hB); obtain ⟨hB1, hB2, hB3, hB4⟩ := hB; clear hr) | clear hr))
    | go_region)
  all_goals refine bodyPost_ret (v := .bool true) ?_ rfl (Ret.mk (by repeat (first | exact Below.refl _ _ | apply below_alloc | apply below_junk | apply below_drew)))
  all_goals first | (simp [results, Try.results7, go_sem, *]; done) | (simp [results, Try.results7, go_sem, *]; omega) | (go_light; simp [results, Try.results7, go_sem, *]; intros; exfalso; omega) | (go_light; simp [results, Try.results7, go_sem, *]; (repeat' split) <;> first | omega | (simp; done) | (simp_all; done)) | (go_light; simp_all [results, Try.results7, go_sem, ]; done) | (go_light; simp_all [results, Try.results7, go_sem, ]; omega)

end Go.Proofs.Ythgcceochfjfcaa
