/-
  Contracts of Go functions of this seat: what each call hands back, as a plain function of its arguments, and that nothing that was there has turned.
  No statement of the seat is proved here.
-/
import Derived.Test.YthgcceochfjfcaaProg
import Derived.Test.YthgcceochfjfcaaPure
import Derived.Test.YthgcceochfjfcaaActs
import Derived.Deep.Light
import Derived.RegionTactic
import Derived.Deep.RegionWith
import Derived.BigRegion
import Derived.ChangeAlike
import Derived.Test.YthgcceochfjfcaaCa
import Derived.Test.YthgcceochfjfcaaCl
import Derived.Test.YthgcceochfjfcaaCf
import Derived.Test.YthgcceochfjfcaaCg
import Derived.Test.YthgcceochfjfcaaCh
import Derived.Test.YthgcceochfjfcaaCi
import Derived.Test.YthgcceochfjfcaaFracs2
namespace Go.Proofs.Ythgcceochfjfcaa
open Go.RowKit
set_option linter.unusedVariables false
set_option linter.unusedSimpArgs false

set_option maxRecDepth 100000 in
theorem c_cmp_Or_int' (blk : Nat) (x y r : Int) (hr : r = if x = 0 then y else x) (w : World) (h0 : w.cell? ⟨blk, 0, none⟩ = some (.int .i64 x)) (h1 : w.cell? ⟨blk, 1, none⟩ = some (.int .i64 y)) :
    Calls Try.prog 81 #[.slice (some ⟨blk, 0, none⟩) 2 2] w (Ret w (.int .i64 r)) := by
  go_enter Try.func81, Try.ntmps81
  have HR := Lib.hid hr; clear hr
  go_wp2
  go_loop [8] (fun n => n = .int .i64 0 ∨ (n = .int .i64 1 ∧ x = 0) ∨ (n = .int .i64 2 ∧ x = 0 ∧ y = 0)) (fun n => (3 - intOf n).toNat)
  case atStart => exact .inl rfl
  case round =>
    rcases hrel with rfl | ⟨rfl, hx⟩ | ⟨rfl, hx, hy⟩
    · by_cases hx : x = 0
      · subst hx
        go_wp2
        go_round
        case rel => simp
        case measure => decide
      · have hx' : (x != 0) = true := by simpa using hx
        go_wp2
        go_ret
        exact Ret.mk' (by rw [HR.out, if_neg hx]; rfl) (Below.refl _ _)
    · subst hx
      by_cases hy : y = 0
      · subst hy
        go_wp2
        go_round
        case rel => simp
        case measure => decide
      · have hy' : (y != 0) = true := by simpa using hy
        go_wp2
        go_ret
        exact Ret.mk' (by have h := HR.out; simp at h; subst h; rfl) (Below.refl _ _)
    · subst hx hy
      go_wp2
      go_ret
      exact Ret.mk' (by have h := HR.out; simp at h; subst h; rfl) (Below.refl _ _)
theorem c_cmp_Or_int (blk : Nat) (x y : Int) (w : World) (h0 : w.cell? ⟨blk, 0, none⟩ = some (.int .i64 x)) (h1 : w.cell? ⟨blk, 1, none⟩ = some (.int .i64 y)) :
    Calls Try.prog 81 #[.slice (some ⟨blk, 0, none⟩) 2 2] w (Ret w (.int .i64 (if x = 0 then y else x))) := c_cmp_Or_int' blk x y _ rfl w h0 h1
-- impl.compareProducts
set_option maxHeartbeats 1000000 in
set_option maxRecDepth 100000 in
theorem c_impl_compareProducts (a : Int) (b : Int) (c : Int) (e : Int) (w : World) (ha0 : -4000000000000 ≤ a) (ha1 : a ≤ 4000000000000) (hb0 : 1 ≤ b) (hb1 : b ≤ 4000000000000) (hp0 : -4000000000000 ≤ c) (hp1 : c ≤ 4000000000000) (hq0 : 1 ≤ e) (hq1 : e ≤ 4000000000000) :
    Calls Try.prog 78 #[.int .i64 a, .int .i64 b, .int .i64 c, .int .i64 e] w (Ret w (.int .i64 (Pu.Cmp (a * b) (c * e)))) := by
  go_enter Try.func78, Try.ntmps78
  go_wp2_with (first | (go_at_call 79; refine (c_cmp_Compare_int _ _ _ ).mono ?_; rintro e w' hr; obtain ⟨rfl, g, d, rfl⟩ := Ret.open hr; clear hr) | (go_at_call 80; refine (c_math_bits_Mul64 _ _ _ (by omega) (by omega) (by omega) (by omega)).mono ?_; rintro e w' hr; obtain ⟨rfl, g, d, rfl⟩ := Ret.open hr; clear hr) | (go_at_call 68; refine (c_impl_size _ _ (by omega) (by omega)).mono ?_; rintro e w' hr; obtain ⟨rfl, g, d, rfl⟩ := Ret.open hr; clear hr) | (go_at_call 82; refine (c_cmp_Compare_uint64 _ _ _ ).mono ?_; rintro e w' hr; obtain ⟨rfl, g, d, rfl⟩ := Ret.open hr; clear hr) | (go_at_call 81; refine (c_cmp_Or_int _ _ _ _ (by simp [go_sem]; rfl) (by simp [go_sem]; rfl)).mono ?_; rintro e w' hr; obtain ⟨rfl, g, d, rfl⟩ := Ret.open hr; clear hr) | go_region)
  all_goals refine bodyPost_ret (v := .int .i64 (Pu.Cmp (a * b) (c * e))) ?_ rfl (Ret.mk (by repeat (first | exact Below.refl _ _ | apply below_alloc | apply below_junk | apply below_drew)))
  all_goals go_light
  all_goals simp only [bne_iff_ne, beq_iff_eq, bne_eq_false_iff_eq, beq_eq_false_iff_ne, ne_eq] at *
  all_goals obtain ⟨e1, e2, e3⟩ := Pu.Cmp_prods a b c e (by omega) (by omega)
  all_goals first
    | (rw [e1 (by assumption)]; simp [results, Try.results78, go_sem]; done)
    | (rw [e2 (by assumption) (by assumption), if_pos (by assumption)]; simp [results, Try.results78, go_sem]; exact IntWalk.wrap64_in _ (by have := Pu.Cmp_bd (max a (-a) * b % 18446744073709551616) (max c (-c) * e % 18446744073709551616); omega))
    | (rw [e2 (by assumption) (by assumption), if_neg (by assumption)]; simp [results, Try.results78, go_sem]; exact IntWalk.wrap64_in _ (by have := Pu.Cmp_bd (max a (-a) * b / 18446744073709551616) (max c (-c) * e / 18446744073709551616); omega))
    | (rw [e3 (by assumption) (by assumption), if_pos (by assumption)]; simp [results, Try.results78, go_sem]; done)
    | (rw [e3 (by assumption) (by assumption), if_neg (by assumption)]; simp [results, Try.results78, go_sem]; done)

-- impl.FracCmp
set_option maxHeartbeats 1000000 in
set_option maxRecDepth 100000 in
theorem c_impl_FracCmp (a_num : Int) (a_den : Int) (b_num : Int) (b_den : Int) (w : World)  :
    Calls Try.prog 47 #[.agg #[.int .i64 a_num, .int .i64 a_den], .agg #[.int .i64 b_num, .int .i64 b_den]] w (Ret w (.int .i64 (Pu.FracCmp (⟨a_num, a_den⟩ : Frac) (⟨b_num, b_den⟩ : Frac)))) := by
  go_enter Try.func47, Try.ntmps47
  go_wp2_with (first
    | (go_at_call 34; refine (c_impl_FracOk _ _ _ ).mono ?_; rintro e w' hr; (rcases Ret.bool hr with ⟨rfl, hX, g, d, rfl⟩ | ⟨rfl, hX, g, d, rfl⟩ <;> first | (have hB := Pu.FracOk_bd hX; (try dsimp only at hB); obtain ⟨hB1, hB2, hB3, hB4⟩ := hB; clear hr) | clear hr))
    | (go_at_call 78; refine (c_impl_compareProducts _ _ _ _ _ (by omega) (by omega) (by omega) (by omega) (by omega) (by omega) (by omega) (by omega)).mono ?_; rintro e w' hr; obtain ⟨rfl, g, d, rfl⟩ := Ret.open hr; clear hr)
    | go_region)
  all_goals refine bodyPost_ret (v := .int .i64 (Pu.FracCmp (⟨a_num, a_den⟩ : Frac) (⟨b_num, b_den⟩ : Frac))) ?_ rfl (Ret.mk (by repeat (first | exact Below.refl _ _ | apply below_alloc | apply below_junk | apply below_drew)))
  all_goals first | (simp [results, Try.results47, go_sem, Pu.FracCmp, *]; done) | (simp [results, Try.results47, go_sem, Pu.FracCmp, *]; omega) | (go_light; simp [results, Try.results47, go_sem, Pu.FracCmp, *]; intros; exfalso; omega) | (go_light; simp [results, Try.results47, go_sem, Pu.FracCmp, *]; (repeat' split) <;> first | omega | (simp; done) | (simp_all; done)) | (go_light; simp_all [results, Try.results47, go_sem, Pu.FracCmp, ]; done) | (go_light; simp_all [results, Try.results47, go_sem, Pu.FracCmp, ]; omega)

end Go.Proofs.Ythgcceochfjfcaa
