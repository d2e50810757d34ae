/-
  Contracts of Go functions of this seat: what each call hands back, as a plain function of its arguments, and that nothing that was there has turned.
  No statement of the seat is proved here.
-/
import Derived.Test.YthgcceochfjfcaaProg
import Derived.Test.YthgcceochfjfcaaPure
import Derived.Test.YthgcceochfjfcaaActs
import Derived.Deep.Light
import Derived.RegionTactic
import Derived.Deep.RegionWith
import Derived.BigRegion
import Derived.ChangeAlike
import Derived.Test.YthgcceochfjfcaaCa
import Derived.Test.YthgcceochfjfcaaCl
import Derived.Test.YthgcceochfjfcaaCf
import Derived.Test.YthgcceochfjfcaaCg
import Derived.Test.YthgcceochfjfcaaCh
import Derived.Test.YthgcceochfjfcaaFracs
import Derived.Test.YthgcceochfjfcaaFracs2
import Derived.Ground.NamesProg
import Derived.Shelf.Bits.Mul64
import Derived.Shelf.Lay
namespace Go.Proofs.Ythgcceochfjfcaa
open Go.RowKit
set_option linter.unusedVariables false
set_option linter.unusedSimpArgs false

-- cmp.isNaN[int]
set_option maxHeartbeats 1000000 in
set_option maxRecDepth 100000 in
theorem c_cmp_isNaN_int (x : Int) (w : World)  :
    Calls Try.prog 83 #[.int .i64 x] w (Ret w (.bool false)) := by
  go_enter Try.func83, Try.ntmps83
  go_wp2_with (first
    | go_region)
  all_goals refine bodyPost_ret (v := .bool false) ?_ rfl (Ret.mk (by repeat (first | exact Below.refl _ _ | apply below_alloc | apply below_junk | apply below_drew)))
  all_goals first | (simp [results, Try.results83, go_sem, *]; done) | (simp [results, Try.results83, go_sem, *]; omega) | (go_light; simp [results, Try.results83, go_sem, *]; intros; exfalso; omega) | (go_light; simp [results, Try.results83, go_sem, *]; (repeat' split) <;> first | omega | (simp; done) | (simp_all; done)) | (go_light; simp_all [results, Try.results83, go_sem, ]; done) | (go_light; simp_all [results, Try.results83, go_sem, ]; omega)

-- cmp.Compare[int]
set_option maxHeartbeats 1000000 in
set_option maxRecDepth 100000 in
theorem c_cmp_Compare_int (x : Int) (y : Int) (w : World)  :
    Calls Try.prog 79 #[.int .i64 x, .int .i64 y] w (Ret w (.int .i64 (Pu.Cmp x y))) := by
  go_enter Try.func79, Try.ntmps79
  go_wp2_with (first
    | (go_at_call 83; refine (c_cmp_isNaN_int _ _ ).mono ?_; rintro e w' hr; obtain ⟨rfl, g, d, rfl⟩ := Ret.open hr; clear hr)
    | go_region)
  all_goals refine bodyPost_ret (v := .int .i64 (Pu.Cmp x y)) ?_ rfl (Ret.mk (by repeat (first | exact Below.refl _ _ | apply below_alloc | apply below_junk | apply below_drew)))
  all_goals first | (simp [results, Try.results79, go_sem, Pu.Cmp, *]; done) | (simp [results, Try.results79, go_sem, Pu.Cmp, *]; omega) | (go_light; simp [results, Try.results79, go_sem, Pu.Cmp, *]; intros; exfalso; omega) | (go_light; simp [results, Try.results79, go_sem, Pu.Cmp, *]; (repeat' split) <;> first | omega | (simp; done) | (simp_all; done)) | (go_light; simp_all [results, Try.results79, go_sem, Pu.Cmp, ]; done) | (go_light; simp_all [results, Try.results79, go_sem, Pu.Cmp, ]; omega)

-- cmp.isNaN[uint64]
set_option maxHeartbeats 1000000 in
set_option maxRecDepth 100000 in
theorem c_cmp_isNaN_uint64 (x : Int) (w : World)  :
    Calls Try.prog 84 #[.int .u64 x] w (Ret w (.bool false)) := by
  go_enter Try.func84, Try.ntmps84
  go_wp2_with (first
    | go_region)
  all_goals refine bodyPost_ret (v := .bool false) ?_ rfl (Ret.mk (by repeat (first | exact Below.refl _ _ | apply below_alloc | apply below_junk | apply below_drew)))
  all_goals first | (simp [results, Try.results84, go_sem, *]; done) | (simp [results, Try.results84, go_sem, *]; omega) | (go_light; simp [results, Try.results84, go_sem, *]; intros; exfalso; omega) | (go_light; simp [results, Try.results84, go_sem, *]; (repeat' split) <;> first | omega | (simp; done) | (simp_all; done)) | (go_light; simp_all [results, Try.results84, go_sem, ]; done) | (go_light; simp_all [results, Try.results84, go_sem, ]; omega)

-- cmp.Compare[uint64]
set_option maxHeartbeats 1000000 in
set_option maxRecDepth 100000 in
theorem c_cmp_Compare_uint64 (x : Int) (y : Int) (w : World)  :
    Calls Try.prog 82 #[.int .u64 x, .int .u64 y] w (Ret w (.int .i64 (Pu.Cmp x y))) := by
  go_enter Try.func82, Try.ntmps82
  go_wp2_with (first
    | (go_at_call 84; refine (c_cmp_isNaN_uint64 _ _ ).mono ?_; rintro e w' hr; obtain ⟨rfl, g, d, rfl⟩ := Ret.open hr; clear hr)
    | go_region)
  all_goals refine bodyPost_ret (v := .int .i64 (Pu.Cmp x y)) ?_ rfl (Ret.mk (by repeat (first | exact Below.refl _ _ | apply below_alloc | apply below_junk | apply below_drew)))
  all_goals first | (simp [results, Try.results82, go_sem, Pu.Cmp, *]; done) | (simp [results, Try.results82, go_sem, Pu.Cmp, *]; omega) | (go_light; simp [results, Try.results82, go_sem, Pu.Cmp, *]; intros; exfalso; omega) | (go_light; simp [results, Try.results82, go_sem, Pu.Cmp, *]; (repeat' split) <;> first | omega | (simp; done) | (simp_all; done)) | (go_light; simp_all [results, Try.results82, go_sem, Pu.Cmp, ]; done) | (go_light; simp_all [results, Try.results82, go_sem, Pu.Cmp, ]; omega)

open Go.Shelf in
shelf_lay Lays.n264 Nm 264 at Try as Try.layMul64
-- math/bits.Mul64
set_option maxHeartbeats 1000000 in
set_option maxRecDepth 100000 in
theorem c_math_bits_Mul64 (x : Int) (y : Int) (w : World) (hx0 : 0 ≤ x) (hx1 : x < 18446744073709551616) (hy0 : 0 ≤ y) (hy1 : y < 18446744073709551616) :
    Calls Try.prog 80 #[.int .u64 x, .int .u64 y] w (Ret w (.tuple #[.int .u64 ((x * y / 18446744073709551616, x * y % 18446744073709551616).1), .int .u64 ((x * y / 18446744073709551616, x * y % 18446744073709551616).2)])) := by
  obtain ⟨m, rfl⟩ := Int.eq_ofNat_of_zero_le hx0
  obtain ⟨n, rfl⟩ := Int.eq_ofNat_of_zero_le hy0
  refine (Any.bits_Mul64 Try.layMul64 m n (by omega) (by omega) w).mono ?_
  rintro e w' ⟨rfl, rfl⟩
  exact Ret.mk' (by simp) (Below.refl _ _)

-- spec.l11Cmp
set_option maxHeartbeats 1000000 in
set_option maxRecDepth 100000 in
theorem c_spec_l11Cmp (a : Int) (b : Int) (p : Int) (q : Int) (w : World) (ha0 : -4000000000000 ≤ a) (ha1 : a ≤ 4000000000000) (hb0 : 1 ≤ b) (hb1 : b ≤ 4000000000000) (hp0 : -4000000000000 ≤ p) (hp1 : p ≤ 4000000000000) (hq0 : 1 ≤ q) (hq1 : q ≤ 4000000000000) :
    Calls Try.prog 77 #[.int .i64 a, .int .i64 b, .int .i64 p, .int .i64 q] w (Ret w (.int .i64 (Pu.Cmp (a * q) (p * b)))) := by
  go_enter Try.func77, Try.ntmps77
  go_wp2
  go_loopw [0, 1, 2, 3] (fun xa xb xp xq wr => ∃ a' b' p' q' : Int, xa = .int .i64 a' ∧ xb = .int .i64 b' ∧ xp = .int .i64 p' ∧ xq = .int .i64 q' ∧ -4000000000000 ≤ a' ∧ a' ≤ 4000000000000 ∧ 1 ≤ b' ∧ b' ≤ 4000000000000 ∧ -4000000000000 ≤ p' ∧ p' ≤ 4000000000000 ∧ 1 ≤ q' ∧ q' ≤ 4000000000000 ∧ Pu.Cmp (a' * q') (p' * b') = Pu.Cmp (a * q) (p * b) ∧ Below w.heap.size w wr) (fun _ xb _ xq _ => (intOf xb + intOf xq).toNat)
  case atStart => exact ⟨a, b, p, q, rfl, rfl, rfl, rfl, ha0, ha1, hb0, hb1, hp0, hp1, hq0, hq1, rfl, Below.refl _ _⟩
  case round =>
    obtain ⟨a', b', p', q', rfl, rfl, rfl, rfl, ka0, ka1, kb0, kb1, kp0, kp1, kq0, kq1, hc, HBW⟩ := hrel
    have HC := Lib.hid hc; clear hc ha0 ha1 hb0 hb1 hp0 hp1 hq0 hq1
    have HS := Lib.hid (Pu.Cmp_ends a' b' p' q' kb0 kq0)
    have f := Pu.Cmp_facts a' b' p' q' kb0 kq0 ka0 ka1 kp0 kp1
    obtain ⟨f1, f2, f3, f4, f5, f6, f7, f8, f9, f10⟩ := f
    go_wp2_with (first | (go_at_call 73; refine (c_spec_l1Down _ _ _ (by omega) (by omega) (by omega)).mono ?_; rintro e w' hr; obtain ⟨rfl, g, d, rfl⟩ := Ret.open hr; clear hr) | go_region)
    all_goals first
      | (refine bodyPost_ret (v := .int .i64 (Pu.Cmp (a * q) (p * b))) ?_ rfl (Ret.mk (by repeat (first | exact HBW | apply below_alloc | apply below_junk | apply below_drew)))
         go_light
         simp only [bne_iff_ne, beq_iff_eq, bne_eq_false_iff_eq, beq_eq_false_iff_ne, ne_eq] at *
         obtain ⟨e1, e2, e3, e4, e5, e6⟩ := HS.out
         rw [← HC.out]
         first
           | (rw [e1 (by omega)]; simp [results, Try.results77, go_sem]; done)
           | (rw [e2 (by omega)]; simp [results, Try.results77, go_sem]; done)
           | (rw [e3 (by omega) (by omega) (by omega)]; simp [results, Try.results77, go_sem]; done)
           | (rw [e4 (by omega) (by omega) (by omega)]; simp [results, Try.results77, go_sem]; done)
           | (rw [e5 (by omega) (by omega) (by omega)]; simp [results, Try.results77, go_sem]; done))
      | skip
    · go_light
      simp only [bne_iff_ne, beq_iff_eq, bne_eq_false_iff_eq, beq_eq_false_iff_ne, ne_eq] at *
      obtain ⟨e1, e2, e3, e4, e5, e6⟩ := HS.out
      have g1 : p' - (p' - p' % q') = p' % q' := by omega
      have g2 : a' - (a' - a' % b') = a' % b' := by omega
      rw [g1, g2]
      refine ⟨⟨q', p' % q', b', a' % b', rfl, rfl, rfl, rfl, by omega, by omega, by omega, by omega, by omega, by omega, by omega, by omega, ?_, (by repeat (first | exact HBW | apply below_alloc | apply below_junk | apply below_drew))⟩, ?_⟩
      · rw [← HC.out, e6 (by omega)]
      · simp [intOf]; omega

-- spec.FracCmp
set_option maxHeartbeats 1000000 in
set_option maxRecDepth 100000 in
theorem c_spec_FracCmp (a_num : Int) (a_den : Int) (b_num : Int) (b_den : Int) (w : World)  :
    Calls Try.prog 46 #[.agg #[.int .i64 a_num, .int .i64 a_den], .agg #[.int .i64 b_num, .int .i64 b_den]] w (Ret w (.int .i64 (Pu.FracCmp (⟨a_num, a_den⟩ : Frac) (⟨b_num, b_den⟩ : Frac)))) := by
  go_enter Try.func46, Try.ntmps46
  go_wp2_with (first
    | (go_at_call 32; refine (c_spec_FracOk _ _ _ ).mono ?_; rintro e w' hr; (rcases Ret.bool hr with ⟨rfl, hX, g, d, rfl⟩ | ⟨rfl, hX, g, d, rfl⟩ <;> first | (have hB := Pu.FracOk_bd hX; (try dsimp only at hB); obtain ⟨hB1, hB2, hB3, hB4⟩ := hB; clear hr) | clear hr))
    | (go_at_call 77; refine (c_spec_l11Cmp _ _ _ _ _ (by omega) (by omega) (by omega) (by omega) (by omega) (by omega) (by omega) (by omega)).mono ?_; rintro e w' hr; obtain ⟨rfl, g, d, rfl⟩ := Ret.open hr; clear hr)
    | go_region)
  all_goals refine bodyPost_ret (v := .int .i64 (Pu.FracCmp (⟨a_num, a_den⟩ : Frac) (⟨b_num, b_den⟩ : Frac))) ?_ rfl (Ret.mk (by repeat (first | exact Below.refl _ _ | apply below_alloc | apply below_junk | apply below_drew)))
  all_goals first | (simp [results, Try.results46, go_sem, Pu.FracCmp, *]; done) | (simp [results, Try.results46, go_sem, Pu.FracCmp, *]; omega) | (go_light; simp [results, Try.results46, go_sem, Pu.FracCmp, *]; intros; exfalso; omega) | (go_light; simp [results, Try.results46, go_sem, Pu.FracCmp, *]; (repeat' split) <;> first | omega | (simp; done) | (simp_all; done)) | (go_light; simp_all [results, Try.results46, go_sem, Pu.FracCmp, ]; done) | (go_light; simp_all [results, Try.results46, go_sem, Pu.FracCmp, ]; omega)

end Go.Proofs.Ythgcceochfjfcaa
