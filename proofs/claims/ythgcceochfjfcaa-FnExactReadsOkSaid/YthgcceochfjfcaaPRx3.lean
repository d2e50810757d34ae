-- Functions of this seat and what their calls come to: written by a program of this session over the kit's printing tool; the functions told by the session's own contracts are marked by these.
import Derived.Test.YthgcceochfjfcaaPRx0
import Derived.Test.YthgcceochfjfcaaPRx2
namespace Go.Proofs.Ythgcceochfjfcaa.PR
open Go.RowKit Go.Proofs.YthgcceochfjfcaaW.PrintWords Go.Proofs.YthgcceochfjfcaaW.PrintLast Go.Proofs.YthgcceochfjfcaaW.PrintMore
attribute [local go_sem] max2_int min2_int max_two min_two max_three min_three max_four min_four   -- for this text's walks alone
set_option linter.unusedVariables false
set_option linter.unusedSimpArgs false

/-! ### spec_ReadsOk: function 26 -/
mutual
def spec_ReadsOk.j0 : Nat → List (S84) → List (S86) → Bool → Option (Bool)
  | 0, _, _, _ => none
  | k + 1, x0, x1, x20 => if x20 = true then (some false) else (spec_ReadsOk.l0 k x0 x1 false 0 0)
def spec_ReadsOk.l0 : Nat → List (S84) → List (S86) → Bool → Int → Int → Option (Bool)
  | 0, _, _, _, _, _ => none
  | k + 1, x0, x1, x5, x6, x7 => if x7 < (x0.length : Int) then (if 0 ≤ x7 then (if x7 < (x1.length : Int) then (if (rd_T84 x0 x7).f0 = true then ((spec_IvalOk.f ((rd_T84 x0 x7).f1.f0) ((rd_T84 x0 x7).f1.f1)).bind fun t105 => (spec_ReadsOk.j2 k x0 x1 x5 x6 x7 (!t105) ((rd_T84 x0 x7).f0) ((rd_T84 x0 x7).f1.f0) ((rd_T84 x0 x7).f1.f1) ((rd_T86 x1 x7).f0) ((rd_T86 x1 x7).f1) ((rd_T86 x1 x7).f2))) else (spec_ReadsOk.j2 k x0 x1 x5 x6 x7 false ((rd_T84 x0 x7).f0) ((rd_T84 x0 x7).f1.f0) ((rd_T84 x0 x7).f1.f1) ((rd_T86 x1 x7).f0) ((rd_T86 x1 x7).f1) ((rd_T86 x1 x7).f2))) else (none)) else (none)) else (some true)
def spec_ReadsOk.j2 : Nat → List (S84) → List (S86) → Bool → Int → Int → Bool → Bool → Int → Int → Int → Bool → Int → Option (Bool)
  | 0, _, _, _, _, _, _, _, _, _, _, _, _ => none
  | k + 1, x0, x1, x5, x6, x7, x42, x104000, x104001, x104002, x105000, x105001, x105002 => if x42 = true then (some false) else (if x105002 = 2 then (if x104000 = true then (some false) else (if x5 = true then (some false) else (if x105000 = 0 then (if x105001 = true then (some false) else (spec_ReadsOk.l0 k x0 x1 x5 x6 (wrap64 (x7 + 1)))) else (some false)))) else (if x105002 = 0 then (if x105001 = true then (if x5 = true then (spec_ReadsOk.j3 k x0 x1 x5 x6 x7 (x105000 == x6) x104000 x104001 x104002 x105000 x105001 x105002) else (spec_ReadsOk.j3 k x0 x1 x5 x6 x7 false x104000 x104001 x104002 x105000 x105001 x105002)) else (spec_ReadsOk.j3 k x0 x1 x5 x6 x7 false x104000 x104001 x104002 x105000 x105001 x105002)) else (some false)))
def spec_ReadsOk.j3 : Nat → List (S84) → List (S86) → Bool → Int → Int → Bool → Bool → Int → Int → Int → Bool → Int → Option (Bool)
  | 0, _, _, _, _, _, _, _, _, _, _, _, _ => none
  | k + 1, x0, x1, x5, x6, x7, x10, x104000, x104001, x104002, x105000, x105001, x105002 => if x104000 = true then (if x105001 = true then (if x10 = true then (if x105000 ≤ x104002 then (some false) else (spec_ReadsOk.l0 k x0 x1 true x105000 (wrap64 (x7 + 1)))) else (some false)) else ((spec_Holds.f x104001 x104002 x105000).bind fun t106 => (if t106 = true then (if x5 = true then (if x105000 < x6 then (some false) else (spec_ReadsOk.l0 k x0 x1 true x105000 (wrap64 (x7 + 1)))) else (spec_ReadsOk.l0 k x0 x1 true x105000 (wrap64 (x7 + 1)))) else (some false)))) else (if x10 = true then (spec_ReadsOk.l0 k x0 x1 true x105000 (wrap64 (x7 + 1))) else (some false))
end
def spec_ReadsOk.f (k : Nat) (l0 : List (S84)) (l1 : List (S86)) : Option (Bool) := if (l0.length : Int) = (l1.length : Int) then (spec_ReadsOk.j0 k l0 l1 (decide ((l0.length : Int) > 200))) else (spec_ReadsOk.j0 k l0 l1 true)
theorem spec_ReadsOk.mono_l : ∀ k, (∀ y0 y1 y2, LeO (spec_ReadsOk.j0 k y0 y1 y2) (spec_ReadsOk.j0 (k + 1) y0 y1 y2)) ∧ (∀ y0 y1 y2 y3 y4, LeO (spec_ReadsOk.l0 k y0 y1 y2 y3 y4) (spec_ReadsOk.l0 (k + 1) y0 y1 y2 y3 y4)) ∧ (∀ y0 y1 y2 y3 y4 y5 y6 y7 y8 y9 y10 y11, LeO (spec_ReadsOk.j2 k y0 y1 y2 y3 y4 y5 y6 y7 y8 y9 y10 y11) (spec_ReadsOk.j2 (k + 1) y0 y1 y2 y3 y4 y5 y6 y7 y8 y9 y10 y11)) ∧ (∀ y0 y1 y2 y3 y4 y5 y6 y7 y8 y9 y10 y11, LeO (spec_ReadsOk.j3 k y0 y1 y2 y3 y4 y5 y6 y7 y8 y9 y10 y11) (spec_ReadsOk.j3 (k + 1) y0 y1 y2 y3 y4 y5 y6 y7 y8 y9 y10 y11))
  | 0 => ⟨fun _ _ _ r h => by simp [spec_ReadsOk.j0] at h, fun _ _ _ _ _ r h => by simp [spec_ReadsOk.l0] at h, fun _ _ _ _ _ _ _ _ _ _ _ _ r h => by simp [spec_ReadsOk.j2] at h, fun _ _ _ _ _ _ _ _ _ _ _ _ r h => by simp [spec_ReadsOk.j3] at h⟩
  | k + 1 => by
    obtain ⟨ih0, ih1, ih2, ih3⟩ := spec_ReadsOk.mono_l k
    refine ⟨?_, ?_, ?_, ?_⟩
    · intro y0 y1 y2
      unfold spec_ReadsOk.j0
      repeat' first
      | (with_reducible exact ih0 _ _ _)
      | (with_reducible exact ih1 _ _ _ _ _)
      | (with_reducible exact ih2 _ _ _ _ _ _ _ _ _ _ _ _)
      | (with_reducible exact ih3 _ _ _ _ _ _ _ _ _ _ _ _)
      | (with_reducible exact LeO.refl _)
      | (with_reducible exact LeO.none _)
      | (with_reducible refine LeO.ite ?_ ?_)
      | (with_reducible refine LeO.bind ?_ (fun _ => ?_))
      | exact ih0 _ _ _
      | exact ih1 _ _ _ _ _
      | exact ih2 _ _ _ _ _ _ _ _ _ _ _ _
      | exact ih3 _ _ _ _ _ _ _ _ _ _ _ _
      | exact LeO.none _
      | refine LeO.ite ?_ ?_
      | refine LeO.bind ?_ (fun _ => ?_)
    · intro y0 y1 y2 y3 y4
      unfold spec_ReadsOk.l0
      repeat' first
      | (with_reducible exact ih0 _ _ _)
      | (with_reducible exact ih1 _ _ _ _ _)
      | (with_reducible exact ih2 _ _ _ _ _ _ _ _ _ _ _ _)
      | (with_reducible exact ih3 _ _ _ _ _ _ _ _ _ _ _ _)
      | (with_reducible exact LeO.refl _)
      | (with_reducible exact LeO.none _)
      | (with_reducible refine LeO.ite ?_ ?_)
      | (with_reducible refine LeO.bind ?_ (fun _ => ?_))
      | exact ih0 _ _ _
      | exact ih1 _ _ _ _ _
      | exact ih2 _ _ _ _ _ _ _ _ _ _ _ _
      | exact ih3 _ _ _ _ _ _ _ _ _ _ _ _
      | exact LeO.none _
      | refine LeO.ite ?_ ?_
      | refine LeO.bind ?_ (fun _ => ?_)
    · intro y0 y1 y2 y3 y4 y5 y6 y7 y8 y9 y10 y11
      unfold spec_ReadsOk.j2
      repeat' first
      | (with_reducible exact ih0 _ _ _)
      | (with_reducible exact ih1 _ _ _ _ _)
      | (with_reducible exact ih2 _ _ _ _ _ _ _ _ _ _ _ _)
      | (with_reducible exact ih3 _ _ _ _ _ _ _ _ _ _ _ _)
      | (with_reducible exact LeO.refl _)
      | (with_reducible exact LeO.none _)
      | (with_reducible refine LeO.ite ?_ ?_)
      | (with_reducible refine LeO.bind ?_ (fun _ => ?_))
      | exact ih0 _ _ _
      | exact ih1 _ _ _ _ _
      | exact ih2 _ _ _ _ _ _ _ _ _ _ _ _
      | exact ih3 _ _ _ _ _ _ _ _ _ _ _ _
      | exact LeO.none _
      | refine LeO.ite ?_ ?_
      | refine LeO.bind ?_ (fun _ => ?_)
    · intro y0 y1 y2 y3 y4 y5 y6 y7 y8 y9 y10 y11
      unfold spec_ReadsOk.j3
      repeat' first
      | (with_reducible exact ih0 _ _ _)
      | (with_reducible exact ih1 _ _ _ _ _)
      | (with_reducible exact ih2 _ _ _ _ _ _ _ _ _ _ _ _)
      | (with_reducible exact ih3 _ _ _ _ _ _ _ _ _ _ _ _)
      | (with_reducible exact LeO.refl _)
      | (with_reducible exact LeO.none _)
      | (with_reducible refine LeO.ite ?_ ?_)
      | (with_reducible refine LeO.bind ?_ (fun _ => ?_))
      | exact ih0 _ _ _
      | exact ih1 _ _ _ _ _
      | exact ih2 _ _ _ _ _ _ _ _ _ _ _ _
      | exact ih3 _ _ _ _ _ _ _ _ _ _ _ _
      | exact LeO.none _
      | refine LeO.ite ?_ ?_
      | refine LeO.bind ?_ (fun _ => ?_)
theorem spec_ReadsOk.mono : ∀ a0 a1 k, LeO (spec_ReadsOk.f k a0 a1) (spec_ReadsOk.f (k + 1) a0 a1) := by
  intro a0 a1 k
  obtain ⟨ih0, ih1, ih2, ih3⟩ := spec_ReadsOk.mono_l k
  unfold spec_ReadsOk.f
  repeat' first
      | (with_reducible exact ih0 _ _ _)
      | (with_reducible exact ih1 _ _ _ _ _)
      | (with_reducible exact ih2 _ _ _ _ _ _ _ _ _ _ _ _)
      | (with_reducible exact ih3 _ _ _ _ _ _ _ _ _ _ _ _)
      | (with_reducible exact LeO.refl _)
      | (with_reducible exact LeO.none _)
      | (with_reducible refine LeO.ite ?_ ?_)
      | (with_reducible refine LeO.bind ?_ (fun _ => ?_))
      | exact ih0 _ _ _
      | exact ih1 _ _ _ _ _
      | exact ih2 _ _ _ _ _ _ _ _ _ _ _ _
      | exact ih3 _ _ _ _ _ _ _ _ _ _ _ _
      | exact LeO.none _
      | refine LeO.ite ?_ ?_
      | refine LeO.bind ?_ (fun _ => ?_)
def spec_ReadsOk.T7 : Bool × List (List Nat × List Nat) := (true, [([], []), ([], []), ([0, 1], [0, 1]), ([2], [2]), ([], []), ([], []), ([4, 5], [4, 5]), ([6], [6]), ([], []), ([], []), ([8, 3, 0, 1, 2, 3, 8, 9], [3, 8]), ([9, 7, 10, 0, 1, 2, 3, 4, 5, 6, 7, 8, 9, 10], [7, 9])])
def spec_ReadsOk.B7 : List Nat := [0, 0, 3, 7, 0, 0, 48, 112, 0, 0, 783, 2047]
theorem spec_ReadsOk.tab7 : rtab .any (opsOf Try.f26 7) = spec_ReadsOk.T7 := by kernel_rfl
theorem spec_ReadsOk.bits7 : waitsOk spec_ReadsOk.T7.2 spec_ReadsOk.B7 = true := by kernel_rfl
set_option maxHeartbeats 8000000 in
set_option maxRecDepth 100000 in
theorem spec_ReadsOk.calls (k : Nat) (A0 : Option Addr) (c0 : Nat) (l0 : List (S84)) (A1 : Option Addr) (c1 : Nat) (l1 : List (S86)) (r : Bool) (w : World) (hr0 : Kd.C k84 w A0 l0.length l0) (hc0 : l0.length ≤ c0) (hr1 : Kd.C k86 w A1 l1.length l1) (hc1 : l1.length ≤ c1) (h : spec_ReadsOk.f k l0 l1 = some r) :
    Calls Try.prog 26 #[.slice A0 l0.length c0, .slice A1 l1.length c1] w fun e w' => e = .returned (.bool r) ∧ Below w.heap.size w w' := by
  have hu84 := Try.underlying84
  have hu86 := Try.underlying86
  have hu31 := Try.underlying31
  have HR0 := Aside0.mk hr0
  have HC0 := Aside0.mk hc0
  clear hr0 hc0
  have HR1 := Aside0.mk hr1
  have HC1 := Aside0.mk hc1
  clear hr1 hc1
  have HB := Aside0.mk (Below.refl w.heap.size w)
  have H : (if (l0.length : Int) = (l1.length : Int) then (spec_ReadsOk.j0 k l0 l1 (decide ((l0.length : Int) > 200))) else (spec_ReadsOk.j0 k l0 l1 true)) = some r := h
  clear h
  have HC3 := Aside0.mk H
  clear H
  go_enter Try.func26, Try.ntmps26
  go_upto_region 1 with (fail)
  go_cut [20] (fun v20 wc => ∃ (kq : Nat) (x20_2 : Bool), v20 = .bool x20_2 ∧ Aside0 (spec_ReadsOk.j0 kq l0 l1 x20_2 = some r) ∧ Aside0 (kq ≤ k) ∧ Aside0 (Below w.heap.size w wc))
  case first =>
    have H := HC3.out
    clear HC3
    by_cases c4 : (l0.length : Int) = (l1.length : Int)
    · rw [if_pos c4] at H
      have c4b0 : ((l0.length : Int) == (l1.length : Int)) = true := beq_iff_eq.mpr c4
      have c4b1 : ((l0.length : Int) != (l1.length : Int)) = false := bne_eq_false_iff_eq.mpr c4
      have c4b2 : (l0.length == l1.length) = true := by first | simpa using c4 | (simp at c4 ⊢; omega)
      clear c4
      (first | rw [c4b0] | (simp only [i64_w, i32_w]; rw [c4b0]) | skip)
      have H' := Aside0.mk H
      clear H
      go_wp2
      go_meet
      case rel => exact ⟨_, (decide ((l0.length : Int) > 200)), (by first | rfl | (simp; done) | (simp [*]; done)), H', ⟨by first | omega | exact Nat.le_refl _⟩, ⟨by repeat (first | (with_reducible first | exact HB.out | apply below_alloc | apply pw_below_drewN | apply below_drew1) | exact HB.out)⟩⟩
    · rw [if_neg c4] at H
      have c4b0 : ((l0.length : Int) == (l1.length : Int)) = false := beq_eq_false_iff_ne.mpr c4
      have c4b1 : ((l0.length : Int) != (l1.length : Int)) = true := bne_iff_ne.mpr c4
      have c4b2 : (l0.length == l1.length) = false := by first | simpa using c4 | (simp at c4 ⊢; omega)
      (first | rw [c4b0] | (simp only [i64_w, i32_w]; rw [c4b0]) | skip)
      have H' := Aside0.mk H
      clear H
      go_wp2
      go_meet
      case rel => exact ⟨_, (true), (by first | rfl | (simp; done) | (simp [*]; done)), H', ⟨by first | omega | exact Nat.le_refl _⟩, ⟨by repeat (first | (with_reducible first | exact HB.out | apply below_alloc | apply pw_below_drewN | apply below_drew1) | exact HB.out)⟩⟩
  case rest =>
    clear HC3
    try clear c1
    try clear c2
    try clear p2
    try clear c4
    try clear c4b0
    try clear c4b1
    try clear c4b2
    obtain ⟨kq, x20_2, rfl, HA, HJ2, HB⟩ := hcut
    cases kq with
    | zero => exact absurd HA.out (by simp [spec_ReadsOk.j0])
    | succ kj2 =>
      have H := HA.out
      clear HA
      simp only [spec_ReadsOk.j0] at H
      by_cases c5 : x20_2 = true
      · subst c5
        have H1 : (some false) = some r := by rw [if_pos rfl] at H; exact H
        clear H
        have H := H1
        clear H1
        obtain rfl := Option.some.inj H
        go_wp2
        go_ret
        exact ⟨by first | rfl | (simp [errW_none, errW_some] <;> rfl) | (simp [*, errW_none, errW_some] <;> rfl), by repeat (first | (with_reducible first | exact HB.out | apply below_alloc | apply pw_below_drewN | apply below_drew1) | exact HB.out)⟩
      · replace c5 := Bool.eq_false_iff.mpr c5
        subst c5
        have H1 : (spec_ReadsOk.l0 kj2 l0 l1 false 0 0) = some r := by rw [if_neg (show ¬ (false = true) by decide)] at H; exact H
        clear H
        have H := H1
        clear H1
        have H' := Aside0.mk H
        clear H
        go_wp2
        go_loopg [5, 6, 7] kj2 (fun kq v5 v6 v7 w' => ∃ (x5_2 : Bool) (x6_2 : Int) (x7_2 : Int), v5 = .bool x5_2 ∧ v6 = .int .i64 x6_2 ∧ v7 = .int .i64 x7_2 ∧ Aside0 (spec_ReadsOk.l0 kq l0 l1 x5_2 x6_2 x7_2 = some r) ∧ Aside0 (kq ≤ kj2) ∧ Aside0 (Below w.heap.size w w'))
        case atStart => exact ⟨(false), (0), (0), (by first | rfl | (simp; done) | (simp [*]; done)), (by first | rfl | (simp; done) | (simp [*]; done)), (by first | rfl | (simp; done) | (simp [*]; done)), H', ⟨Nat.le_refl _⟩, ⟨by repeat (first | (with_reducible first | exact HB.out | apply below_alloc | apply pw_below_drewN | apply below_drew1) | exact HB.out)⟩⟩
        case round =>
          clear H'
          try clear c1
          try clear c2
          try clear p2
          try clear c4
          try clear c4b0
          try clear c4b1
          try clear c4b2
          try clear c5
          try clear p2
          obtain ⟨x5_2, x6_2, x7_2, rfl, rfl, rfl, HA, HK2, HB⟩ := hrel
          cases gk with
          | zero => exact absurd HA.out (by simp [spec_ReadsOk.l0])
          | succ k2 =>
            have H := HA.out
            clear HA
            simp only [spec_ReadsOk.l0] at H
            by_cases c6 : x7_2 < (l0.length : Int)
            · rw [if_pos c6] at H
              have c6b0 : decide (x7_2 < (l0.length : Int)) = true := decide_eq_true c6
              clear c6
              by_cases c7 : 0 ≤ x7_2
              · rw [if_pos c7] at H
                have c7b0 : decide (0 ≤ x7_2) = true := decide_eq_true c7
                clear c7
                by_cases c8 : x7_2 < (l1.length : Int)
                · rw [if_pos c8] at H
                  have c8b0 : decide (x7_2 < (l1.length : Int)) = true := decide_eq_true c8
                  clear c8
                  have HC9 := Aside0.mk H
                  clear H
                  try go_wp2
                  have n0_ := Aside0.mk (below_drew1 HB.out)
                  clear HB
                  have HB := n0_
                  clear n0_
                  have p101 : 0 ≤ (x7_2 : Int) := of_decide_eq_true (by first | (with_reducible assumption) | assumption)
                  have q101 : x7_2 < (l0.length : Int) := of_decide_eq_true (by first | (with_reducible assumption) | assumption)
                  obtain ⟨ad101, e101, hx101_0, hx101_1, hx101_2⟩ := at_T84 HR0.out x7_2 p101 q101
                  have hw101_2 := hx101_2
                  have hw101_1 := hx101_1
                  have hw101_0 := hx101_0
                  cases e101
                  replace hx101_0 := (HB.out.cell (World.block_lt_of_cell? w _ hx101_0)).trans hx101_0
                  replace hx101_1 := (HB.out.cell (World.block_lt_of_cell? w _ hx101_1)).trans hx101_1
                  replace hx101_2 := (HB.out.cell (World.block_lt_of_cell? w _ hx101_2)).trans hx101_2
                  replace p101 := eq_true p101
                  replace q101 := eq_true q101
                  have p102 : 0 ≤ (x7_2 : Int) := of_decide_eq_true (by first | (with_reducible assumption) | assumption)
                  have q102 : x7_2 < (l1.length : Int) := of_decide_eq_true (by first | (with_reducible assumption) | assumption)
                  obtain ⟨ad102, e102, hx102_0, hx102_1, hx102_2⟩ := at_T86 HR1.out x7_2 p102 q102
                  have hw102_2 := hx102_2
                  have hw102_1 := hx102_1
                  have hw102_0 := hx102_0
                  cases e102
                  replace hx102_0 := (HB.out.cell (World.block_lt_of_cell? w _ hx102_0)).trans hx102_0
                  replace hx102_1 := (HB.out.cell (World.block_lt_of_cell? w _ hx102_1)).trans hx102_1
                  replace hx102_2 := (HB.out.cell (World.block_lt_of_cell? w _ hx102_2)).trans hx102_2
                  replace p102 := eq_true p102
                  replace q102 := eq_true q102
                  refine start_ (n := 12) (S := fun w' => w'.cell? (ad101.add ((x7_2).toNat * 3)) = some (.bool ((rd_T84 l0 x7_2).f0)) ∧ w'.cell? ⟨(ad101.add ((x7_2).toNat * 3)).block, (ad101.add ((x7_2).toNat * 3)).off + 1, none⟩ = some (.int .i64 ((rd_T84 l0 x7_2).f1.f0)) ∧ w'.cell? ⟨(ad101.add ((x7_2).toNat * 3)).block, (ad101.add ((x7_2).toNat * 3)).off + 2, none⟩ = some (.int .i64 ((rd_T84 l0 x7_2).f1.f1)) ∧ w'.cell? (ad102.add ((x7_2).toNat * 3)) = some (.int .i64 ((rd_T86 l1 x7_2).f0)) ∧ w'.cell? ⟨(ad102.add ((x7_2).toNat * 3)).block, (ad102.add ((x7_2).toNat * 3)).off + 1, none⟩ = some (.bool ((rd_T86 l1 x7_2).f1)) ∧ w'.cell? ⟨(ad102.add ((x7_2).toNat * 3)).block, (ad102.add ((x7_2).toNat * 3)).off + 2, none⟩ = some (.int .i64 ((rd_T86 l1 x7_2).f2))) (ds := []) #[false, false, false, false, false, false, false, false, false, false, false, false] (by kernel_rfl) rfl rfl ⟨((HB.out.cell (World.block_lt_of_cell? w _ hw101_0)).trans hw101_0), ((HB.out.cell (World.block_lt_of_cell? w _ hw101_1)).trans hw101_1), ((HB.out.cell (World.block_lt_of_cell? w _ hw101_2)).trans hw101_2), ((HB.out.cell (World.block_lt_of_cell? w _ hw102_0)).trans hw102_0), ((HB.out.cell (World.block_lt_of_cell? w _ hw102_1)).trans hw102_1), ((HB.out.cell (World.block_lt_of_cell? w _ hw102_2)).trans hw102_2)⟩ (fun hHeld => ?_); refine with_tabW spec_ReadsOk.tab7 spec_ReadsOk.bits7 (fun HT_ HW_ => ?_)
                  generalize wr.drew = w10 at HB hx101_0 hx101_1 hx101_2 hx102_0 hx102_1 hx102_2 hHeld ⊢
                  refine pure_ (i := 0) (N := some 27) (v := ?_) (a' := ?_) #[true, false, false, false, false, false, false, false, false, false, false, false] rfl rfl (any_of HT_.out (by kernel_rfl)) (fun _ _ _ h => h) (Or.inl ⟨by rfl, ?_⟩) ?_ ?_
                  rotate_left
                  · intro w'
                    go_simp
                    with_reducible rfl
                  rotate_left
                  · simp only [Act.put, List.setIfInBounds_toArray, List.set_cons_zero, List.set_cons_succ, i64_w, i32_w]
                    rfl
                  refine pure_ (i := 1) (N := some 28) (v := ?_) (a' := ?_) #[true, true, false, false, false, false, false, false, false, false, false, false] rfl rfl (any_of HT_.out (by kernel_rfl)) (fun _ _ _ h => h) (Or.inl ⟨by rfl, ?_⟩) ?_ ?_
                  rotate_left
                  · intro w'
                    go_simp
                    with_reducible rfl
                  rotate_left
                  · simp only [Act.put, List.setIfInBounds_toArray, List.set_cons_zero, List.set_cons_succ, i64_w, i32_w]
                    rfl
                  refine pure_ (i := 2) (N := some 29) (v := ?_) (a' := ?_) #[true, true, true, false, false, false, false, false, false, false, false, false] rfl rfl (any_of HT_.out (by kernel_rfl)) (fun _ _ _ h => h) (Or.inl ⟨by rfl, ?_⟩) ?_ ?_
                  rotate_left
                  · intro w'
                    go_simp
                    with_reducible rfl
                  rotate_left
                  · simp only [Act.put, List.setIfInBounds_toArray, List.set_cons_zero, List.set_cons_succ, i64_w, i32_w]
                    rfl
                  refine pure_ (i := 4) (N := some 31) (v := ?_) (a' := ?_) #[true, true, true, false, true, false, false, false, false, false, false, false] rfl rfl (any_of HT_.out (by kernel_rfl)) (fun _ _ _ h => h) (Or.inl ⟨by rfl, ?_⟩) ?_ ?_
                  rotate_left
                  · intro w'
                    go_simp
                    with_reducible rfl
                  rotate_left
                  · simp only [Act.put, List.setIfInBounds_toArray, List.set_cons_zero, List.set_cons_succ, i64_w, i32_w]
                    rfl
                  refine pure_ (i := 5) (N := some 32) (v := ?_) (a' := ?_) #[true, true, true, false, true, true, false, false, false, false, false, false] rfl rfl (any_of HT_.out (by kernel_rfl)) (fun _ _ _ h => h) (Or.inl ⟨by rfl, ?_⟩) ?_ ?_
                  rotate_left
                  · intro w'
                    go_simp
                    with_reducible rfl
                  rotate_left
                  · simp only [Act.put, List.setIfInBounds_toArray, List.set_cons_zero, List.set_cons_succ, i64_w, i32_w]
                    rfl
                  refine pure_ (i := 6) (N := some 33) (v := ?_) (a' := ?_) #[true, true, true, false, true, true, true, false, false, false, false, false] rfl rfl (any_of HT_.out (by kernel_rfl)) (fun _ _ _ h => h) (Or.inl ⟨by rfl, ?_⟩) ?_ ?_
                  rotate_left
                  · intro w'
                    go_simp
                    with_reducible rfl
                  rotate_left
                  · simp only [Act.put, List.setIfInBounds_toArray, List.set_cons_zero, List.set_cons_succ, i64_w, i32_w]
                    rfl
                  refine take_ (i := 3) (N := some 30) (v := ?_) (a' := ?_) #[true, true, true, true, true, true, true, false, false, false, false, false] rfl rfl (take_ofW HT_.out HW_.out (by kernel_rfl)) (fun _ _ _ h => h) (Or.inl ⟨by rfl, ?_⟩) hHeld ?_ ?_
                  rotate_left
                  · rintro w' ⟨s0, s1, s2, s3, s4, s5⟩
                    go_simp
                    with_reducible rfl
                  rotate_left
                  · simp only [Act.put, List.setIfInBounds_toArray, List.set_cons_zero, List.set_cons_succ, i64_w, i32_w]
                    rfl
                  refine take_ (i := 7) (N := some 34) (v := ?_) (a' := ?_) #[true, true, true, true, true, true, true, true, false, false, false, false] rfl rfl (take_ofW HT_.out HW_.out (by kernel_rfl)) (fun _ _ _ h => h) (Or.inl ⟨by rfl, ?_⟩) hHeld ?_ ?_
                  rotate_left
                  · rintro w' ⟨s0, s1, s2, s3, s4, s5⟩
                    go_simp
                    with_reducible rfl
                  rotate_left
                  · simp only [Act.put, List.setIfInBounds_toArray, List.set_cons_zero, List.set_cons_succ, i64_w, i32_w]
                    rfl
                  refine join_ (σ := Nat × Nat) 2 #[true, true, true, true, true, true, true, true, true, true, false, false] (fun s_ => [(8, .pointer (some ⟨s_.1, 0, none⟩)), (9, .pointer (some ⟨s_.2, 0, none⟩))]) (fun s_ w' => (w'.cell? (ad101.add ((x7_2).toNat * 3)) = some (.bool ((rd_T84 l0 x7_2).f0)) ∧ w'.cell? ⟨(ad101.add ((x7_2).toNat * 3)).block, (ad101.add ((x7_2).toNat * 3)).off + 1, none⟩ = some (.int .i64 ((rd_T84 l0 x7_2).f1.f0)) ∧ w'.cell? ⟨(ad101.add ((x7_2).toNat * 3)).block, (ad101.add ((x7_2).toNat * 3)).off + 2, none⟩ = some (.int .i64 ((rd_T84 l0 x7_2).f1.f1)) ∧ w'.cell? (ad102.add ((x7_2).toNat * 3)) = some (.int .i64 ((rd_T86 l1 x7_2).f0)) ∧ w'.cell? ⟨(ad102.add ((x7_2).toNat * 3)).block, (ad102.add ((x7_2).toNat * 3)).off + 1, none⟩ = some (.bool ((rd_T86 l1 x7_2).f1)) ∧ w'.cell? ⟨(ad102.add ((x7_2).toNat * 3)).block, (ad102.add ((x7_2).toNat * 3)).off + 2, none⟩ = some (.int .i64 ((rd_T86 l1 x7_2).f2))) ∧ (w'.heap[s_.1]? = some (.cells #[.bool false, .int .i64 0, .int .i64 0] 84 (0, 0))) ∧ (w'.heap[s_.2]? = some (.cells #[.int .i64 0, .bool false, .int .i64 0] 86 (0, 0))) ∧ (w.heap.size ≤ s_.1) ∧ (w.heap.size ≤ s_.1) ∧ (s_.2 ≠ s_.1) ∧ (s_.1 ≠ s_.2) ∧ (w.heap.size ≤ s_.2) ∧ (w.heap.size ≤ s_.2) ∧ (Below w.heap.size w w')) ?_ ?_
                  rotate_left
                  · intro hCont
                    refine two_ (i := 8) (j := 9) (Ni := some 8) (Nj := some 9) #[true, true, true, true, true, true, true, true, true, false, false, false] #[true, true, true, true, true, true, true, true, false, true, false, false] rfl rfl rfl rfl (two_of HT_.out (by kernel_rfl)) (by decide) (by decide) (fun K hK => ?_) (fun K hK => ?_)
                    · skip
                      refine box_step ?hg (N := 8) ?hd (cs := #[.bool false, .int .i64 0, .int .i64 0]) (t := 84) ?hr ?_; (case hd => rfl); (case hg => rfl); (case hr => first | (go_simp; done) | (go_simp; rfl))
                      intro gb103 hg w11 hbox hb
                      have n0_ := Aside0.mk (below_step (by repeat (first | (with_reducible first | exact HB.out | apply below_alloc | apply pw_below_drewN | apply below_drew1) | exact HB.out)) hb)
                      have n1_ := Aside0.mk (hbox)
                      have n2_ := Aside0.mk ((by rw [hg]; exact (below_size (by repeat (first | (with_reducible first | exact HB.out | apply below_alloc | apply pw_below_drewN | apply below_drew1) | exact HB.out))) : w.heap.size ≤ gb103))
                      have n3_ := Aside0.mk ((by rw [hg]; exact (below_size (by repeat (first | (with_reducible first | exact HB.out | apply below_alloc | apply pw_below_drewN | apply below_drew1) | exact HB.out))) : w.heap.size ≤ gb103))
                      clear HB
                      have HB := n0_
                      have BK103 := n1_
                      have GW103 := n2_
                      have GE103 := n3_
                      clear n0_ n1_ n2_ n3_
                      clear hb hbox hg
                      refine hK.out _ _ ⟨((HB.out.cell (World.block_lt_of_cell? w _ hw101_0)).trans hw101_0), ((HB.out.cell (World.block_lt_of_cell? w _ hw101_1)).trans hw101_1), ((HB.out.cell (World.block_lt_of_cell? w _ hw101_2)).trans hw101_2), ((HB.out.cell (World.block_lt_of_cell? w _ hw102_0)).trans hw102_0), ((HB.out.cell (World.block_lt_of_cell? w _ hw102_1)).trans hw102_1), ((HB.out.cell (World.block_lt_of_cell? w _ hw102_2)).trans hw102_2)⟩ (fun hHeld => ?_)
                      clear hK K
                      refine norm_ (a' := ?_) ?_ ?_
                      rotate_left
                      · show Act.put _ (some 8) _ = _
                        simp only [Act.put, List.setIfInBounds_toArray, List.set_cons_zero, List.set_cons_succ, i64_w, i32_w]
                        rfl
                      refine one_ (i := 9) (N := some 9) #[true, true, true, true, true, true, true, true, true, true, false, false] rfl rfl (one_of HT_.out (by kernel_rfl)) (by decide) (fun K hK => ?_)
                      refine box_step ?hg (N := 9) ?hd (cs := #[.int .i64 0, .bool false, .int .i64 0]) (t := 86) ?hr ?_; (case hd => rfl); (case hg => rfl); (case hr => first | (go_simp; done) | (go_simp; rfl))
                      intro gb104 hg w12 hbox hb
                      have n0_ := Aside0.mk (blk_below (g := gb103) (o := .cells #[.bool false, .int .i64 0, .int .i64 0] 84 (0, 0)) (by (with_reducible repeat (first | refine blk_drewN ?_ _ | refine blk_drew ?_ | refine blk_alloc ?_ _)); exact BK103.out) hb)
                      have n1_ := Aside0.mk (below_step (by repeat (first | (with_reducible first | exact HB.out | apply below_alloc | apply pw_below_drewN | apply below_drew1 | refine below_set ?_ GE103.out) | exact HB.out)) hb)
                      have n2_ := Aside0.mk (hbox)
                      have n3_ := Aside0.mk ((by rw [hg]; exact (below_size (by repeat (first | (with_reducible first | exact HB.out | apply below_alloc | apply pw_below_drewN | apply below_drew1 | refine below_set ?_ GE103.out) | exact HB.out))) : w.heap.size ≤ gb104))
                      have n4_ := Aside0.mk ((by rw [hg]; exact (below_size (by repeat (first | (with_reducible first | exact HB.out | apply below_alloc | apply pw_below_drewN | apply below_drew1 | refine below_set ?_ GE103.out) | exact HB.out))) : w.heap.size ≤ gb104))
                      have n5_ := Aside0.mk ((by rw [hg]; exact Nat.ne_of_lt (blk_lt (g := gb103) (o := .cells #[.bool false, .int .i64 0, .int .i64 0] 84 (0, 0)) (by (with_reducible repeat (first | refine blk_drewN ?_ _ | refine blk_drew ?_ | refine blk_alloc ?_ _)); exact BK103.out)) : gb103 ≠ gb104))
                      have n6_ := Aside0.mk ((by rw [hg]; exact Nat.ne_of_gt (blk_lt (g := gb103) (o := .cells #[.bool false, .int .i64 0, .int .i64 0] 84 (0, 0)) (by (with_reducible repeat (first | refine blk_drewN ?_ _ | refine blk_drew ?_ | refine blk_alloc ?_ _)); exact BK103.out)) : gb104 ≠ gb103))
                      clear BK103
                      clear HB
                      have BK103 := n0_
                      have HB := n1_
                      have BK104 := n2_
                      have GW104 := n3_
                      have GE104 := n4_
                      have NB103_104 := n5_
                      have NB104_103 := n6_
                      clear n0_ n1_ n2_ n3_ n4_ n5_ n6_
                      clear hb hbox hg
                      refine hK.out _ _ ⟨((HB.out.cell (World.block_lt_of_cell? w _ hw101_0)).trans hw101_0), ((HB.out.cell (World.block_lt_of_cell? w _ hw101_1)).trans hw101_1), ((HB.out.cell (World.block_lt_of_cell? w _ hw101_2)).trans hw101_2), ((HB.out.cell (World.block_lt_of_cell? w _ hw102_0)).trans hw102_0), ((HB.out.cell (World.block_lt_of_cell? w _ hw102_1)).trans hw102_1), ((HB.out.cell (World.block_lt_of_cell? w _ hw102_2)).trans hw102_2)⟩ (fun hHeld => ?_)
                      clear hK K
                      refine norm_ (a' := ?_) ?_ ?_
                      rotate_left
                      · show Act.put _ (some 9) _ = _
                        simp only [Act.put, List.setIfInBounds_toArray, List.set_cons_zero, List.set_cons_succ, i64_w, i32_w]
                        rfl
                      exact norm_ (by simp only [putAll, Act.put, List.setIfInBounds_toArray, List.set_cons_zero, List.set_cons_succ]) (hCont (gb103, gb104) _ ⟨hHeld, (by (with_reducible repeat (first | refine blk_drewN ?_ _ | refine blk_drew ?_ | refine blk_alloc ?_ _)); exact BK103.out), (by (with_reducible repeat (first | refine blk_drewN ?_ _ | refine blk_drew ?_ | refine blk_alloc ?_ _)); exact BK104.out), GW103.out, GE103.out, NB104_103.out, NB103_104.out, GW104.out, GE104.out, (by repeat (first | (with_reducible first | exact HB.out | apply below_alloc | apply pw_below_drewN | apply below_drew1 | refine below_set ?_ GE103.out | refine below_set ?_ GE104.out) | exact HB.out))⟩)
                    · skip
                      refine box_step ?hg (N := 9) ?hd (cs := #[.int .i64 0, .bool false, .int .i64 0]) (t := 86) ?hr ?_; (case hd => rfl); (case hg => rfl); (case hr => first | (go_simp; done) | (go_simp; rfl))
                      intro gb104 hg w11 hbox hb
                      have n0_ := Aside0.mk (below_step (by repeat (first | (with_reducible first | exact HB.out | apply below_alloc | apply pw_below_drewN | apply below_drew1) | exact HB.out)) hb)
                      have n1_ := Aside0.mk (hbox)
                      have n2_ := Aside0.mk ((by rw [hg]; exact (below_size (by repeat (first | (with_reducible first | exact HB.out | apply below_alloc | apply pw_below_drewN | apply below_drew1) | exact HB.out))) : w.heap.size ≤ gb104))
                      have n3_ := Aside0.mk ((by rw [hg]; exact (below_size (by repeat (first | (with_reducible first | exact HB.out | apply below_alloc | apply pw_below_drewN | apply below_drew1) | exact HB.out))) : w.heap.size ≤ gb104))
                      clear HB
                      have HB := n0_
                      have BK104 := n1_
                      have GW104 := n2_
                      have GE104 := n3_
                      clear n0_ n1_ n2_ n3_
                      clear hb hbox hg
                      refine hK.out _ _ ⟨((HB.out.cell (World.block_lt_of_cell? w _ hw101_0)).trans hw101_0), ((HB.out.cell (World.block_lt_of_cell? w _ hw101_1)).trans hw101_1), ((HB.out.cell (World.block_lt_of_cell? w _ hw101_2)).trans hw101_2), ((HB.out.cell (World.block_lt_of_cell? w _ hw102_0)).trans hw102_0), ((HB.out.cell (World.block_lt_of_cell? w _ hw102_1)).trans hw102_1), ((HB.out.cell (World.block_lt_of_cell? w _ hw102_2)).trans hw102_2)⟩ (fun hHeld => ?_)
                      clear hK K
                      refine norm_ (a' := ?_) ?_ ?_
                      rotate_left
                      · show Act.put _ (some 9) _ = _
                        simp only [Act.put, List.setIfInBounds_toArray, List.set_cons_zero, List.set_cons_succ, i64_w, i32_w]
                        rfl
                      refine one_ (i := 8) (N := some 8) #[true, true, true, true, true, true, true, true, true, true, false, false] rfl rfl (one_of HT_.out (by kernel_rfl)) (by decide) (fun K hK => ?_)
                      refine box_step ?hg (N := 8) ?hd (cs := #[.bool false, .int .i64 0, .int .i64 0]) (t := 84) ?hr ?_; (case hd => rfl); (case hg => rfl); (case hr => first | (go_simp; done) | (go_simp; rfl))
                      intro gb103 hg w12 hbox hb
                      have n0_ := Aside0.mk (blk_below (g := gb104) (o := .cells #[.int .i64 0, .bool false, .int .i64 0] 86 (0, 0)) (by (with_reducible repeat (first | refine blk_drewN ?_ _ | refine blk_drew ?_ | refine blk_alloc ?_ _)); exact BK104.out) hb)
                      have n1_ := Aside0.mk (below_step (by repeat (first | (with_reducible first | exact HB.out | apply below_alloc | apply pw_below_drewN | apply below_drew1 | refine below_set ?_ GE104.out) | exact HB.out)) hb)
                      have n2_ := Aside0.mk (hbox)
                      have n3_ := Aside0.mk ((by rw [hg]; exact (below_size (by repeat (first | (with_reducible first | exact HB.out | apply below_alloc | apply pw_below_drewN | apply below_drew1 | refine below_set ?_ GE104.out) | exact HB.out))) : w.heap.size ≤ gb103))
                      have n4_ := Aside0.mk ((by rw [hg]; exact (below_size (by repeat (first | (with_reducible first | exact HB.out | apply below_alloc | apply pw_below_drewN | apply below_drew1 | refine below_set ?_ GE104.out) | exact HB.out))) : w.heap.size ≤ gb103))
                      have n5_ := Aside0.mk ((by rw [hg]; exact Nat.ne_of_lt (blk_lt (g := gb104) (o := .cells #[.int .i64 0, .bool false, .int .i64 0] 86 (0, 0)) (by (with_reducible repeat (first | refine blk_drewN ?_ _ | refine blk_drew ?_ | refine blk_alloc ?_ _)); exact BK104.out)) : gb104 ≠ gb103))
                      have n6_ := Aside0.mk ((by rw [hg]; exact Nat.ne_of_gt (blk_lt (g := gb104) (o := .cells #[.int .i64 0, .bool false, .int .i64 0] 86 (0, 0)) (by (with_reducible repeat (first | refine blk_drewN ?_ _ | refine blk_drew ?_ | refine blk_alloc ?_ _)); exact BK104.out)) : gb103 ≠ gb104))
                      clear BK104
                      clear HB
                      have BK104 := n0_
                      have HB := n1_
                      have BK103 := n2_
                      have GW103 := n3_
                      have GE103 := n4_
                      have NB104_103 := n5_
                      have NB103_104 := n6_
                      clear n0_ n1_ n2_ n3_ n4_ n5_ n6_
                      clear hb hbox hg
                      refine hK.out _ _ ⟨((HB.out.cell (World.block_lt_of_cell? w _ hw101_0)).trans hw101_0), ((HB.out.cell (World.block_lt_of_cell? w _ hw101_1)).trans hw101_1), ((HB.out.cell (World.block_lt_of_cell? w _ hw101_2)).trans hw101_2), ((HB.out.cell (World.block_lt_of_cell? w _ hw102_0)).trans hw102_0), ((HB.out.cell (World.block_lt_of_cell? w _ hw102_1)).trans hw102_1), ((HB.out.cell (World.block_lt_of_cell? w _ hw102_2)).trans hw102_2)⟩ (fun hHeld => ?_)
                      clear hK K
                      refine norm_ (a' := ?_) ?_ ?_
                      rotate_left
                      · show Act.put _ (some 8) _ = _
                        simp only [Act.put, List.setIfInBounds_toArray, List.set_cons_zero, List.set_cons_succ, i64_w, i32_w]
                        rfl
                      exact norm_ (by simp only [putAll, Act.put, List.setIfInBounds_toArray, List.set_cons_zero, List.set_cons_succ]) (hCont (gb103, gb104) _ ⟨hHeld, (by (with_reducible repeat (first | refine blk_drewN ?_ _ | refine blk_drew ?_ | refine blk_alloc ?_ _)); exact BK103.out), (by (with_reducible repeat (first | refine blk_drewN ?_ _ | refine blk_drew ?_ | refine blk_alloc ?_ _)); exact BK104.out), GW103.out, GE103.out, NB104_103.out, NB103_104.out, GW104.out, GE104.out, (by repeat (first | (with_reducible first | exact HB.out | apply below_alloc | apply pw_below_drewN | apply below_drew1 | refine below_set ?_ GE104.out | refine below_set ?_ GE103.out) | exact HB.out))⟩)
                  rintro ⟨gb103, gb104⟩ w13 ⟨hS_, h0_, h1_, h2_, h3_, h4_, h5_, h6_, h7_, h8_⟩
                  have n0_ : Aside0 (w13.heap[gb103]? = some (.cells #[.bool false, .int .i64 0, .int .i64 0] 84 (0, 0))) := ⟨h0_⟩
                  have n1_ : Aside0 (w13.heap[gb104]? = some (.cells #[.int .i64 0, .bool false, .int .i64 0] 86 (0, 0))) := ⟨h1_⟩
                  have n2_ : Aside0 (w.heap.size ≤ gb103) := ⟨h2_⟩
                  have n3_ : Aside0 (w.heap.size ≤ gb103) := ⟨h3_⟩
                  have n4_ : Aside0 (gb104 ≠ gb103) := ⟨h4_⟩
                  have n5_ : Aside0 (gb103 ≠ gb104) := ⟨h5_⟩
                  have n6_ : Aside0 (w.heap.size ≤ gb104) := ⟨h6_⟩
                  have n7_ : Aside0 (w.heap.size ≤ gb104) := ⟨h7_⟩
                  have n8_ : Aside0 (Below w.heap.size w w13) := ⟨h8_⟩
                  clear HB
                  clear h0_ h1_ h2_ h3_ h4_ h5_ h6_ h7_ h8_
                  have BK103 := n0_
                  have BK104 := n1_
                  have GW103 := n2_
                  have GE103 := n3_
                  have NB104_103 := n4_
                  have NB103_104 := n5_
                  have GW104 := n6_
                  have GE104 := n7_
                  have HB := n8_
                  clear n0_ n1_ n2_ n3_ n4_ n5_ n6_ n7_ n8_
                  have hHeld : w13.cell? (ad101.add ((x7_2).toNat * 3)) = some (.bool ((rd_T84 l0 x7_2).f0)) ∧ w13.cell? ⟨(ad101.add ((x7_2).toNat * 3)).block, (ad101.add ((x7_2).toNat * 3)).off + 1, none⟩ = some (.int .i64 ((rd_T84 l0 x7_2).f1.f0)) ∧ w13.cell? ⟨(ad101.add ((x7_2).toNat * 3)).block, (ad101.add ((x7_2).toNat * 3)).off + 2, none⟩ = some (.int .i64 ((rd_T84 l0 x7_2).f1.f1)) ∧ w13.cell? (ad102.add ((x7_2).toNat * 3)) = some (.int .i64 ((rd_T86 l1 x7_2).f0)) ∧ w13.cell? ⟨(ad102.add ((x7_2).toNat * 3)).block, (ad102.add ((x7_2).toNat * 3)).off + 1, none⟩ = some (.bool ((rd_T86 l1 x7_2).f1)) ∧ w13.cell? ⟨(ad102.add ((x7_2).toNat * 3)).block, (ad102.add ((x7_2).toNat * 3)).off + 2, none⟩ = some (.int .i64 ((rd_T86 l1 x7_2).f2)) := hS_
                  refine norm_ (a' := ?_) ?_ ?_
                  rotate_left
                  · simp only [putAll, Act.put, List.setIfInBounds_toArray, List.set_cons_zero, List.set_cons_succ]
                    rfl
                  refine one_ (i := 10) (N := none) #[true, true, true, true, true, true, true, true, true, true, true, false] rfl rfl (one_of HT_.out (by kernel_rfl)) (by decide) (fun K hK => ?_)
                  have hs14 : w13.cell? ⟨gb103, 0, none⟩ = some (.bool false) := (blk_cell BK103.out 0).trans rfl
                  have hfs14 := blk_frozen BK103.out 0
                  have hns14_1 := NB104_103.out
                  have hms14_1 := NB103_104.out
                  have hs15 : w13.cell? ⟨gb103, 1, none⟩ = some (.int .i64 0) := (blk_cell BK103.out 1).trans rfl
                  have hfs15 := blk_frozen BK103.out 1
                  have hns15_1 := NB104_103.out
                  have hms15_1 := NB103_104.out
                  have hs16 : w13.cell? ⟨gb103, 2, none⟩ = some (.int .i64 0) := (blk_cell BK103.out 2).trans rfl
                  have hfs16 := blk_frozen BK103.out 2
                  have hns16_1 := NB104_103.out
                  have hms16_1 := NB103_104.out
                  refine skip_ (w1 := ?_) (by rfl) rfl ?_ ?_
                  rotate_left
                  · go_simp
                    rfl
                  refine hK.out _ _ ⟨((cell_far (p := ⟨gb103, _, none⟩) (by first | exact Nat.ne_of_lt (Nat.lt_of_lt_of_le (by have := World.block_lt_of_cell? _ _ hw101_0; first | rwa [add_block] at this | exact this) GW103.out) | (rw [add_block]; exact Nat.ne_of_lt (Nat.lt_of_lt_of_le (by have := World.block_lt_of_cell? _ _ hw101_0; first | rwa [add_block] at this | exact this) GW103.out)) | (show (Addr.add _ _).block ≠ _; rw [add_block]; exact Nat.ne_of_lt (Nat.lt_of_lt_of_le (by have := World.block_lt_of_cell? _ _ hw101_0; first | rwa [add_block] at this | exact this) GW103.out)) | (dsimp only; exact Nat.ne_of_lt (Nat.lt_of_lt_of_le (by have := World.block_lt_of_cell? _ _ hw101_0; first | rwa [add_block] at this | exact this) GW103.out))) _).trans (((cell_far (p := ⟨gb103, _, none⟩) (by first | exact Nat.ne_of_lt (Nat.lt_of_lt_of_le (by have := World.block_lt_of_cell? _ _ hw101_0; first | rwa [add_block] at this | exact this) GW103.out) | (rw [add_block]; exact Nat.ne_of_lt (Nat.lt_of_lt_of_le (by have := World.block_lt_of_cell? _ _ hw101_0; first | rwa [add_block] at this | exact this) GW103.out)) | (show (Addr.add _ _).block ≠ _; rw [add_block]; exact Nat.ne_of_lt (Nat.lt_of_lt_of_le (by have := World.block_lt_of_cell? _ _ hw101_0; first | rwa [add_block] at this | exact this) GW103.out)) | (dsimp only; exact Nat.ne_of_lt (Nat.lt_of_lt_of_le (by have := World.block_lt_of_cell? _ _ hw101_0; first | rwa [add_block] at this | exact this) GW103.out))) _).trans (((cell_far (p := ⟨gb103, _, none⟩) (by first | exact Nat.ne_of_lt (Nat.lt_of_lt_of_le (by have := World.block_lt_of_cell? _ _ hw101_0; first | rwa [add_block] at this | exact this) GW103.out) | (rw [add_block]; exact Nat.ne_of_lt (Nat.lt_of_lt_of_le (by have := World.block_lt_of_cell? _ _ hw101_0; first | rwa [add_block] at this | exact this) GW103.out)) | (show (Addr.add _ _).block ≠ _; rw [add_block]; exact Nat.ne_of_lt (Nat.lt_of_lt_of_le (by have := World.block_lt_of_cell? _ _ hw101_0; first | rwa [add_block] at this | exact this) GW103.out)) | (dsimp only; exact Nat.ne_of_lt (Nat.lt_of_lt_of_le (by have := World.block_lt_of_cell? _ _ hw101_0; first | rwa [add_block] at this | exact this) GW103.out))) _).trans (hHeld.1)))))), ((cell_far (p := ⟨gb103, _, none⟩) (by first | exact Nat.ne_of_lt (Nat.lt_of_lt_of_le (by have := World.block_lt_of_cell? _ _ hw101_1; first | rwa [add_block] at this | exact this) GW103.out) | (rw [add_block]; exact Nat.ne_of_lt (Nat.lt_of_lt_of_le (by have := World.block_lt_of_cell? _ _ hw101_1; first | rwa [add_block] at this | exact this) GW103.out)) | (show (Addr.add _ _).block ≠ _; rw [add_block]; exact Nat.ne_of_lt (Nat.lt_of_lt_of_le (by have := World.block_lt_of_cell? _ _ hw101_1; first | rwa [add_block] at this | exact this) GW103.out)) | (dsimp only; exact Nat.ne_of_lt (Nat.lt_of_lt_of_le (by have := World.block_lt_of_cell? _ _ hw101_1; first | rwa [add_block] at this | exact this) GW103.out))) _).trans (((cell_far (p := ⟨gb103, _, none⟩) (by first | exact Nat.ne_of_lt (Nat.lt_of_lt_of_le (by have := World.block_lt_of_cell? _ _ hw101_1; first | rwa [add_block] at this | exact this) GW103.out) | (rw [add_block]; exact Nat.ne_of_lt (Nat.lt_of_lt_of_le (by have := World.block_lt_of_cell? _ _ hw101_1; first | rwa [add_block] at this | exact this) GW103.out)) | (show (Addr.add _ _).block ≠ _; rw [add_block]; exact Nat.ne_of_lt (Nat.lt_of_lt_of_le (by have := World.block_lt_of_cell? _ _ hw101_1; first | rwa [add_block] at this | exact this) GW103.out)) | (dsimp only; exact Nat.ne_of_lt (Nat.lt_of_lt_of_le (by have := World.block_lt_of_cell? _ _ hw101_1; first | rwa [add_block] at this | exact this) GW103.out))) _).trans (((cell_far (p := ⟨gb103, _, none⟩) (by first | exact Nat.ne_of_lt (Nat.lt_of_lt_of_le (by have := World.block_lt_of_cell? _ _ hw101_1; first | rwa [add_block] at this | exact this) GW103.out) | (rw [add_block]; exact Nat.ne_of_lt (Nat.lt_of_lt_of_le (by have := World.block_lt_of_cell? _ _ hw101_1; first | rwa [add_block] at this | exact this) GW103.out)) | (show (Addr.add _ _).block ≠ _; rw [add_block]; exact Nat.ne_of_lt (Nat.lt_of_lt_of_le (by have := World.block_lt_of_cell? _ _ hw101_1; first | rwa [add_block] at this | exact this) GW103.out)) | (dsimp only; exact Nat.ne_of_lt (Nat.lt_of_lt_of_le (by have := World.block_lt_of_cell? _ _ hw101_1; first | rwa [add_block] at this | exact this) GW103.out))) _).trans (hHeld.2.1)))))), ((cell_far (p := ⟨gb103, _, none⟩) (by first | exact Nat.ne_of_lt (Nat.lt_of_lt_of_le (by have := World.block_lt_of_cell? _ _ hw101_2; first | rwa [add_block] at this | exact this) GW103.out) | (rw [add_block]; exact Nat.ne_of_lt (Nat.lt_of_lt_of_le (by have := World.block_lt_of_cell? _ _ hw101_2; first | rwa [add_block] at this | exact this) GW103.out)) | (show (Addr.add _ _).block ≠ _; rw [add_block]; exact Nat.ne_of_lt (Nat.lt_of_lt_of_le (by have := World.block_lt_of_cell? _ _ hw101_2; first | rwa [add_block] at this | exact this) GW103.out)) | (dsimp only; exact Nat.ne_of_lt (Nat.lt_of_lt_of_le (by have := World.block_lt_of_cell? _ _ hw101_2; first | rwa [add_block] at this | exact this) GW103.out))) _).trans (((cell_far (p := ⟨gb103, _, none⟩) (by first | exact Nat.ne_of_lt (Nat.lt_of_lt_of_le (by have := World.block_lt_of_cell? _ _ hw101_2; first | rwa [add_block] at this | exact this) GW103.out) | (rw [add_block]; exact Nat.ne_of_lt (Nat.lt_of_lt_of_le (by have := World.block_lt_of_cell? _ _ hw101_2; first | rwa [add_block] at this | exact this) GW103.out)) | (show (Addr.add _ _).block ≠ _; rw [add_block]; exact Nat.ne_of_lt (Nat.lt_of_lt_of_le (by have := World.block_lt_of_cell? _ _ hw101_2; first | rwa [add_block] at this | exact this) GW103.out)) | (dsimp only; exact Nat.ne_of_lt (Nat.lt_of_lt_of_le (by have := World.block_lt_of_cell? _ _ hw101_2; first | rwa [add_block] at this | exact this) GW103.out))) _).trans (((cell_far (p := ⟨gb103, _, none⟩) (by first | exact Nat.ne_of_lt (Nat.lt_of_lt_of_le (by have := World.block_lt_of_cell? _ _ hw101_2; first | rwa [add_block] at this | exact this) GW103.out) | (rw [add_block]; exact Nat.ne_of_lt (Nat.lt_of_lt_of_le (by have := World.block_lt_of_cell? _ _ hw101_2; first | rwa [add_block] at this | exact this) GW103.out)) | (show (Addr.add _ _).block ≠ _; rw [add_block]; exact Nat.ne_of_lt (Nat.lt_of_lt_of_le (by have := World.block_lt_of_cell? _ _ hw101_2; first | rwa [add_block] at this | exact this) GW103.out)) | (dsimp only; exact Nat.ne_of_lt (Nat.lt_of_lt_of_le (by have := World.block_lt_of_cell? _ _ hw101_2; first | rwa [add_block] at this | exact this) GW103.out))) _).trans (hHeld.2.2.1)))))), ((cell_far (p := ⟨gb103, _, none⟩) (by first | exact Nat.ne_of_lt (Nat.lt_of_lt_of_le (by have := World.block_lt_of_cell? _ _ hw102_0; first | rwa [add_block] at this | exact this) GW103.out) | (rw [add_block]; exact Nat.ne_of_lt (Nat.lt_of_lt_of_le (by have := World.block_lt_of_cell? _ _ hw102_0; first | rwa [add_block] at this | exact this) GW103.out)) | (show (Addr.add _ _).block ≠ _; rw [add_block]; exact Nat.ne_of_lt (Nat.lt_of_lt_of_le (by have := World.block_lt_of_cell? _ _ hw102_0; first | rwa [add_block] at this | exact this) GW103.out)) | (dsimp only; exact Nat.ne_of_lt (Nat.lt_of_lt_of_le (by have := World.block_lt_of_cell? _ _ hw102_0; first | rwa [add_block] at this | exact this) GW103.out))) _).trans (((cell_far (p := ⟨gb103, _, none⟩) (by first | exact Nat.ne_of_lt (Nat.lt_of_lt_of_le (by have := World.block_lt_of_cell? _ _ hw102_0; first | rwa [add_block] at this | exact this) GW103.out) | (rw [add_block]; exact Nat.ne_of_lt (Nat.lt_of_lt_of_le (by have := World.block_lt_of_cell? _ _ hw102_0; first | rwa [add_block] at this | exact this) GW103.out)) | (show (Addr.add _ _).block ≠ _; rw [add_block]; exact Nat.ne_of_lt (Nat.lt_of_lt_of_le (by have := World.block_lt_of_cell? _ _ hw102_0; first | rwa [add_block] at this | exact this) GW103.out)) | (dsimp only; exact Nat.ne_of_lt (Nat.lt_of_lt_of_le (by have := World.block_lt_of_cell? _ _ hw102_0; first | rwa [add_block] at this | exact this) GW103.out))) _).trans (((cell_far (p := ⟨gb103, _, none⟩) (by first | exact Nat.ne_of_lt (Nat.lt_of_lt_of_le (by have := World.block_lt_of_cell? _ _ hw102_0; first | rwa [add_block] at this | exact this) GW103.out) | (rw [add_block]; exact Nat.ne_of_lt (Nat.lt_of_lt_of_le (by have := World.block_lt_of_cell? _ _ hw102_0; first | rwa [add_block] at this | exact this) GW103.out)) | (show (Addr.add _ _).block ≠ _; rw [add_block]; exact Nat.ne_of_lt (Nat.lt_of_lt_of_le (by have := World.block_lt_of_cell? _ _ hw102_0; first | rwa [add_block] at this | exact this) GW103.out)) | (dsimp only; exact Nat.ne_of_lt (Nat.lt_of_lt_of_le (by have := World.block_lt_of_cell? _ _ hw102_0; first | rwa [add_block] at this | exact this) GW103.out))) _).trans (hHeld.2.2.2.1)))))), ((cell_far (p := ⟨gb103, _, none⟩) (by first | exact Nat.ne_of_lt (Nat.lt_of_lt_of_le (by have := World.block_lt_of_cell? _ _ hw102_1; first | rwa [add_block] at this | exact this) GW103.out) | (rw [add_block]; exact Nat.ne_of_lt (Nat.lt_of_lt_of_le (by have := World.block_lt_of_cell? _ _ hw102_1; first | rwa [add_block] at this | exact this) GW103.out)) | (show (Addr.add _ _).block ≠ _; rw [add_block]; exact Nat.ne_of_lt (Nat.lt_of_lt_of_le (by have := World.block_lt_of_cell? _ _ hw102_1; first | rwa [add_block] at this | exact this) GW103.out)) | (dsimp only; exact Nat.ne_of_lt (Nat.lt_of_lt_of_le (by have := World.block_lt_of_cell? _ _ hw102_1; first | rwa [add_block] at this | exact this) GW103.out))) _).trans (((cell_far (p := ⟨gb103, _, none⟩) (by first | exact Nat.ne_of_lt (Nat.lt_of_lt_of_le (by have := World.block_lt_of_cell? _ _ hw102_1; first | rwa [add_block] at this | exact this) GW103.out) | (rw [add_block]; exact Nat.ne_of_lt (Nat.lt_of_lt_of_le (by have := World.block_lt_of_cell? _ _ hw102_1; first | rwa [add_block] at this | exact this) GW103.out)) | (show (Addr.add _ _).block ≠ _; rw [add_block]; exact Nat.ne_of_lt (Nat.lt_of_lt_of_le (by have := World.block_lt_of_cell? _ _ hw102_1; first | rwa [add_block] at this | exact this) GW103.out)) | (dsimp only; exact Nat.ne_of_lt (Nat.lt_of_lt_of_le (by have := World.block_lt_of_cell? _ _ hw102_1; first | rwa [add_block] at this | exact this) GW103.out))) _).trans (((cell_far (p := ⟨gb103, _, none⟩) (by first | exact Nat.ne_of_lt (Nat.lt_of_lt_of_le (by have := World.block_lt_of_cell? _ _ hw102_1; first | rwa [add_block] at this | exact this) GW103.out) | (rw [add_block]; exact Nat.ne_of_lt (Nat.lt_of_lt_of_le (by have := World.block_lt_of_cell? _ _ hw102_1; first | rwa [add_block] at this | exact this) GW103.out)) | (show (Addr.add _ _).block ≠ _; rw [add_block]; exact Nat.ne_of_lt (Nat.lt_of_lt_of_le (by have := World.block_lt_of_cell? _ _ hw102_1; first | rwa [add_block] at this | exact this) GW103.out)) | (dsimp only; exact Nat.ne_of_lt (Nat.lt_of_lt_of_le (by have := World.block_lt_of_cell? _ _ hw102_1; first | rwa [add_block] at this | exact this) GW103.out))) _).trans (hHeld.2.2.2.2.1)))))), ((cell_far (p := ⟨gb103, _, none⟩) (by first | exact Nat.ne_of_lt (Nat.lt_of_lt_of_le (by have := World.block_lt_of_cell? _ _ hw102_2; first | rwa [add_block] at this | exact this) GW103.out) | (rw [add_block]; exact Nat.ne_of_lt (Nat.lt_of_lt_of_le (by have := World.block_lt_of_cell? _ _ hw102_2; first | rwa [add_block] at this | exact this) GW103.out)) | (show (Addr.add _ _).block ≠ _; rw [add_block]; exact Nat.ne_of_lt (Nat.lt_of_lt_of_le (by have := World.block_lt_of_cell? _ _ hw102_2; first | rwa [add_block] at this | exact this) GW103.out)) | (dsimp only; exact Nat.ne_of_lt (Nat.lt_of_lt_of_le (by have := World.block_lt_of_cell? _ _ hw102_2; first | rwa [add_block] at this | exact this) GW103.out))) _).trans (((cell_far (p := ⟨gb103, _, none⟩) (by first | exact Nat.ne_of_lt (Nat.lt_of_lt_of_le (by have := World.block_lt_of_cell? _ _ hw102_2; first | rwa [add_block] at this | exact this) GW103.out) | (rw [add_block]; exact Nat.ne_of_lt (Nat.lt_of_lt_of_le (by have := World.block_lt_of_cell? _ _ hw102_2; first | rwa [add_block] at this | exact this) GW103.out)) | (show (Addr.add _ _).block ≠ _; rw [add_block]; exact Nat.ne_of_lt (Nat.lt_of_lt_of_le (by have := World.block_lt_of_cell? _ _ hw102_2; first | rwa [add_block] at this | exact this) GW103.out)) | (dsimp only; exact Nat.ne_of_lt (Nat.lt_of_lt_of_le (by have := World.block_lt_of_cell? _ _ hw102_2; first | rwa [add_block] at this | exact this) GW103.out))) _).trans (((cell_far (p := ⟨gb103, _, none⟩) (by first | exact Nat.ne_of_lt (Nat.lt_of_lt_of_le (by have := World.block_lt_of_cell? _ _ hw102_2; first | rwa [add_block] at this | exact this) GW103.out) | (rw [add_block]; exact Nat.ne_of_lt (Nat.lt_of_lt_of_le (by have := World.block_lt_of_cell? _ _ hw102_2; first | rwa [add_block] at this | exact this) GW103.out)) | (show (Addr.add _ _).block ≠ _; rw [add_block]; exact Nat.ne_of_lt (Nat.lt_of_lt_of_le (by have := World.block_lt_of_cell? _ _ hw102_2; first | rwa [add_block] at this | exact this) GW103.out)) | (dsimp only; exact Nat.ne_of_lt (Nat.lt_of_lt_of_le (by have := World.block_lt_of_cell? _ _ hw102_2; first | rwa [add_block] at this | exact this) GW103.out))) _).trans (hHeld.2.2.2.2.2))))))⟩ (fun hHeld => ?_)
                  clear hK K
                  refine one_ (i := 11) (N := none) #[true, true, true, true, true, true, true, true, true, true, true, true] rfl rfl (one_of HT_.out (by kernel_rfl)) (by decide) (fun K hK => ?_)
                  have hs17 : w13.cell? ⟨gb104, 0, none⟩ = some (.int .i64 0) := (blk_cell BK104.out 0).trans rfl
                  have hfs17 := blk_frozen BK104.out 0
                  have hns17_0 := NB103_104.out
                  have hms17_0 := NB104_103.out
                  have hs18 : w13.cell? ⟨gb104, 1, none⟩ = some (.bool false) := (blk_cell BK104.out 1).trans rfl
                  have hfs18 := blk_frozen BK104.out 1
                  have hns18_0 := NB103_104.out
                  have hms18_0 := NB104_103.out
                  have hs19 : w13.cell? ⟨gb104, 2, none⟩ = some (.int .i64 0) := (blk_cell BK104.out 2).trans rfl
                  have hfs19 := blk_frozen BK104.out 2
                  have hns19_0 := NB103_104.out
                  have hms19_0 := NB104_103.out
                  refine skip_ (w1 := ?_) (by rfl) rfl ?_ ?_
                  rotate_left
                  · go_simp
                    rfl
                  refine hK.out _ _ ⟨((cell_far (p := ⟨gb104, _, none⟩) (by first | exact Nat.ne_of_lt (Nat.lt_of_lt_of_le (by have := World.block_lt_of_cell? _ _ hw101_0; first | rwa [add_block] at this | exact this) GW104.out) | (rw [add_block]; exact Nat.ne_of_lt (Nat.lt_of_lt_of_le (by have := World.block_lt_of_cell? _ _ hw101_0; first | rwa [add_block] at this | exact this) GW104.out)) | (show (Addr.add _ _).block ≠ _; rw [add_block]; exact Nat.ne_of_lt (Nat.lt_of_lt_of_le (by have := World.block_lt_of_cell? _ _ hw101_0; first | rwa [add_block] at this | exact this) GW104.out)) | (dsimp only; exact Nat.ne_of_lt (Nat.lt_of_lt_of_le (by have := World.block_lt_of_cell? _ _ hw101_0; first | rwa [add_block] at this | exact this) GW104.out))) _).trans (((cell_far (p := ⟨gb104, _, none⟩) (by first | exact Nat.ne_of_lt (Nat.lt_of_lt_of_le (by have := World.block_lt_of_cell? _ _ hw101_0; first | rwa [add_block] at this | exact this) GW104.out) | (rw [add_block]; exact Nat.ne_of_lt (Nat.lt_of_lt_of_le (by have := World.block_lt_of_cell? _ _ hw101_0; first | rwa [add_block] at this | exact this) GW104.out)) | (show (Addr.add _ _).block ≠ _; rw [add_block]; exact Nat.ne_of_lt (Nat.lt_of_lt_of_le (by have := World.block_lt_of_cell? _ _ hw101_0; first | rwa [add_block] at this | exact this) GW104.out)) | (dsimp only; exact Nat.ne_of_lt (Nat.lt_of_lt_of_le (by have := World.block_lt_of_cell? _ _ hw101_0; first | rwa [add_block] at this | exact this) GW104.out))) _).trans (((cell_far (p := ⟨gb104, _, none⟩) (by first | exact Nat.ne_of_lt (Nat.lt_of_lt_of_le (by have := World.block_lt_of_cell? _ _ hw101_0; first | rwa [add_block] at this | exact this) GW104.out) | (rw [add_block]; exact Nat.ne_of_lt (Nat.lt_of_lt_of_le (by have := World.block_lt_of_cell? _ _ hw101_0; first | rwa [add_block] at this | exact this) GW104.out)) | (show (Addr.add _ _).block ≠ _; rw [add_block]; exact Nat.ne_of_lt (Nat.lt_of_lt_of_le (by have := World.block_lt_of_cell? _ _ hw101_0; first | rwa [add_block] at this | exact this) GW104.out)) | (dsimp only; exact Nat.ne_of_lt (Nat.lt_of_lt_of_le (by have := World.block_lt_of_cell? _ _ hw101_0; first | rwa [add_block] at this | exact this) GW104.out))) _).trans (hHeld.1)))))), ((cell_far (p := ⟨gb104, _, none⟩) (by first | exact Nat.ne_of_lt (Nat.lt_of_lt_of_le (by have := World.block_lt_of_cell? _ _ hw101_1; first | rwa [add_block] at this | exact this) GW104.out) | (rw [add_block]; exact Nat.ne_of_lt (Nat.lt_of_lt_of_le (by have := World.block_lt_of_cell? _ _ hw101_1; first | rwa [add_block] at this | exact this) GW104.out)) | (show (Addr.add _ _).block ≠ _; rw [add_block]; exact Nat.ne_of_lt (Nat.lt_of_lt_of_le (by have := World.block_lt_of_cell? _ _ hw101_1; first | rwa [add_block] at this | exact this) GW104.out)) | (dsimp only; exact Nat.ne_of_lt (Nat.lt_of_lt_of_le (by have := World.block_lt_of_cell? _ _ hw101_1; first | rwa [add_block] at this | exact this) GW104.out))) _).trans (((cell_far (p := ⟨gb104, _, none⟩) (by first | exact Nat.ne_of_lt (Nat.lt_of_lt_of_le (by have := World.block_lt_of_cell? _ _ hw101_1; first | rwa [add_block] at this | exact this) GW104.out) | (rw [add_block]; exact Nat.ne_of_lt (Nat.lt_of_lt_of_le (by have := World.block_lt_of_cell? _ _ hw101_1; first | rwa [add_block] at this | exact this) GW104.out)) | (show (Addr.add _ _).block ≠ _; rw [add_block]; exact Nat.ne_of_lt (Nat.lt_of_lt_of_le (by have := World.block_lt_of_cell? _ _ hw101_1; first | rwa [add_block] at this | exact this) GW104.out)) | (dsimp only; exact Nat.ne_of_lt (Nat.lt_of_lt_of_le (by have := World.block_lt_of_cell? _ _ hw101_1; first | rwa [add_block] at this | exact this) GW104.out))) _).trans (((cell_far (p := ⟨gb104, _, none⟩) (by first | exact Nat.ne_of_lt (Nat.lt_of_lt_of_le (by have := World.block_lt_of_cell? _ _ hw101_1; first | rwa [add_block] at this | exact this) GW104.out) | (rw [add_block]; exact Nat.ne_of_lt (Nat.lt_of_lt_of_le (by have := World.block_lt_of_cell? _ _ hw101_1; first | rwa [add_block] at this | exact this) GW104.out)) | (show (Addr.add _ _).block ≠ _; rw [add_block]; exact Nat.ne_of_lt (Nat.lt_of_lt_of_le (by have := World.block_lt_of_cell? _ _ hw101_1; first | rwa [add_block] at this | exact this) GW104.out)) | (dsimp only; exact Nat.ne_of_lt (Nat.lt_of_lt_of_le (by have := World.block_lt_of_cell? _ _ hw101_1; first | rwa [add_block] at this | exact this) GW104.out))) _).trans (hHeld.2.1)))))), ((cell_far (p := ⟨gb104, _, none⟩) (by first | exact Nat.ne_of_lt (Nat.lt_of_lt_of_le (by have := World.block_lt_of_cell? _ _ hw101_2; first | rwa [add_block] at this | exact this) GW104.out) | (rw [add_block]; exact Nat.ne_of_lt (Nat.lt_of_lt_of_le (by have := World.block_lt_of_cell? _ _ hw101_2; first | rwa [add_block] at this | exact this) GW104.out)) | (show (Addr.add _ _).block ≠ _; rw [add_block]; exact Nat.ne_of_lt (Nat.lt_of_lt_of_le (by have := World.block_lt_of_cell? _ _ hw101_2; first | rwa [add_block] at this | exact this) GW104.out)) | (dsimp only; exact Nat.ne_of_lt (Nat.lt_of_lt_of_le (by have := World.block_lt_of_cell? _ _ hw101_2; first | rwa [add_block] at this | exact this) GW104.out))) _).trans (((cell_far (p := ⟨gb104, _, none⟩) (by first | exact Nat.ne_of_lt (Nat.lt_of_lt_of_le (by have := World.block_lt_of_cell? _ _ hw101_2; first | rwa [add_block] at this | exact this) GW104.out) | (rw [add_block]; exact Nat.ne_of_lt (Nat.lt_of_lt_of_le (by have := World.block_lt_of_cell? _ _ hw101_2; first | rwa [add_block] at this | exact this) GW104.out)) | (show (Addr.add _ _).block ≠ _; rw [add_block]; exact Nat.ne_of_lt (Nat.lt_of_lt_of_le (by have := World.block_lt_of_cell? _ _ hw101_2; first | rwa [add_block] at this | exact this) GW104.out)) | (dsimp only; exact Nat.ne_of_lt (Nat.lt_of_lt_of_le (by have := World.block_lt_of_cell? _ _ hw101_2; first | rwa [add_block] at this | exact this) GW104.out))) _).trans (((cell_far (p := ⟨gb104, _, none⟩) (by first | exact Nat.ne_of_lt (Nat.lt_of_lt_of_le (by have := World.block_lt_of_cell? _ _ hw101_2; first | rwa [add_block] at this | exact this) GW104.out) | (rw [add_block]; exact Nat.ne_of_lt (Nat.lt_of_lt_of_le (by have := World.block_lt_of_cell? _ _ hw101_2; first | rwa [add_block] at this | exact this) GW104.out)) | (show (Addr.add _ _).block ≠ _; rw [add_block]; exact Nat.ne_of_lt (Nat.lt_of_lt_of_le (by have := World.block_lt_of_cell? _ _ hw101_2; first | rwa [add_block] at this | exact this) GW104.out)) | (dsimp only; exact Nat.ne_of_lt (Nat.lt_of_lt_of_le (by have := World.block_lt_of_cell? _ _ hw101_2; first | rwa [add_block] at this | exact this) GW104.out))) _).trans (hHeld.2.2.1)))))), ((cell_far (p := ⟨gb104, _, none⟩) (by first | exact Nat.ne_of_lt (Nat.lt_of_lt_of_le (by have := World.block_lt_of_cell? _ _ hw102_0; first | rwa [add_block] at this | exact this) GW104.out) | (rw [add_block]; exact Nat.ne_of_lt (Nat.lt_of_lt_of_le (by have := World.block_lt_of_cell? _ _ hw102_0; first | rwa [add_block] at this | exact this) GW104.out)) | (show (Addr.add _ _).block ≠ _; rw [add_block]; exact Nat.ne_of_lt (Nat.lt_of_lt_of_le (by have := World.block_lt_of_cell? _ _ hw102_0; first | rwa [add_block] at this | exact this) GW104.out)) | (dsimp only; exact Nat.ne_of_lt (Nat.lt_of_lt_of_le (by have := World.block_lt_of_cell? _ _ hw102_0; first | rwa [add_block] at this | exact this) GW104.out))) _).trans (((cell_far (p := ⟨gb104, _, none⟩) (by first | exact Nat.ne_of_lt (Nat.lt_of_lt_of_le (by have := World.block_lt_of_cell? _ _ hw102_0; first | rwa [add_block] at this | exact this) GW104.out) | (rw [add_block]; exact Nat.ne_of_lt (Nat.lt_of_lt_of_le (by have := World.block_lt_of_cell? _ _ hw102_0; first | rwa [add_block] at this | exact this) GW104.out)) | (show (Addr.add _ _).block ≠ _; rw [add_block]; exact Nat.ne_of_lt (Nat.lt_of_lt_of_le (by have := World.block_lt_of_cell? _ _ hw102_0; first | rwa [add_block] at this | exact this) GW104.out)) | (dsimp only; exact Nat.ne_of_lt (Nat.lt_of_lt_of_le (by have := World.block_lt_of_cell? _ _ hw102_0; first | rwa [add_block] at this | exact this) GW104.out))) _).trans (((cell_far (p := ⟨gb104, _, none⟩) (by first | exact Nat.ne_of_lt (Nat.lt_of_lt_of_le (by have := World.block_lt_of_cell? _ _ hw102_0; first | rwa [add_block] at this | exact this) GW104.out) | (rw [add_block]; exact Nat.ne_of_lt (Nat.lt_of_lt_of_le (by have := World.block_lt_of_cell? _ _ hw102_0; first | rwa [add_block] at this | exact this) GW104.out)) | (show (Addr.add _ _).block ≠ _; rw [add_block]; exact Nat.ne_of_lt (Nat.lt_of_lt_of_le (by have := World.block_lt_of_cell? _ _ hw102_0; first | rwa [add_block] at this | exact this) GW104.out)) | (dsimp only; exact Nat.ne_of_lt (Nat.lt_of_lt_of_le (by have := World.block_lt_of_cell? _ _ hw102_0; first | rwa [add_block] at this | exact this) GW104.out))) _).trans (hHeld.2.2.2.1)))))), ((cell_far (p := ⟨gb104, _, none⟩) (by first | exact Nat.ne_of_lt (Nat.lt_of_lt_of_le (by have := World.block_lt_of_cell? _ _ hw102_1; first | rwa [add_block] at this | exact this) GW104.out) | (rw [add_block]; exact Nat.ne_of_lt (Nat.lt_of_lt_of_le (by have := World.block_lt_of_cell? _ _ hw102_1; first | rwa [add_block] at this | exact this) GW104.out)) | (show (Addr.add _ _).block ≠ _; rw [add_block]; exact Nat.ne_of_lt (Nat.lt_of_lt_of_le (by have := World.block_lt_of_cell? _ _ hw102_1; first | rwa [add_block] at this | exact this) GW104.out)) | (dsimp only; exact Nat.ne_of_lt (Nat.lt_of_lt_of_le (by have := World.block_lt_of_cell? _ _ hw102_1; first | rwa [add_block] at this | exact this) GW104.out))) _).trans (((cell_far (p := ⟨gb104, _, none⟩) (by first | exact Nat.ne_of_lt (Nat.lt_of_lt_of_le (by have := World.block_lt_of_cell? _ _ hw102_1; first | rwa [add_block] at this | exact this) GW104.out) | (rw [add_block]; exact Nat.ne_of_lt (Nat.lt_of_lt_of_le (by have := World.block_lt_of_cell? _ _ hw102_1; first | rwa [add_block] at this | exact this) GW104.out)) | (show (Addr.add _ _).block ≠ _; rw [add_block]; exact Nat.ne_of_lt (Nat.lt_of_lt_of_le (by have := World.block_lt_of_cell? _ _ hw102_1; first | rwa [add_block] at this | exact this) GW104.out)) | (dsimp only; exact Nat.ne_of_lt (Nat.lt_of_lt_of_le (by have := World.block_lt_of_cell? _ _ hw102_1; first | rwa [add_block] at this | exact this) GW104.out))) _).trans (((cell_far (p := ⟨gb104, _, none⟩) (by first | exact Nat.ne_of_lt (Nat.lt_of_lt_of_le (by have := World.block_lt_of_cell? _ _ hw102_1; first | rwa [add_block] at this | exact this) GW104.out) | (rw [add_block]; exact Nat.ne_of_lt (Nat.lt_of_lt_of_le (by have := World.block_lt_of_cell? _ _ hw102_1; first | rwa [add_block] at this | exact this) GW104.out)) | (show (Addr.add _ _).block ≠ _; rw [add_block]; exact Nat.ne_of_lt (Nat.lt_of_lt_of_le (by have := World.block_lt_of_cell? _ _ hw102_1; first | rwa [add_block] at this | exact this) GW104.out)) | (dsimp only; exact Nat.ne_of_lt (Nat.lt_of_lt_of_le (by have := World.block_lt_of_cell? _ _ hw102_1; first | rwa [add_block] at this | exact this) GW104.out))) _).trans (hHeld.2.2.2.2.1)))))), ((cell_far (p := ⟨gb104, _, none⟩) (by first | exact Nat.ne_of_lt (Nat.lt_of_lt_of_le (by have := World.block_lt_of_cell? _ _ hw102_2; first | rwa [add_block] at this | exact this) GW104.out) | (rw [add_block]; exact Nat.ne_of_lt (Nat.lt_of_lt_of_le (by have := World.block_lt_of_cell? _ _ hw102_2; first | rwa [add_block] at this | exact this) GW104.out)) | (show (Addr.add _ _).block ≠ _; rw [add_block]; exact Nat.ne_of_lt (Nat.lt_of_lt_of_le (by have := World.block_lt_of_cell? _ _ hw102_2; first | rwa [add_block] at this | exact this) GW104.out)) | (dsimp only; exact Nat.ne_of_lt (Nat.lt_of_lt_of_le (by have := World.block_lt_of_cell? _ _ hw102_2; first | rwa [add_block] at this | exact this) GW104.out))) _).trans (((cell_far (p := ⟨gb104, _, none⟩) (by first | exact Nat.ne_of_lt (Nat.lt_of_lt_of_le (by have := World.block_lt_of_cell? _ _ hw102_2; first | rwa [add_block] at this | exact this) GW104.out) | (rw [add_block]; exact Nat.ne_of_lt (Nat.lt_of_lt_of_le (by have := World.block_lt_of_cell? _ _ hw102_2; first | rwa [add_block] at this | exact this) GW104.out)) | (show (Addr.add _ _).block ≠ _; rw [add_block]; exact Nat.ne_of_lt (Nat.lt_of_lt_of_le (by have := World.block_lt_of_cell? _ _ hw102_2; first | rwa [add_block] at this | exact this) GW104.out)) | (dsimp only; exact Nat.ne_of_lt (Nat.lt_of_lt_of_le (by have := World.block_lt_of_cell? _ _ hw102_2; first | rwa [add_block] at this | exact this) GW104.out))) _).trans (((cell_far (p := ⟨gb104, _, none⟩) (by first | exact Nat.ne_of_lt (Nat.lt_of_lt_of_le (by have := World.block_lt_of_cell? _ _ hw102_2; first | rwa [add_block] at this | exact this) GW104.out) | (rw [add_block]; exact Nat.ne_of_lt (Nat.lt_of_lt_of_le (by have := World.block_lt_of_cell? _ _ hw102_2; first | rwa [add_block] at this | exact this) GW104.out)) | (show (Addr.add _ _).block ≠ _; rw [add_block]; exact Nat.ne_of_lt (Nat.lt_of_lt_of_le (by have := World.block_lt_of_cell? _ _ hw102_2; first | rwa [add_block] at this | exact this) GW104.out)) | (dsimp only; exact Nat.ne_of_lt (Nat.lt_of_lt_of_le (by have := World.block_lt_of_cell? _ _ hw102_2; first | rwa [add_block] at this | exact this) GW104.out))) _).trans (hHeld.2.2.2.2.2))))))⟩ (fun hHeld => ?_)
                  clear hK K
                  refine done_ (done_of HT_.out (by kernel_rfl)) ?_
                  go_upto_region 8 with (fail)
                  go_cut [42] (fun v42 wc => ∃ (kq : Nat) (x42_8 : Bool), v42 = .bool x42_8 ∧ Aside0 (spec_ReadsOk.j2 kq l0 l1 x5_2 x6_2 x7_2 x42_8 ((rd_T84 l0 x7_2).f0) ((rd_T84 l0 x7_2).f1.f0) ((rd_T84 l0 x7_2).f1.f1) ((rd_T86 l1 x7_2).f0) ((rd_T86 l1 x7_2).f1) ((rd_T86 l1 x7_2).f2) = some r) ∧ Aside0 (kq ≤ k2) ∧ Aside0 (wc.heap[gb103]? = some (.cells #[.bool ((rd_T84 l0 x7_2).f0), .int .i64 ((rd_T84 l0 x7_2).f1.f0), .int .i64 ((rd_T84 l0 x7_2).f1.f1)] 84 (0, 0))) ∧ Aside0 (wc.heap[gb104]? = some (.cells #[.int .i64 ((rd_T86 l1 x7_2).f0), .bool ((rd_T86 l1 x7_2).f1), .int .i64 ((rd_T86 l1 x7_2).f2)] 86 (0, 0))) ∧ Aside0 (Below w.heap.size w wc))
                  case first =>
                    have H := HC9.out
                    clear HC9
                    obtain ⟨bq20, hbq20⟩ : ∃ b_ : Bool, b_ = ((rd_T84 l0 x7_2).f0) := ⟨_, rfl⟩
                    replace H : (if bq20 = true then ((spec_IvalOk.f ((rd_T84 l0 x7_2).f1.f0) ((rd_T84 l0 x7_2).f1.f1)).bind fun t105 => (spec_ReadsOk.j2 k2 l0 l1 x5_2 x6_2 x7_2 (!t105) bq20 ((rd_T84 l0 x7_2).f1.f0) ((rd_T84 l0 x7_2).f1.f1) ((rd_T86 l1 x7_2).f0) ((rd_T86 l1 x7_2).f1) ((rd_T86 l1 x7_2).f2))) else (spec_ReadsOk.j2 k2 l0 l1 x5_2 x6_2 x7_2 false bq20 ((rd_T84 l0 x7_2).f1.f0) ((rd_T84 l0 x7_2).f1.f1) ((rd_T86 l1 x7_2).f0) ((rd_T86 l1 x7_2).f1) ((rd_T86 l1 x7_2).f2))) = some r := by rw [← hbq20] at H; exact H
                    have Nbq20 := Aside0.mk hbq20
                    clear hbq20
                    (try rw [← Nbq20.out])
                    by_cases c21 : bq20 = true
                    · subst c21
                      (try simp only [Nbq20.out.symm] at BK103)
                      (try simp only [Nbq20.out.symm] at BK104)
                      have H1 : ((spec_IvalOk.f ((rd_T84 l0 x7_2).f1.f0) ((rd_T84 l0 x7_2).f1.f1)).bind fun t105 => (spec_ReadsOk.j2 k2 l0 l1 x5_2 x6_2 x7_2 (!t105) true ((rd_T84 l0 x7_2).f1.f0) ((rd_T84 l0 x7_2).f1.f1) ((rd_T86 l1 x7_2).f0) ((rd_T86 l1 x7_2).f1) ((rd_T86 l1 x7_2).f2))) = some r := by rw [if_pos rfl] at H; exact H
                      clear H
                      have H := H1
                      clear H1
                      replace H := Option.bind_eq_some_iff.mp H
                      obtain ⟨t105, A220, H⟩ := H
                      replace H : (spec_ReadsOk.j2 k2 l0 l1 x5_2 x6_2 x7_2 (!t105) true ((rd_T84 l0 x7_2).f1.f0) ((rd_T84 l0 x7_2).f1.f1) ((rd_T86 l1 x7_2).f0) ((rd_T86 l1 x7_2).f1) ((rd_T86 l1 x7_2).f2)) = some r := H
                      have A22 := Aside0.mk A220
                      clear A220
                      have H' := Aside0.mk H
                      clear H
                      have hnb23 := NB103_104.out
                      have hnc23 := NB104_103.out
                      have hcz24_0 : w13.cell? ⟨gb103, 0, none⟩ = some (.bool false) := by first | exact (blk_cell BK103.out 0).trans rfl | (have h_ := (blk_cell BK103.out 0); simp only [Nbq20.out.symm] at h_; exact h_.trans rfl)
                      have hcz24_1 : w13.cell? ⟨gb103, 1, none⟩ = some (.int .i64 0) := (blk_cell BK103.out 1).trans rfl
                      have hcz24_2 : w13.cell? ⟨gb103, 2, none⟩ = some (.int .i64 0) := (blk_cell BK103.out 2).trans rfl
                      have hfz24_0 := blk_frozen BK103.out 0
                      have hfz24_1 := blk_frozen BK103.out 1
                      have hfz24_2 := blk_frozen BK103.out 2
                      go_wp2_with (first | (go_at_call 54; (with_reducible refine (spec_IvalOk.calls ((rd_T84 l0 x7_2).f1.f0) ((rd_T84 l0 x7_2).f1.f1) t105 _ A22.out).mono ?_); rintro e w25 ⟨rfl, hb⟩; have n0_ := Aside0.mk (blk_below (g := gb103) (o := .cells #[.bool true, .int .i64 ((rd_T84 l0 x7_2).f1.f0), .int .i64 ((rd_T84 l0 x7_2).f1.f1)] 84 (0, 0)) (by (with_reducible repeat (first | refine blk_drewN ?_ _ | refine blk_drew ?_ | refine blk_alloc ?_ _)); refine blk_far ?_ NB103_104.out _; (with_reducible repeat (first | refine blk_drewN ?_ _ | refine blk_drew ?_ | refine blk_alloc ?_ _)); refine blk_far ?_ NB103_104.out _; (with_reducible repeat (first | refine blk_drewN ?_ _ | refine blk_drew ?_ | refine blk_alloc ?_ _)); refine blk_far ?_ NB103_104.out _; (with_reducible repeat (first | refine blk_drewN ?_ _ | refine blk_drew ?_ | refine blk_alloc ?_ _)); refine blk_put (cs := #[.bool (true), .int .i64 ((rd_T84 l0 x7_2).f1.f0), .int .i64 0]) ?_ 2 _ rfl; (with_reducible repeat (first | refine blk_drewN ?_ _ | refine blk_drew ?_ | refine blk_alloc ?_ _)); refine blk_put (cs := #[.bool (true), .int .i64 0, .int .i64 0]) ?_ 1 _ rfl; (with_reducible repeat (first | refine blk_drewN ?_ _ | refine blk_drew ?_ | refine blk_alloc ?_ _)); refine blk_put (cs := #[.bool false, .int .i64 0, .int .i64 0]) ?_ 0 _ rfl; (with_reducible repeat (first | refine blk_drewN ?_ _ | refine blk_drew ?_ | refine blk_alloc ?_ _)); exact BK103.out) hb); have n1_ := Aside0.mk (blk_below (g := gb104) (o := .cells #[.int .i64 ((rd_T86 l1 x7_2).f0), .bool ((rd_T86 l1 x7_2).f1), .int .i64 ((rd_T86 l1 x7_2).f2)] 86 (0, 0)) (by (with_reducible repeat (first | refine blk_drewN ?_ _ | refine blk_drew ?_ | refine blk_alloc ?_ _)); refine blk_put (cs := #[.int .i64 ((rd_T86 l1 x7_2).f0), .bool ((rd_T86 l1 x7_2).f1), .int .i64 0]) ?_ 2 _ rfl; (with_reducible repeat (first | refine blk_drewN ?_ _ | refine blk_drew ?_ | refine blk_alloc ?_ _)); refine blk_put (cs := #[.int .i64 ((rd_T86 l1 x7_2).f0), .bool false, .int .i64 0]) ?_ 1 _ rfl; (with_reducible repeat (first | refine blk_drewN ?_ _ | refine blk_drew ?_ | refine blk_alloc ?_ _)); refine blk_put (cs := #[.int .i64 0, .bool false, .int .i64 0]) ?_ 0 _ rfl; (with_reducible repeat (first | refine blk_drewN ?_ _ | refine blk_drew ?_ | refine blk_alloc ?_ _)); refine blk_far ?_ NB104_103.out _; (with_reducible repeat (first | refine blk_drewN ?_ _ | refine blk_drew ?_ | refine blk_alloc ?_ _)); refine blk_far ?_ NB104_103.out _; (with_reducible repeat (first | refine blk_drewN ?_ _ | refine blk_drew ?_ | refine blk_alloc ?_ _)); refine blk_far ?_ NB104_103.out _; (with_reducible repeat (first | refine blk_drewN ?_ _ | refine blk_drew ?_ | refine blk_alloc ?_ _)); exact BK104.out) hb); have n2_ := Aside0.mk (below_step (by repeat (first | (with_reducible first | exact HB.out | apply below_alloc | apply pw_below_drewN | apply below_drew1 | refine below_set ?_ GE103.out | refine below_set ?_ GE104.out) | exact HB.out)) hb); clear BK103; clear BK104; clear HB; have BK103 := n0_; have BK104 := n1_; have HB := n2_; clear n0_ n1_ n2_; (try clear hb); (try clear hb2); (try clear hk); (try clear hi)))
                      go_meet
                      case rel => first | exact ⟨_, (!t105), (by first | rfl | (simp; done) | (simp [*]; done)), H', ⟨by have := HJ2.out; have := HK2.out; first | omega | exact Nat.le_refl _⟩, ⟨by (with_reducible repeat (first | refine blk_drewN ?_ _ | refine blk_drew ?_ | refine blk_alloc ?_ _)); exact BK103.out⟩, ⟨by (with_reducible repeat (first | refine blk_drewN ?_ _ | refine blk_drew ?_ | refine blk_alloc ?_ _)); exact BK104.out⟩, ⟨by repeat (first | (with_reducible first | exact HB.out | apply below_alloc | apply pw_below_drewN | apply below_drew1 | refine below_set ?_ GE103.out | refine below_set ?_ GE104.out) | exact HB.out)⟩⟩ | (simp only [Nbq20.out.symm]; exact ⟨_, (!t105), (by first | rfl | (simp; done) | (simp [*]; done)), H', ⟨by have := HJ2.out; have := HK2.out; first | omega | exact Nat.le_refl _⟩, ⟨by (with_reducible repeat (first | refine blk_drewN ?_ _ | refine blk_drew ?_ | refine blk_alloc ?_ _)); exact BK103.out⟩, ⟨by (with_reducible repeat (first | refine blk_drewN ?_ _ | refine blk_drew ?_ | refine blk_alloc ?_ _)); exact BK104.out⟩, ⟨by repeat (first | (with_reducible first | exact HB.out | apply below_alloc | apply pw_below_drewN | apply below_drew1 | refine below_set ?_ GE103.out | refine below_set ?_ GE104.out) | exact HB.out)⟩⟩)
                    · replace c21 := Bool.eq_false_iff.mpr c21
                      subst c21
                      (try simp only [Nbq20.out.symm] at BK103)
                      (try simp only [Nbq20.out.symm] at BK104)
                      have H1 : (spec_ReadsOk.j2 k2 l0 l1 x5_2 x6_2 x7_2 false false ((rd_T84 l0 x7_2).f1.f0) ((rd_T84 l0 x7_2).f1.f1) ((rd_T86 l1 x7_2).f0) ((rd_T86 l1 x7_2).f1) ((rd_T86 l1 x7_2).f2)) = some r := by rw [if_neg (show ¬ (false = true) by decide)] at H; exact H
                      clear H
                      have H := H1
                      clear H1
                      have H' := Aside0.mk H
                      clear H
                      have hnb26 := NB103_104.out
                      have hnc26 := NB104_103.out
                      have hcz27_0 : w13.cell? ⟨gb103, 0, none⟩ = some (.bool false) := by first | exact (blk_cell BK103.out 0).trans rfl | (have h_ := (blk_cell BK103.out 0); simp only [Nbq20.out.symm] at h_; exact h_.trans rfl)
                      have hcz27_1 : w13.cell? ⟨gb103, 1, none⟩ = some (.int .i64 0) := (blk_cell BK103.out 1).trans rfl
                      have hcz27_2 : w13.cell? ⟨gb103, 2, none⟩ = some (.int .i64 0) := (blk_cell BK103.out 2).trans rfl
                      have hfz27_0 := blk_frozen BK103.out 0
                      have hfz27_1 := blk_frozen BK103.out 1
                      have hfz27_2 := blk_frozen BK103.out 2
                      go_wp2
                      go_meet
                      case rel => first | exact ⟨_, (false), (by first | rfl | (simp; done) | (simp [*]; done)), H', ⟨by have := HJ2.out; have := HK2.out; first | omega | exact Nat.le_refl _⟩, ⟨by (with_reducible repeat (first | refine blk_drewN ?_ _ | refine blk_drew ?_ | refine blk_alloc ?_ _)); refine blk_far ?_ NB103_104.out _; (with_reducible repeat (first | refine blk_drewN ?_ _ | refine blk_drew ?_ | refine blk_alloc ?_ _)); refine blk_far ?_ NB103_104.out _; (with_reducible repeat (first | refine blk_drewN ?_ _ | refine blk_drew ?_ | refine blk_alloc ?_ _)); refine blk_far ?_ NB103_104.out _; (with_reducible repeat (first | refine blk_drewN ?_ _ | refine blk_drew ?_ | refine blk_alloc ?_ _)); refine blk_put (cs := #[.bool (false), .int .i64 ((rd_T84 l0 x7_2).f1.f0), .int .i64 0]) ?_ 2 _ rfl; (with_reducible repeat (first | refine blk_drewN ?_ _ | refine blk_drew ?_ | refine blk_alloc ?_ _)); refine blk_put (cs := #[.bool (false), .int .i64 0, .int .i64 0]) ?_ 1 _ rfl; (with_reducible repeat (first | refine blk_drewN ?_ _ | refine blk_drew ?_ | refine blk_alloc ?_ _)); refine blk_put (cs := #[.bool false, .int .i64 0, .int .i64 0]) ?_ 0 _ rfl; (with_reducible repeat (first | refine blk_drewN ?_ _ | refine blk_drew ?_ | refine blk_alloc ?_ _)); exact BK103.out⟩, ⟨by (with_reducible repeat (first | refine blk_drewN ?_ _ | refine blk_drew ?_ | refine blk_alloc ?_ _)); refine blk_put (cs := #[.int .i64 ((rd_T86 l1 x7_2).f0), .bool ((rd_T86 l1 x7_2).f1), .int .i64 0]) ?_ 2 _ rfl; (with_reducible repeat (first | refine blk_drewN ?_ _ | refine blk_drew ?_ | refine blk_alloc ?_ _)); refine blk_put (cs := #[.int .i64 ((rd_T86 l1 x7_2).f0), .bool false, .int .i64 0]) ?_ 1 _ rfl; (with_reducible repeat (first | refine blk_drewN ?_ _ | refine blk_drew ?_ | refine blk_alloc ?_ _)); refine blk_put (cs := #[.int .i64 0, .bool false, .int .i64 0]) ?_ 0 _ rfl; (with_reducible repeat (first | refine blk_drewN ?_ _ | refine blk_drew ?_ | refine blk_alloc ?_ _)); refine blk_far ?_ NB104_103.out _; (with_reducible repeat (first | refine blk_drewN ?_ _ | refine blk_drew ?_ | refine blk_alloc ?_ _)); refine blk_far ?_ NB104_103.out _; (with_reducible repeat (first | refine blk_drewN ?_ _ | refine blk_drew ?_ | refine blk_alloc ?_ _)); refine blk_far ?_ NB104_103.out _; (with_reducible repeat (first | refine blk_drewN ?_ _ | refine blk_drew ?_ | refine blk_alloc ?_ _)); exact BK104.out⟩, ⟨by repeat (first | (with_reducible first | exact HB.out | apply below_alloc | apply pw_below_drewN | apply below_drew1 | refine below_set ?_ GE103.out | refine below_set ?_ GE104.out) | exact HB.out)⟩⟩ | (simp only [Nbq20.out.symm]; exact ⟨_, (false), (by first | rfl | (simp; done) | (simp [*]; done)), H', ⟨by have := HJ2.out; have := HK2.out; first | omega | exact Nat.le_refl _⟩, ⟨by (with_reducible repeat (first | refine blk_drewN ?_ _ | refine blk_drew ?_ | refine blk_alloc ?_ _)); refine blk_far ?_ NB103_104.out _; (with_reducible repeat (first | refine blk_drewN ?_ _ | refine blk_drew ?_ | refine blk_alloc ?_ _)); refine blk_far ?_ NB103_104.out _; (with_reducible repeat (first | refine blk_drewN ?_ _ | refine blk_drew ?_ | refine blk_alloc ?_ _)); refine blk_far ?_ NB103_104.out _; (with_reducible repeat (first | refine blk_drewN ?_ _ | refine blk_drew ?_ | refine blk_alloc ?_ _)); refine blk_put (cs := #[.bool (false), .int .i64 ((rd_T84 l0 x7_2).f1.f0), .int .i64 0]) ?_ 2 _ rfl; (with_reducible repeat (first | refine blk_drewN ?_ _ | refine blk_drew ?_ | refine blk_alloc ?_ _)); refine blk_put (cs := #[.bool (false), .int .i64 0, .int .i64 0]) ?_ 1 _ rfl; (with_reducible repeat (first | refine blk_drewN ?_ _ | refine blk_drew ?_ | refine blk_alloc ?_ _)); refine blk_put (cs := #[.bool false, .int .i64 0, .int .i64 0]) ?_ 0 _ rfl; (with_reducible repeat (first | refine blk_drewN ?_ _ | refine blk_drew ?_ | refine blk_alloc ?_ _)); exact BK103.out⟩, ⟨by (with_reducible repeat (first | refine blk_drewN ?_ _ | refine blk_drew ?_ | refine blk_alloc ?_ _)); refine blk_put (cs := #[.int .i64 ((rd_T86 l1 x7_2).f0), .bool ((rd_T86 l1 x7_2).f1), .int .i64 0]) ?_ 2 _ rfl; (with_reducible repeat (first | refine blk_drewN ?_ _ | refine blk_drew ?_ | refine blk_alloc ?_ _)); refine blk_put (cs := #[.int .i64 ((rd_T86 l1 x7_2).f0), .bool false, .int .i64 0]) ?_ 1 _ rfl; (with_reducible repeat (first | refine blk_drewN ?_ _ | refine blk_drew ?_ | refine blk_alloc ?_ _)); refine blk_put (cs := #[.int .i64 0, .bool false, .int .i64 0]) ?_ 0 _ rfl; (with_reducible repeat (first | refine blk_drewN ?_ _ | refine blk_drew ?_ | refine blk_alloc ?_ _)); refine blk_far ?_ NB104_103.out _; (with_reducible repeat (first | refine blk_drewN ?_ _ | refine blk_drew ?_ | refine blk_alloc ?_ _)); refine blk_far ?_ NB104_103.out _; (with_reducible repeat (first | refine blk_drewN ?_ _ | refine blk_drew ?_ | refine blk_alloc ?_ _)); refine blk_far ?_ NB104_103.out _; (with_reducible repeat (first | refine blk_drewN ?_ _ | refine blk_drew ?_ | refine blk_alloc ?_ _)); exact BK104.out⟩, ⟨by repeat (first | (with_reducible first | exact HB.out | apply below_alloc | apply pw_below_drewN | apply below_drew1 | refine below_set ?_ GE103.out | refine below_set ?_ GE104.out) | exact HB.out)⟩⟩)
                  case rest =>
                    clear HC9
                    try clear c1
                    try clear p1
                    try clear q1
                    try clear hx1
                    try clear c2
                    try clear p2
                    try clear q2
                    try clear c4
                    try clear c4b0
                    try clear c4b1
                    try clear c4b2
                    try clear c5
                    try clear c6
                    try clear c6b0
                    try clear c7
                    try clear c7b0
                    try clear c8
                    try clear c8b0
                    try clear p10
                    try clear q10
                    try clear hx10
                    try clear q20
                    try clear c21
                    try clear c23
                    try clear c26
                    try clear hcz24_0
                    try clear hcz24_1
                    try clear hcz24_2
                    try clear hcz27_0
                    try clear hcz27_1
                    try clear hcz27_2
                    try clear hfz24_0
                    try clear hfz24_1
                    try clear hfz24_2
                    try clear hfz27_0
                    try clear hfz27_1
                    try clear hfz27_2
                    try clear hx101_0
                    try clear hx101_1
                    try clear hx101_2
                    try clear hx102_0
                    try clear hx102_1
                    try clear hx102_2
                    try clear p101
                    try clear p102
                    try clear p2
                    try clear q101
                    try clear q102
                    obtain ⟨kq, x42_8, rfl, HA, HJ8, BK103, BK104, HB⟩ := hcut
                    cases kq with
                    | zero => exact absurd HA.out (by simp [spec_ReadsOk.j2])
                    | succ kj8 =>
                      have H := HA.out
                      clear HA
                      simp only [spec_ReadsOk.j2] at H
                      by_cases c28 : x42_8 = true
                      · subst c28
                        have H1 : (some false) = some r := by rw [if_pos rfl] at H; exact H
                        clear H
                        have H := H1
                        clear H1
                        obtain rfl := Option.some.inj H
                        go_wp2
                        go_ret
                        exact ⟨by first | rfl | (simp [errW_none, errW_some] <;> rfl) | (simp [*, errW_none, errW_some] <;> rfl), by repeat (first | (with_reducible first | exact HB.out | apply below_alloc | apply pw_below_drewN | apply below_drew1 | refine below_set ?_ GE103.out | refine below_set ?_ GE104.out) | exact HB.out)⟩
                      · replace c28 := Bool.eq_false_iff.mpr c28
                        subst c28
                        have H1 : (if ((rd_T86 l1 x7_2).f2) = 2 then (if ((rd_T84 l0 x7_2).f0) = true then (some false) else (if x5_2 = true then (some false) else (if ((rd_T86 l1 x7_2).f0) = 0 then (if ((rd_T86 l1 x7_2).f1) = true then (some false) else (spec_ReadsOk.l0 kj8 l0 l1 x5_2 x6_2 (wrap64 (x7_2 + 1)))) else (some false)))) else (if ((rd_T86 l1 x7_2).f2) = 0 then (if ((rd_T86 l1 x7_2).f1) = true then (if x5_2 = true then (spec_ReadsOk.j3 kj8 l0 l1 x5_2 x6_2 x7_2 (((rd_T86 l1 x7_2).f0) == x6_2) ((rd_T84 l0 x7_2).f0) ((rd_T84 l0 x7_2).f1.f0) ((rd_T84 l0 x7_2).f1.f1) ((rd_T86 l1 x7_2).f0) ((rd_T86 l1 x7_2).f1) ((rd_T86 l1 x7_2).f2)) else (spec_ReadsOk.j3 kj8 l0 l1 x5_2 x6_2 x7_2 false ((rd_T84 l0 x7_2).f0) ((rd_T84 l0 x7_2).f1.f0) ((rd_T84 l0 x7_2).f1.f1) ((rd_T86 l1 x7_2).f0) ((rd_T86 l1 x7_2).f1) ((rd_T86 l1 x7_2).f2))) else (spec_ReadsOk.j3 kj8 l0 l1 x5_2 x6_2 x7_2 false ((rd_T84 l0 x7_2).f0) ((rd_T84 l0 x7_2).f1.f0) ((rd_T84 l0 x7_2).f1.f1) ((rd_T86 l1 x7_2).f0) ((rd_T86 l1 x7_2).f1) ((rd_T86 l1 x7_2).f2))) else (some false))) = some r := by rw [if_neg (show ¬ (false = true) by decide)] at H; exact H
                        clear H
                        have H := H1
                        clear H1
                        by_cases c29 : ((rd_T86 l1 x7_2).f2) = 2
                        · rw [if_pos c29] at H
                          have c29b0 : (((rd_T86 l1 x7_2).f2) == 2) = true := beq_iff_eq.mpr c29
                          have c29b1 : (((rd_T86 l1 x7_2).f2) != 2) = false := bne_eq_false_iff_eq.mpr c29
                          clear c29
                          by_cases c30 : ((rd_T84 l0 x7_2).f0) = true
                          · rw [if_pos c30] at H
                            have c30b0 : ((rd_T84 l0 x7_2).f0) = true := c30
                            clear c30
                            obtain rfl := Option.some.inj H
                            have hnb31 := NB104_103.out
                            have hnc31 := NB103_104.out
                            have hcz32_0 : wc.cell? ⟨gb104, 0, none⟩ = some (.int .i64 ((rd_T86 l1 x7_2).f0)) := (blk_cell BK104.out 0).trans rfl
                            have hcz32_1 : wc.cell? ⟨gb104, 1, none⟩ = some (.bool ((rd_T86 l1 x7_2).f1)) := (blk_cell BK104.out 1).trans rfl
                            have hcz32_2 : wc.cell? ⟨gb104, 2, none⟩ = some (.int .i64 ((rd_T86 l1 x7_2).f2)) := (blk_cell BK104.out 2).trans rfl
                            have hfz32_0 := blk_frozen BK104.out 0
                            have hfz32_1 := blk_frozen BK104.out 1
                            have hfz32_2 := blk_frozen BK104.out 2
                            have hcz33_0 : wc.cell? ⟨gb103, 0, none⟩ = some (.bool ((rd_T84 l0 x7_2).f0)) := (blk_cell BK103.out 0).trans rfl
                            have hcz33_1 : wc.cell? ⟨gb103, 1, none⟩ = some (.int .i64 ((rd_T84 l0 x7_2).f1.f0)) := (blk_cell BK103.out 1).trans rfl
                            have hcz33_2 : wc.cell? ⟨gb103, 2, none⟩ = some (.int .i64 ((rd_T84 l0 x7_2).f1.f1)) := (blk_cell BK103.out 2).trans rfl
                            have hfz33_0 := blk_frozen BK103.out 0
                            have hfz33_1 := blk_frozen BK103.out 1
                            have hfz33_2 := blk_frozen BK103.out 2
                            go_wp2
                            go_ret
                            exact ⟨by first | rfl | (simp [errW_none, errW_some] <;> rfl) | (simp [*, errW_none, errW_some] <;> rfl), by repeat (first | (with_reducible first | exact HB.out | apply below_alloc | apply pw_below_drewN | apply below_drew1 | refine below_set ?_ GE103.out | refine below_set ?_ GE104.out) | exact HB.out)⟩
                          · rw [if_neg c30] at H
                            have c30b0 : ((rd_T84 l0 x7_2).f0) = false := by simpa using c30
                            clear c30
                            by_cases c34 : x5_2 = true
                            · subst c34
                              have H1 : (some false) = some r := by rw [if_pos rfl] at H; exact H
                              clear H
                              have H := H1
                              clear H1
                              obtain rfl := Option.some.inj H
                              have hnb35 := NB104_103.out
                              have hnc35 := NB103_104.out
                              have hcz36_0 : wc.cell? ⟨gb104, 0, none⟩ = some (.int .i64 ((rd_T86 l1 x7_2).f0)) := (blk_cell BK104.out 0).trans rfl
                              have hcz36_1 : wc.cell? ⟨gb104, 1, none⟩ = some (.bool ((rd_T86 l1 x7_2).f1)) := (blk_cell BK104.out 1).trans rfl
                              have hcz36_2 : wc.cell? ⟨gb104, 2, none⟩ = some (.int .i64 ((rd_T86 l1 x7_2).f2)) := (blk_cell BK104.out 2).trans rfl
                              have hfz36_0 := blk_frozen BK104.out 0
                              have hfz36_1 := blk_frozen BK104.out 1
                              have hfz36_2 := blk_frozen BK104.out 2
                              have hcz37_0 : wc.cell? ⟨gb103, 0, none⟩ = some (.bool ((rd_T84 l0 x7_2).f0)) := (blk_cell BK103.out 0).trans rfl
                              have hcz37_1 : wc.cell? ⟨gb103, 1, none⟩ = some (.int .i64 ((rd_T84 l0 x7_2).f1.f0)) := (blk_cell BK103.out 1).trans rfl
                              have hcz37_2 : wc.cell? ⟨gb103, 2, none⟩ = some (.int .i64 ((rd_T84 l0 x7_2).f1.f1)) := (blk_cell BK103.out 2).trans rfl
                              have hfz37_0 := blk_frozen BK103.out 0
                              have hfz37_1 := blk_frozen BK103.out 1
                              have hfz37_2 := blk_frozen BK103.out 2
                              go_wp2
                              go_ret
                              exact ⟨by first | rfl | (simp [errW_none, errW_some] <;> rfl) | (simp [*, errW_none, errW_some] <;> rfl), by repeat (first | (with_reducible first | exact HB.out | apply below_alloc | apply pw_below_drewN | apply below_drew1 | refine below_set ?_ GE103.out | refine below_set ?_ GE104.out) | exact HB.out)⟩
                            · replace c34 := Bool.eq_false_iff.mpr c34
                              subst c34
                              have H1 : (if ((rd_T86 l1 x7_2).f0) = 0 then (if ((rd_T86 l1 x7_2).f1) = true then (some false) else (spec_ReadsOk.l0 kj8 l0 l1 false x6_2 (wrap64 (x7_2 + 1)))) else (some false)) = some r := by rw [if_neg (show ¬ (false = true) by decide)] at H; exact H
                              clear H
                              have H := H1
                              clear H1
                              by_cases c38 : ((rd_T86 l1 x7_2).f0) = 0
                              · rw [if_pos c38] at H
                                have c38b0 : (((rd_T86 l1 x7_2).f0) == 0) = true := beq_iff_eq.mpr c38
                                have c38b1 : (((rd_T86 l1 x7_2).f0) != 0) = false := bne_eq_false_iff_eq.mpr c38
                                clear c38
                                by_cases c39 : ((rd_T86 l1 x7_2).f1) = true
                                · rw [if_pos c39] at H
                                  have c39b0 : ((rd_T86 l1 x7_2).f1) = true := c39
                                  clear c39
                                  obtain rfl := Option.some.inj H
                                  have hnb40 := NB104_103.out
                                  have hnc40 := NB103_104.out
                                  have hcz41_0 : wc.cell? ⟨gb104, 0, none⟩ = some (.int .i64 ((rd_T86 l1 x7_2).f0)) := (blk_cell BK104.out 0).trans rfl
                                  have hcz41_1 : wc.cell? ⟨gb104, 1, none⟩ = some (.bool ((rd_T86 l1 x7_2).f1)) := (blk_cell BK104.out 1).trans rfl
                                  have hcz41_2 : wc.cell? ⟨gb104, 2, none⟩ = some (.int .i64 ((rd_T86 l1 x7_2).f2)) := (blk_cell BK104.out 2).trans rfl
                                  have hfz41_0 := blk_frozen BK104.out 0
                                  have hfz41_1 := blk_frozen BK104.out 1
                                  have hfz41_2 := blk_frozen BK104.out 2
                                  have hcz42_0 : wc.cell? ⟨gb103, 0, none⟩ = some (.bool ((rd_T84 l0 x7_2).f0)) := (blk_cell BK103.out 0).trans rfl
                                  have hcz42_1 : wc.cell? ⟨gb103, 1, none⟩ = some (.int .i64 ((rd_T84 l0 x7_2).f1.f0)) := (blk_cell BK103.out 1).trans rfl
                                  have hcz42_2 : wc.cell? ⟨gb103, 2, none⟩ = some (.int .i64 ((rd_T84 l0 x7_2).f1.f1)) := (blk_cell BK103.out 2).trans rfl
                                  have hfz42_0 := blk_frozen BK103.out 0
                                  have hfz42_1 := blk_frozen BK103.out 1
                                  have hfz42_2 := blk_frozen BK103.out 2
                                  go_wp2
                                  go_ret
                                  exact ⟨by first | rfl | (simp [errW_none, errW_some] <;> rfl) | (simp [*, errW_none, errW_some] <;> rfl), by repeat (first | (with_reducible first | exact HB.out | apply below_alloc | apply pw_below_drewN | apply below_drew1 | refine below_set ?_ GE103.out | refine below_set ?_ GE104.out) | exact HB.out)⟩
                                · rw [if_neg c39] at H
                                  have c39b0 : ((rd_T86 l1 x7_2).f1) = false := by simpa using c39
                                  clear c39
                                  have H' := Aside0.mk H
                                  clear H
                                  have hnb43 := NB104_103.out
                                  have hnc43 := NB103_104.out
                                  have hcz44_0 : wc.cell? ⟨gb104, 0, none⟩ = some (.int .i64 ((rd_T86 l1 x7_2).f0)) := (blk_cell BK104.out 0).trans rfl
                                  have hcz44_1 : wc.cell? ⟨gb104, 1, none⟩ = some (.bool ((rd_T86 l1 x7_2).f1)) := (blk_cell BK104.out 1).trans rfl
                                  have hcz44_2 : wc.cell? ⟨gb104, 2, none⟩ = some (.int .i64 ((rd_T86 l1 x7_2).f2)) := (blk_cell BK104.out 2).trans rfl
                                  have hfz44_0 := blk_frozen BK104.out 0
                                  have hfz44_1 := blk_frozen BK104.out 1
                                  have hfz44_2 := blk_frozen BK104.out 2
                                  have hcz45_0 : wc.cell? ⟨gb103, 0, none⟩ = some (.bool ((rd_T84 l0 x7_2).f0)) := (blk_cell BK103.out 0).trans rfl
                                  have hcz45_1 : wc.cell? ⟨gb103, 1, none⟩ = some (.int .i64 ((rd_T84 l0 x7_2).f1.f0)) := (blk_cell BK103.out 1).trans rfl
                                  have hcz45_2 : wc.cell? ⟨gb103, 2, none⟩ = some (.int .i64 ((rd_T84 l0 x7_2).f1.f1)) := (blk_cell BK103.out 2).trans rfl
                                  have hfz45_0 := blk_frozen BK103.out 0
                                  have hfz45_1 := blk_frozen BK103.out 1
                                  have hfz45_2 := blk_frozen BK103.out 2
                                  go_wp2
                                  go_roundg kj8
                                  case measure => have := HJ2.out; have := HK2.out; have := HJ8.out; omega
                                  case rel => exact ⟨(false), (x6_2), (wrap64 (x7_2 + 1)), (by first | rfl | (simp; done) | (simp [*]; done)), (by first | rfl | (simp; done) | (simp [*]; done)), (by first | rfl | (simp; done) | (simp [*]; done)), H', ⟨by have := HJ2.out; have := HK2.out; have := HJ8.out; omega⟩, ⟨by repeat (first | (with_reducible first | exact HB.out | apply below_alloc | apply pw_below_drewN | apply below_drew1 | refine below_set ?_ GE103.out | refine below_set ?_ GE104.out) | exact HB.out)⟩⟩
                              · rw [if_neg c38] at H
                                have c38b0 : (((rd_T86 l1 x7_2).f0) == 0) = false := beq_eq_false_iff_ne.mpr c38
                                have c38b1 : (((rd_T86 l1 x7_2).f0) != 0) = true := bne_iff_ne.mpr c38
                                obtain rfl := Option.some.inj H
                                have hnb46 := NB104_103.out
                                have hnc46 := NB103_104.out
                                have hcz47_0 : wc.cell? ⟨gb104, 0, none⟩ = some (.int .i64 ((rd_T86 l1 x7_2).f0)) := (blk_cell BK104.out 0).trans rfl
                                have hcz47_1 : wc.cell? ⟨gb104, 1, none⟩ = some (.bool ((rd_T86 l1 x7_2).f1)) := (blk_cell BK104.out 1).trans rfl
                                have hcz47_2 : wc.cell? ⟨gb104, 2, none⟩ = some (.int .i64 ((rd_T86 l1 x7_2).f2)) := (blk_cell BK104.out 2).trans rfl
                                have hfz47_0 := blk_frozen BK104.out 0
                                have hfz47_1 := blk_frozen BK104.out 1
                                have hfz47_2 := blk_frozen BK104.out 2
                                have hcz48_0 : wc.cell? ⟨gb103, 0, none⟩ = some (.bool ((rd_T84 l0 x7_2).f0)) := (blk_cell BK103.out 0).trans rfl
                                have hcz48_1 : wc.cell? ⟨gb103, 1, none⟩ = some (.int .i64 ((rd_T84 l0 x7_2).f1.f0)) := (blk_cell BK103.out 1).trans rfl
                                have hcz48_2 : wc.cell? ⟨gb103, 2, none⟩ = some (.int .i64 ((rd_T84 l0 x7_2).f1.f1)) := (blk_cell BK103.out 2).trans rfl
                                have hfz48_0 := blk_frozen BK103.out 0
                                have hfz48_1 := blk_frozen BK103.out 1
                                have hfz48_2 := blk_frozen BK103.out 2
                                go_wp2
                                go_ret
                                exact ⟨by first | rfl | (simp [errW_none, errW_some] <;> rfl) | (simp [*, errW_none, errW_some] <;> rfl), by repeat (first | (with_reducible first | exact HB.out | apply below_alloc | apply pw_below_drewN | apply below_drew1 | refine below_set ?_ GE103.out | refine below_set ?_ GE104.out) | exact HB.out)⟩
                        · rw [if_neg c29] at H
                          have c29b0 : (((rd_T86 l1 x7_2).f2) == 2) = false := beq_eq_false_iff_ne.mpr c29
                          have c29b1 : (((rd_T86 l1 x7_2).f2) != 2) = true := bne_iff_ne.mpr c29
                          by_cases c49 : ((rd_T86 l1 x7_2).f2) = 0
                          · rw [if_pos c49] at H
                            have c49b0 : (((rd_T86 l1 x7_2).f2) == 0) = true := beq_iff_eq.mpr c49
                            have c49b1 : (((rd_T86 l1 x7_2).f2) != 0) = false := bne_eq_false_iff_eq.mpr c49
                            clear c49
                            have HC50 := Aside0.mk H
                            clear H
                            have hnb51 := NB104_103.out
                            have hnc51 := NB103_104.out
                            have hcz52_0 : wc.cell? ⟨gb104, 0, none⟩ = some (.int .i64 ((rd_T86 l1 x7_2).f0)) := (blk_cell BK104.out 0).trans rfl
                            have hcz52_1 : wc.cell? ⟨gb104, 1, none⟩ = some (.bool ((rd_T86 l1 x7_2).f1)) := (blk_cell BK104.out 1).trans rfl
                            have hcz52_2 : wc.cell? ⟨gb104, 2, none⟩ = some (.int .i64 ((rd_T86 l1 x7_2).f2)) := (blk_cell BK104.out 2).trans rfl
                            have hfz52_0 := blk_frozen BK104.out 0
                            have hfz52_1 := blk_frozen BK104.out 1
                            have hfz52_2 := blk_frozen BK104.out 2
                            go_upto_region 16 with (fail)
                            go_cut [10] (fun v10 wc => ∃ (kq : Nat) (x10_49 : Bool), v10 = .bool x10_49 ∧ Aside0 (spec_ReadsOk.j3 kq l0 l1 x5_2 x6_2 x7_2 x10_49 ((rd_T84 l0 x7_2).f0) ((rd_T84 l0 x7_2).f1.f0) ((rd_T84 l0 x7_2).f1.f1) ((rd_T86 l1 x7_2).f0) ((rd_T86 l1 x7_2).f1) ((rd_T86 l1 x7_2).f2) = some r) ∧ Aside0 (kq ≤ kj8) ∧ Aside0 (wc.heap[gb103]? = some (.cells #[.bool ((rd_T84 l0 x7_2).f0), .int .i64 ((rd_T84 l0 x7_2).f1.f0), .int .i64 ((rd_T84 l0 x7_2).f1.f1)] 84 (0, 0))) ∧ Aside0 (wc.heap[gb104]? = some (.cells #[.int .i64 ((rd_T86 l1 x7_2).f0), .bool ((rd_T86 l1 x7_2).f1), .int .i64 ((rd_T86 l1 x7_2).f2)] 86 (0, 0))) ∧ Aside0 (Below w.heap.size w wc))
                            case first =>
                              have H := HC50.out
                              clear HC50
                              by_cases c53 : ((rd_T86 l1 x7_2).f1) = true
                              · rw [if_pos c53] at H
                                have c53b0 : ((rd_T86 l1 x7_2).f1) = true := c53
                                clear c53
                                (first | rw [c53b0] | (simp only [i64_w, i32_w]; rw [c53b0]) | skip)
                                by_cases c54 : x5_2 = true
                                · subst c54
                                  have H1 : (spec_ReadsOk.j3 kj8 l0 l1 true x6_2 x7_2 (((rd_T86 l1 x7_2).f0) == x6_2) ((rd_T84 l0 x7_2).f0) ((rd_T84 l0 x7_2).f1.f0) ((rd_T84 l0 x7_2).f1.f1) ((rd_T86 l1 x7_2).f0) ((rd_T86 l1 x7_2).f1) ((rd_T86 l1 x7_2).f2)) = some r := by rw [if_pos rfl] at H; exact H
                                  clear H
                                  have H := H1
                                  clear H1
                                  have H' := Aside0.mk H
                                  clear H
                                  have hnb55 := NB104_103.out
                                  have hnc55 := NB103_104.out
                                  have hcz56_0 : wc.cell? ⟨gb104, 0, none⟩ = some (.int .i64 ((rd_T86 l1 x7_2).f0)) := (blk_cell BK104.out 0).trans rfl
                                  have hcz56_1 : wc.cell? ⟨gb104, 1, none⟩ = some (.bool ((rd_T86 l1 x7_2).f1)) := (blk_cell BK104.out 1).trans rfl
                                  have hcz56_2 : wc.cell? ⟨gb104, 2, none⟩ = some (.int .i64 ((rd_T86 l1 x7_2).f2)) := (blk_cell BK104.out 2).trans rfl
                                  have hfz56_0 := blk_frozen BK104.out 0
                                  have hfz56_1 := blk_frozen BK104.out 1
                                  have hfz56_2 := blk_frozen BK104.out 2
                                  go_wp2
                                  go_meet
                                  case rel => exact ⟨_, ((((rd_T86 l1 x7_2).f0) == x6_2)), (by first | rfl | (simp; done) | (simp [*]; done)), H', ⟨by have := HJ2.out; have := HK2.out; have := HJ8.out; first | omega | exact Nat.le_refl _⟩, ⟨by (with_reducible repeat (first | refine blk_drewN ?_ _ | refine blk_drew ?_ | refine blk_alloc ?_ _)); exact BK103.out⟩, ⟨by (with_reducible repeat (first | refine blk_drewN ?_ _ | refine blk_drew ?_ | refine blk_alloc ?_ _)); exact BK104.out⟩, ⟨by repeat (first | (with_reducible first | exact HB.out | apply below_alloc | apply pw_below_drewN | apply below_drew1 | refine below_set ?_ GE103.out | refine below_set ?_ GE104.out) | exact HB.out)⟩⟩
                                · replace c54 := Bool.eq_false_iff.mpr c54
                                  subst c54
                                  have H1 : (spec_ReadsOk.j3 kj8 l0 l1 false x6_2 x7_2 false ((rd_T84 l0 x7_2).f0) ((rd_T84 l0 x7_2).f1.f0) ((rd_T84 l0 x7_2).f1.f1) ((rd_T86 l1 x7_2).f0) ((rd_T86 l1 x7_2).f1) ((rd_T86 l1 x7_2).f2)) = some r := by rw [if_neg (show ¬ (false = true) by decide)] at H; exact H
                                  clear H
                                  have H := H1
                                  clear H1
                                  have H' := Aside0.mk H
                                  clear H
                                  have hnb57 := NB104_103.out
                                  have hnc57 := NB103_104.out
                                  have hcz58_0 : wc.cell? ⟨gb104, 0, none⟩ = some (.int .i64 ((rd_T86 l1 x7_2).f0)) := (blk_cell BK104.out 0).trans rfl
                                  have hcz58_1 : wc.cell? ⟨gb104, 1, none⟩ = some (.bool ((rd_T86 l1 x7_2).f1)) := (blk_cell BK104.out 1).trans rfl
                                  have hcz58_2 : wc.cell? ⟨gb104, 2, none⟩ = some (.int .i64 ((rd_T86 l1 x7_2).f2)) := (blk_cell BK104.out 2).trans rfl
                                  have hfz58_0 := blk_frozen BK104.out 0
                                  have hfz58_1 := blk_frozen BK104.out 1
                                  have hfz58_2 := blk_frozen BK104.out 2
                                  go_wp2
                                  go_meet
                                  case rel => exact ⟨_, (false), (by first | rfl | (simp; done) | (simp [*]; done)), H', ⟨by have := HJ2.out; have := HK2.out; have := HJ8.out; first | omega | exact Nat.le_refl _⟩, ⟨by (with_reducible repeat (first | refine blk_drewN ?_ _ | refine blk_drew ?_ | refine blk_alloc ?_ _)); exact BK103.out⟩, ⟨by (with_reducible repeat (first | refine blk_drewN ?_ _ | refine blk_drew ?_ | refine blk_alloc ?_ _)); exact BK104.out⟩, ⟨by repeat (first | (with_reducible first | exact HB.out | apply below_alloc | apply pw_below_drewN | apply below_drew1 | refine below_set ?_ GE103.out | refine below_set ?_ GE104.out) | exact HB.out)⟩⟩
                              · rw [if_neg c53] at H
                                have c53b0 : ((rd_T86 l1 x7_2).f1) = false := by simpa using c53
                                clear c53
                                (first | rw [c53b0] | (simp only [i64_w, i32_w]; rw [c53b0]) | skip)
                                have H' := Aside0.mk H
                                clear H
                                have hnb59 := NB104_103.out
                                have hnc59 := NB103_104.out
                                have hcz60_0 : wc.cell? ⟨gb104, 0, none⟩ = some (.int .i64 ((rd_T86 l1 x7_2).f0)) := (blk_cell BK104.out 0).trans rfl
                                have hcz60_1 : wc.cell? ⟨gb104, 1, none⟩ = some (.bool ((rd_T86 l1 x7_2).f1)) := (blk_cell BK104.out 1).trans rfl
                                have hcz60_2 : wc.cell? ⟨gb104, 2, none⟩ = some (.int .i64 ((rd_T86 l1 x7_2).f2)) := (blk_cell BK104.out 2).trans rfl
                                have hfz60_0 := blk_frozen BK104.out 0
                                have hfz60_1 := blk_frozen BK104.out 1
                                have hfz60_2 := blk_frozen BK104.out 2
                                go_wp2
                                go_meet
                                case rel => exact ⟨_, (false), (by first | rfl | (simp; done) | (simp [*]; done)), H', ⟨by have := HJ2.out; have := HK2.out; have := HJ8.out; first | omega | exact Nat.le_refl _⟩, ⟨by (with_reducible repeat (first | refine blk_drewN ?_ _ | refine blk_drew ?_ | refine blk_alloc ?_ _)); exact BK103.out⟩, ⟨by (with_reducible repeat (first | refine blk_drewN ?_ _ | refine blk_drew ?_ | refine blk_alloc ?_ _)); exact BK104.out⟩, ⟨by repeat (first | (with_reducible first | exact HB.out | apply below_alloc | apply pw_below_drewN | apply below_drew1 | refine below_set ?_ GE103.out | refine below_set ?_ GE104.out) | exact HB.out)⟩⟩
                            case rest =>
                              clear HC50
                              try clear c1
                              try clear p1
                              try clear q1
                              try clear hx1
                              try clear c2
                              try clear p2
                              try clear q2
                              try clear c3
                              try clear c4
                              try clear c4b0
                              try clear c4b1
                              try clear c4b2
                              try clear c5
                              try clear c6
                              try clear c6b0
                              try clear p6
                              try clear c7
                              try clear c7b0
                              try clear c8
                              try clear c8b0
                              try clear p10
                              try clear q10
                              try clear hx10
                              try clear q20
                              try clear c21
                              try clear c23
                              try clear c26
                              try clear c28
                              try clear c29
                              try clear c29b0
                              try clear c29b1
                              try clear c30
                              try clear c30b0
                              try clear c31
                              try clear c34
                              try clear c35
                              try clear c38
                              try clear c38b0
                              try clear c38b1
                              try clear c39
                              try clear c39b0
                              try clear c40
                              try clear c43
                              try clear c46
                              try clear c49
                              try clear c49b0
                              try clear c49b1
                              try clear c51
                              try clear c53
                              try clear c53b0
                              try clear c54
                              try clear c55
                              try clear c57
                              try clear c59
                              try clear hcz24_0
                              try clear hcz24_1
                              try clear hcz24_2
                              try clear hcz27_0
                              try clear hcz27_1
                              try clear hcz27_2
                              try clear hcz32_0
                              try clear hcz32_1
                              try clear hcz32_2
                              try clear hcz33_0
                              try clear hcz33_1
                              try clear hcz33_2
                              try clear hcz36_0
                              try clear hcz36_1
                              try clear hcz36_2
                              try clear hcz37_0
                              try clear hcz37_1
                              try clear hcz37_2
                              try clear hcz41_0
                              try clear hcz41_1
                              try clear hcz41_2
                              try clear hcz42_0
                              try clear hcz42_1
                              try clear hcz42_2
                              try clear hcz44_0
                              try clear hcz44_1
                              try clear hcz44_2
                              try clear hcz45_0
                              try clear hcz45_1
                              try clear hcz45_2
                              try clear hcz47_0
                              try clear hcz47_1
                              try clear hcz47_2
                              try clear hcz48_0
                              try clear hcz48_1
                              try clear hcz48_2
                              try clear hcz52_0
                              try clear hcz52_1
                              try clear hcz52_2
                              try clear hcz56_0
                              try clear hcz56_1
                              try clear hcz56_2
                              try clear hcz58_0
                              try clear hcz58_1
                              try clear hcz58_2
                              try clear hcz60_0
                              try clear hcz60_1
                              try clear hcz60_2
                              try clear hfz24_0
                              try clear hfz24_1
                              try clear hfz24_2
                              try clear hfz27_0
                              try clear hfz27_1
                              try clear hfz27_2
                              try clear hfz32_0
                              try clear hfz32_1
                              try clear hfz32_2
                              try clear hfz33_0
                              try clear hfz33_1
                              try clear hfz33_2
                              try clear hfz36_0
                              try clear hfz36_1
                              try clear hfz36_2
                              try clear hfz37_0
                              try clear hfz37_1
                              try clear hfz37_2
                              try clear hfz41_0
                              try clear hfz41_1
                              try clear hfz41_2
                              try clear hfz42_0
                              try clear hfz42_1
                              try clear hfz42_2
                              try clear hfz44_0
                              try clear hfz44_1
                              try clear hfz44_2
                              try clear hfz45_0
                              try clear hfz45_1
                              try clear hfz45_2
                              try clear hfz47_0
                              try clear hfz47_1
                              try clear hfz47_2
                              try clear hfz48_0
                              try clear hfz48_1
                              try clear hfz48_2
                              try clear hfz52_0
                              try clear hfz52_1
                              try clear hfz52_2
                              try clear hfz56_0
                              try clear hfz56_1
                              try clear hfz56_2
                              try clear hfz58_0
                              try clear hfz58_1
                              try clear hfz58_2
                              try clear hfz60_0
                              try clear hfz60_1
                              try clear hfz60_2
                              try clear hx101_0
                              try clear hx101_1
                              try clear hx101_2
                              try clear hx102_0
                              try clear hx102_1
                              try clear hx102_2
                              try clear p1
                              try clear p10
                              try clear p101
                              try clear p102
                              try clear p2
                              try clear q1
                              try clear q10
                              try clear q101
                              try clear q102
                              try clear q2
                              try clear q20
                              obtain ⟨kq, x10_49, rfl, HA, HJ49, BK103, BK104, HB⟩ := hcut
                              cases kq with
                              | zero => exact absurd HA.out (by simp [spec_ReadsOk.j3])
                              | succ kj49 =>
                                have H := HA.out
                                clear HA
                                simp only [spec_ReadsOk.j3] at H
                                by_cases c61 : ((rd_T84 l0 x7_2).f0) = true
                                · rw [if_pos c61] at H
                                  have c61b0 : ((rd_T84 l0 x7_2).f0) = true := c61
                                  clear c61
                                  by_cases c62 : ((rd_T86 l1 x7_2).f1) = true
                                  · rw [if_pos c62] at H
                                    have c62b0 : ((rd_T86 l1 x7_2).f1) = true := c62
                                    clear c62
                                    by_cases c63 : x10_49 = true
                                    · subst c63
                                      have H1 : (if ((rd_T86 l1 x7_2).f0) ≤ ((rd_T84 l0 x7_2).f1.f1) then (some false) else (spec_ReadsOk.l0 kj49 l0 l1 true ((rd_T86 l1 x7_2).f0) (wrap64 (x7_2 + 1)))) = some r := by rw [if_pos rfl] at H; exact H
                                      clear H
                                      have H := H1
                                      clear H1
                                      by_cases c64 : ((rd_T86 l1 x7_2).f0) ≤ ((rd_T84 l0 x7_2).f1.f1)
                                      · rw [if_pos c64] at H
                                        have c64b0 : decide (((rd_T86 l1 x7_2).f0) ≤ ((rd_T84 l0 x7_2).f1.f1)) = true := decide_eq_true c64
                                        clear c64
                                        obtain rfl := Option.some.inj H
                                        have hnb65 := NB103_104.out
                                        have hnc65 := NB104_103.out
                                        have hcz66_0 : wc.cell? ⟨gb103, 0, none⟩ = some (.bool ((rd_T84 l0 x7_2).f0)) := (blk_cell BK103.out 0).trans rfl
                                        have hcz66_1 : wc.cell? ⟨gb103, 1, none⟩ = some (.int .i64 ((rd_T84 l0 x7_2).f1.f0)) := (blk_cell BK103.out 1).trans rfl
                                        have hcz66_2 : wc.cell? ⟨gb103, 2, none⟩ = some (.int .i64 ((rd_T84 l0 x7_2).f1.f1)) := (blk_cell BK103.out 2).trans rfl
                                        have hfz66_0 := blk_frozen BK103.out 0
                                        have hfz66_1 := blk_frozen BK103.out 1
                                        have hfz66_2 := blk_frozen BK103.out 2
                                        have hcz67_0 : wc.cell? ⟨gb104, 0, none⟩ = some (.int .i64 ((rd_T86 l1 x7_2).f0)) := (blk_cell BK104.out 0).trans rfl
                                        have hcz67_1 : wc.cell? ⟨gb104, 1, none⟩ = some (.bool ((rd_T86 l1 x7_2).f1)) := (blk_cell BK104.out 1).trans rfl
                                        have hcz67_2 : wc.cell? ⟨gb104, 2, none⟩ = some (.int .i64 ((rd_T86 l1 x7_2).f2)) := (blk_cell BK104.out 2).trans rfl
                                        have hfz67_0 := blk_frozen BK104.out 0
                                        have hfz67_1 := blk_frozen BK104.out 1
                                        have hfz67_2 := blk_frozen BK104.out 2
                                        go_wp2
                                        go_ret
                                        exact ⟨by first | rfl | (simp [errW_none, errW_some] <;> rfl) | (simp [*, errW_none, errW_some] <;> rfl), by repeat (first | (with_reducible first | exact HB.out | apply below_alloc | apply pw_below_drewN | apply below_drew1 | refine below_set ?_ GE103.out | refine below_set ?_ GE104.out) | exact HB.out)⟩
                                      · rw [if_neg c64] at H
                                        have c64b0 : decide (((rd_T86 l1 x7_2).f0) ≤ ((rd_T84 l0 x7_2).f1.f1)) = false := decide_eq_false c64
                                        clear c64
                                        have H' := Aside0.mk H
                                        clear H
                                        have hnb68 := NB103_104.out
                                        have hnc68 := NB104_103.out
                                        have hcz69_0 : wc.cell? ⟨gb103, 0, none⟩ = some (.bool ((rd_T84 l0 x7_2).f0)) := (blk_cell BK103.out 0).trans rfl
                                        have hcz69_1 : wc.cell? ⟨gb103, 1, none⟩ = some (.int .i64 ((rd_T84 l0 x7_2).f1.f0)) := (blk_cell BK103.out 1).trans rfl
                                        have hcz69_2 : wc.cell? ⟨gb103, 2, none⟩ = some (.int .i64 ((rd_T84 l0 x7_2).f1.f1)) := (blk_cell BK103.out 2).trans rfl
                                        have hfz69_0 := blk_frozen BK103.out 0
                                        have hfz69_1 := blk_frozen BK103.out 1
                                        have hfz69_2 := blk_frozen BK103.out 2
                                        have hcz70_0 : wc.cell? ⟨gb104, 0, none⟩ = some (.int .i64 ((rd_T86 l1 x7_2).f0)) := (blk_cell BK104.out 0).trans rfl
                                        have hcz70_1 : wc.cell? ⟨gb104, 1, none⟩ = some (.bool ((rd_T86 l1 x7_2).f1)) := (blk_cell BK104.out 1).trans rfl
                                        have hcz70_2 : wc.cell? ⟨gb104, 2, none⟩ = some (.int .i64 ((rd_T86 l1 x7_2).f2)) := (blk_cell BK104.out 2).trans rfl
                                        have hfz70_0 := blk_frozen BK104.out 0
                                        have hfz70_1 := blk_frozen BK104.out 1
                                        have hfz70_2 := blk_frozen BK104.out 2
                                        try go_wp2
                                        have n0_ := Aside0.mk (blk_drew BK103.out)
                                        have n1_ := Aside0.mk (blk_drew BK104.out)
                                        have n2_ := Aside0.mk (below_drew1 HB.out)
                                        clear BK103
                                        clear BK104
                                        clear HB
                                        have BK103 := n0_
                                        have BK104 := n1_
                                        have HB := n2_
                                        clear n0_ n1_ n2_
                                        refine start_ (n := 4) (S := fun w' => w'.cell? ⟨gb104, 0, none⟩ = some (.int .i64 ((rd_T86 l1 x7_2).f0)) ∧ w'.cell? ⟨gb104, 1, none⟩ = some (.bool ((rd_T86 l1 x7_2).f1)) ∧ w'.cell? ⟨gb104, 2, none⟩ = some (.int .i64 ((rd_T86 l1 x7_2).f2))) (ds := []) #[false, false, false, false] (by kernel_rfl) rfl rfl ⟨(blk_cell BK104.out 0).trans rfl, (blk_cell BK104.out 1).trans rfl, (blk_cell BK104.out 2).trans rfl⟩ (fun hHeld => ?_)
                                        generalize wc.drew = w71 at BK103 BK104 HB hHeld ⊢
                                        refine pure_ (i := 0) (N := some 108) (v := ?_) (a' := ?_) #[true, false, false, false] rfl rfl (by kernel_rfl) (fun _ _ _ h => h) (Or.inl ⟨by rfl, ?_⟩) ?_ ?_
                                        rotate_left
                                        · intro w'
                                          go_simp
                                          with_reducible rfl
                                        rotate_left
                                        · simp only [Act.put, List.setIfInBounds_toArray, List.set_cons_zero, List.set_cons_succ, i64_w, i32_w]
                                          rfl
                                        refine pure_ (i := 2) (N := some 5) (v := ?_) (a' := ?_) #[true, false, true, false] rfl rfl (by kernel_rfl) (fun _ _ _ h => h) (Or.inl ⟨by rfl, ?_⟩) ?_ ?_
                                        rotate_left
                                        · intro w'
                                          go_simp
                                          with_reducible rfl
                                        rotate_left
                                        · simp only [Act.put, List.setIfInBounds_toArray, List.set_cons_zero, List.set_cons_succ, i64_w, i32_w]
                                          rfl
                                        refine take_ (i := 1) (N := some 109) (v := ?_) (a' := ?_) #[true, true, true, false] rfl rfl (by kernel_rfl) (fun _ _ _ h => h) (Or.inl ⟨by rfl, ?_⟩) hHeld ?_ ?_
                                        rotate_left
                                        · rintro w' ⟨s0, s1, s2⟩
                                          go_simp
                                          with_reducible rfl
                                        rotate_left
                                        · simp only [Act.put, List.setIfInBounds_toArray, List.set_cons_zero, List.set_cons_succ, i64_w, i32_w]
                                          rfl
                                        refine pure_ (i := 3) (N := some 6) (v := ?_) (a' := ?_) #[true, true, true, true] rfl rfl (by kernel_rfl) (fun _ _ _ h => h) (Or.inl ⟨by rfl, ?_⟩) ?_ ?_
                                        rotate_left
                                        · intro w'
                                          go_simp
                                          with_reducible rfl
                                        rotate_left
                                        · simp only [Act.put, List.setIfInBounds_toArray, List.set_cons_zero, List.set_cons_succ, i64_w, i32_w]
                                          rfl
                                        refine done_ (by kernel_rfl) ?_
                                        try go_wp2
                                        go_roundg kj49
                                        case measure => have := HJ2.out; have := HK2.out; have := HJ8.out; have := HJ49.out; omega
                                        case rel => exact ⟨(true), (((rd_T86 l1 x7_2).f0)), (wrap64 (x7_2 + 1)), (by first | rfl | (simp; done) | (simp [*]; done)), (by first | rfl | (simp; done) | (simp [*]; done)), (by first | rfl | (simp; done) | (simp [*]; done)), H', ⟨by have := HJ2.out; have := HK2.out; have := HJ8.out; have := HJ49.out; omega⟩, ⟨by repeat (first | (with_reducible first | exact HB.out | apply below_alloc | apply pw_below_drewN | apply below_drew1 | refine below_set ?_ GE103.out | refine below_set ?_ GE104.out) | exact HB.out)⟩⟩
                                    · replace c63 := Bool.eq_false_iff.mpr c63
                                      subst c63
                                      have H1 : (some false) = some r := by rw [if_neg (show ¬ (false = true) by decide)] at H; exact H
                                      clear H
                                      have H := H1
                                      clear H1
                                      obtain rfl := Option.some.inj H
                                      have hnb72 := NB103_104.out
                                      have hnc72 := NB104_103.out
                                      have hcz73_0 : wc.cell? ⟨gb103, 0, none⟩ = some (.bool ((rd_T84 l0 x7_2).f0)) := (blk_cell BK103.out 0).trans rfl
                                      have hcz73_1 : wc.cell? ⟨gb103, 1, none⟩ = some (.int .i64 ((rd_T84 l0 x7_2).f1.f0)) := (blk_cell BK103.out 1).trans rfl
                                      have hcz73_2 : wc.cell? ⟨gb103, 2, none⟩ = some (.int .i64 ((rd_T84 l0 x7_2).f1.f1)) := (blk_cell BK103.out 2).trans rfl
                                      have hfz73_0 := blk_frozen BK103.out 0
                                      have hfz73_1 := blk_frozen BK103.out 1
                                      have hfz73_2 := blk_frozen BK103.out 2
                                      have hcz74_0 : wc.cell? ⟨gb104, 0, none⟩ = some (.int .i64 ((rd_T86 l1 x7_2).f0)) := (blk_cell BK104.out 0).trans rfl
                                      have hcz74_1 : wc.cell? ⟨gb104, 1, none⟩ = some (.bool ((rd_T86 l1 x7_2).f1)) := (blk_cell BK104.out 1).trans rfl
                                      have hcz74_2 : wc.cell? ⟨gb104, 2, none⟩ = some (.int .i64 ((rd_T86 l1 x7_2).f2)) := (blk_cell BK104.out 2).trans rfl
                                      have hfz74_0 := blk_frozen BK104.out 0
                                      have hfz74_1 := blk_frozen BK104.out 1
                                      have hfz74_2 := blk_frozen BK104.out 2
                                      go_wp2
                                      go_ret
                                      exact ⟨by first | rfl | (simp [errW_none, errW_some] <;> rfl) | (simp [*, errW_none, errW_some] <;> rfl), by repeat (first | (with_reducible first | exact HB.out | apply below_alloc | apply pw_below_drewN | apply below_drew1 | refine below_set ?_ GE103.out | refine below_set ?_ GE104.out) | exact HB.out)⟩
                                  · rw [if_neg c62] at H
                                    have c62b0 : ((rd_T86 l1 x7_2).f1) = false := by simpa using c62
                                    clear c62
                                    replace H := Option.bind_eq_some_iff.mp H
                                    obtain ⟨t106, A750, H⟩ := H
                                    replace H : (if t106 = true then (if x5_2 = true then (if ((rd_T86 l1 x7_2).f0) < x6_2 then (some false) else (spec_ReadsOk.l0 kj49 l0 l1 true ((rd_T86 l1 x7_2).f0) (wrap64 (x7_2 + 1)))) else (spec_ReadsOk.l0 kj49 l0 l1 true ((rd_T86 l1 x7_2).f0) (wrap64 (x7_2 + 1)))) else (some false)) = some r := H
                                    have A75 := Aside0.mk A750
                                    clear A750
                                    by_cases c76 : t106 = true
                                    · subst c76
                                      have H1 : (if x5_2 = true then (if ((rd_T86 l1 x7_2).f0) < x6_2 then (some false) else (spec_ReadsOk.l0 kj49 l0 l1 true ((rd_T86 l1 x7_2).f0) (wrap64 (x7_2 + 1)))) else (spec_ReadsOk.l0 kj49 l0 l1 true ((rd_T86 l1 x7_2).f0) (wrap64 (x7_2 + 1)))) = some r := by rw [if_pos rfl] at H; exact H
                                      clear H
                                      have H := H1
                                      clear H1
                                      by_cases c77 : x5_2 = true
                                      · subst c77
                                        have H1 : (if ((rd_T86 l1 x7_2).f0) < x6_2 then (some false) else (spec_ReadsOk.l0 kj49 l0 l1 true ((rd_T86 l1 x7_2).f0) (wrap64 (x7_2 + 1)))) = some r := by rw [if_pos rfl] at H; exact H
                                        clear H
                                        have H := H1
                                        clear H1
                                        by_cases c78 : ((rd_T86 l1 x7_2).f0) < x6_2
                                        · rw [if_pos c78] at H
                                          have c78b0 : decide (((rd_T86 l1 x7_2).f0) < x6_2) = true := decide_eq_true c78
                                          clear c78
                                          obtain rfl := Option.some.inj H
                                          have hnb79 := NB103_104.out
                                          have hnc79 := NB104_103.out
                                          have hcz80_0 : wc.cell? ⟨gb103, 0, none⟩ = some (.bool ((rd_T84 l0 x7_2).f0)) := (blk_cell BK103.out 0).trans rfl
                                          have hcz80_1 : wc.cell? ⟨gb103, 1, none⟩ = some (.int .i64 ((rd_T84 l0 x7_2).f1.f0)) := (blk_cell BK103.out 1).trans rfl
                                          have hcz80_2 : wc.cell? ⟨gb103, 2, none⟩ = some (.int .i64 ((rd_T84 l0 x7_2).f1.f1)) := (blk_cell BK103.out 2).trans rfl
                                          have hfz80_0 := blk_frozen BK103.out 0
                                          have hfz80_1 := blk_frozen BK103.out 1
                                          have hfz80_2 := blk_frozen BK103.out 2
                                          have hcz81_0 : wc.cell? ⟨gb104, 0, none⟩ = some (.int .i64 ((rd_T86 l1 x7_2).f0)) := (blk_cell BK104.out 0).trans rfl
                                          have hcz81_1 : wc.cell? ⟨gb104, 1, none⟩ = some (.bool ((rd_T86 l1 x7_2).f1)) := (blk_cell BK104.out 1).trans rfl
                                          have hcz81_2 : wc.cell? ⟨gb104, 2, none⟩ = some (.int .i64 ((rd_T86 l1 x7_2).f2)) := (blk_cell BK104.out 2).trans rfl
                                          have hfz81_0 := blk_frozen BK104.out 0
                                          have hfz81_1 := blk_frozen BK104.out 1
                                          have hfz81_2 := blk_frozen BK104.out 2
                                          go_wp2_with (first | ((with_reducible refine gate_callee (f := 59) rfl ?_); refine goesL_ (some 78) rfl rfl Try.func59 (by kernel_rfl) rfl #[.agg #[.int .i64 ((rd_T84 l0 x7_2).f1.f0), .int .i64 ((rd_T84 l0 x7_2).f1.f1)], .int .i64 ((rd_T86 l1 x7_2).f0)] rfl (by (try simp only [List.map_toArray, List.map_cons, List.map_nil]); first | done | rfl | (simp only [List.length_drop, List.length_take]; rfl)) ?_; (with_reducible refine (spec_Holds.calls ((rd_T84 l0 x7_2).f1.f0) ((rd_T84 l0 x7_2).f1.f1) ((rd_T86 l1 x7_2).f0) true _ A75.out).mono ?_); rintro e w82 ⟨rfl, hb⟩; refine ⟨_, rfl, ?_⟩; have n0_ := Aside0.mk (blk_below (g := gb103) (o := .cells #[.bool ((rd_T84 l0 x7_2).f0), .int .i64 ((rd_T84 l0 x7_2).f1.f0), .int .i64 ((rd_T84 l0 x7_2).f1.f1)] 84 (0, 0)) (by (with_reducible repeat (first | refine blk_drewN ?_ _ | refine blk_drew ?_ | refine blk_alloc ?_ _)); exact BK103.out) hb); have n1_ := Aside0.mk (blk_below (g := gb104) (o := .cells #[.int .i64 ((rd_T86 l1 x7_2).f0), .bool ((rd_T86 l1 x7_2).f1), .int .i64 ((rd_T86 l1 x7_2).f2)] 86 (0, 0)) (by (with_reducible repeat (first | refine blk_drewN ?_ _ | refine blk_drew ?_ | refine blk_alloc ?_ _)); exact BK104.out) hb); have n2_ := Aside0.mk (below_step (by repeat (first | (with_reducible first | exact HB.out | apply below_alloc | apply pw_below_drewN | apply below_drew1 | refine below_set ?_ GE103.out | refine below_set ?_ GE104.out) | exact HB.out)) hb); clear BK103; clear BK104; clear HB; have BK103 := n0_; have BK104 := n1_; have HB := n2_; clear n0_ n1_ n2_; (try clear hb); (try clear hb2); (try clear hk); (try clear hi); have hcz83_0 : w82.cell? ⟨gb104, 0, none⟩ = some (.int .i64 ((rd_T86 l1 x7_2).f0)) := (blk_cell BK104.out 0).trans rfl; have hcz83_1 : w82.cell? ⟨gb104, 1, none⟩ = some (.bool ((rd_T86 l1 x7_2).f1)) := (blk_cell BK104.out 1).trans rfl; have hcz83_2 : w82.cell? ⟨gb104, 2, none⟩ = some (.int .i64 ((rd_T86 l1 x7_2).f2)) := (blk_cell BK104.out 2).trans rfl; have hfz83_0 := blk_frozen BK104.out 0; have hfz83_1 := blk_frozen BK104.out 1; have hfz83_2 := blk_frozen BK104.out 2))
                                          go_ret
                                          exact ⟨by first | rfl | (simp [errW_none, errW_some] <;> rfl) | (simp [*, errW_none, errW_some] <;> rfl), by repeat (first | (with_reducible first | exact HB.out | apply below_alloc | apply pw_below_drewN | apply below_drew1 | refine below_set ?_ GE103.out | refine below_set ?_ GE104.out) | exact HB.out)⟩
                                        · rw [if_neg c78] at H
                                          have c78b0 : decide (((rd_T86 l1 x7_2).f0) < x6_2) = false := decide_eq_false c78
                                          clear c78
                                          have H' := Aside0.mk H
                                          clear H
                                          have hnb84 := NB103_104.out
                                          have hnc84 := NB104_103.out
                                          have hcz85_0 : wc.cell? ⟨gb103, 0, none⟩ = some (.bool ((rd_T84 l0 x7_2).f0)) := (blk_cell BK103.out 0).trans rfl
                                          have hcz85_1 : wc.cell? ⟨gb103, 1, none⟩ = some (.int .i64 ((rd_T84 l0 x7_2).f1.f0)) := (blk_cell BK103.out 1).trans rfl
                                          have hcz85_2 : wc.cell? ⟨gb103, 2, none⟩ = some (.int .i64 ((rd_T84 l0 x7_2).f1.f1)) := (blk_cell BK103.out 2).trans rfl
                                          have hfz85_0 := blk_frozen BK103.out 0
                                          have hfz85_1 := blk_frozen BK103.out 1
                                          have hfz85_2 := blk_frozen BK103.out 2
                                          have hcz86_0 : wc.cell? ⟨gb104, 0, none⟩ = some (.int .i64 ((rd_T86 l1 x7_2).f0)) := (blk_cell BK104.out 0).trans rfl
                                          have hcz86_1 : wc.cell? ⟨gb104, 1, none⟩ = some (.bool ((rd_T86 l1 x7_2).f1)) := (blk_cell BK104.out 1).trans rfl
                                          have hcz86_2 : wc.cell? ⟨gb104, 2, none⟩ = some (.int .i64 ((rd_T86 l1 x7_2).f2)) := (blk_cell BK104.out 2).trans rfl
                                          have hfz86_0 := blk_frozen BK104.out 0
                                          have hfz86_1 := blk_frozen BK104.out 1
                                          have hfz86_2 := blk_frozen BK104.out 2
                                          try go_wp2_with (first | ((with_reducible refine gate_callee (f := 59) rfl ?_); refine goesL_ (some 78) rfl rfl Try.func59 (by kernel_rfl) rfl #[.agg #[.int .i64 ((rd_T84 l0 x7_2).f1.f0), .int .i64 ((rd_T84 l0 x7_2).f1.f1)], .int .i64 ((rd_T86 l1 x7_2).f0)] rfl (by (try simp only [List.map_toArray, List.map_cons, List.map_nil]); first | done | rfl | (simp only [List.length_drop, List.length_take]; rfl)) ?_; (with_reducible refine (spec_Holds.calls ((rd_T84 l0 x7_2).f1.f0) ((rd_T84 l0 x7_2).f1.f1) ((rd_T86 l1 x7_2).f0) true _ A75.out).mono ?_); rintro e w87 ⟨rfl, hb⟩; refine ⟨_, rfl, ?_⟩; have n0_ := Aside0.mk (blk_below (g := gb103) (o := .cells #[.bool ((rd_T84 l0 x7_2).f0), .int .i64 ((rd_T84 l0 x7_2).f1.f0), .int .i64 ((rd_T84 l0 x7_2).f1.f1)] 84 (0, 0)) (by (with_reducible repeat (first | refine blk_drewN ?_ _ | refine blk_drew ?_ | refine blk_alloc ?_ _)); exact BK103.out) hb); have n1_ := Aside0.mk (blk_below (g := gb104) (o := .cells #[.int .i64 ((rd_T86 l1 x7_2).f0), .bool ((rd_T86 l1 x7_2).f1), .int .i64 ((rd_T86 l1 x7_2).f2)] 86 (0, 0)) (by (with_reducible repeat (first | refine blk_drewN ?_ _ | refine blk_drew ?_ | refine blk_alloc ?_ _)); exact BK104.out) hb); have n2_ := Aside0.mk (below_step (by repeat (first | (with_reducible first | exact HB.out | apply below_alloc | apply pw_below_drewN | apply below_drew1 | refine below_set ?_ GE103.out | refine below_set ?_ GE104.out) | exact HB.out)) hb); clear BK103; clear BK104; clear HB; have BK103 := n0_; have BK104 := n1_; have HB := n2_; clear n0_ n1_ n2_; (try clear hb); (try clear hb2); (try clear hk); (try clear hi); have hcz88_0 : w87.cell? ⟨gb104, 0, none⟩ = some (.int .i64 ((rd_T86 l1 x7_2).f0)) := (blk_cell BK104.out 0).trans rfl; have hcz88_1 : w87.cell? ⟨gb104, 1, none⟩ = some (.bool ((rd_T86 l1 x7_2).f1)) := (blk_cell BK104.out 1).trans rfl; have hcz88_2 : w87.cell? ⟨gb104, 2, none⟩ = some (.int .i64 ((rd_T86 l1 x7_2).f2)) := (blk_cell BK104.out 2).trans rfl; have hfz88_0 := blk_frozen BK104.out 0; have hfz88_1 := blk_frozen BK104.out 1; have hfz88_2 := blk_frozen BK104.out 2))
                                          have n0_ := Aside0.mk (blk_drew BK103.out)
                                          have n1_ := Aside0.mk (blk_drew BK104.out)
                                          have n2_ := Aside0.mk (below_drew1 HB.out)
                                          clear BK103
                                          clear BK104
                                          clear HB
                                          have BK103 := n0_
                                          have BK104 := n1_
                                          have HB := n2_
                                          clear n0_ n1_ n2_
                                          refine start_ (n := 4) (S := fun w' => w'.cell? ⟨gb104, 0, none⟩ = some (.int .i64 ((rd_T86 l1 x7_2).f0)) ∧ w'.cell? ⟨gb104, 1, none⟩ = some (.bool ((rd_T86 l1 x7_2).f1)) ∧ w'.cell? ⟨gb104, 2, none⟩ = some (.int .i64 ((rd_T86 l1 x7_2).f2))) (ds := []) #[false, false, false, false] (by kernel_rfl) rfl rfl ⟨(blk_cell BK104.out 0).trans rfl, (blk_cell BK104.out 1).trans rfl, (blk_cell BK104.out 2).trans rfl⟩ (fun hHeld => ?_)
                                          generalize w87.drew = w89 at BK103 BK104 HB hHeld ⊢
                                          refine pure_ (i := 0) (N := some 108) (v := ?_) (a' := ?_) #[true, false, false, false] rfl rfl (by kernel_rfl) (fun _ _ _ h => h) (Or.inl ⟨by rfl, ?_⟩) ?_ ?_
                                          rotate_left
                                          · intro w'
                                            go_simp
                                            with_reducible rfl
                                          rotate_left
                                          · simp only [Act.put, List.setIfInBounds_toArray, List.set_cons_zero, List.set_cons_succ, i64_w, i32_w]
                                            rfl
                                          refine pure_ (i := 2) (N := some 5) (v := ?_) (a' := ?_) #[true, false, true, false] rfl rfl (by kernel_rfl) (fun _ _ _ h => h) (Or.inl ⟨by rfl, ?_⟩) ?_ ?_
                                          rotate_left
                                          · intro w'
                                            go_simp
                                            with_reducible rfl
                                          rotate_left
                                          · simp only [Act.put, List.setIfInBounds_toArray, List.set_cons_zero, List.set_cons_succ, i64_w, i32_w]
                                            rfl
                                          refine take_ (i := 1) (N := some 109) (v := ?_) (a' := ?_) #[true, true, true, false] rfl rfl (by kernel_rfl) (fun _ _ _ h => h) (Or.inl ⟨by rfl, ?_⟩) hHeld ?_ ?_
                                          rotate_left
                                          · rintro w' ⟨s0, s1, s2⟩
                                            go_simp
                                            with_reducible rfl
                                          rotate_left
                                          · simp only [Act.put, List.setIfInBounds_toArray, List.set_cons_zero, List.set_cons_succ, i64_w, i32_w]
                                            rfl
                                          refine pure_ (i := 3) (N := some 6) (v := ?_) (a' := ?_) #[true, true, true, true] rfl rfl (by kernel_rfl) (fun _ _ _ h => h) (Or.inl ⟨by rfl, ?_⟩) ?_ ?_
                                          rotate_left
                                          · intro w'
                                            go_simp
                                            with_reducible rfl
                                          rotate_left
                                          · simp only [Act.put, List.setIfInBounds_toArray, List.set_cons_zero, List.set_cons_succ, i64_w, i32_w]
                                            rfl
                                          refine done_ (by kernel_rfl) ?_
                                          try go_wp2
                                          go_roundg kj49
                                          case measure => have := HJ2.out; have := HK2.out; have := HJ8.out; have := HJ49.out; omega
                                          case rel => exact ⟨(true), (((rd_T86 l1 x7_2).f0)), (wrap64 (x7_2 + 1)), (by first | rfl | (simp; done) | (simp [*]; done)), (by first | rfl | (simp; done) | (simp [*]; done)), (by first | rfl | (simp; done) | (simp [*]; done)), H', ⟨by have := HJ2.out; have := HK2.out; have := HJ8.out; have := HJ49.out; omega⟩, ⟨by repeat (first | (with_reducible first | exact HB.out | apply below_alloc | apply pw_below_drewN | apply below_drew1 | refine below_set ?_ GE103.out | refine below_set ?_ GE104.out) | exact HB.out)⟩⟩
                                      · replace c77 := Bool.eq_false_iff.mpr c77
                                        subst c77
                                        have H1 : (spec_ReadsOk.l0 kj49 l0 l1 true ((rd_T86 l1 x7_2).f0) (wrap64 (x7_2 + 1))) = some r := by rw [if_neg (show ¬ (false = true) by decide)] at H; exact H
                                        clear H
                                        have H := H1
                                        clear H1
                                        have H' := Aside0.mk H
                                        clear H
                                        have hnb90 := NB103_104.out
                                        have hnc90 := NB104_103.out
                                        have hcz91_0 : wc.cell? ⟨gb103, 0, none⟩ = some (.bool ((rd_T84 l0 x7_2).f0)) := (blk_cell BK103.out 0).trans rfl
                                        have hcz91_1 : wc.cell? ⟨gb103, 1, none⟩ = some (.int .i64 ((rd_T84 l0 x7_2).f1.f0)) := (blk_cell BK103.out 1).trans rfl
                                        have hcz91_2 : wc.cell? ⟨gb103, 2, none⟩ = some (.int .i64 ((rd_T84 l0 x7_2).f1.f1)) := (blk_cell BK103.out 2).trans rfl
                                        have hfz91_0 := blk_frozen BK103.out 0
                                        have hfz91_1 := blk_frozen BK103.out 1
                                        have hfz91_2 := blk_frozen BK103.out 2
                                        have hcz92_0 : wc.cell? ⟨gb104, 0, none⟩ = some (.int .i64 ((rd_T86 l1 x7_2).f0)) := (blk_cell BK104.out 0).trans rfl
                                        have hcz92_1 : wc.cell? ⟨gb104, 1, none⟩ = some (.bool ((rd_T86 l1 x7_2).f1)) := (blk_cell BK104.out 1).trans rfl
                                        have hcz92_2 : wc.cell? ⟨gb104, 2, none⟩ = some (.int .i64 ((rd_T86 l1 x7_2).f2)) := (blk_cell BK104.out 2).trans rfl
                                        have hfz92_0 := blk_frozen BK104.out 0
                                        have hfz92_1 := blk_frozen BK104.out 1
                                        have hfz92_2 := blk_frozen BK104.out 2
                                        try go_wp2_with (first | ((with_reducible refine gate_callee (f := 59) rfl ?_); refine goesL_ (some 78) rfl rfl Try.func59 (by kernel_rfl) rfl #[.agg #[.int .i64 ((rd_T84 l0 x7_2).f1.f0), .int .i64 ((rd_T84 l0 x7_2).f1.f1)], .int .i64 ((rd_T86 l1 x7_2).f0)] rfl (by (try simp only [List.map_toArray, List.map_cons, List.map_nil]); first | done | rfl | (simp only [List.length_drop, List.length_take]; rfl)) ?_; (with_reducible refine (spec_Holds.calls ((rd_T84 l0 x7_2).f1.f0) ((rd_T84 l0 x7_2).f1.f1) ((rd_T86 l1 x7_2).f0) true _ A75.out).mono ?_); rintro e w93 ⟨rfl, hb⟩; refine ⟨_, rfl, ?_⟩; have n0_ := Aside0.mk (blk_below (g := gb103) (o := .cells #[.bool ((rd_T84 l0 x7_2).f0), .int .i64 ((rd_T84 l0 x7_2).f1.f0), .int .i64 ((rd_T84 l0 x7_2).f1.f1)] 84 (0, 0)) (by (with_reducible repeat (first | refine blk_drewN ?_ _ | refine blk_drew ?_ | refine blk_alloc ?_ _)); exact BK103.out) hb); have n1_ := Aside0.mk (blk_below (g := gb104) (o := .cells #[.int .i64 ((rd_T86 l1 x7_2).f0), .bool ((rd_T86 l1 x7_2).f1), .int .i64 ((rd_T86 l1 x7_2).f2)] 86 (0, 0)) (by (with_reducible repeat (first | refine blk_drewN ?_ _ | refine blk_drew ?_ | refine blk_alloc ?_ _)); exact BK104.out) hb); have n2_ := Aside0.mk (below_step (by repeat (first | (with_reducible first | exact HB.out | apply below_alloc | apply pw_below_drewN | apply below_drew1 | refine below_set ?_ GE103.out | refine below_set ?_ GE104.out) | exact HB.out)) hb); clear BK103; clear BK104; clear HB; have BK103 := n0_; have BK104 := n1_; have HB := n2_; clear n0_ n1_ n2_; (try clear hb); (try clear hb2); (try clear hk); (try clear hi)))
                                        have n0_ := Aside0.mk (blk_drew BK103.out)
                                        have n1_ := Aside0.mk (blk_drew BK104.out)
                                        have n2_ := Aside0.mk (below_drew1 HB.out)
                                        clear BK103
                                        clear BK104
                                        clear HB
                                        have BK103 := n0_
                                        have BK104 := n1_
                                        have HB := n2_
                                        clear n0_ n1_ n2_
                                        refine start_ (n := 4) (S := fun w' => w'.cell? ⟨gb104, 0, none⟩ = some (.int .i64 ((rd_T86 l1 x7_2).f0)) ∧ w'.cell? ⟨gb104, 1, none⟩ = some (.bool ((rd_T86 l1 x7_2).f1)) ∧ w'.cell? ⟨gb104, 2, none⟩ = some (.int .i64 ((rd_T86 l1 x7_2).f2))) (ds := []) #[false, false, false, false] (by kernel_rfl) rfl rfl ⟨(blk_cell BK104.out 0).trans rfl, (blk_cell BK104.out 1).trans rfl, (blk_cell BK104.out 2).trans rfl⟩ (fun hHeld => ?_)
                                        generalize w93.drew = w94 at BK103 BK104 HB hHeld ⊢
                                        refine pure_ (i := 0) (N := some 108) (v := ?_) (a' := ?_) #[true, false, false, false] rfl rfl (by kernel_rfl) (fun _ _ _ h => h) (Or.inl ⟨by rfl, ?_⟩) ?_ ?_
                                        rotate_left
                                        · intro w'
                                          go_simp
                                          with_reducible rfl
                                        rotate_left
                                        · simp only [Act.put, List.setIfInBounds_toArray, List.set_cons_zero, List.set_cons_succ, i64_w, i32_w]
                                          rfl
                                        refine pure_ (i := 2) (N := some 5) (v := ?_) (a' := ?_) #[true, false, true, false] rfl rfl (by kernel_rfl) (fun _ _ _ h => h) (Or.inl ⟨by rfl, ?_⟩) ?_ ?_
                                        rotate_left
                                        · intro w'
                                          go_simp
                                          with_reducible rfl
                                        rotate_left
                                        · simp only [Act.put, List.setIfInBounds_toArray, List.set_cons_zero, List.set_cons_succ, i64_w, i32_w]
                                          rfl
                                        refine take_ (i := 1) (N := some 109) (v := ?_) (a' := ?_) #[true, true, true, false] rfl rfl (by kernel_rfl) (fun _ _ _ h => h) (Or.inl ⟨by rfl, ?_⟩) hHeld ?_ ?_
                                        rotate_left
                                        · rintro w' ⟨s0, s1, s2⟩
                                          go_simp
                                          with_reducible rfl
                                        rotate_left
                                        · simp only [Act.put, List.setIfInBounds_toArray, List.set_cons_zero, List.set_cons_succ, i64_w, i32_w]
                                          rfl
                                        refine pure_ (i := 3) (N := some 6) (v := ?_) (a' := ?_) #[true, true, true, true] rfl rfl (by kernel_rfl) (fun _ _ _ h => h) (Or.inl ⟨by rfl, ?_⟩) ?_ ?_
                                        rotate_left
                                        · intro w'
                                          go_simp
                                          with_reducible rfl
                                        rotate_left
                                        · simp only [Act.put, List.setIfInBounds_toArray, List.set_cons_zero, List.set_cons_succ, i64_w, i32_w]
                                          rfl
                                        refine done_ (by kernel_rfl) ?_
                                        try go_wp2
                                        go_roundg kj49
                                        case measure => have := HJ2.out; have := HK2.out; have := HJ8.out; have := HJ49.out; omega
                                        case rel => exact ⟨(true), (((rd_T86 l1 x7_2).f0)), (wrap64 (x7_2 + 1)), (by first | rfl | (simp; done) | (simp [*]; done)), (by first | rfl | (simp; done) | (simp [*]; done)), (by first | rfl | (simp; done) | (simp [*]; done)), H', ⟨by have := HJ2.out; have := HK2.out; have := HJ8.out; have := HJ49.out; omega⟩, ⟨by repeat (first | (with_reducible first | exact HB.out | apply below_alloc | apply pw_below_drewN | apply below_drew1 | refine below_set ?_ GE103.out | refine below_set ?_ GE104.out) | exact HB.out)⟩⟩
                                    · replace c76 := Bool.eq_false_iff.mpr c76
                                      subst c76
                                      have H1 : (some false) = some r := by rw [if_neg (show ¬ (false = true) by decide)] at H; exact H
                                      clear H
                                      have H := H1
                                      clear H1
                                      obtain rfl := Option.some.inj H
                                      have hnb95 := NB103_104.out
                                      have hnc95 := NB104_103.out
                                      have hcz96_0 : wc.cell? ⟨gb103, 0, none⟩ = some (.bool ((rd_T84 l0 x7_2).f0)) := (blk_cell BK103.out 0).trans rfl
                                      have hcz96_1 : wc.cell? ⟨gb103, 1, none⟩ = some (.int .i64 ((rd_T84 l0 x7_2).f1.f0)) := (blk_cell BK103.out 1).trans rfl
                                      have hcz96_2 : wc.cell? ⟨gb103, 2, none⟩ = some (.int .i64 ((rd_T84 l0 x7_2).f1.f1)) := (blk_cell BK103.out 2).trans rfl
                                      have hfz96_0 := blk_frozen BK103.out 0
                                      have hfz96_1 := blk_frozen BK103.out 1
                                      have hfz96_2 := blk_frozen BK103.out 2
                                      have hcz97_0 : wc.cell? ⟨gb104, 0, none⟩ = some (.int .i64 ((rd_T86 l1 x7_2).f0)) := (blk_cell BK104.out 0).trans rfl
                                      have hcz97_1 : wc.cell? ⟨gb104, 1, none⟩ = some (.bool ((rd_T86 l1 x7_2).f1)) := (blk_cell BK104.out 1).trans rfl
                                      have hcz97_2 : wc.cell? ⟨gb104, 2, none⟩ = some (.int .i64 ((rd_T86 l1 x7_2).f2)) := (blk_cell BK104.out 2).trans rfl
                                      have hfz97_0 := blk_frozen BK104.out 0
                                      have hfz97_1 := blk_frozen BK104.out 1
                                      have hfz97_2 := blk_frozen BK104.out 2
                                      go_wp2_with (first | ((with_reducible refine gate_callee (f := 59) rfl ?_); refine goesL_ (some 78) rfl rfl Try.func59 (by kernel_rfl) rfl #[.agg #[.int .i64 ((rd_T84 l0 x7_2).f1.f0), .int .i64 ((rd_T84 l0 x7_2).f1.f1)], .int .i64 ((rd_T86 l1 x7_2).f0)] rfl (by (try simp only [List.map_toArray, List.map_cons, List.map_nil]); first | done | rfl | (simp only [List.length_drop, List.length_take]; rfl)) ?_; (with_reducible refine (spec_Holds.calls ((rd_T84 l0 x7_2).f1.f0) ((rd_T84 l0 x7_2).f1.f1) ((rd_T86 l1 x7_2).f0) false _ A75.out).mono ?_); rintro e w98 ⟨rfl, hb⟩; refine ⟨_, rfl, ?_⟩; have n0_ := Aside0.mk (blk_below (g := gb103) (o := .cells #[.bool ((rd_T84 l0 x7_2).f0), .int .i64 ((rd_T84 l0 x7_2).f1.f0), .int .i64 ((rd_T84 l0 x7_2).f1.f1)] 84 (0, 0)) (by (with_reducible repeat (first | refine blk_drewN ?_ _ | refine blk_drew ?_ | refine blk_alloc ?_ _)); exact BK103.out) hb); have n1_ := Aside0.mk (blk_below (g := gb104) (o := .cells #[.int .i64 ((rd_T86 l1 x7_2).f0), .bool ((rd_T86 l1 x7_2).f1), .int .i64 ((rd_T86 l1 x7_2).f2)] 86 (0, 0)) (by (with_reducible repeat (first | refine blk_drewN ?_ _ | refine blk_drew ?_ | refine blk_alloc ?_ _)); exact BK104.out) hb); have n2_ := Aside0.mk (below_step (by repeat (first | (with_reducible first | exact HB.out | apply below_alloc | apply pw_below_drewN | apply below_drew1 | refine below_set ?_ GE103.out | refine below_set ?_ GE104.out) | exact HB.out)) hb); clear BK103; clear BK104; clear HB; have BK103 := n0_; have BK104 := n1_; have HB := n2_; clear n0_ n1_ n2_; (try clear hb); (try clear hb2); (try clear hk); (try clear hi)))
                                      go_ret
                                      exact ⟨by first | rfl | (simp [errW_none, errW_some] <;> rfl) | (simp [*, errW_none, errW_some] <;> rfl), by repeat (first | (with_reducible first | exact HB.out | apply below_alloc | apply pw_below_drewN | apply below_drew1 | refine below_set ?_ GE103.out | refine below_set ?_ GE104.out) | exact HB.out)⟩
                                · rw [if_neg c61] at H
                                  have c61b0 : ((rd_T84 l0 x7_2).f0) = false := by simpa using c61
                                  clear c61
                                  by_cases c99 : x10_49 = true
                                  · subst c99
                                    have H1 : (spec_ReadsOk.l0 kj49 l0 l1 true ((rd_T86 l1 x7_2).f0) (wrap64 (x7_2 + 1))) = some r := by rw [if_pos rfl] at H; exact H
                                    clear H
                                    have H := H1
                                    clear H1
                                    have H' := Aside0.mk H
                                    clear H
                                    have hnb100 := NB103_104.out
                                    have hnc100 := NB104_103.out
                                    have hcz101_0 : wc.cell? ⟨gb103, 0, none⟩ = some (.bool ((rd_T84 l0 x7_2).f0)) := (blk_cell BK103.out 0).trans rfl
                                    have hcz101_1 : wc.cell? ⟨gb103, 1, none⟩ = some (.int .i64 ((rd_T84 l0 x7_2).f1.f0)) := (blk_cell BK103.out 1).trans rfl
                                    have hcz101_2 : wc.cell? ⟨gb103, 2, none⟩ = some (.int .i64 ((rd_T84 l0 x7_2).f1.f1)) := (blk_cell BK103.out 2).trans rfl
                                    have hfz101_0 := blk_frozen BK103.out 0
                                    have hfz101_1 := blk_frozen BK103.out 1
                                    have hfz101_2 := blk_frozen BK103.out 2
                                    try go_wp2
                                    have n0_ := Aside0.mk (blk_drew BK103.out)
                                    have n1_ := Aside0.mk (blk_drew BK104.out)
                                    have n2_ := Aside0.mk (below_drew1 HB.out)
                                    clear BK103
                                    clear BK104
                                    clear HB
                                    have BK103 := n0_
                                    have BK104 := n1_
                                    have HB := n2_
                                    clear n0_ n1_ n2_
                                    refine start_ (n := 4) (S := fun w' => w'.cell? ⟨gb104, 0, none⟩ = some (.int .i64 ((rd_T86 l1 x7_2).f0)) ∧ w'.cell? ⟨gb104, 1, none⟩ = some (.bool ((rd_T86 l1 x7_2).f1)) ∧ w'.cell? ⟨gb104, 2, none⟩ = some (.int .i64 ((rd_T86 l1 x7_2).f2))) (ds := []) #[false, false, false, false] (by kernel_rfl) rfl rfl ⟨(blk_cell BK104.out 0).trans rfl, (blk_cell BK104.out 1).trans rfl, (blk_cell BK104.out 2).trans rfl⟩ (fun hHeld => ?_)
                                    generalize wc.drew = w102 at BK103 BK104 HB hHeld ⊢
                                    refine pure_ (i := 0) (N := some 108) (v := ?_) (a' := ?_) #[true, false, false, false] rfl rfl (by kernel_rfl) (fun _ _ _ h => h) (Or.inl ⟨by rfl, ?_⟩) ?_ ?_
                                    rotate_left
                                    · intro w'
                                      go_simp
                                      with_reducible rfl
                                    rotate_left
                                    · simp only [Act.put, List.setIfInBounds_toArray, List.set_cons_zero, List.set_cons_succ, i64_w, i32_w]
                                      rfl
                                    refine pure_ (i := 2) (N := some 5) (v := ?_) (a' := ?_) #[true, false, true, false] rfl rfl (by kernel_rfl) (fun _ _ _ h => h) (Or.inl ⟨by rfl, ?_⟩) ?_ ?_
                                    rotate_left
                                    · intro w'
                                      go_simp
                                      with_reducible rfl
                                    rotate_left
                                    · simp only [Act.put, List.setIfInBounds_toArray, List.set_cons_zero, List.set_cons_succ, i64_w, i32_w]
                                      rfl
                                    refine take_ (i := 1) (N := some 109) (v := ?_) (a' := ?_) #[true, true, true, false] rfl rfl (by kernel_rfl) (fun _ _ _ h => h) (Or.inl ⟨by rfl, ?_⟩) hHeld ?_ ?_
                                    rotate_left
                                    · rintro w' ⟨s0, s1, s2⟩
                                      go_simp
                                      with_reducible rfl
                                    rotate_left
                                    · simp only [Act.put, List.setIfInBounds_toArray, List.set_cons_zero, List.set_cons_succ, i64_w, i32_w]
                                      rfl
                                    refine pure_ (i := 3) (N := some 6) (v := ?_) (a' := ?_) #[true, true, true, true] rfl rfl (by kernel_rfl) (fun _ _ _ h => h) (Or.inl ⟨by rfl, ?_⟩) ?_ ?_
                                    rotate_left
                                    · intro w'
                                      go_simp
                                      with_reducible rfl
                                    rotate_left
                                    · simp only [Act.put, List.setIfInBounds_toArray, List.set_cons_zero, List.set_cons_succ, i64_w, i32_w]
                                      rfl
                                    refine done_ (by kernel_rfl) ?_
                                    try go_wp2
                                    go_roundg kj49
                                    case measure => have := HJ2.out; have := HK2.out; have := HJ8.out; have := HJ49.out; omega
                                    case rel => exact ⟨(true), (((rd_T86 l1 x7_2).f0)), (wrap64 (x7_2 + 1)), (by first | rfl | (simp; done) | (simp [*]; done)), (by first | rfl | (simp; done) | (simp [*]; done)), (by first | rfl | (simp; done) | (simp [*]; done)), H', ⟨by have := HJ2.out; have := HK2.out; have := HJ8.out; have := HJ49.out; omega⟩, ⟨by repeat (first | (with_reducible first | exact HB.out | apply below_alloc | apply pw_below_drewN | apply below_drew1 | refine below_set ?_ GE103.out | refine below_set ?_ GE104.out) | exact HB.out)⟩⟩
                                  · replace c99 := Bool.eq_false_iff.mpr c99
                                    subst c99
                                    have H1 : (some false) = some r := by rw [if_neg (show ¬ (false = true) by decide)] at H; exact H
                                    clear H
                                    have H := H1
                                    clear H1
                                    obtain rfl := Option.some.inj H
                                    have hnb103 := NB103_104.out
                                    have hnc103 := NB104_103.out
                                    have hcz104_0 : wc.cell? ⟨gb103, 0, none⟩ = some (.bool ((rd_T84 l0 x7_2).f0)) := (blk_cell BK103.out 0).trans rfl
                                    have hcz104_1 : wc.cell? ⟨gb103, 1, none⟩ = some (.int .i64 ((rd_T84 l0 x7_2).f1.f0)) := (blk_cell BK103.out 1).trans rfl
                                    have hcz104_2 : wc.cell? ⟨gb103, 2, none⟩ = some (.int .i64 ((rd_T84 l0 x7_2).f1.f1)) := (blk_cell BK103.out 2).trans rfl
                                    have hfz104_0 := blk_frozen BK103.out 0
                                    have hfz104_1 := blk_frozen BK103.out 1
                                    have hfz104_2 := blk_frozen BK103.out 2
                                    go_wp2
                                    go_ret
                                    exact ⟨by first | rfl | (simp [errW_none, errW_some] <;> rfl) | (simp [*, errW_none, errW_some] <;> rfl), by repeat (first | (with_reducible first | exact HB.out | apply below_alloc | apply pw_below_drewN | apply below_drew1 | refine below_set ?_ GE103.out | refine below_set ?_ GE104.out) | exact HB.out)⟩
                          · rw [if_neg c49] at H
                            have c49b0 : (((rd_T86 l1 x7_2).f2) == 0) = false := beq_eq_false_iff_ne.mpr c49
                            have c49b1 : (((rd_T86 l1 x7_2).f2) != 0) = true := bne_iff_ne.mpr c49
                            obtain rfl := Option.some.inj H
                            have hnb105 := NB104_103.out
                            have hnc105 := NB103_104.out
                            have hcz106_0 : wc.cell? ⟨gb104, 0, none⟩ = some (.int .i64 ((rd_T86 l1 x7_2).f0)) := (blk_cell BK104.out 0).trans rfl
                            have hcz106_1 : wc.cell? ⟨gb104, 1, none⟩ = some (.bool ((rd_T86 l1 x7_2).f1)) := (blk_cell BK104.out 1).trans rfl
                            have hcz106_2 : wc.cell? ⟨gb104, 2, none⟩ = some (.int .i64 ((rd_T86 l1 x7_2).f2)) := (blk_cell BK104.out 2).trans rfl
                            have hfz106_0 := blk_frozen BK104.out 0
                            have hfz106_1 := blk_frozen BK104.out 1
                            have hfz106_2 := blk_frozen BK104.out 2
                            go_wp2
                            go_ret
                            exact ⟨by first | rfl | (simp [errW_none, errW_some] <;> rfl) | (simp [*, errW_none, errW_some] <;> rfl), by repeat (first | (with_reducible first | exact HB.out | apply below_alloc | apply pw_below_drewN | apply below_drew1 | refine below_set ?_ GE103.out | refine below_set ?_ GE104.out) | exact HB.out)⟩
                · rw [if_neg c8] at H
                  exact absurd H (by simp)
              · rw [if_neg c7] at H
                exact absurd H (by simp)
            · rw [if_neg c6] at H
              have c6b0 : decide (x7_2 < (l0.length : Int)) = false := decide_eq_false c6
              clear c6
              obtain rfl := Option.some.inj H
              go_wp2
              go_ret
              exact ⟨by first | rfl | (simp [errW_none, errW_some] <;> rfl) | (simp [*, errW_none, errW_some] <;> rfl), by repeat (first | (with_reducible first | exact HB.out | apply below_alloc | apply pw_below_drewN | apply below_drew1) | exact HB.out)⟩

end Go.Proofs.Ythgcceochfjfcaa.PR
