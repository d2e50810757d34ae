-- Functions of this seat and what their calls come to: written by a program of this session over the kit's printing tool; the functions told by the session's own contracts are marked by these.
import Derived.Test.YthgcceochfjfcaaPRx0
import Derived.Test.YthgcceochfjfcaaPRx1
import Derived.Test.YthgcceochfjfcaaPRx4
namespace Go.Proofs.Ythgcceochfjfcaa.PR
open Go.RowKit Go.Proofs.YthgcceochfjfcaaW.PrintWords Go.Proofs.YthgcceochfjfcaaW.PrintLast Go.Proofs.YthgcceochfjfcaaW.PrintMore
attribute [local go_sem] max2_int min2_int max_two min_two max_three min_three max_four min_four   -- for this text's walks alone
set_option linter.unusedVariables false
set_option linter.unusedSimpArgs false

attribute [local go_sem high] eqA86
/-! ### impl_ReadsOk: function 29 -/
mutual
def impl_ReadsOk.j0 : Nat → List (S84) → List (S86) → Bool → Option (Bool)
  | 0, _, _, _ => none
  | k + 1, x0, x1, x20 => if x20 = true then (some false) else (impl_ReadsOk.l0 k x1 false 0 x0 (x0.length : Int) 0)
def impl_ReadsOk.l0 : Nat → List (S86) → Bool → Int → List (S84) → Int → Int → Option (Bool)
  | 0, _, _, _, _, _, _ => none
  | k + 1, x1, x5, x6, x21, x22, x23 => if x23 < x22 then (if 0 ≤ x23 then (if x23 < (x21.length : Int) then (if x23 < (x1.length : Int) then (if (rd_T84 x21 x23).f0 = true then ((impl_IvalOk.f ((rd_T84 x21 x23).f1.f0) ((rd_T84 x21 x23).f1.f1)).bind fun t111 => (impl_ReadsOk.j2 k x1 x5 x6 x21 x22 x23 (!t111) ((rd_T84 x21 x23).f0) ((rd_T84 x21 x23).f1.f0) ((rd_T84 x21 x23).f1.f1) ((rd_T86 x1 x23).f0) ((rd_T86 x1 x23).f1) ((rd_T86 x1 x23).f2))) else (impl_ReadsOk.j2 k x1 x5 x6 x21 x22 x23 false ((rd_T84 x21 x23).f0) ((rd_T84 x21 x23).f1.f0) ((rd_T84 x21 x23).f1.f1) ((rd_T86 x1 x23).f0) ((rd_T86 x1 x23).f1) ((rd_T86 x1 x23).f2))) else (none)) else (none)) else (none)) else (some true)
def impl_ReadsOk.j2 : Nat → List (S86) → Bool → Int → List (S84) → Int → Int → Bool → Bool → Int → Int → Int → Bool → Int → Option (Bool)
  | 0, _, _, _, _, _, _, _, _, _, _, _, _, _ => none
  | k + 1, x1, x5, x6, x21, x22, x23, x39, x109000, x109001, x109002, x111000, x111001, x111002 => if x39 = true then (some false) else (if x111002 = 2 then (if x109000 = true then (some false) else (if x5 = true then (some false) else (if (!(x111000 == 0) || (x111001 || (!(x111002 == 2)))) = true then (some false) else (impl_ReadsOk.l0 k x1 x5 x6 x21 x22 (wrap64 (x23 + 1)))))) else (if x109000 = true then (if x111001 = true then (if x111002 = 0 then (if x5 = true then (if x111000 = x6 then (if x111000 > x109002 then (impl_ReadsOk.l0 k x1 true x111000 x21 x22 (wrap64 (x23 + 1))) else (some false)) else (some false)) else (some false)) else (some false)) else (if x111002 = 0 then ((impl_Holds.f x109001 x109002 x111000).bind fun t112 => (if t112 = true then (if x5 = true then (if x111000 ≥ x6 then (impl_ReadsOk.l0 k x1 true x111000 x21 x22 (wrap64 (x23 + 1))) else (some false)) else (impl_ReadsOk.l0 k x1 true x111000 x21 x22 (wrap64 (x23 + 1)))) else (some false))) else (some false))) else (if x111002 = 0 then (if x111001 = true then (if x5 = true then (if x111000 = x6 then (impl_ReadsOk.l0 k x1 true x111000 x21 x22 (wrap64 (x23 + 1))) else (some false)) else (some false)) else (some false)) else (some false))))
end
def impl_ReadsOk.f (k : Nat) (l0 : List (S84)) (l1 : List (S86)) : Option (Bool) := if (l0.length : Int) > 200 then (impl_ReadsOk.j0 k l0 l1 true) else (impl_ReadsOk.j0 k l0 l1 ((l1.length : Int) != (l0.length : Int)))
theorem impl_ReadsOk.mono_l : ∀ k, (∀ y0 y1 y2, LeO (impl_ReadsOk.j0 k y0 y1 y2) (impl_ReadsOk.j0 (k + 1) y0 y1 y2)) ∧ (∀ y0 y1 y2 y3 y4 y5, LeO (impl_ReadsOk.l0 k y0 y1 y2 y3 y4 y5) (impl_ReadsOk.l0 (k + 1) y0 y1 y2 y3 y4 y5)) ∧ (∀ y0 y1 y2 y3 y4 y5 y6 y7 y8 y9 y10 y11 y12, LeO (impl_ReadsOk.j2 k y0 y1 y2 y3 y4 y5 y6 y7 y8 y9 y10 y11 y12) (impl_ReadsOk.j2 (k + 1) y0 y1 y2 y3 y4 y5 y6 y7 y8 y9 y10 y11 y12))
  | 0 => ⟨fun _ _ _ r h => by simp [impl_ReadsOk.j0] at h, fun _ _ _ _ _ _ r h => by simp [impl_ReadsOk.l0] at h, fun _ _ _ _ _ _ _ _ _ _ _ _ _ r h => by simp [impl_ReadsOk.j2] at h⟩
  | k + 1 => by
    obtain ⟨ih0, ih1, ih2⟩ := impl_ReadsOk.mono_l k
    refine ⟨?_, ?_, ?_⟩
    · intro y0 y1 y2
      unfold impl_ReadsOk.j0
      repeat' first
      | (with_reducible exact ih0 _ _ _)
      | (with_reducible exact ih1 _ _ _ _ _ _)
      | (with_reducible exact ih2 _ _ _ _ _ _ _ _ _ _ _ _ _)
      | (with_reducible exact LeO.refl _)
      | (with_reducible exact LeO.none _)
      | (with_reducible refine LeO.ite ?_ ?_)
      | (with_reducible refine LeO.bind ?_ (fun _ => ?_))
      | exact ih0 _ _ _
      | exact ih1 _ _ _ _ _ _
      | exact ih2 _ _ _ _ _ _ _ _ _ _ _ _ _
      | exact LeO.none _
      | refine LeO.ite ?_ ?_
      | refine LeO.bind ?_ (fun _ => ?_)
    · intro y0 y1 y2 y3 y4 y5
      unfold impl_ReadsOk.l0
      repeat' first
      | (with_reducible exact ih0 _ _ _)
      | (with_reducible exact ih1 _ _ _ _ _ _)
      | (with_reducible exact ih2 _ _ _ _ _ _ _ _ _ _ _ _ _)
      | (with_reducible exact LeO.refl _)
      | (with_reducible exact LeO.none _)
      | (with_reducible refine LeO.ite ?_ ?_)
      | (with_reducible refine LeO.bind ?_ (fun _ => ?_))
      | exact ih0 _ _ _
      | exact ih1 _ _ _ _ _ _
      | exact ih2 _ _ _ _ _ _ _ _ _ _ _ _ _
      | exact LeO.none _
      | refine LeO.ite ?_ ?_
      | refine LeO.bind ?_ (fun _ => ?_)
    · intro y0 y1 y2 y3 y4 y5 y6 y7 y8 y9 y10 y11 y12
      unfold impl_ReadsOk.j2
      repeat' first
      | (with_reducible exact ih0 _ _ _)
      | (with_reducible exact ih1 _ _ _ _ _ _)
      | (with_reducible exact ih2 _ _ _ _ _ _ _ _ _ _ _ _ _)
      | (with_reducible exact LeO.refl _)
      | (with_reducible exact LeO.none _)
      | (with_reducible refine LeO.ite ?_ ?_)
      | (with_reducible refine LeO.bind ?_ (fun _ => ?_))
      | exact ih0 _ _ _
      | exact ih1 _ _ _ _ _ _
      | exact ih2 _ _ _ _ _ _ _ _ _ _ _ _ _
      | exact LeO.none _
      | refine LeO.ite ?_ ?_
      | refine LeO.bind ?_ (fun _ => ?_)
theorem impl_ReadsOk.mono : ∀ a0 a1 k, LeO (impl_ReadsOk.f k a0 a1) (impl_ReadsOk.f (k + 1) a0 a1) := by
  intro a0 a1 k
  obtain ⟨ih0, ih1, ih2⟩ := impl_ReadsOk.mono_l k
  unfold impl_ReadsOk.f
  repeat' first
      | (with_reducible exact ih0 _ _ _)
      | (with_reducible exact ih1 _ _ _ _ _ _)
      | (with_reducible exact ih2 _ _ _ _ _ _ _ _ _ _ _ _ _)
      | (with_reducible exact LeO.refl _)
      | (with_reducible exact LeO.none _)
      | (with_reducible refine LeO.ite ?_ ?_)
      | (with_reducible refine LeO.bind ?_ (fun _ => ?_))
      | exact ih0 _ _ _
      | exact ih1 _ _ _ _ _ _
      | exact ih2 _ _ _ _ _ _ _ _ _ _ _ _ _
      | exact LeO.none _
      | refine LeO.ite ?_ ?_
      | refine LeO.bind ?_ (fun _ => ?_)
set_option maxHeartbeats 8000000 in
set_option maxRecDepth 100000 in
theorem impl_ReadsOk.calls (k : Nat) (A0 : Option Addr) (c0 : Nat) (l0 : List (S84)) (A1 : Option Addr) (c1 : Nat) (l1 : List (S86)) (r : Bool) (w : World) (hr0 : Kd.C k84 w A0 l0.length l0) (hc0 : l0.length ≤ c0) (hr1 : Kd.C k86 w A1 l1.length l1) (hc1 : l1.length ≤ c1) (h : impl_ReadsOk.f k l0 l1 = some r) :
    Calls Try.prog 29 #[.slice A0 l0.length c0, .slice A1 l1.length c1] w fun e w' => e = .returned (.bool r) ∧ Below w.heap.size w w' := by
  have hu84 := Try.underlying84
  have hu86 := Try.underlying86
  have hu31 := Try.underlying31
  have HR0 := Aside0.mk hr0
  have HC0 := Aside0.mk hc0
  clear hr0 hc0
  have HR1 := Aside0.mk hr1
  have HC1 := Aside0.mk hc1
  clear hr1 hc1
  have HB := Aside0.mk (Below.refl w.heap.size w)
  have H : (if (l0.length : Int) > 200 then (impl_ReadsOk.j0 k l0 l1 true) else (impl_ReadsOk.j0 k l0 l1 ((l1.length : Int) != (l0.length : Int)))) = some r := h
  clear h
  have HC3 := Aside0.mk H
  clear H
  go_enter Try.func29, Try.ntmps29
  go_upto_region 1 with (fail)
  repeat (go_quiet (fail); go_upto_region 1 with (fail))
  go_cut [20] (fun v20 wc => ∃ (kq : Nat) (x20_2 : Bool), v20 = .bool x20_2 ∧ Aside0 (impl_ReadsOk.j0 kq l0 l1 x20_2 = some r) ∧ Aside0 (kq ≤ k) ∧ Aside0 (Below w.heap.size w wc))
  case first =>
    have H := HC3.out
    clear HC3
    by_cases c4 : (l0.length : Int) > 200
    · rw [if_pos c4] at H
      have c4b0 : decide (200 < (l0.length : Int)) = true := decide_eq_true c4
      have c4b1 : decide (200 < l0.length) = true := decide_eq_true (by omega)
      clear c4
      (first | rw [c4b0] | (simp only [i64_w, i32_w]; rw [c4b0]) | skip)
      have H' := Aside0.mk H
      clear H
      go_wp2
      repeat (go_quiet (fail); try go_wp2)
      go_meet
      case rel => exact ⟨_, (true), (by first | rfl | (simp; done) | (simp [*]; done)), H', ⟨by first | omega | exact Nat.le_refl _⟩, ⟨by repeat (first | (with_reducible first | exact HB.out | apply below_alloc | apply pw_below_drewN | apply below_drew1) | exact HB.out)⟩⟩
    · rw [if_neg c4] at H
      have c4b0 : decide (200 < (l0.length : Int)) = false := decide_eq_false c4
      have c4b1 : decide (200 < l0.length) = false := decide_eq_false (by omega)
      clear c4
      (first | rw [c4b0] | (simp only [i64_w, i32_w]; rw [c4b0]) | skip)
      have H' := Aside0.mk H
      clear H
      go_wp2
      repeat (go_quiet (fail); try go_wp2)
      go_meet
      case rel => exact ⟨_, (((l1.length : Int) != (l0.length : Int))), (by first | rfl | (simp; done) | (simp [*]; done)), H', ⟨by first | omega | exact Nat.le_refl _⟩, ⟨by repeat (first | (with_reducible first | exact HB.out | apply below_alloc | apply pw_below_drewN | apply below_drew1) | exact HB.out)⟩⟩
  case rest =>
    clear HC3
    try clear c1
    try clear c2
    try clear p2
    try clear c4
    try clear c4b0
    try clear c4b1
    obtain ⟨kq, x20_2, rfl, HA, HJ2, HB⟩ := hcut
    cases kq with
    | zero => exact absurd HA.out (by simp [impl_ReadsOk.j0])
    | succ kj2 =>
      have H := HA.out
      clear HA
      simp only [impl_ReadsOk.j0] at H
      by_cases c5 : x20_2 = true
      · subst c5
        have H1 : (some false) = some r := by rw [if_pos rfl] at H; exact H
        clear H
        have H := H1
        clear H1
        obtain rfl := Option.some.inj H
        go_wp2
        repeat (go_quiet (fail); try go_wp2)
        go_ret
        exact ⟨by first | rfl | (simp [errW_none, errW_some] <;> rfl) | (simp [*, errW_none, errW_some] <;> rfl), by repeat (first | (with_reducible first | exact HB.out | apply below_alloc | apply pw_below_drewN | apply below_drew1) | exact HB.out)⟩
      · replace c5 := Bool.eq_false_iff.mpr c5
        subst c5
        have H1 : (impl_ReadsOk.l0 kj2 l1 false 0 l0 (l0.length : Int) 0) = some r := by rw [if_neg (show ¬ (false = true) by decide)] at H; exact H
        clear H
        have H := H1
        clear H1
        have H' := Aside0.mk H
        clear H
        go_wp2
        repeat (go_quiet (fail); try go_wp2)
        go_loopg [5, 6, 23] kj2 (fun kq v5 v6 v23 w' => ∃ (x5_2 : Bool) (x6_2 : Int) (x23_2 : Int), v5 = .bool x5_2 ∧ v6 = .int .i64 x6_2 ∧ v23 = .int .i64 x23_2 ∧ Aside0 (impl_ReadsOk.l0 kq l1 x5_2 x6_2 l0 (l0.length : Int) x23_2 = some r) ∧ Aside0 (kq ≤ kj2) ∧ Aside0 (Below w.heap.size w w'))
        case atStart => exact ⟨(false), (0), (0), (by first | rfl | (simp; done) | (simp [*]; done)), (by first | rfl | (simp; done) | (simp [*]; done)), (by first | rfl | (simp; done) | (simp [*]; done)), H', ⟨Nat.le_refl _⟩, ⟨by repeat (first | (with_reducible first | exact HB.out | apply below_alloc | apply pw_below_drewN | apply below_drew1) | exact HB.out)⟩⟩
        case round =>
          clear H'
          try clear c1
          try clear c2
          try clear p2
          try clear c4
          try clear c4b0
          try clear c4b1
          try clear c5
          try clear p2
          obtain ⟨x5_2, x6_2, x23_2, rfl, rfl, rfl, HA, HK2, HB⟩ := hrel
          cases gk with
          | zero => exact absurd HA.out (by simp [impl_ReadsOk.l0])
          | succ k2 =>
            have H := HA.out
            clear HA
            simp only [impl_ReadsOk.l0] at H
            by_cases c6 : x23_2 < (l0.length : Int)
            · rw [if_pos c6] at H
              have c6b0 : decide (x23_2 < (l0.length : Int)) = true := decide_eq_true c6
              clear c6
              by_cases c7 : 0 ≤ x23_2
              · rw [if_pos c7] at H
                have c7b0 : decide (0 ≤ x23_2) = true := decide_eq_true c7
                clear c7
                by_cases c8 : x23_2 < (l0.length : Int)
                · rw [if_pos c8] at H
                  have c8b0 : decide (x23_2 < (l0.length : Int)) = true := decide_eq_true c8
                  clear c8
                  by_cases c9 : x23_2 < (l1.length : Int)
                  · rw [if_pos c9] at H
                    have c9b0 : decide (x23_2 < (l1.length : Int)) = true := decide_eq_true c9
                    clear c9
                    have HC10 := Aside0.mk H
                    clear H
                    have p107 : 0 ≤ (x23_2 : Int) := of_decide_eq_true (by first | (with_reducible assumption) | assumption)
                    have q107 : x23_2 < (l0.length : Int) := of_decide_eq_true (by first | (with_reducible assumption) | assumption)
                    obtain ⟨ad107, e107, hx107_0, hx107_1, hx107_2⟩ := at_T84 HR0.out x23_2 p107 q107
                    cases e107
                    replace hx107_0 := (HB.out.cell (World.block_lt_of_cell? w _ hx107_0)).trans hx107_0
                    replace hx107_1 := (HB.out.cell (World.block_lt_of_cell? w _ hx107_1)).trans hx107_1
                    replace hx107_2 := (HB.out.cell (World.block_lt_of_cell? w _ hx107_2)).trans hx107_2
                    replace p107 := eq_true p107
                    replace q107 := eq_true q107
                    go_upto_region 8 with (first | ((with_reducible refine gate_dst (N := 8) rfl ?_); (try (refine gate_guard (by rfl) ?_; dsimp only)); refine box_event ?hg (N := 8) ?hd (cs := #[.bool false, .int .i64 0, .int .i64 0]) (t := 84) ?hr ?_; (case hd => rfl); (case hg => rfl); (case hr => first | (go_simp; done) | (go_simp; rfl)); intro gb108 hg w11 hbox hb; have n0_ := Aside0.mk (below_step (by repeat (first | (with_reducible first | exact HB.out | apply below_alloc | apply pw_below_drewN | apply below_drew1) | exact HB.out)) hb); have n1_ := Aside0.mk (hbox); have n2_ := Aside0.mk ((by rw [hg]; exact (below_size (by repeat (first | (with_reducible first | exact HB.out | apply below_alloc | apply pw_below_drewN | apply below_drew1) | exact HB.out))) : w.heap.size ≤ gb108)); have n3_ := Aside0.mk ((by rw [hg]; exact (below_size (by repeat (first | (with_reducible first | exact HB.out | apply below_alloc | apply pw_below_drewN | apply below_drew1) | exact HB.out))) : w.heap.size ≤ gb108)); clear HB; have HB := n0_; have BK108 := n1_; have GW108 := n2_; have GE108 := n3_; clear n0_ n1_ n2_ n3_; clear hb hbox hg; have hcz12_0 : w11.cell? ⟨gb108, 0, none⟩ = some (.bool false) := (blk_cell BK108.out 0).trans rfl; have hcz12_1 : w11.cell? ⟨gb108, 1, none⟩ = some (.int .i64 0) := (blk_cell BK108.out 1).trans rfl; have hcz12_2 : w11.cell? ⟨gb108, 2, none⟩ = some (.int .i64 0) := (blk_cell BK108.out 2).trans rfl; have hfz12_0 := blk_frozen BK108.out 0; have hfz12_1 := blk_frozen BK108.out 1; have hfz12_2 := blk_frozen BK108.out 2; have p109 : 0 ≤ (x23_2 : Int) := of_decide_eq_true (by first | (with_reducible assumption) | assumption); have q109 : x23_2 < (l1.length : Int) := of_decide_eq_true (by first | (with_reducible assumption) | assumption); obtain ⟨ad109, e109, hx109_0, hx109_1, hx109_2⟩ := at_T86 HR1.out x23_2 p109 q109; cases e109; have hn109_0 : ad109.block ≠ gb108 := Nat.ne_of_lt (Nat.lt_of_lt_of_le (by have := World.block_lt_of_cell? _ _ hx109_0; first | rwa [add_block] at this | exact this) GW108.out); have hn109_1 : ad109.block ≠ gb108 := Nat.ne_of_lt (Nat.lt_of_lt_of_le (by have := World.block_lt_of_cell? _ _ hx109_0; first | rwa [add_block] at this | exact this) GW108.out); have hn109_2 : ad109.block ≠ gb108 := Nat.ne_of_lt (Nat.lt_of_lt_of_le (by have := World.block_lt_of_cell? _ _ hx109_0; first | rwa [add_block] at this | exact this) GW108.out); replace hx109_0 := (HB.out.cell (World.block_lt_of_cell? w _ hx109_0)).trans hx109_0; replace hx109_1 := (HB.out.cell (World.block_lt_of_cell? w _ hx109_1)).trans hx109_1; replace hx109_2 := (HB.out.cell (World.block_lt_of_cell? w _ hx109_2)).trans hx109_2; replace hx109_0 := (cell_far (p := ⟨gb108, 0, none⟩) (by first | (rw [add_block]; exact hn109_0) | (show (Addr.add _ _).block ≠ _; rw [add_block]; exact hn109_0) | exact hn109_0) (.bool ((rd_T84 l0 x23_2).f0))).trans hx109_0; replace hx109_1 := (cell_far (p := ⟨gb108, 0, none⟩) (by first | (rw [add_block]; exact hn109_0) | (show (Addr.add _ _).block ≠ _; rw [add_block]; exact hn109_0) | exact hn109_0) (.bool ((rd_T84 l0 x23_2).f0))).trans hx109_1; replace hx109_2 := (cell_far (p := ⟨gb108, 0, none⟩) (by first | (rw [add_block]; exact hn109_0) | (show (Addr.add _ _).block ≠ _; rw [add_block]; exact hn109_0) | exact hn109_0) (.bool ((rd_T84 l0 x23_2).f0))).trans hx109_2; replace hx109_0 := (cell_far (p := ⟨gb108, 1, none⟩) (by first | (rw [add_block]; exact hn109_1) | (show (Addr.add _ _).block ≠ _; rw [add_block]; exact hn109_1) | exact hn109_1) (.int .i64 ((rd_T84 l0 x23_2).f1.f0))).trans hx109_0; replace hx109_1 := (cell_far (p := ⟨gb108, 1, none⟩) (by first | (rw [add_block]; exact hn109_1) | (show (Addr.add _ _).block ≠ _; rw [add_block]; exact hn109_1) | exact hn109_1) (.int .i64 ((rd_T84 l0 x23_2).f1.f0))).trans hx109_1; replace hx109_2 := (cell_far (p := ⟨gb108, 1, none⟩) (by first | (rw [add_block]; exact hn109_1) | (show (Addr.add _ _).block ≠ _; rw [add_block]; exact hn109_1) | exact hn109_1) (.int .i64 ((rd_T84 l0 x23_2).f1.f0))).trans hx109_2; replace hx109_0 := (cell_far (p := ⟨gb108, 2, none⟩) (by first | (rw [add_block]; exact hn109_2) | (show (Addr.add _ _).block ≠ _; rw [add_block]; exact hn109_2) | exact hn109_2) (.int .i64 ((rd_T84 l0 x23_2).f1.f1))).trans hx109_0; replace hx109_1 := (cell_far (p := ⟨gb108, 2, none⟩) (by first | (rw [add_block]; exact hn109_2) | (show (Addr.add _ _).block ≠ _; rw [add_block]; exact hn109_2) | exact hn109_2) (.int .i64 ((rd_T84 l0 x23_2).f1.f1))).trans hx109_1; replace hx109_2 := (cell_far (p := ⟨gb108, 2, none⟩) (by first | (rw [add_block]; exact hn109_2) | (show (Addr.add _ _).block ≠ _; rw [add_block]; exact hn109_2) | exact hn109_2) (.int .i64 ((rd_T84 l0 x23_2).f1.f1))).trans hx109_2; (try have hy109_0 := fun (n_ : Nat) => (show (((((w11.drewN n_).setCell ⟨gb108, 0, none⟩ (.bool ((rd_T84 l0 x23_2).f0))).setCell ⟨gb108, 1, none⟩ (.int .i64 ((rd_T84 l0 x23_2).f1.f0))).setCell ⟨gb108, 2, none⟩ (.int .i64 ((rd_T84 l0 x23_2).f1.f1)))).cell? _ = some _ from hx109_0)); (try have hy109_1 := fun (n_ : Nat) => (show (((((w11.drewN n_).setCell ⟨gb108, 0, none⟩ (.bool ((rd_T84 l0 x23_2).f0))).setCell ⟨gb108, 1, none⟩ (.int .i64 ((rd_T84 l0 x23_2).f1.f0))).setCell ⟨gb108, 2, none⟩ (.int .i64 ((rd_T84 l0 x23_2).f1.f1)))).cell? _ = some _ from hx109_1)); (try have hy109_2 := fun (n_ : Nat) => (show (((((w11.drewN n_).setCell ⟨gb108, 0, none⟩ (.bool ((rd_T84 l0 x23_2).f0))).setCell ⟨gb108, 1, none⟩ (.int .i64 ((rd_T84 l0 x23_2).f1.f0))).setCell ⟨gb108, 2, none⟩ (.int .i64 ((rd_T84 l0 x23_2).f1.f1)))).cell? _ = some _ from hx109_2)); clear hn109_0; clear hn109_1; clear hn109_2; replace p109 := eq_true p109; replace q109 := eq_true q109) | ((with_reducible refine gate_dst (N := 9) rfl ?_); (try (refine gate_guard (by rfl) ?_; dsimp only)); refine box_event ?hg (N := 9) ?hd (cs := #[.int .i64 0, .bool false, .int .i64 0]) (t := 86) ?hr ?_; (case hd => rfl); (case hg => rfl); (case hr => first | (go_simp; done) | (go_simp; rfl)); intro gb110 hg w13 hbox hb; have n0_ := Aside0.mk (blk_below (g := gb108) (o := .cells #[.bool ((rd_T84 l0 x23_2).f0), .int .i64 ((rd_T84 l0 x23_2).f1.f0), .int .i64 ((rd_T84 l0 x23_2).f1.f1)] 84 (0, 0)) (by (with_reducible repeat (first | refine blk_drewN ?_ _ | refine blk_drew ?_ | refine blk_alloc ?_ _)); refine blk_put (cs := #[.bool ((rd_T84 l0 x23_2).f0), .int .i64 ((rd_T84 l0 x23_2).f1.f0), .int .i64 0]) ?_ 2 _ rfl; (with_reducible repeat (first | refine blk_drewN ?_ _ | refine blk_drew ?_ | refine blk_alloc ?_ _)); refine blk_put (cs := #[.bool ((rd_T84 l0 x23_2).f0), .int .i64 0, .int .i64 0]) ?_ 1 _ rfl; (with_reducible repeat (first | refine blk_drewN ?_ _ | refine blk_drew ?_ | refine blk_alloc ?_ _)); refine blk_put (cs := #[.bool false, .int .i64 0, .int .i64 0]) ?_ 0 _ rfl; (with_reducible repeat (first | refine blk_drewN ?_ _ | refine blk_drew ?_ | refine blk_alloc ?_ _)); exact BK108.out) hb); have n1_ := Aside0.mk (below_step (by repeat (first | (with_reducible first | exact HB.out | apply below_alloc | apply pw_below_drewN | apply below_drew1 | refine below_set ?_ GE108.out) | exact HB.out)) hb); have n2_ := Aside0.mk (hbox); have n3_ := Aside0.mk ((by rw [hg]; exact (below_size (by repeat (first | (with_reducible first | exact HB.out | apply below_alloc | apply pw_below_drewN | apply below_drew1 | refine below_set ?_ GE108.out) | exact HB.out))) : w.heap.size ≤ gb110)); have n4_ := Aside0.mk ((by rw [hg]; exact (below_size (by repeat (first | (with_reducible first | exact HB.out | apply below_alloc | apply pw_below_drewN | apply below_drew1 | refine below_set ?_ GE108.out) | exact HB.out))) : w.heap.size ≤ gb110)); have n5_ := Aside0.mk ((by rw [hg]; exact Nat.ne_of_lt (blk_lt (g := gb108) (o := .cells #[.bool ((rd_T84 l0 x23_2).f0), .int .i64 ((rd_T84 l0 x23_2).f1.f0), .int .i64 ((rd_T84 l0 x23_2).f1.f1)] 84 (0, 0)) (by (with_reducible repeat (first | refine blk_drewN ?_ _ | refine blk_drew ?_ | refine blk_alloc ?_ _)); refine blk_put (cs := #[.bool ((rd_T84 l0 x23_2).f0), .int .i64 ((rd_T84 l0 x23_2).f1.f0), .int .i64 0]) ?_ 2 _ rfl; (with_reducible repeat (first | refine blk_drewN ?_ _ | refine blk_drew ?_ | refine blk_alloc ?_ _)); refine blk_put (cs := #[.bool ((rd_T84 l0 x23_2).f0), .int .i64 0, .int .i64 0]) ?_ 1 _ rfl; (with_reducible repeat (first | refine blk_drewN ?_ _ | refine blk_drew ?_ | refine blk_alloc ?_ _)); refine blk_put (cs := #[.bool false, .int .i64 0, .int .i64 0]) ?_ 0 _ rfl; (with_reducible repeat (first | refine blk_drewN ?_ _ | refine blk_drew ?_ | refine blk_alloc ?_ _)); exact BK108.out)) : gb108 ≠ gb110)); have n6_ := Aside0.mk ((by rw [hg]; exact Nat.ne_of_gt (blk_lt (g := gb108) (o := .cells #[.bool ((rd_T84 l0 x23_2).f0), .int .i64 ((rd_T84 l0 x23_2).f1.f0), .int .i64 ((rd_T84 l0 x23_2).f1.f1)] 84 (0, 0)) (by (with_reducible repeat (first | refine blk_drewN ?_ _ | refine blk_drew ?_ | refine blk_alloc ?_ _)); refine blk_put (cs := #[.bool ((rd_T84 l0 x23_2).f0), .int .i64 ((rd_T84 l0 x23_2).f1.f0), .int .i64 0]) ?_ 2 _ rfl; (with_reducible repeat (first | refine blk_drewN ?_ _ | refine blk_drew ?_ | refine blk_alloc ?_ _)); refine blk_put (cs := #[.bool ((rd_T84 l0 x23_2).f0), .int .i64 0, .int .i64 0]) ?_ 1 _ rfl; (with_reducible repeat (first | refine blk_drewN ?_ _ | refine blk_drew ?_ | refine blk_alloc ?_ _)); refine blk_put (cs := #[.bool false, .int .i64 0, .int .i64 0]) ?_ 0 _ rfl; (with_reducible repeat (first | refine blk_drewN ?_ _ | refine blk_drew ?_ | refine blk_alloc ?_ _)); exact BK108.out)) : gb110 ≠ gb108)); clear BK108; clear HB; have BK108 := n0_; have HB := n1_; have BK110 := n2_; have GW110 := n3_; have GE110 := n4_; have NB108_110 := n5_; have NB110_108 := n6_; clear n0_ n1_ n2_ n3_ n4_ n5_ n6_; clear hb hbox hg; have hnb14 := NB110_108.out; have hnc14 := NB108_110.out; have hcz15_0 : w13.cell? ⟨gb110, 0, none⟩ = some (.int .i64 0) := (blk_cell BK110.out 0).trans rfl; have hcz15_1 : w13.cell? ⟨gb110, 1, none⟩ = some (.bool false) := (blk_cell BK110.out 1).trans rfl; have hcz15_2 : w13.cell? ⟨gb110, 2, none⟩ = some (.int .i64 0) := (blk_cell BK110.out 2).trans rfl; have hfz15_0 := blk_frozen BK110.out 0; have hfz15_1 := blk_frozen BK110.out 1; have hfz15_2 := blk_frozen BK110.out 2))
                    repeat (go_quiet (first | ((with_reducible refine gate_dst (N := 8) rfl ?_); (try (refine gate_guard (by rfl) ?_; dsimp only)); refine box_event ?hg (N := 8) ?hd (cs := #[.bool false, .int .i64 0, .int .i64 0]) (t := 84) ?hr ?_; (case hd => rfl); (case hg => rfl); (case hr => first | (go_simp; done) | (go_simp; rfl)); intro gb108 hg w11 hbox hb; have n0_ := Aside0.mk (below_step (by repeat (first | (with_reducible first | exact HB.out | apply below_alloc | apply pw_below_drewN | apply below_drew1) | exact HB.out)) hb); have n1_ := Aside0.mk (hbox); have n2_ := Aside0.mk ((by rw [hg]; exact (below_size (by repeat (first | (with_reducible first | exact HB.out | apply below_alloc | apply pw_below_drewN | apply below_drew1) | exact HB.out))) : w.heap.size ≤ gb108)); have n3_ := Aside0.mk ((by rw [hg]; exact (below_size (by repeat (first | (with_reducible first | exact HB.out | apply below_alloc | apply pw_below_drewN | apply below_drew1) | exact HB.out))) : w.heap.size ≤ gb108)); clear HB; have HB := n0_; have BK108 := n1_; have GW108 := n2_; have GE108 := n3_; clear n0_ n1_ n2_ n3_; clear hb hbox hg; have hcz12_0 : w11.cell? ⟨gb108, 0, none⟩ = some (.bool false) := (blk_cell BK108.out 0).trans rfl; have hcz12_1 : w11.cell? ⟨gb108, 1, none⟩ = some (.int .i64 0) := (blk_cell BK108.out 1).trans rfl; have hcz12_2 : w11.cell? ⟨gb108, 2, none⟩ = some (.int .i64 0) := (blk_cell BK108.out 2).trans rfl; have hfz12_0 := blk_frozen BK108.out 0; have hfz12_1 := blk_frozen BK108.out 1; have hfz12_2 := blk_frozen BK108.out 2; have p109 : 0 ≤ (x23_2 : Int) := of_decide_eq_true (by first | (with_reducible assumption) | assumption); have q109 : x23_2 < (l1.length : Int) := of_decide_eq_true (by first | (with_reducible assumption) | assumption); obtain ⟨ad109, e109, hx109_0, hx109_1, hx109_2⟩ := at_T86 HR1.out x23_2 p109 q109; cases e109; have hn109_0 : ad109.block ≠ gb108 := Nat.ne_of_lt (Nat.lt_of_lt_of_le (by have := World.block_lt_of_cell? _ _ hx109_0; first | rwa [add_block] at this | exact this) GW108.out); have hn109_1 : ad109.block ≠ gb108 := Nat.ne_of_lt (Nat.lt_of_lt_of_le (by have := World.block_lt_of_cell? _ _ hx109_0; first | rwa [add_block] at this | exact this) GW108.out); have hn109_2 : ad109.block ≠ gb108 := Nat.ne_of_lt (Nat.lt_of_lt_of_le (by have := World.block_lt_of_cell? _ _ hx109_0; first | rwa [add_block] at this | exact this) GW108.out); replace hx109_0 := (HB.out.cell (World.block_lt_of_cell? w _ hx109_0)).trans hx109_0; replace hx109_1 := (HB.out.cell (World.block_lt_of_cell? w _ hx109_1)).trans hx109_1; replace hx109_2 := (HB.out.cell (World.block_lt_of_cell? w _ hx109_2)).trans hx109_2; replace hx109_0 := (cell_far (p := ⟨gb108, 0, none⟩) (by first | (rw [add_block]; exact hn109_0) | (show (Addr.add _ _).block ≠ _; rw [add_block]; exact hn109_0) | exact hn109_0) (.bool ((rd_T84 l0 x23_2).f0))).trans hx109_0; replace hx109_1 := (cell_far (p := ⟨gb108, 0, none⟩) (by first | (rw [add_block]; exact hn109_0) | (show (Addr.add _ _).block ≠ _; rw [add_block]; exact hn109_0) | exact hn109_0) (.bool ((rd_T84 l0 x23_2).f0))).trans hx109_1; replace hx109_2 := (cell_far (p := ⟨gb108, 0, none⟩) (by first | (rw [add_block]; exact hn109_0) | (show (Addr.add _ _).block ≠ _; rw [add_block]; exact hn109_0) | exact hn109_0) (.bool ((rd_T84 l0 x23_2).f0))).trans hx109_2; replace hx109_0 := (cell_far (p := ⟨gb108, 1, none⟩) (by first | (rw [add_block]; exact hn109_1) | (show (Addr.add _ _).block ≠ _; rw [add_block]; exact hn109_1) | exact hn109_1) (.int .i64 ((rd_T84 l0 x23_2).f1.f0))).trans hx109_0; replace hx109_1 := (cell_far (p := ⟨gb108, 1, none⟩) (by first | (rw [add_block]; exact hn109_1) | (show (Addr.add _ _).block ≠ _; rw [add_block]; exact hn109_1) | exact hn109_1) (.int .i64 ((rd_T84 l0 x23_2).f1.f0))).trans hx109_1; replace hx109_2 := (cell_far (p := ⟨gb108, 1, none⟩) (by first | (rw [add_block]; exact hn109_1) | (show (Addr.add _ _).block ≠ _; rw [add_block]; exact hn109_1) | exact hn109_1) (.int .i64 ((rd_T84 l0 x23_2).f1.f0))).trans hx109_2; replace hx109_0 := (cell_far (p := ⟨gb108, 2, none⟩) (by first | (rw [add_block]; exact hn109_2) | (show (Addr.add _ _).block ≠ _; rw [add_block]; exact hn109_2) | exact hn109_2) (.int .i64 ((rd_T84 l0 x23_2).f1.f1))).trans hx109_0; replace hx109_1 := (cell_far (p := ⟨gb108, 2, none⟩) (by first | (rw [add_block]; exact hn109_2) | (show (Addr.add _ _).block ≠ _; rw [add_block]; exact hn109_2) | exact hn109_2) (.int .i64 ((rd_T84 l0 x23_2).f1.f1))).trans hx109_1; replace hx109_2 := (cell_far (p := ⟨gb108, 2, none⟩) (by first | (rw [add_block]; exact hn109_2) | (show (Addr.add _ _).block ≠ _; rw [add_block]; exact hn109_2) | exact hn109_2) (.int .i64 ((rd_T84 l0 x23_2).f1.f1))).trans hx109_2; (try have hy109_0 := fun (n_ : Nat) => (show (((((w11.drewN n_).setCell ⟨gb108, 0, none⟩ (.bool ((rd_T84 l0 x23_2).f0))).setCell ⟨gb108, 1, none⟩ (.int .i64 ((rd_T84 l0 x23_2).f1.f0))).setCell ⟨gb108, 2, none⟩ (.int .i64 ((rd_T84 l0 x23_2).f1.f1)))).cell? _ = some _ from hx109_0)); (try have hy109_1 := fun (n_ : Nat) => (show (((((w11.drewN n_).setCell ⟨gb108, 0, none⟩ (.bool ((rd_T84 l0 x23_2).f0))).setCell ⟨gb108, 1, none⟩ (.int .i64 ((rd_T84 l0 x23_2).f1.f0))).setCell ⟨gb108, 2, none⟩ (.int .i64 ((rd_T84 l0 x23_2).f1.f1)))).cell? _ = some _ from hx109_1)); (try have hy109_2 := fun (n_ : Nat) => (show (((((w11.drewN n_).setCell ⟨gb108, 0, none⟩ (.bool ((rd_T84 l0 x23_2).f0))).setCell ⟨gb108, 1, none⟩ (.int .i64 ((rd_T84 l0 x23_2).f1.f0))).setCell ⟨gb108, 2, none⟩ (.int .i64 ((rd_T84 l0 x23_2).f1.f1)))).cell? _ = some _ from hx109_2)); clear hn109_0; clear hn109_1; clear hn109_2; replace p109 := eq_true p109; replace q109 := eq_true q109) | ((with_reducible refine gate_dst (N := 9) rfl ?_); (try (refine gate_guard (by rfl) ?_; dsimp only)); refine box_event ?hg (N := 9) ?hd (cs := #[.int .i64 0, .bool false, .int .i64 0]) (t := 86) ?hr ?_; (case hd => rfl); (case hg => rfl); (case hr => first | (go_simp; done) | (go_simp; rfl)); intro gb110 hg w13 hbox hb; have n0_ := Aside0.mk (blk_below (g := gb108) (o := .cells #[.bool ((rd_T84 l0 x23_2).f0), .int .i64 ((rd_T84 l0 x23_2).f1.f0), .int .i64 ((rd_T84 l0 x23_2).f1.f1)] 84 (0, 0)) (by (with_reducible repeat (first | refine blk_drewN ?_ _ | refine blk_drew ?_ | refine blk_alloc ?_ _)); refine blk_put (cs := #[.bool ((rd_T84 l0 x23_2).f0), .int .i64 ((rd_T84 l0 x23_2).f1.f0), .int .i64 0]) ?_ 2 _ rfl; (with_reducible repeat (first | refine blk_drewN ?_ _ | refine blk_drew ?_ | refine blk_alloc ?_ _)); refine blk_put (cs := #[.bool ((rd_T84 l0 x23_2).f0), .int .i64 0, .int .i64 0]) ?_ 1 _ rfl; (with_reducible repeat (first | refine blk_drewN ?_ _ | refine blk_drew ?_ | refine blk_alloc ?_ _)); refine blk_put (cs := #[.bool false, .int .i64 0, .int .i64 0]) ?_ 0 _ rfl; (with_reducible repeat (first | refine blk_drewN ?_ _ | refine blk_drew ?_ | refine blk_alloc ?_ _)); exact BK108.out) hb); have n1_ := Aside0.mk (below_step (by repeat (first | (with_reducible first | exact HB.out | apply below_alloc | apply pw_below_drewN | apply below_drew1 | refine below_set ?_ GE108.out) | exact HB.out)) hb); have n2_ := Aside0.mk (hbox); have n3_ := Aside0.mk ((by rw [hg]; exact (below_size (by repeat (first | (with_reducible first | exact HB.out | apply below_alloc | apply pw_below_drewN | apply below_drew1 | refine below_set ?_ GE108.out) | exact HB.out))) : w.heap.size ≤ gb110)); have n4_ := Aside0.mk ((by rw [hg]; exact (below_size (by repeat (first | (with_reducible first | exact HB.out | apply below_alloc | apply pw_below_drewN | apply below_drew1 | refine below_set ?_ GE108.out) | exact HB.out))) : w.heap.size ≤ gb110)); have n5_ := Aside0.mk ((by rw [hg]; exact Nat.ne_of_lt (blk_lt (g := gb108) (o := .cells #[.bool ((rd_T84 l0 x23_2).f0), .int .i64 ((rd_T84 l0 x23_2).f1.f0), .int .i64 ((rd_T84 l0 x23_2).f1.f1)] 84 (0, 0)) (by (with_reducible repeat (first | refine blk_drewN ?_ _ | refine blk_drew ?_ | refine blk_alloc ?_ _)); refine blk_put (cs := #[.bool ((rd_T84 l0 x23_2).f0), .int .i64 ((rd_T84 l0 x23_2).f1.f0), .int .i64 0]) ?_ 2 _ rfl; (with_reducible repeat (first | refine blk_drewN ?_ _ | refine blk_drew ?_ | refine blk_alloc ?_ _)); refine blk_put (cs := #[.bool ((rd_T84 l0 x23_2).f0), .int .i64 0, .int .i64 0]) ?_ 1 _ rfl; (with_reducible repeat (first | refine blk_drewN ?_ _ | refine blk_drew ?_ | refine blk_alloc ?_ _)); refine blk_put (cs := #[.bool false, .int .i64 0, .int .i64 0]) ?_ 0 _ rfl; (with_reducible repeat (first | refine blk_drewN ?_ _ | refine blk_drew ?_ | refine blk_alloc ?_ _)); exact BK108.out)) : gb108 ≠ gb110)); have n6_ := Aside0.mk ((by rw [hg]; exact Nat.ne_of_gt (blk_lt (g := gb108) (o := .cells #[.bool ((rd_T84 l0 x23_2).f0), .int .i64 ((rd_T84 l0 x23_2).f1.f0), .int .i64 ((rd_T84 l0 x23_2).f1.f1)] 84 (0, 0)) (by (with_reducible repeat (first | refine blk_drewN ?_ _ | refine blk_drew ?_ | refine blk_alloc ?_ _)); refine blk_put (cs := #[.bool ((rd_T84 l0 x23_2).f0), .int .i64 ((rd_T84 l0 x23_2).f1.f0), .int .i64 0]) ?_ 2 _ rfl; (with_reducible repeat (first | refine blk_drewN ?_ _ | refine blk_drew ?_ | refine blk_alloc ?_ _)); refine blk_put (cs := #[.bool ((rd_T84 l0 x23_2).f0), .int .i64 0, .int .i64 0]) ?_ 1 _ rfl; (with_reducible repeat (first | refine blk_drewN ?_ _ | refine blk_drew ?_ | refine blk_alloc ?_ _)); refine blk_put (cs := #[.bool false, .int .i64 0, .int .i64 0]) ?_ 0 _ rfl; (with_reducible repeat (first | refine blk_drewN ?_ _ | refine blk_drew ?_ | refine blk_alloc ?_ _)); exact BK108.out)) : gb110 ≠ gb108)); clear BK108; clear HB; have BK108 := n0_; have HB := n1_; have BK110 := n2_; have GW110 := n3_; have GE110 := n4_; have NB108_110 := n5_; have NB110_108 := n6_; clear n0_ n1_ n2_ n3_ n4_ n5_ n6_; clear hb hbox hg; have hnb14 := NB110_108.out; have hnc14 := NB108_110.out; have hcz15_0 : w13.cell? ⟨gb110, 0, none⟩ = some (.int .i64 0) := (blk_cell BK110.out 0).trans rfl; have hcz15_1 : w13.cell? ⟨gb110, 1, none⟩ = some (.bool false) := (blk_cell BK110.out 1).trans rfl; have hcz15_2 : w13.cell? ⟨gb110, 2, none⟩ = some (.int .i64 0) := (blk_cell BK110.out 2).trans rfl; have hfz15_0 := blk_frozen BK110.out 0; have hfz15_1 := blk_frozen BK110.out 1; have hfz15_2 := blk_frozen BK110.out 2)); go_upto_region 8 with (first | ((with_reducible refine gate_dst (N := 8) rfl ?_); (try (refine gate_guard (by rfl) ?_; dsimp only)); refine box_event ?hg (N := 8) ?hd (cs := #[.bool false, .int .i64 0, .int .i64 0]) (t := 84) ?hr ?_; (case hd => rfl); (case hg => rfl); (case hr => first | (go_simp; done) | (go_simp; rfl)); intro gb108 hg w11 hbox hb; have n0_ := Aside0.mk (below_step (by repeat (first | (with_reducible first | exact HB.out | apply below_alloc | apply pw_below_drewN | apply below_drew1) | exact HB.out)) hb); have n1_ := Aside0.mk (hbox); have n2_ := Aside0.mk ((by rw [hg]; exact (below_size (by repeat (first | (with_reducible first | exact HB.out | apply below_alloc | apply pw_below_drewN | apply below_drew1) | exact HB.out))) : w.heap.size ≤ gb108)); have n3_ := Aside0.mk ((by rw [hg]; exact (below_size (by repeat (first | (with_reducible first | exact HB.out | apply below_alloc | apply pw_below_drewN | apply below_drew1) | exact HB.out))) : w.heap.size ≤ gb108)); clear HB; have HB := n0_; have BK108 := n1_; have GW108 := n2_; have GE108 := n3_; clear n0_ n1_ n2_ n3_; clear hb hbox hg; have hcz12_0 : w11.cell? ⟨gb108, 0, none⟩ = some (.bool false) := (blk_cell BK108.out 0).trans rfl; have hcz12_1 : w11.cell? ⟨gb108, 1, none⟩ = some (.int .i64 0) := (blk_cell BK108.out 1).trans rfl; have hcz12_2 : w11.cell? ⟨gb108, 2, none⟩ = some (.int .i64 0) := (blk_cell BK108.out 2).trans rfl; have hfz12_0 := blk_frozen BK108.out 0; have hfz12_1 := blk_frozen BK108.out 1; have hfz12_2 := blk_frozen BK108.out 2; have p109 : 0 ≤ (x23_2 : Int) := of_decide_eq_true (by first | (with_reducible assumption) | assumption); have q109 : x23_2 < (l1.length : Int) := of_decide_eq_true (by first | (with_reducible assumption) | assumption); obtain ⟨ad109, e109, hx109_0, hx109_1, hx109_2⟩ := at_T86 HR1.out x23_2 p109 q109; cases e109; have hn109_0 : ad109.block ≠ gb108 := Nat.ne_of_lt (Nat.lt_of_lt_of_le (by have := World.block_lt_of_cell? _ _ hx109_0; first | rwa [add_block] at this | exact this) GW108.out); have hn109_1 : ad109.block ≠ gb108 := Nat.ne_of_lt (Nat.lt_of_lt_of_le (by have := World.block_lt_of_cell? _ _ hx109_0; first | rwa [add_block] at this | exact this) GW108.out); have hn109_2 : ad109.block ≠ gb108 := Nat.ne_of_lt (Nat.lt_of_lt_of_le (by have := World.block_lt_of_cell? _ _ hx109_0; first | rwa [add_block] at this | exact this) GW108.out); replace hx109_0 := (HB.out.cell (World.block_lt_of_cell? w _ hx109_0)).trans hx109_0; replace hx109_1 := (HB.out.cell (World.block_lt_of_cell? w _ hx109_1)).trans hx109_1; replace hx109_2 := (HB.out.cell (World.block_lt_of_cell? w _ hx109_2)).trans hx109_2; replace hx109_0 := (cell_far (p := ⟨gb108, 0, none⟩) (by first | (rw [add_block]; exact hn109_0) | (show (Addr.add _ _).block ≠ _; rw [add_block]; exact hn109_0) | exact hn109_0) (.bool ((rd_T84 l0 x23_2).f0))).trans hx109_0; replace hx109_1 := (cell_far (p := ⟨gb108, 0, none⟩) (by first | (rw [add_block]; exact hn109_0) | (show (Addr.add _ _).block ≠ _; rw [add_block]; exact hn109_0) | exact hn109_0) (.bool ((rd_T84 l0 x23_2).f0))).trans hx109_1; replace hx109_2 := (cell_far (p := ⟨gb108, 0, none⟩) (by first | (rw [add_block]; exact hn109_0) | (show (Addr.add _ _).block ≠ _; rw [add_block]; exact hn109_0) | exact hn109_0) (.bool ((rd_T84 l0 x23_2).f0))).trans hx109_2; replace hx109_0 := (cell_far (p := ⟨gb108, 1, none⟩) (by first | (rw [add_block]; exact hn109_1) | (show (Addr.add _ _).block ≠ _; rw [add_block]; exact hn109_1) | exact hn109_1) (.int .i64 ((rd_T84 l0 x23_2).f1.f0))).trans hx109_0; replace hx109_1 := (cell_far (p := ⟨gb108, 1, none⟩) (by first | (rw [add_block]; exact hn109_1) | (show (Addr.add _ _).block ≠ _; rw [add_block]; exact hn109_1) | exact hn109_1) (.int .i64 ((rd_T84 l0 x23_2).f1.f0))).trans hx109_1; replace hx109_2 := (cell_far (p := ⟨gb108, 1, none⟩) (by first | (rw [add_block]; exact hn109_1) | (show (Addr.add _ _).block ≠ _; rw [add_block]; exact hn109_1) | exact hn109_1) (.int .i64 ((rd_T84 l0 x23_2).f1.f0))).trans hx109_2; replace hx109_0 := (cell_far (p := ⟨gb108, 2, none⟩) (by first | (rw [add_block]; exact hn109_2) | (show (Addr.add _ _).block ≠ _; rw [add_block]; exact hn109_2) | exact hn109_2) (.int .i64 ((rd_T84 l0 x23_2).f1.f1))).trans hx109_0; replace hx109_1 := (cell_far (p := ⟨gb108, 2, none⟩) (by first | (rw [add_block]; exact hn109_2) | (show (Addr.add _ _).block ≠ _; rw [add_block]; exact hn109_2) | exact hn109_2) (.int .i64 ((rd_T84 l0 x23_2).f1.f1))).trans hx109_1; replace hx109_2 := (cell_far (p := ⟨gb108, 2, none⟩) (by first | (rw [add_block]; exact hn109_2) | (show (Addr.add _ _).block ≠ _; rw [add_block]; exact hn109_2) | exact hn109_2) (.int .i64 ((rd_T84 l0 x23_2).f1.f1))).trans hx109_2; (try have hy109_0 := fun (n_ : Nat) => (show (((((w11.drewN n_).setCell ⟨gb108, 0, none⟩ (.bool ((rd_T84 l0 x23_2).f0))).setCell ⟨gb108, 1, none⟩ (.int .i64 ((rd_T84 l0 x23_2).f1.f0))).setCell ⟨gb108, 2, none⟩ (.int .i64 ((rd_T84 l0 x23_2).f1.f1)))).cell? _ = some _ from hx109_0)); (try have hy109_1 := fun (n_ : Nat) => (show (((((w11.drewN n_).setCell ⟨gb108, 0, none⟩ (.bool ((rd_T84 l0 x23_2).f0))).setCell ⟨gb108, 1, none⟩ (.int .i64 ((rd_T84 l0 x23_2).f1.f0))).setCell ⟨gb108, 2, none⟩ (.int .i64 ((rd_T84 l0 x23_2).f1.f1)))).cell? _ = some _ from hx109_1)); (try have hy109_2 := fun (n_ : Nat) => (show (((((w11.drewN n_).setCell ⟨gb108, 0, none⟩ (.bool ((rd_T84 l0 x23_2).f0))).setCell ⟨gb108, 1, none⟩ (.int .i64 ((rd_T84 l0 x23_2).f1.f0))).setCell ⟨gb108, 2, none⟩ (.int .i64 ((rd_T84 l0 x23_2).f1.f1)))).cell? _ = some _ from hx109_2)); clear hn109_0; clear hn109_1; clear hn109_2; replace p109 := eq_true p109; replace q109 := eq_true q109) | ((with_reducible refine gate_dst (N := 9) rfl ?_); (try (refine gate_guard (by rfl) ?_; dsimp only)); refine box_event ?hg (N := 9) ?hd (cs := #[.int .i64 0, .bool false, .int .i64 0]) (t := 86) ?hr ?_; (case hd => rfl); (case hg => rfl); (case hr => first | (go_simp; done) | (go_simp; rfl)); intro gb110 hg w13 hbox hb; have n0_ := Aside0.mk (blk_below (g := gb108) (o := .cells #[.bool ((rd_T84 l0 x23_2).f0), .int .i64 ((rd_T84 l0 x23_2).f1.f0), .int .i64 ((rd_T84 l0 x23_2).f1.f1)] 84 (0, 0)) (by (with_reducible repeat (first | refine blk_drewN ?_ _ | refine blk_drew ?_ | refine blk_alloc ?_ _)); refine blk_put (cs := #[.bool ((rd_T84 l0 x23_2).f0), .int .i64 ((rd_T84 l0 x23_2).f1.f0), .int .i64 0]) ?_ 2 _ rfl; (with_reducible repeat (first | refine blk_drewN ?_ _ | refine blk_drew ?_ | refine blk_alloc ?_ _)); refine blk_put (cs := #[.bool ((rd_T84 l0 x23_2).f0), .int .i64 0, .int .i64 0]) ?_ 1 _ rfl; (with_reducible repeat (first | refine blk_drewN ?_ _ | refine blk_drew ?_ | refine blk_alloc ?_ _)); refine blk_put (cs := #[.bool false, .int .i64 0, .int .i64 0]) ?_ 0 _ rfl; (with_reducible repeat (first | refine blk_drewN ?_ _ | refine blk_drew ?_ | refine blk_alloc ?_ _)); exact BK108.out) hb); have n1_ := Aside0.mk (below_step (by repeat (first | (with_reducible first | exact HB.out | apply below_alloc | apply pw_below_drewN | apply below_drew1 | refine below_set ?_ GE108.out) | exact HB.out)) hb); have n2_ := Aside0.mk (hbox); have n3_ := Aside0.mk ((by rw [hg]; exact (below_size (by repeat (first | (with_reducible first | exact HB.out | apply below_alloc | apply pw_below_drewN | apply below_drew1 | refine below_set ?_ GE108.out) | exact HB.out))) : w.heap.size ≤ gb110)); have n4_ := Aside0.mk ((by rw [hg]; exact (below_size (by repeat (first | (with_reducible first | exact HB.out | apply below_alloc | apply pw_below_drewN | apply below_drew1 | refine below_set ?_ GE108.out) | exact HB.out))) : w.heap.size ≤ gb110)); have n5_ := Aside0.mk ((by rw [hg]; exact Nat.ne_of_lt (blk_lt (g := gb108) (o := .cells #[.bool ((rd_T84 l0 x23_2).f0), .int .i64 ((rd_T84 l0 x23_2).f1.f0), .int .i64 ((rd_T84 l0 x23_2).f1.f1)] 84 (0, 0)) (by (with_reducible repeat (first | refine blk_drewN ?_ _ | refine blk_drew ?_ | refine blk_alloc ?_ _)); refine blk_put (cs := #[.bool ((rd_T84 l0 x23_2).f0), .int .i64 ((rd_T84 l0 x23_2).f1.f0), .int .i64 0]) ?_ 2 _ rfl; (with_reducible repeat (first | refine blk_drewN ?_ _ | refine blk_drew ?_ | refine blk_alloc ?_ _)); refine blk_put (cs := #[.bool ((rd_T84 l0 x23_2).f0), .int .i64 0, .int .i64 0]) ?_ 1 _ rfl; (with_reducible repeat (first | refine blk_drewN ?_ _ | refine blk_drew ?_ | refine blk_alloc ?_ _)); refine blk_put (cs := #[.bool false, .int .i64 0, .int .i64 0]) ?_ 0 _ rfl; (with_reducible repeat (first | refine blk_drewN ?_ _ | refine blk_drew ?_ | refine blk_alloc ?_ _)); exact BK108.out)) : gb108 ≠ gb110)); have n6_ := Aside0.mk ((by rw [hg]; exact Nat.ne_of_gt (blk_lt (g := gb108) (o := .cells #[.bool ((rd_T84 l0 x23_2).f0), .int .i64 ((rd_T84 l0 x23_2).f1.f0), .int .i64 ((rd_T84 l0 x23_2).f1.f1)] 84 (0, 0)) (by (with_reducible repeat (first | refine blk_drewN ?_ _ | refine blk_drew ?_ | refine blk_alloc ?_ _)); refine blk_put (cs := #[.bool ((rd_T84 l0 x23_2).f0), .int .i64 ((rd_T84 l0 x23_2).f1.f0), .int .i64 0]) ?_ 2 _ rfl; (with_reducible repeat (first | refine blk_drewN ?_ _ | refine blk_drew ?_ | refine blk_alloc ?_ _)); refine blk_put (cs := #[.bool ((rd_T84 l0 x23_2).f0), .int .i64 0, .int .i64 0]) ?_ 1 _ rfl; (with_reducible repeat (first | refine blk_drewN ?_ _ | refine blk_drew ?_ | refine blk_alloc ?_ _)); refine blk_put (cs := #[.bool false, .int .i64 0, .int .i64 0]) ?_ 0 _ rfl; (with_reducible repeat (first | refine blk_drewN ?_ _ | refine blk_drew ?_ | refine blk_alloc ?_ _)); exact BK108.out)) : gb110 ≠ gb108)); clear BK108; clear HB; have BK108 := n0_; have HB := n1_; have BK110 := n2_; have GW110 := n3_; have GE110 := n4_; have NB108_110 := n5_; have NB110_108 := n6_; clear n0_ n1_ n2_ n3_ n4_ n5_ n6_; clear hb hbox hg; have hnb14 := NB110_108.out; have hnc14 := NB108_110.out; have hcz15_0 : w13.cell? ⟨gb110, 0, none⟩ = some (.int .i64 0) := (blk_cell BK110.out 0).trans rfl; have hcz15_1 : w13.cell? ⟨gb110, 1, none⟩ = some (.bool false) := (blk_cell BK110.out 1).trans rfl; have hcz15_2 : w13.cell? ⟨gb110, 2, none⟩ = some (.int .i64 0) := (blk_cell BK110.out 2).trans rfl; have hfz15_0 := blk_frozen BK110.out 0; have hfz15_1 := blk_frozen BK110.out 1; have hfz15_2 := blk_frozen BK110.out 2)))
                    (try simp only [Act.put, List.setIfInBounds_toArray, List.set_cons_zero, List.set_cons_succ])
                    go_cut [39] (fun v39 wc => ∃ (kq : Nat) (x39_9 : Bool), v39 = .bool x39_9 ∧ Aside0 (impl_ReadsOk.j2 kq l1 x5_2 x6_2 l0 (l0.length : Int) x23_2 x39_9 ((rd_T84 l0 x23_2).f0) ((rd_T84 l0 x23_2).f1.f0) ((rd_T84 l0 x23_2).f1.f1) ((rd_T86 l1 x23_2).f0) ((rd_T86 l1 x23_2).f1) ((rd_T86 l1 x23_2).f2) = some r) ∧ Aside0 (kq ≤ k2) ∧ Aside0 (wc.heap[gb108]? = some (.cells #[.bool ((rd_T84 l0 x23_2).f0), .int .i64 ((rd_T84 l0 x23_2).f1.f0), .int .i64 ((rd_T84 l0 x23_2).f1.f1)] 84 (0, 0))) ∧ Aside0 (wc.heap[gb110]? = some (.cells #[.int .i64 ((rd_T86 l1 x23_2).f0), .bool ((rd_T86 l1 x23_2).f1), .int .i64 ((rd_T86 l1 x23_2).f2)] 86 (0, 0))) ∧ Aside0 (Below w.heap.size w wc))
                    case first =>
                      have H := HC10.out
                      clear HC10
                      obtain ⟨bq16, hbq16⟩ : ∃ b_ : Bool, b_ = ((rd_T84 l0 x23_2).f0) := ⟨_, rfl⟩
                      replace H : (if bq16 = true then ((impl_IvalOk.f ((rd_T84 l0 x23_2).f1.f0) ((rd_T84 l0 x23_2).f1.f1)).bind fun t111 => (impl_ReadsOk.j2 k2 l1 x5_2 x6_2 l0 (l0.length : Int) x23_2 (!t111) bq16 ((rd_T84 l0 x23_2).f1.f0) ((rd_T84 l0 x23_2).f1.f1) ((rd_T86 l1 x23_2).f0) ((rd_T86 l1 x23_2).f1) ((rd_T86 l1 x23_2).f2))) else (impl_ReadsOk.j2 k2 l1 x5_2 x6_2 l0 (l0.length : Int) x23_2 false bq16 ((rd_T84 l0 x23_2).f1.f0) ((rd_T84 l0 x23_2).f1.f1) ((rd_T86 l1 x23_2).f0) ((rd_T86 l1 x23_2).f1) ((rd_T86 l1 x23_2).f2))) = some r := by rw [← hbq16] at H; exact H
                      have Nbq16 := Aside0.mk hbq16
                      clear hbq16
                      (try rw [← Nbq16.out])
                      by_cases c17 : bq16 = true
                      · subst c17
                        (try simp only [Nbq16.out.symm] at BK108)
                        (try simp only [Nbq16.out.symm] at BK110)
                        have H1 : ((impl_IvalOk.f ((rd_T84 l0 x23_2).f1.f0) ((rd_T84 l0 x23_2).f1.f1)).bind fun t111 => (impl_ReadsOk.j2 k2 l1 x5_2 x6_2 l0 (l0.length : Int) x23_2 (!t111) true ((rd_T84 l0 x23_2).f1.f0) ((rd_T84 l0 x23_2).f1.f1) ((rd_T86 l1 x23_2).f0) ((rd_T86 l1 x23_2).f1) ((rd_T86 l1 x23_2).f2))) = some r := by rw [if_pos rfl] at H; exact H
                        clear H
                        have H := H1
                        clear H1
                        replace H := Option.bind_eq_some_iff.mp H
                        obtain ⟨t111, A180, H⟩ := H
                        replace H : (impl_ReadsOk.j2 k2 l1 x5_2 x6_2 l0 (l0.length : Int) x23_2 (!t111) true ((rd_T84 l0 x23_2).f1.f0) ((rd_T84 l0 x23_2).f1.f1) ((rd_T86 l1 x23_2).f0) ((rd_T86 l1 x23_2).f1) ((rd_T86 l1 x23_2).f2)) = some r := H
                        have A18 := Aside0.mk A180
                        clear A180
                        have H' := Aside0.mk H
                        clear H
                        have hnb19 := NB108_110.out
                        have hnc19 := NB110_108.out
                        have hcz20_0 : w13.cell? ⟨gb108, 0, none⟩ = some (.bool true) := by first | exact (blk_cell BK108.out 0).trans rfl | (have h_ := (blk_cell BK108.out 0); simp only [Nbq16.out.symm] at h_; exact h_.trans rfl)
                        have hcz20_1 : w13.cell? ⟨gb108, 1, none⟩ = some (.int .i64 ((rd_T84 l0 x23_2).f1.f0)) := (blk_cell BK108.out 1).trans rfl
                        have hcz20_2 : w13.cell? ⟨gb108, 2, none⟩ = some (.int .i64 ((rd_T84 l0 x23_2).f1.f1)) := (blk_cell BK108.out 2).trans rfl
                        have hfz20_0 := blk_frozen BK108.out 0
                        have hfz20_1 := blk_frozen BK108.out 1
                        have hfz20_2 := blk_frozen BK108.out 2
                        go_wp2_with (first | (go_at_call 56; (with_reducible refine (impl_IvalOk.calls ((rd_T84 l0 x23_2).f1.f0) ((rd_T84 l0 x23_2).f1.f1) t111 _ A18.out).mono ?_); rintro e w21 ⟨rfl, hb⟩; have n0_ := Aside0.mk (blk_below (g := gb108) (o := .cells #[.bool true, .int .i64 ((rd_T84 l0 x23_2).f1.f0), .int .i64 ((rd_T84 l0 x23_2).f1.f1)] 84 (0, 0)) (by (with_reducible repeat (first | refine blk_drewN ?_ _ | refine blk_drew ?_ | refine blk_alloc ?_ _)); refine blk_far ?_ NB108_110.out _; (with_reducible repeat (first | refine blk_drewN ?_ _ | refine blk_drew ?_ | refine blk_alloc ?_ _)); refine blk_far ?_ NB108_110.out _; (with_reducible repeat (first | refine blk_drewN ?_ _ | refine blk_drew ?_ | refine blk_alloc ?_ _)); refine blk_far ?_ NB108_110.out _; (with_reducible repeat (first | refine blk_drewN ?_ _ | refine blk_drew ?_ | refine blk_alloc ?_ _)); exact BK108.out) hb); have n1_ := Aside0.mk (blk_below (g := gb110) (o := .cells #[.int .i64 ((rd_T86 l1 x23_2).f0), .bool ((rd_T86 l1 x23_2).f1), .int .i64 ((rd_T86 l1 x23_2).f2)] 86 (0, 0)) (by (with_reducible repeat (first | refine blk_drewN ?_ _ | refine blk_drew ?_ | refine blk_alloc ?_ _)); refine blk_put (cs := #[.int .i64 ((rd_T86 l1 x23_2).f0), .bool ((rd_T86 l1 x23_2).f1), .int .i64 0]) ?_ 2 _ rfl; (with_reducible repeat (first | refine blk_drewN ?_ _ | refine blk_drew ?_ | refine blk_alloc ?_ _)); refine blk_put (cs := #[.int .i64 ((rd_T86 l1 x23_2).f0), .bool false, .int .i64 0]) ?_ 1 _ rfl; (with_reducible repeat (first | refine blk_drewN ?_ _ | refine blk_drew ?_ | refine blk_alloc ?_ _)); refine blk_put (cs := #[.int .i64 0, .bool false, .int .i64 0]) ?_ 0 _ rfl; (with_reducible repeat (first | refine blk_drewN ?_ _ | refine blk_drew ?_ | refine blk_alloc ?_ _)); exact BK110.out) hb); have n2_ := Aside0.mk (below_step (by repeat (first | (with_reducible first | exact HB.out | apply below_alloc | apply pw_below_drewN | apply below_drew1 | refine below_set ?_ GE108.out | refine below_set ?_ GE110.out) | exact HB.out)) hb); clear BK108; clear BK110; clear HB; have BK108 := n0_; have BK110 := n1_; have HB := n2_; clear n0_ n1_ n2_; (try clear hb); (try clear hb2); (try clear hk); (try clear hi)))
                        repeat (go_quiet (first | (go_at_call 56; (with_reducible refine (impl_IvalOk.calls ((rd_T84 l0 x23_2).f1.f0) ((rd_T84 l0 x23_2).f1.f1) t111 _ A18.out).mono ?_); rintro e w21 ⟨rfl, hb⟩; have n0_ := Aside0.mk (blk_below (g := gb108) (o := .cells #[.bool true, .int .i64 ((rd_T84 l0 x23_2).f1.f0), .int .i64 ((rd_T84 l0 x23_2).f1.f1)] 84 (0, 0)) (by (with_reducible repeat (first | refine blk_drewN ?_ _ | refine blk_drew ?_ | refine blk_alloc ?_ _)); refine blk_far ?_ NB108_110.out _; (with_reducible repeat (first | refine blk_drewN ?_ _ | refine blk_drew ?_ | refine blk_alloc ?_ _)); refine blk_far ?_ NB108_110.out _; (with_reducible repeat (first | refine blk_drewN ?_ _ | refine blk_drew ?_ | refine blk_alloc ?_ _)); refine blk_far ?_ NB108_110.out _; (with_reducible repeat (first | refine blk_drewN ?_ _ | refine blk_drew ?_ | refine blk_alloc ?_ _)); exact BK108.out) hb); have n1_ := Aside0.mk (blk_below (g := gb110) (o := .cells #[.int .i64 ((rd_T86 l1 x23_2).f0), .bool ((rd_T86 l1 x23_2).f1), .int .i64 ((rd_T86 l1 x23_2).f2)] 86 (0, 0)) (by (with_reducible repeat (first | refine blk_drewN ?_ _ | refine blk_drew ?_ | refine blk_alloc ?_ _)); refine blk_put (cs := #[.int .i64 ((rd_T86 l1 x23_2).f0), .bool ((rd_T86 l1 x23_2).f1), .int .i64 0]) ?_ 2 _ rfl; (with_reducible repeat (first | refine blk_drewN ?_ _ | refine blk_drew ?_ | refine blk_alloc ?_ _)); refine blk_put (cs := #[.int .i64 ((rd_T86 l1 x23_2).f0), .bool false, .int .i64 0]) ?_ 1 _ rfl; (with_reducible repeat (first | refine blk_drewN ?_ _ | refine blk_drew ?_ | refine blk_alloc ?_ _)); refine blk_put (cs := #[.int .i64 0, .bool false, .int .i64 0]) ?_ 0 _ rfl; (with_reducible repeat (first | refine blk_drewN ?_ _ | refine blk_drew ?_ | refine blk_alloc ?_ _)); exact BK110.out) hb); have n2_ := Aside0.mk (below_step (by repeat (first | (with_reducible first | exact HB.out | apply below_alloc | apply pw_below_drewN | apply below_drew1 | refine below_set ?_ GE108.out | refine below_set ?_ GE110.out) | exact HB.out)) hb); clear BK108; clear BK110; clear HB; have BK108 := n0_; have BK110 := n1_; have HB := n2_; clear n0_ n1_ n2_; (try clear hb); (try clear hb2); (try clear hk); (try clear hi))); try go_wp2_with (first | (go_at_call 56; (with_reducible refine (impl_IvalOk.calls ((rd_T84 l0 x23_2).f1.f0) ((rd_T84 l0 x23_2).f1.f1) t111 _ A18.out).mono ?_); rintro e w21 ⟨rfl, hb⟩; have n0_ := Aside0.mk (blk_below (g := gb108) (o := .cells #[.bool true, .int .i64 ((rd_T84 l0 x23_2).f1.f0), .int .i64 ((rd_T84 l0 x23_2).f1.f1)] 84 (0, 0)) (by (with_reducible repeat (first | refine blk_drewN ?_ _ | refine blk_drew ?_ | refine blk_alloc ?_ _)); refine blk_far ?_ NB108_110.out _; (with_reducible repeat (first | refine blk_drewN ?_ _ | refine blk_drew ?_ | refine blk_alloc ?_ _)); refine blk_far ?_ NB108_110.out _; (with_reducible repeat (first | refine blk_drewN ?_ _ | refine blk_drew ?_ | refine blk_alloc ?_ _)); refine blk_far ?_ NB108_110.out _; (with_reducible repeat (first | refine blk_drewN ?_ _ | refine blk_drew ?_ | refine blk_alloc ?_ _)); exact BK108.out) hb); have n1_ := Aside0.mk (blk_below (g := gb110) (o := .cells #[.int .i64 ((rd_T86 l1 x23_2).f0), .bool ((rd_T86 l1 x23_2).f1), .int .i64 ((rd_T86 l1 x23_2).f2)] 86 (0, 0)) (by (with_reducible repeat (first | refine blk_drewN ?_ _ | refine blk_drew ?_ | refine blk_alloc ?_ _)); refine blk_put (cs := #[.int .i64 ((rd_T86 l1 x23_2).f0), .bool ((rd_T86 l1 x23_2).f1), .int .i64 0]) ?_ 2 _ rfl; (with_reducible repeat (first | refine blk_drewN ?_ _ | refine blk_drew ?_ | refine blk_alloc ?_ _)); refine blk_put (cs := #[.int .i64 ((rd_T86 l1 x23_2).f0), .bool false, .int .i64 0]) ?_ 1 _ rfl; (with_reducible repeat (first | refine blk_drewN ?_ _ | refine blk_drew ?_ | refine blk_alloc ?_ _)); refine blk_put (cs := #[.int .i64 0, .bool false, .int .i64 0]) ?_ 0 _ rfl; (with_reducible repeat (first | refine blk_drewN ?_ _ | refine blk_drew ?_ | refine blk_alloc ?_ _)); exact BK110.out) hb); have n2_ := Aside0.mk (below_step (by repeat (first | (with_reducible first | exact HB.out | apply below_alloc | apply pw_below_drewN | apply below_drew1 | refine below_set ?_ GE108.out | refine below_set ?_ GE110.out) | exact HB.out)) hb); clear BK108; clear BK110; clear HB; have BK108 := n0_; have BK110 := n1_; have HB := n2_; clear n0_ n1_ n2_; (try clear hb); (try clear hb2); (try clear hk); (try clear hi))))
                        go_meet
                        case rel => first | exact ⟨_, (!t111), (by first | rfl | (simp; done) | (simp [*]; done)), H', ⟨by have := HJ2.out; have := HK2.out; first | omega | exact Nat.le_refl _⟩, ⟨by (with_reducible repeat (first | refine blk_drewN ?_ _ | refine blk_drew ?_ | refine blk_alloc ?_ _)); exact BK108.out⟩, ⟨by (with_reducible repeat (first | refine blk_drewN ?_ _ | refine blk_drew ?_ | refine blk_alloc ?_ _)); exact BK110.out⟩, ⟨by repeat (first | (with_reducible first | exact HB.out | apply below_alloc | apply pw_below_drewN | apply below_drew1 | refine below_set ?_ GE108.out | refine below_set ?_ GE110.out) | exact HB.out)⟩⟩ | (simp only [Nbq16.out.symm]; exact ⟨_, (!t111), (by first | rfl | (simp; done) | (simp [*]; done)), H', ⟨by have := HJ2.out; have := HK2.out; first | omega | exact Nat.le_refl _⟩, ⟨by (with_reducible repeat (first | refine blk_drewN ?_ _ | refine blk_drew ?_ | refine blk_alloc ?_ _)); exact BK108.out⟩, ⟨by (with_reducible repeat (first | refine blk_drewN ?_ _ | refine blk_drew ?_ | refine blk_alloc ?_ _)); exact BK110.out⟩, ⟨by repeat (first | (with_reducible first | exact HB.out | apply below_alloc | apply pw_below_drewN | apply below_drew1 | refine below_set ?_ GE108.out | refine below_set ?_ GE110.out) | exact HB.out)⟩⟩)
                      · replace c17 := Bool.eq_false_iff.mpr c17
                        subst c17
                        (try simp only [Nbq16.out.symm] at BK108)
                        (try simp only [Nbq16.out.symm] at BK110)
                        have H1 : (impl_ReadsOk.j2 k2 l1 x5_2 x6_2 l0 (l0.length : Int) x23_2 false false ((rd_T84 l0 x23_2).f1.f0) ((rd_T84 l0 x23_2).f1.f1) ((rd_T86 l1 x23_2).f0) ((rd_T86 l1 x23_2).f1) ((rd_T86 l1 x23_2).f2)) = some r := by rw [if_neg (show ¬ (false = true) by decide)] at H; exact H
                        clear H
                        have H := H1
                        clear H1
                        have H' := Aside0.mk H
                        clear H
                        have hnb22 := NB108_110.out
                        have hnc22 := NB110_108.out
                        have hcz23_0 : w13.cell? ⟨gb108, 0, none⟩ = some (.bool false) := by first | exact (blk_cell BK108.out 0).trans rfl | (have h_ := (blk_cell BK108.out 0); simp only [Nbq16.out.symm] at h_; exact h_.trans rfl)
                        have hcz23_1 : w13.cell? ⟨gb108, 1, none⟩ = some (.int .i64 ((rd_T84 l0 x23_2).f1.f0)) := (blk_cell BK108.out 1).trans rfl
                        have hcz23_2 : w13.cell? ⟨gb108, 2, none⟩ = some (.int .i64 ((rd_T84 l0 x23_2).f1.f1)) := (blk_cell BK108.out 2).trans rfl
                        have hfz23_0 := blk_frozen BK108.out 0
                        have hfz23_1 := blk_frozen BK108.out 1
                        have hfz23_2 := blk_frozen BK108.out 2
                        go_wp2
                        repeat (go_quiet (fail); try go_wp2)
                        go_meet
                        case rel => first | exact ⟨_, (false), (by first | rfl | (simp; done) | (simp [*]; done)), H', ⟨by have := HJ2.out; have := HK2.out; first | omega | exact Nat.le_refl _⟩, ⟨by (with_reducible repeat (first | refine blk_drewN ?_ _ | refine blk_drew ?_ | refine blk_alloc ?_ _)); refine blk_far ?_ NB108_110.out _; (with_reducible repeat (first | refine blk_drewN ?_ _ | refine blk_drew ?_ | refine blk_alloc ?_ _)); refine blk_far ?_ NB108_110.out _; (with_reducible repeat (first | refine blk_drewN ?_ _ | refine blk_drew ?_ | refine blk_alloc ?_ _)); refine blk_far ?_ NB108_110.out _; (with_reducible repeat (first | refine blk_drewN ?_ _ | refine blk_drew ?_ | refine blk_alloc ?_ _)); exact BK108.out⟩, ⟨by (with_reducible repeat (first | refine blk_drewN ?_ _ | refine blk_drew ?_ | refine blk_alloc ?_ _)); refine blk_put (cs := #[.int .i64 ((rd_T86 l1 x23_2).f0), .bool ((rd_T86 l1 x23_2).f1), .int .i64 0]) ?_ 2 _ rfl; (with_reducible repeat (first | refine blk_drewN ?_ _ | refine blk_drew ?_ | refine blk_alloc ?_ _)); refine blk_put (cs := #[.int .i64 ((rd_T86 l1 x23_2).f0), .bool false, .int .i64 0]) ?_ 1 _ rfl; (with_reducible repeat (first | refine blk_drewN ?_ _ | refine blk_drew ?_ | refine blk_alloc ?_ _)); refine blk_put (cs := #[.int .i64 0, .bool false, .int .i64 0]) ?_ 0 _ rfl; (with_reducible repeat (first | refine blk_drewN ?_ _ | refine blk_drew ?_ | refine blk_alloc ?_ _)); exact BK110.out⟩, ⟨by repeat (first | (with_reducible first | exact HB.out | apply below_alloc | apply pw_below_drewN | apply below_drew1 | refine below_set ?_ GE108.out | refine below_set ?_ GE110.out) | exact HB.out)⟩⟩ | (simp only [Nbq16.out.symm]; exact ⟨_, (false), (by first | rfl | (simp; done) | (simp [*]; done)), H', ⟨by have := HJ2.out; have := HK2.out; first | omega | exact Nat.le_refl _⟩, ⟨by (with_reducible repeat (first | refine blk_drewN ?_ _ | refine blk_drew ?_ | refine blk_alloc ?_ _)); refine blk_far ?_ NB108_110.out _; (with_reducible repeat (first | refine blk_drewN ?_ _ | refine blk_drew ?_ | refine blk_alloc ?_ _)); refine blk_far ?_ NB108_110.out _; (with_reducible repeat (first | refine blk_drewN ?_ _ | refine blk_drew ?_ | refine blk_alloc ?_ _)); refine blk_far ?_ NB108_110.out _; (with_reducible repeat (first | refine blk_drewN ?_ _ | refine blk_drew ?_ | refine blk_alloc ?_ _)); exact BK108.out⟩, ⟨by (with_reducible repeat (first | refine blk_drewN ?_ _ | refine blk_drew ?_ | refine blk_alloc ?_ _)); refine blk_put (cs := #[.int .i64 ((rd_T86 l1 x23_2).f0), .bool ((rd_T86 l1 x23_2).f1), .int .i64 0]) ?_ 2 _ rfl; (with_reducible repeat (first | refine blk_drewN ?_ _ | refine blk_drew ?_ | refine blk_alloc ?_ _)); refine blk_put (cs := #[.int .i64 ((rd_T86 l1 x23_2).f0), .bool false, .int .i64 0]) ?_ 1 _ rfl; (with_reducible repeat (first | refine blk_drewN ?_ _ | refine blk_drew ?_ | refine blk_alloc ?_ _)); refine blk_put (cs := #[.int .i64 0, .bool false, .int .i64 0]) ?_ 0 _ rfl; (with_reducible repeat (first | refine blk_drewN ?_ _ | refine blk_drew ?_ | refine blk_alloc ?_ _)); exact BK110.out⟩, ⟨by repeat (first | (with_reducible first | exact HB.out | apply below_alloc | apply pw_below_drewN | apply below_drew1 | refine below_set ?_ GE108.out | refine below_set ?_ GE110.out) | exact HB.out)⟩⟩)
                    case rest =>
                      clear HC10
                      try clear c1
                      try clear p1
                      try clear q1
                      try clear hx1
                      try clear c2
                      try clear p2
                      try clear c4
                      try clear c4b0
                      try clear c4b1
                      try clear c5
                      try clear c6
                      try clear c6b0
                      try clear c7
                      try clear c7b0
                      try clear c8
                      try clear c8b0
                      try clear c9
                      try clear c9b0
                      try clear p10
                      try clear q10
                      try clear hx10
                      try clear c14
                      try clear q16
                      try clear c17
                      try clear c19
                      try clear c22
                      try clear hcz12_0
                      try clear hcz12_1
                      try clear hcz12_2
                      try clear hcz15_0
                      try clear hcz15_1
                      try clear hcz15_2
                      try clear hcz20_0
                      try clear hcz20_1
                      try clear hcz20_2
                      try clear hcz23_0
                      try clear hcz23_1
                      try clear hcz23_2
                      try clear hfz12_0
                      try clear hfz12_1
                      try clear hfz12_2
                      try clear hfz15_0
                      try clear hfz15_1
                      try clear hfz15_2
                      try clear hfz20_0
                      try clear hfz20_1
                      try clear hfz20_2
                      try clear hfz23_0
                      try clear hfz23_1
                      try clear hfz23_2
                      try clear hx107_0
                      try clear hx107_1
                      try clear hx107_2
                      try clear hx109_0
                      try clear hx109_1
                      try clear hx109_2
                      try clear p107
                      try clear p109
                      try clear p2
                      try clear q107
                      try clear q109
                      obtain ⟨kq, x39_9, rfl, HA, HJ9, BK108, BK110, HB⟩ := hcut
                      cases kq with
                      | zero => exact absurd HA.out (by simp [impl_ReadsOk.j2])
                      | succ kj9 =>
                        have H := HA.out
                        clear HA
                        simp only [impl_ReadsOk.j2] at H
                        by_cases c24 : x39_9 = true
                        · subst c24
                          have H1 : (some false) = some r := by rw [if_pos rfl] at H; exact H
                          clear H
                          have H := H1
                          clear H1
                          obtain rfl := Option.some.inj H
                          go_wp2
                          repeat (go_quiet (fail); try go_wp2)
                          go_ret
                          exact ⟨by first | rfl | (simp [errW_none, errW_some] <;> rfl) | (simp [*, errW_none, errW_some] <;> rfl), by repeat (first | (with_reducible first | exact HB.out | apply below_alloc | apply pw_below_drewN | apply below_drew1 | refine below_set ?_ GE108.out | refine below_set ?_ GE110.out) | exact HB.out)⟩
                        · replace c24 := Bool.eq_false_iff.mpr c24
                          subst c24
                          have H1 : (if ((rd_T86 l1 x23_2).f2) = 2 then (if ((rd_T84 l0 x23_2).f0) = true then (some false) else (if x5_2 = true then (some false) else (if (!(((rd_T86 l1 x23_2).f0) == 0) || (((rd_T86 l1 x23_2).f1) || (!(((rd_T86 l1 x23_2).f2) == 2)))) = true then (some false) else (impl_ReadsOk.l0 kj9 l1 x5_2 x6_2 l0 (l0.length : Int) (wrap64 (x23_2 + 1)))))) else (if ((rd_T84 l0 x23_2).f0) = true then (if ((rd_T86 l1 x23_2).f1) = true then (if ((rd_T86 l1 x23_2).f2) = 0 then (if x5_2 = true then (if ((rd_T86 l1 x23_2).f0) = x6_2 then (if ((rd_T86 l1 x23_2).f0) > ((rd_T84 l0 x23_2).f1.f1) then (impl_ReadsOk.l0 kj9 l1 true ((rd_T86 l1 x23_2).f0) l0 (l0.length : Int) (wrap64 (x23_2 + 1))) else (some false)) else (some false)) else (some false)) else (some false)) else (if ((rd_T86 l1 x23_2).f2) = 0 then ((impl_Holds.f ((rd_T84 l0 x23_2).f1.f0) ((rd_T84 l0 x23_2).f1.f1) ((rd_T86 l1 x23_2).f0)).bind fun t112 => (if t112 = true then (if x5_2 = true then (if ((rd_T86 l1 x23_2).f0) ≥ x6_2 then (impl_ReadsOk.l0 kj9 l1 true ((rd_T86 l1 x23_2).f0) l0 (l0.length : Int) (wrap64 (x23_2 + 1))) else (some false)) else (impl_ReadsOk.l0 kj9 l1 true ((rd_T86 l1 x23_2).f0) l0 (l0.length : Int) (wrap64 (x23_2 + 1)))) else (some false))) else (some false))) else (if ((rd_T86 l1 x23_2).f2) = 0 then (if ((rd_T86 l1 x23_2).f1) = true then (if x5_2 = true then (if ((rd_T86 l1 x23_2).f0) = x6_2 then (impl_ReadsOk.l0 kj9 l1 true ((rd_T86 l1 x23_2).f0) l0 (l0.length : Int) (wrap64 (x23_2 + 1))) else (some false)) else (some false)) else (some false)) else (some false)))) = some r := by rw [if_neg (show ¬ (false = true) by decide)] at H; exact H
                          clear H
                          have H := H1
                          clear H1
                          by_cases c25 : ((rd_T86 l1 x23_2).f2) = 2
                          · rw [if_pos c25] at H
                            have c25b0 : (((rd_T86 l1 x23_2).f2) == 2) = true := beq_iff_eq.mpr c25
                            have c25b1 : (((rd_T86 l1 x23_2).f2) != 2) = false := bne_eq_false_iff_eq.mpr c25
                            clear c25
                            by_cases c26 : ((rd_T84 l0 x23_2).f0) = true
                            · rw [if_pos c26] at H
                              have c26b0 : ((rd_T84 l0 x23_2).f0) = true := c26
                              clear c26
                              obtain rfl := Option.some.inj H
                              have hnb27 := NB110_108.out
                              have hnc27 := NB108_110.out
                              have hcz28_0 : wc.cell? ⟨gb110, 0, none⟩ = some (.int .i64 ((rd_T86 l1 x23_2).f0)) := (blk_cell BK110.out 0).trans rfl
                              have hcz28_1 : wc.cell? ⟨gb110, 1, none⟩ = some (.bool ((rd_T86 l1 x23_2).f1)) := (blk_cell BK110.out 1).trans rfl
                              have hcz28_2 : wc.cell? ⟨gb110, 2, none⟩ = some (.int .i64 ((rd_T86 l1 x23_2).f2)) := (blk_cell BK110.out 2).trans rfl
                              have hfz28_0 := blk_frozen BK110.out 0
                              have hfz28_1 := blk_frozen BK110.out 1
                              have hfz28_2 := blk_frozen BK110.out 2
                              have hcz29_0 : wc.cell? ⟨gb108, 0, none⟩ = some (.bool ((rd_T84 l0 x23_2).f0)) := (blk_cell BK108.out 0).trans rfl
                              have hcz29_1 : wc.cell? ⟨gb108, 1, none⟩ = some (.int .i64 ((rd_T84 l0 x23_2).f1.f0)) := (blk_cell BK108.out 1).trans rfl
                              have hcz29_2 : wc.cell? ⟨gb108, 2, none⟩ = some (.int .i64 ((rd_T84 l0 x23_2).f1.f1)) := (blk_cell BK108.out 2).trans rfl
                              have hfz29_0 := blk_frozen BK108.out 0
                              have hfz29_1 := blk_frozen BK108.out 1
                              have hfz29_2 := blk_frozen BK108.out 2
                              go_wp2
                              repeat (go_quiet (fail); try go_wp2)
                              go_ret
                              exact ⟨by first | rfl | (simp [errW_none, errW_some] <;> rfl) | (simp [*, errW_none, errW_some] <;> rfl), by repeat (first | (with_reducible first | exact HB.out | apply below_alloc | apply pw_below_drewN | apply below_drew1 | refine below_set ?_ GE108.out | refine below_set ?_ GE110.out) | exact HB.out)⟩
                            · rw [if_neg c26] at H
                              have c26b0 : ((rd_T84 l0 x23_2).f0) = false := by simpa using c26
                              clear c26
                              by_cases c30 : x5_2 = true
                              · subst c30
                                have H1 : (some false) = some r := by rw [if_pos rfl] at H; exact H
                                clear H
                                have H := H1
                                clear H1
                                obtain rfl := Option.some.inj H
                                have hnb31 := NB110_108.out
                                have hnc31 := NB108_110.out
                                have hcz32_0 : wc.cell? ⟨gb110, 0, none⟩ = some (.int .i64 ((rd_T86 l1 x23_2).f0)) := (blk_cell BK110.out 0).trans rfl
                                have hcz32_1 : wc.cell? ⟨gb110, 1, none⟩ = some (.bool ((rd_T86 l1 x23_2).f1)) := (blk_cell BK110.out 1).trans rfl
                                have hcz32_2 : wc.cell? ⟨gb110, 2, none⟩ = some (.int .i64 ((rd_T86 l1 x23_2).f2)) := (blk_cell BK110.out 2).trans rfl
                                have hfz32_0 := blk_frozen BK110.out 0
                                have hfz32_1 := blk_frozen BK110.out 1
                                have hfz32_2 := blk_frozen BK110.out 2
                                have hcz33_0 : wc.cell? ⟨gb108, 0, none⟩ = some (.bool ((rd_T84 l0 x23_2).f0)) := (blk_cell BK108.out 0).trans rfl
                                have hcz33_1 : wc.cell? ⟨gb108, 1, none⟩ = some (.int .i64 ((rd_T84 l0 x23_2).f1.f0)) := (blk_cell BK108.out 1).trans rfl
                                have hcz33_2 : wc.cell? ⟨gb108, 2, none⟩ = some (.int .i64 ((rd_T84 l0 x23_2).f1.f1)) := (blk_cell BK108.out 2).trans rfl
                                have hfz33_0 := blk_frozen BK108.out 0
                                have hfz33_1 := blk_frozen BK108.out 1
                                have hfz33_2 := blk_frozen BK108.out 2
                                go_wp2
                                repeat (go_quiet (fail); try go_wp2)
                                go_ret
                                exact ⟨by first | rfl | (simp [errW_none, errW_some] <;> rfl) | (simp [*, errW_none, errW_some] <;> rfl), by repeat (first | (with_reducible first | exact HB.out | apply below_alloc | apply pw_below_drewN | apply below_drew1 | refine below_set ?_ GE108.out | refine below_set ?_ GE110.out) | exact HB.out)⟩
                              · replace c30 := Bool.eq_false_iff.mpr c30
                                subst c30
                                have H1 : (if (!(((rd_T86 l1 x23_2).f0) == 0) || (((rd_T86 l1 x23_2).f1) || (!(((rd_T86 l1 x23_2).f2) == 2)))) = true then (some false) else (impl_ReadsOk.l0 kj9 l1 false x6_2 l0 (l0.length : Int) (wrap64 (x23_2 + 1)))) = some r := by rw [if_neg (show ¬ (false = true) by decide)] at H; exact H
                                clear H
                                have H := H1
                                clear H1
                                by_cases c34 : (!(((rd_T86 l1 x23_2).f0) == 0) || (((rd_T86 l1 x23_2).f1) || (!(((rd_T86 l1 x23_2).f2) == 2)))) = true
                                · rw [if_pos c34] at H
                                  have c34b0 : (!(((rd_T86 l1 x23_2).f0) == 0) || (((rd_T86 l1 x23_2).f1) || (!(((rd_T86 l1 x23_2).f2) == 2)))) = true := c34
                                  have c34b9 := c34b0
                                  (try simp only [c6b0] at c34b9)
                                  (try simp only [c7b0] at c34b9)
                                  (try simp only [c8b0] at c34b9)
                                  (try simp only [c9b0] at c34b9)
                                  (try simp only [c25b0] at c34b9)
                                  (try simp only [c26b0] at c34b9)
                                  (try simp only [Bool.not_true, Bool.not_false, Bool.or_false, Bool.or_true, Bool.false_or, Bool.true_or, Bool.and_true, Bool.and_false, Bool.true_and, Bool.false_and] at c34b9)
                                  clear c34
                                  obtain rfl := Option.some.inj H
                                  have hnb35 := NB110_108.out
                                  have hnc35 := NB108_110.out
                                  have hcz36_0 : wc.cell? ⟨gb110, 0, none⟩ = some (.int .i64 ((rd_T86 l1 x23_2).f0)) := (blk_cell BK110.out 0).trans rfl
                                  have hcz36_1 : wc.cell? ⟨gb110, 1, none⟩ = some (.bool ((rd_T86 l1 x23_2).f1)) := (blk_cell BK110.out 1).trans rfl
                                  have hcz36_2 : wc.cell? ⟨gb110, 2, none⟩ = some (.int .i64 ((rd_T86 l1 x23_2).f2)) := (blk_cell BK110.out 2).trans rfl
                                  have hfz36_0 := blk_frozen BK110.out 0
                                  have hfz36_1 := blk_frozen BK110.out 1
                                  have hfz36_2 := blk_frozen BK110.out 2
                                  have hcz37_0 : wc.cell? ⟨gb108, 0, none⟩ = some (.bool ((rd_T84 l0 x23_2).f0)) := (blk_cell BK108.out 0).trans rfl
                                  have hcz37_1 : wc.cell? ⟨gb108, 1, none⟩ = some (.int .i64 ((rd_T84 l0 x23_2).f1.f0)) := (blk_cell BK108.out 1).trans rfl
                                  have hcz37_2 : wc.cell? ⟨gb108, 2, none⟩ = some (.int .i64 ((rd_T84 l0 x23_2).f1.f1)) := (blk_cell BK108.out 2).trans rfl
                                  have hfz37_0 := blk_frozen BK108.out 0
                                  have hfz37_1 := blk_frozen BK108.out 1
                                  have hfz37_2 := blk_frozen BK108.out 2
                                  go_wp2
                                  repeat (go_quiet (fail); try go_wp2)
                                  go_ret
                                  exact ⟨by first | rfl | (simp [errW_none, errW_some] <;> rfl) | (simp [*, errW_none, errW_some] <;> rfl), by repeat (first | (with_reducible first | exact HB.out | apply below_alloc | apply pw_below_drewN | apply below_drew1 | refine below_set ?_ GE108.out | refine below_set ?_ GE110.out) | exact HB.out)⟩
                                · rw [if_neg c34] at H
                                  have c34b0 : (!(((rd_T86 l1 x23_2).f0) == 0) || (((rd_T86 l1 x23_2).f1) || (!(((rd_T86 l1 x23_2).f2) == 2)))) = false := by simpa using c34
                                  have c34b9 := c34b0
                                  (try simp only [c6b0] at c34b9)
                                  (try simp only [c7b0] at c34b9)
                                  (try simp only [c8b0] at c34b9)
                                  (try simp only [c9b0] at c34b9)
                                  (try simp only [c25b0] at c34b9)
                                  (try simp only [c26b0] at c34b9)
                                  (try simp only [Bool.not_true, Bool.not_false, Bool.or_false, Bool.or_true, Bool.false_or, Bool.true_or, Bool.and_true, Bool.and_false, Bool.true_and, Bool.false_and] at c34b9)
                                  clear c34
                                  have H' := Aside0.mk H
                                  clear H
                                  have hnb38 := NB110_108.out
                                  have hnc38 := NB108_110.out
                                  have hcz39_0 : wc.cell? ⟨gb110, 0, none⟩ = some (.int .i64 ((rd_T86 l1 x23_2).f0)) := (blk_cell BK110.out 0).trans rfl
                                  have hcz39_1 : wc.cell? ⟨gb110, 1, none⟩ = some (.bool ((rd_T86 l1 x23_2).f1)) := (blk_cell BK110.out 1).trans rfl
                                  have hcz39_2 : wc.cell? ⟨gb110, 2, none⟩ = some (.int .i64 ((rd_T86 l1 x23_2).f2)) := (blk_cell BK110.out 2).trans rfl
                                  have hfz39_0 := blk_frozen BK110.out 0
                                  have hfz39_1 := blk_frozen BK110.out 1
                                  have hfz39_2 := blk_frozen BK110.out 2
                                  have hcz40_0 : wc.cell? ⟨gb108, 0, none⟩ = some (.bool ((rd_T84 l0 x23_2).f0)) := (blk_cell BK108.out 0).trans rfl
                                  have hcz40_1 : wc.cell? ⟨gb108, 1, none⟩ = some (.int .i64 ((rd_T84 l0 x23_2).f1.f0)) := (blk_cell BK108.out 1).trans rfl
                                  have hcz40_2 : wc.cell? ⟨gb108, 2, none⟩ = some (.int .i64 ((rd_T84 l0 x23_2).f1.f1)) := (blk_cell BK108.out 2).trans rfl
                                  have hfz40_0 := blk_frozen BK108.out 0
                                  have hfz40_1 := blk_frozen BK108.out 1
                                  have hfz40_2 := blk_frozen BK108.out 2
                                  go_wp2
                                  repeat (go_quiet (fail); try go_wp2)
                                  go_roundg kj9
                                  case measure => have := HJ2.out; have := HK2.out; have := HJ9.out; omega
                                  case rel => exact ⟨(false), (x6_2), (wrap64 (x23_2 + 1)), (by first | rfl | (simp; done) | (simp [*]; done)), (by first | rfl | (simp; done) | (simp [*]; done)), (by first | rfl | (simp; done) | (simp [*]; done)), H', ⟨by have := HJ2.out; have := HK2.out; have := HJ9.out; omega⟩, ⟨by repeat (first | (with_reducible first | exact HB.out | apply below_alloc | apply pw_below_drewN | apply below_drew1 | refine below_set ?_ GE108.out | refine below_set ?_ GE110.out) | exact HB.out)⟩⟩
                          · rw [if_neg c25] at H
                            have c25b0 : (((rd_T86 l1 x23_2).f2) == 2) = false := beq_eq_false_iff_ne.mpr c25
                            have c25b1 : (((rd_T86 l1 x23_2).f2) != 2) = true := bne_iff_ne.mpr c25
                            by_cases c41 : ((rd_T84 l0 x23_2).f0) = true
                            · rw [if_pos c41] at H
                              have c41b0 : ((rd_T84 l0 x23_2).f0) = true := c41
                              clear c41
                              by_cases c42 : ((rd_T86 l1 x23_2).f1) = true
                              · rw [if_pos c42] at H
                                have c42b0 : ((rd_T86 l1 x23_2).f1) = true := c42
                                clear c42
                                by_cases c43 : ((rd_T86 l1 x23_2).f2) = 0
                                · rw [if_pos c43] at H
                                  have c43b0 : (((rd_T86 l1 x23_2).f2) == 0) = true := beq_iff_eq.mpr c43
                                  have c43b1 : (((rd_T86 l1 x23_2).f2) != 0) = false := bne_eq_false_iff_eq.mpr c43
                                  clear c43
                                  by_cases c44 : x5_2 = true
                                  · subst c44
                                    have H1 : (if ((rd_T86 l1 x23_2).f0) = x6_2 then (if ((rd_T86 l1 x23_2).f0) > ((rd_T84 l0 x23_2).f1.f1) then (impl_ReadsOk.l0 kj9 l1 true ((rd_T86 l1 x23_2).f0) l0 (l0.length : Int) (wrap64 (x23_2 + 1))) else (some false)) else (some false)) = some r := by rw [if_pos rfl] at H; exact H
                                    clear H
                                    have H := H1
                                    clear H1
                                    by_cases c45 : ((rd_T86 l1 x23_2).f0) = x6_2
                                    · rw [if_pos c45] at H
                                      have c45b0 : (((rd_T86 l1 x23_2).f0) == x6_2) = true := beq_iff_eq.mpr c45
                                      have c45b1 : (((rd_T86 l1 x23_2).f0) != x6_2) = false := bne_eq_false_iff_eq.mpr c45
                                      clear c45
                                      by_cases c46 : ((rd_T86 l1 x23_2).f0) > ((rd_T84 l0 x23_2).f1.f1)
                                      · rw [if_pos c46] at H
                                        have c46b0 : decide (((rd_T84 l0 x23_2).f1.f1) < ((rd_T86 l1 x23_2).f0)) = true := decide_eq_true c46
                                        clear c46
                                        have H' := Aside0.mk H
                                        clear H
                                        have hnb47 := NB110_108.out
                                        have hnc47 := NB108_110.out
                                        have hcz48_0 : wc.cell? ⟨gb110, 0, none⟩ = some (.int .i64 ((rd_T86 l1 x23_2).f0)) := (blk_cell BK110.out 0).trans rfl
                                        have hcz48_1 : wc.cell? ⟨gb110, 1, none⟩ = some (.bool ((rd_T86 l1 x23_2).f1)) := (blk_cell BK110.out 1).trans rfl
                                        have hcz48_2 : wc.cell? ⟨gb110, 2, none⟩ = some (.int .i64 ((rd_T86 l1 x23_2).f2)) := (blk_cell BK110.out 2).trans rfl
                                        have hfz48_0 := blk_frozen BK110.out 0
                                        have hfz48_1 := blk_frozen BK110.out 1
                                        have hfz48_2 := blk_frozen BK110.out 2
                                        have hcz49_0 : wc.cell? ⟨gb108, 0, none⟩ = some (.bool ((rd_T84 l0 x23_2).f0)) := (blk_cell BK108.out 0).trans rfl
                                        have hcz49_1 : wc.cell? ⟨gb108, 1, none⟩ = some (.int .i64 ((rd_T84 l0 x23_2).f1.f0)) := (blk_cell BK108.out 1).trans rfl
                                        have hcz49_2 : wc.cell? ⟨gb108, 2, none⟩ = some (.int .i64 ((rd_T84 l0 x23_2).f1.f1)) := (blk_cell BK108.out 2).trans rfl
                                        have hfz49_0 := blk_frozen BK108.out 0
                                        have hfz49_1 := blk_frozen BK108.out 1
                                        have hfz49_2 := blk_frozen BK108.out 2
                                        go_wp2
                                        repeat (go_quiet (fail); try go_wp2)
                                        go_roundg kj9
                                        case measure => have := HJ2.out; have := HK2.out; have := HJ9.out; omega
                                        case rel => exact ⟨(true), (((rd_T86 l1 x23_2).f0)), (wrap64 (x23_2 + 1)), (by first | rfl | (simp; done) | (simp [*]; done)), (by first | rfl | (simp; done) | (simp [*]; done)), (by first | rfl | (simp; done) | (simp [*]; done)), H', ⟨by have := HJ2.out; have := HK2.out; have := HJ9.out; omega⟩, ⟨by repeat (first | (with_reducible first | exact HB.out | apply below_alloc | apply pw_below_drewN | apply below_drew1 | refine below_set ?_ GE108.out | refine below_set ?_ GE110.out) | exact HB.out)⟩⟩
                                      · rw [if_neg c46] at H
                                        have c46b0 : decide (((rd_T84 l0 x23_2).f1.f1) < ((rd_T86 l1 x23_2).f0)) = false := decide_eq_false c46
                                        clear c46
                                        obtain rfl := Option.some.inj H
                                        have hnb50 := NB110_108.out
                                        have hnc50 := NB108_110.out
                                        have hcz51_0 : wc.cell? ⟨gb110, 0, none⟩ = some (.int .i64 ((rd_T86 l1 x23_2).f0)) := (blk_cell BK110.out 0).trans rfl
                                        have hcz51_1 : wc.cell? ⟨gb110, 1, none⟩ = some (.bool ((rd_T86 l1 x23_2).f1)) := (blk_cell BK110.out 1).trans rfl
                                        have hcz51_2 : wc.cell? ⟨gb110, 2, none⟩ = some (.int .i64 ((rd_T86 l1 x23_2).f2)) := (blk_cell BK110.out 2).trans rfl
                                        have hfz51_0 := blk_frozen BK110.out 0
                                        have hfz51_1 := blk_frozen BK110.out 1
                                        have hfz51_2 := blk_frozen BK110.out 2
                                        have hcz52_0 : wc.cell? ⟨gb108, 0, none⟩ = some (.bool ((rd_T84 l0 x23_2).f0)) := (blk_cell BK108.out 0).trans rfl
                                        have hcz52_1 : wc.cell? ⟨gb108, 1, none⟩ = some (.int .i64 ((rd_T84 l0 x23_2).f1.f0)) := (blk_cell BK108.out 1).trans rfl
                                        have hcz52_2 : wc.cell? ⟨gb108, 2, none⟩ = some (.int .i64 ((rd_T84 l0 x23_2).f1.f1)) := (blk_cell BK108.out 2).trans rfl
                                        have hfz52_0 := blk_frozen BK108.out 0
                                        have hfz52_1 := blk_frozen BK108.out 1
                                        have hfz52_2 := blk_frozen BK108.out 2
                                        go_wp2
                                        repeat (go_quiet (fail); try go_wp2)
                                        go_ret
                                        exact ⟨by first | rfl | (simp [errW_none, errW_some] <;> rfl) | (simp [*, errW_none, errW_some] <;> rfl), by repeat (first | (with_reducible first | exact HB.out | apply below_alloc | apply pw_below_drewN | apply below_drew1 | refine below_set ?_ GE108.out | refine below_set ?_ GE110.out) | exact HB.out)⟩
                                    · rw [if_neg c45] at H
                                      have c45b0 : (((rd_T86 l1 x23_2).f0) == x6_2) = false := beq_eq_false_iff_ne.mpr c45
                                      have c45b1 : (((rd_T86 l1 x23_2).f0) != x6_2) = true := bne_iff_ne.mpr c45
                                      obtain rfl := Option.some.inj H
                                      have hnb53 := NB110_108.out
                                      have hnc53 := NB108_110.out
                                      have hcz54_0 : wc.cell? ⟨gb110, 0, none⟩ = some (.int .i64 ((rd_T86 l1 x23_2).f0)) := (blk_cell BK110.out 0).trans rfl
                                      have hcz54_1 : wc.cell? ⟨gb110, 1, none⟩ = some (.bool ((rd_T86 l1 x23_2).f1)) := (blk_cell BK110.out 1).trans rfl
                                      have hcz54_2 : wc.cell? ⟨gb110, 2, none⟩ = some (.int .i64 ((rd_T86 l1 x23_2).f2)) := (blk_cell BK110.out 2).trans rfl
                                      have hfz54_0 := blk_frozen BK110.out 0
                                      have hfz54_1 := blk_frozen BK110.out 1
                                      have hfz54_2 := blk_frozen BK110.out 2
                                      have hcz55_0 : wc.cell? ⟨gb108, 0, none⟩ = some (.bool ((rd_T84 l0 x23_2).f0)) := (blk_cell BK108.out 0).trans rfl
                                      have hcz55_1 : wc.cell? ⟨gb108, 1, none⟩ = some (.int .i64 ((rd_T84 l0 x23_2).f1.f0)) := (blk_cell BK108.out 1).trans rfl
                                      have hcz55_2 : wc.cell? ⟨gb108, 2, none⟩ = some (.int .i64 ((rd_T84 l0 x23_2).f1.f1)) := (blk_cell BK108.out 2).trans rfl
                                      have hfz55_0 := blk_frozen BK108.out 0
                                      have hfz55_1 := blk_frozen BK108.out 1
                                      have hfz55_2 := blk_frozen BK108.out 2
                                      go_wp2
                                      repeat (go_quiet (fail); try go_wp2)
                                      go_ret
                                      exact ⟨by first | rfl | (simp [errW_none, errW_some] <;> rfl) | (simp [*, errW_none, errW_some] <;> rfl), by repeat (first | (with_reducible first | exact HB.out | apply below_alloc | apply pw_below_drewN | apply below_drew1 | refine below_set ?_ GE108.out | refine below_set ?_ GE110.out) | exact HB.out)⟩
                                  · replace c44 := Bool.eq_false_iff.mpr c44
                                    subst c44
                                    have H1 : (some false) = some r := by rw [if_neg (show ¬ (false = true) by decide)] at H; exact H
                                    clear H
                                    have H := H1
                                    clear H1
                                    obtain rfl := Option.some.inj H
                                    have hnb56 := NB110_108.out
                                    have hnc56 := NB108_110.out
                                    have hcz57_0 : wc.cell? ⟨gb110, 0, none⟩ = some (.int .i64 ((rd_T86 l1 x23_2).f0)) := (blk_cell BK110.out 0).trans rfl
                                    have hcz57_1 : wc.cell? ⟨gb110, 1, none⟩ = some (.bool ((rd_T86 l1 x23_2).f1)) := (blk_cell BK110.out 1).trans rfl
                                    have hcz57_2 : wc.cell? ⟨gb110, 2, none⟩ = some (.int .i64 ((rd_T86 l1 x23_2).f2)) := (blk_cell BK110.out 2).trans rfl
                                    have hfz57_0 := blk_frozen BK110.out 0
                                    have hfz57_1 := blk_frozen BK110.out 1
                                    have hfz57_2 := blk_frozen BK110.out 2
                                    have hcz58_0 : wc.cell? ⟨gb108, 0, none⟩ = some (.bool ((rd_T84 l0 x23_2).f0)) := (blk_cell BK108.out 0).trans rfl
                                    have hcz58_1 : wc.cell? ⟨gb108, 1, none⟩ = some (.int .i64 ((rd_T84 l0 x23_2).f1.f0)) := (blk_cell BK108.out 1).trans rfl
                                    have hcz58_2 : wc.cell? ⟨gb108, 2, none⟩ = some (.int .i64 ((rd_T84 l0 x23_2).f1.f1)) := (blk_cell BK108.out 2).trans rfl
                                    have hfz58_0 := blk_frozen BK108.out 0
                                    have hfz58_1 := blk_frozen BK108.out 1
                                    have hfz58_2 := blk_frozen BK108.out 2
                                    go_wp2
                                    repeat (go_quiet (fail); try go_wp2)
                                    go_ret
                                    exact ⟨by first | rfl | (simp [errW_none, errW_some] <;> rfl) | (simp [*, errW_none, errW_some] <;> rfl), by repeat (first | (with_reducible first | exact HB.out | apply below_alloc | apply pw_below_drewN | apply below_drew1 | refine below_set ?_ GE108.out | refine below_set ?_ GE110.out) | exact HB.out)⟩
                                · rw [if_neg c43] at H
                                  have c43b0 : (((rd_T86 l1 x23_2).f2) == 0) = false := beq_eq_false_iff_ne.mpr c43
                                  have c43b1 : (((rd_T86 l1 x23_2).f2) != 0) = true := bne_iff_ne.mpr c43
                                  obtain rfl := Option.some.inj H
                                  have hnb59 := NB110_108.out
                                  have hnc59 := NB108_110.out
                                  have hcz60_0 : wc.cell? ⟨gb110, 0, none⟩ = some (.int .i64 ((rd_T86 l1 x23_2).f0)) := (blk_cell BK110.out 0).trans rfl
                                  have hcz60_1 : wc.cell? ⟨gb110, 1, none⟩ = some (.bool ((rd_T86 l1 x23_2).f1)) := (blk_cell BK110.out 1).trans rfl
                                  have hcz60_2 : wc.cell? ⟨gb110, 2, none⟩ = some (.int .i64 ((rd_T86 l1 x23_2).f2)) := (blk_cell BK110.out 2).trans rfl
                                  have hfz60_0 := blk_frozen BK110.out 0
                                  have hfz60_1 := blk_frozen BK110.out 1
                                  have hfz60_2 := blk_frozen BK110.out 2
                                  have hcz61_0 : wc.cell? ⟨gb108, 0, none⟩ = some (.bool ((rd_T84 l0 x23_2).f0)) := (blk_cell BK108.out 0).trans rfl
                                  have hcz61_1 : wc.cell? ⟨gb108, 1, none⟩ = some (.int .i64 ((rd_T84 l0 x23_2).f1.f0)) := (blk_cell BK108.out 1).trans rfl
                                  have hcz61_2 : wc.cell? ⟨gb108, 2, none⟩ = some (.int .i64 ((rd_T84 l0 x23_2).f1.f1)) := (blk_cell BK108.out 2).trans rfl
                                  have hfz61_0 := blk_frozen BK108.out 0
                                  have hfz61_1 := blk_frozen BK108.out 1
                                  have hfz61_2 := blk_frozen BK108.out 2
                                  go_wp2
                                  repeat (go_quiet (fail); try go_wp2)
                                  go_ret
                                  exact ⟨by first | rfl | (simp [errW_none, errW_some] <;> rfl) | (simp [*, errW_none, errW_some] <;> rfl), by repeat (first | (with_reducible first | exact HB.out | apply below_alloc | apply pw_below_drewN | apply below_drew1 | refine below_set ?_ GE108.out | refine below_set ?_ GE110.out) | exact HB.out)⟩
                              · rw [if_neg c42] at H
                                have c42b0 : ((rd_T86 l1 x23_2).f1) = false := by simpa using c42
                                clear c42
                                by_cases c62 : ((rd_T86 l1 x23_2).f2) = 0
                                · rw [if_pos c62] at H
                                  have c62b0 : (((rd_T86 l1 x23_2).f2) == 0) = true := beq_iff_eq.mpr c62
                                  have c62b1 : (((rd_T86 l1 x23_2).f2) != 0) = false := bne_eq_false_iff_eq.mpr c62
                                  clear c62
                                  replace H := Option.bind_eq_some_iff.mp H
                                  obtain ⟨t112, A630, H⟩ := H
                                  replace H : (if t112 = true then (if x5_2 = true then (if ((rd_T86 l1 x23_2).f0) ≥ x6_2 then (impl_ReadsOk.l0 kj9 l1 true ((rd_T86 l1 x23_2).f0) l0 (l0.length : Int) (wrap64 (x23_2 + 1))) else (some false)) else (impl_ReadsOk.l0 kj9 l1 true ((rd_T86 l1 x23_2).f0) l0 (l0.length : Int) (wrap64 (x23_2 + 1)))) else (some false)) = some r := H
                                  have A63 := Aside0.mk A630
                                  clear A630
                                  by_cases c64 : t112 = true
                                  · subst c64
                                    have H1 : (if x5_2 = true then (if ((rd_T86 l1 x23_2).f0) ≥ x6_2 then (impl_ReadsOk.l0 kj9 l1 true ((rd_T86 l1 x23_2).f0) l0 (l0.length : Int) (wrap64 (x23_2 + 1))) else (some false)) else (impl_ReadsOk.l0 kj9 l1 true ((rd_T86 l1 x23_2).f0) l0 (l0.length : Int) (wrap64 (x23_2 + 1)))) = some r := by rw [if_pos rfl] at H; exact H
                                    clear H
                                    have H := H1
                                    clear H1
                                    by_cases c65 : x5_2 = true
                                    · subst c65
                                      have H1 : (if ((rd_T86 l1 x23_2).f0) ≥ x6_2 then (impl_ReadsOk.l0 kj9 l1 true ((rd_T86 l1 x23_2).f0) l0 (l0.length : Int) (wrap64 (x23_2 + 1))) else (some false)) = some r := by rw [if_pos rfl] at H; exact H
                                      clear H
                                      have H := H1
                                      clear H1
                                      by_cases c66 : ((rd_T86 l1 x23_2).f0) ≥ x6_2
                                      · rw [if_pos c66] at H
                                        have c66b0 : decide (x6_2 ≤ ((rd_T86 l1 x23_2).f0)) = true := decide_eq_true c66
                                        clear c66
                                        have H' := Aside0.mk H
                                        clear H
                                        have hnb67 := NB110_108.out
                                        have hnc67 := NB108_110.out
                                        have hcz68_0 : wc.cell? ⟨gb110, 0, none⟩ = some (.int .i64 ((rd_T86 l1 x23_2).f0)) := (blk_cell BK110.out 0).trans rfl
                                        have hcz68_1 : wc.cell? ⟨gb110, 1, none⟩ = some (.bool ((rd_T86 l1 x23_2).f1)) := (blk_cell BK110.out 1).trans rfl
                                        have hcz68_2 : wc.cell? ⟨gb110, 2, none⟩ = some (.int .i64 ((rd_T86 l1 x23_2).f2)) := (blk_cell BK110.out 2).trans rfl
                                        have hfz68_0 := blk_frozen BK110.out 0
                                        have hfz68_1 := blk_frozen BK110.out 1
                                        have hfz68_2 := blk_frozen BK110.out 2
                                        have hcz69_0 : wc.cell? ⟨gb108, 0, none⟩ = some (.bool ((rd_T84 l0 x23_2).f0)) := (blk_cell BK108.out 0).trans rfl
                                        have hcz69_1 : wc.cell? ⟨gb108, 1, none⟩ = some (.int .i64 ((rd_T84 l0 x23_2).f1.f0)) := (blk_cell BK108.out 1).trans rfl
                                        have hcz69_2 : wc.cell? ⟨gb108, 2, none⟩ = some (.int .i64 ((rd_T84 l0 x23_2).f1.f1)) := (blk_cell BK108.out 2).trans rfl
                                        have hfz69_0 := blk_frozen BK108.out 0
                                        have hfz69_1 := blk_frozen BK108.out 1
                                        have hfz69_2 := blk_frozen BK108.out 2
                                        go_wp2_with (first | (go_at_call 62; (with_reducible refine (impl_Holds.calls ((rd_T84 l0 x23_2).f1.f0) ((rd_T84 l0 x23_2).f1.f1) ((rd_T86 l1 x23_2).f0) true _ A63.out).mono ?_); rintro e w70 ⟨rfl, hb⟩; have n0_ := Aside0.mk (blk_below (g := gb108) (o := .cells #[.bool ((rd_T84 l0 x23_2).f0), .int .i64 ((rd_T84 l0 x23_2).f1.f0), .int .i64 ((rd_T84 l0 x23_2).f1.f1)] 84 (0, 0)) (by (with_reducible repeat (first | refine blk_drewN ?_ _ | refine blk_drew ?_ | refine blk_alloc ?_ _)); exact BK108.out) hb); have n1_ := Aside0.mk (blk_below (g := gb110) (o := .cells #[.int .i64 ((rd_T86 l1 x23_2).f0), .bool ((rd_T86 l1 x23_2).f1), .int .i64 ((rd_T86 l1 x23_2).f2)] 86 (0, 0)) (by (with_reducible repeat (first | refine blk_drewN ?_ _ | refine blk_drew ?_ | refine blk_alloc ?_ _)); exact BK110.out) hb); have n2_ := Aside0.mk (below_step (by repeat (first | (with_reducible first | exact HB.out | apply below_alloc | apply pw_below_drewN | apply below_drew1 | refine below_set ?_ GE108.out | refine below_set ?_ GE110.out) | exact HB.out)) hb); clear BK108; clear BK110; clear HB; have BK108 := n0_; have BK110 := n1_; have HB := n2_; clear n0_ n1_ n2_; (try clear hb); (try clear hb2); (try clear hk); (try clear hi); have hcz71_0 : w70.cell? ⟨gb110, 0, none⟩ = some (.int .i64 ((rd_T86 l1 x23_2).f0)) := (blk_cell BK110.out 0).trans rfl; have hcz71_1 : w70.cell? ⟨gb110, 1, none⟩ = some (.bool ((rd_T86 l1 x23_2).f1)) := (blk_cell BK110.out 1).trans rfl; have hcz71_2 : w70.cell? ⟨gb110, 2, none⟩ = some (.int .i64 ((rd_T86 l1 x23_2).f2)) := (blk_cell BK110.out 2).trans rfl; have hfz71_0 := blk_frozen BK110.out 0; have hfz71_1 := blk_frozen BK110.out 1; have hfz71_2 := blk_frozen BK110.out 2))
                                        repeat (go_quiet (first | (go_at_call 62; (with_reducible refine (impl_Holds.calls ((rd_T84 l0 x23_2).f1.f0) ((rd_T84 l0 x23_2).f1.f1) ((rd_T86 l1 x23_2).f0) true _ A63.out).mono ?_); rintro e w70 ⟨rfl, hb⟩; have n0_ := Aside0.mk (blk_below (g := gb108) (o := .cells #[.bool ((rd_T84 l0 x23_2).f0), .int .i64 ((rd_T84 l0 x23_2).f1.f0), .int .i64 ((rd_T84 l0 x23_2).f1.f1)] 84 (0, 0)) (by (with_reducible repeat (first | refine blk_drewN ?_ _ | refine blk_drew ?_ | refine blk_alloc ?_ _)); exact BK108.out) hb); have n1_ := Aside0.mk (blk_below (g := gb110) (o := .cells #[.int .i64 ((rd_T86 l1 x23_2).f0), .bool ((rd_T86 l1 x23_2).f1), .int .i64 ((rd_T86 l1 x23_2).f2)] 86 (0, 0)) (by (with_reducible repeat (first | refine blk_drewN ?_ _ | refine blk_drew ?_ | refine blk_alloc ?_ _)); exact BK110.out) hb); have n2_ := Aside0.mk (below_step (by repeat (first | (with_reducible first | exact HB.out | apply below_alloc | apply pw_below_drewN | apply below_drew1 | refine below_set ?_ GE108.out | refine below_set ?_ GE110.out) | exact HB.out)) hb); clear BK108; clear BK110; clear HB; have BK108 := n0_; have BK110 := n1_; have HB := n2_; clear n0_ n1_ n2_; (try clear hb); (try clear hb2); (try clear hk); (try clear hi); have hcz71_0 : w70.cell? ⟨gb110, 0, none⟩ = some (.int .i64 ((rd_T86 l1 x23_2).f0)) := (blk_cell BK110.out 0).trans rfl; have hcz71_1 : w70.cell? ⟨gb110, 1, none⟩ = some (.bool ((rd_T86 l1 x23_2).f1)) := (blk_cell BK110.out 1).trans rfl; have hcz71_2 : w70.cell? ⟨gb110, 2, none⟩ = some (.int .i64 ((rd_T86 l1 x23_2).f2)) := (blk_cell BK110.out 2).trans rfl; have hfz71_0 := blk_frozen BK110.out 0; have hfz71_1 := blk_frozen BK110.out 1; have hfz71_2 := blk_frozen BK110.out 2)); try go_wp2_with (first | (go_at_call 62; (with_reducible refine (impl_Holds.calls ((rd_T84 l0 x23_2).f1.f0) ((rd_T84 l0 x23_2).f1.f1) ((rd_T86 l1 x23_2).f0) true _ A63.out).mono ?_); rintro e w70 ⟨rfl, hb⟩; have n0_ := Aside0.mk (blk_below (g := gb108) (o := .cells #[.bool ((rd_T84 l0 x23_2).f0), .int .i64 ((rd_T84 l0 x23_2).f1.f0), .int .i64 ((rd_T84 l0 x23_2).f1.f1)] 84 (0, 0)) (by (with_reducible repeat (first | refine blk_drewN ?_ _ | refine blk_drew ?_ | refine blk_alloc ?_ _)); exact BK108.out) hb); have n1_ := Aside0.mk (blk_below (g := gb110) (o := .cells #[.int .i64 ((rd_T86 l1 x23_2).f0), .bool ((rd_T86 l1 x23_2).f1), .int .i64 ((rd_T86 l1 x23_2).f2)] 86 (0, 0)) (by (with_reducible repeat (first | refine blk_drewN ?_ _ | refine blk_drew ?_ | refine blk_alloc ?_ _)); exact BK110.out) hb); have n2_ := Aside0.mk (below_step (by repeat (first | (with_reducible first | exact HB.out | apply below_alloc | apply pw_below_drewN | apply below_drew1 | refine below_set ?_ GE108.out | refine below_set ?_ GE110.out) | exact HB.out)) hb); clear BK108; clear BK110; clear HB; have BK108 := n0_; have BK110 := n1_; have HB := n2_; clear n0_ n1_ n2_; (try clear hb); (try clear hb2); (try clear hk); (try clear hi); have hcz71_0 : w70.cell? ⟨gb110, 0, none⟩ = some (.int .i64 ((rd_T86 l1 x23_2).f0)) := (blk_cell BK110.out 0).trans rfl; have hcz71_1 : w70.cell? ⟨gb110, 1, none⟩ = some (.bool ((rd_T86 l1 x23_2).f1)) := (blk_cell BK110.out 1).trans rfl; have hcz71_2 : w70.cell? ⟨gb110, 2, none⟩ = some (.int .i64 ((rd_T86 l1 x23_2).f2)) := (blk_cell BK110.out 2).trans rfl; have hfz71_0 := blk_frozen BK110.out 0; have hfz71_1 := blk_frozen BK110.out 1; have hfz71_2 := blk_frozen BK110.out 2)))
                                        go_roundg kj9
                                        case measure => have := HJ2.out; have := HK2.out; have := HJ9.out; omega
                                        case rel => exact ⟨(true), (((rd_T86 l1 x23_2).f0)), (wrap64 (x23_2 + 1)), (by first | rfl | (simp; done) | (simp [*]; done)), (by first | rfl | (simp; done) | (simp [*]; done)), (by first | rfl | (simp; done) | (simp [*]; done)), H', ⟨by have := HJ2.out; have := HK2.out; have := HJ9.out; omega⟩, ⟨by repeat (first | (with_reducible first | exact HB.out | apply below_alloc | apply pw_below_drewN | apply below_drew1 | refine below_set ?_ GE108.out | refine below_set ?_ GE110.out) | exact HB.out)⟩⟩
                                      · rw [if_neg c66] at H
                                        have c66b0 : decide (x6_2 ≤ ((rd_T86 l1 x23_2).f0)) = false := decide_eq_false c66
                                        clear c66
                                        obtain rfl := Option.some.inj H
                                        have hnb72 := NB110_108.out
                                        have hnc72 := NB108_110.out
                                        have hcz73_0 : wc.cell? ⟨gb110, 0, none⟩ = some (.int .i64 ((rd_T86 l1 x23_2).f0)) := (blk_cell BK110.out 0).trans rfl
                                        have hcz73_1 : wc.cell? ⟨gb110, 1, none⟩ = some (.bool ((rd_T86 l1 x23_2).f1)) := (blk_cell BK110.out 1).trans rfl
                                        have hcz73_2 : wc.cell? ⟨gb110, 2, none⟩ = some (.int .i64 ((rd_T86 l1 x23_2).f2)) := (blk_cell BK110.out 2).trans rfl
                                        have hfz73_0 := blk_frozen BK110.out 0
                                        have hfz73_1 := blk_frozen BK110.out 1
                                        have hfz73_2 := blk_frozen BK110.out 2
                                        have hcz74_0 : wc.cell? ⟨gb108, 0, none⟩ = some (.bool ((rd_T84 l0 x23_2).f0)) := (blk_cell BK108.out 0).trans rfl
                                        have hcz74_1 : wc.cell? ⟨gb108, 1, none⟩ = some (.int .i64 ((rd_T84 l0 x23_2).f1.f0)) := (blk_cell BK108.out 1).trans rfl
                                        have hcz74_2 : wc.cell? ⟨gb108, 2, none⟩ = some (.int .i64 ((rd_T84 l0 x23_2).f1.f1)) := (blk_cell BK108.out 2).trans rfl
                                        have hfz74_0 := blk_frozen BK108.out 0
                                        have hfz74_1 := blk_frozen BK108.out 1
                                        have hfz74_2 := blk_frozen BK108.out 2
                                        go_wp2_with (first | (go_at_call 62; (with_reducible refine (impl_Holds.calls ((rd_T84 l0 x23_2).f1.f0) ((rd_T84 l0 x23_2).f1.f1) ((rd_T86 l1 x23_2).f0) true _ A63.out).mono ?_); rintro e w75 ⟨rfl, hb⟩; have n0_ := Aside0.mk (blk_below (g := gb108) (o := .cells #[.bool ((rd_T84 l0 x23_2).f0), .int .i64 ((rd_T84 l0 x23_2).f1.f0), .int .i64 ((rd_T84 l0 x23_2).f1.f1)] 84 (0, 0)) (by (with_reducible repeat (first | refine blk_drewN ?_ _ | refine blk_drew ?_ | refine blk_alloc ?_ _)); exact BK108.out) hb); have n1_ := Aside0.mk (blk_below (g := gb110) (o := .cells #[.int .i64 ((rd_T86 l1 x23_2).f0), .bool ((rd_T86 l1 x23_2).f1), .int .i64 ((rd_T86 l1 x23_2).f2)] 86 (0, 0)) (by (with_reducible repeat (first | refine blk_drewN ?_ _ | refine blk_drew ?_ | refine blk_alloc ?_ _)); exact BK110.out) hb); have n2_ := Aside0.mk (below_step (by repeat (first | (with_reducible first | exact HB.out | apply below_alloc | apply pw_below_drewN | apply below_drew1 | refine below_set ?_ GE108.out | refine below_set ?_ GE110.out) | exact HB.out)) hb); clear BK108; clear BK110; clear HB; have BK108 := n0_; have BK110 := n1_; have HB := n2_; clear n0_ n1_ n2_; (try clear hb); (try clear hb2); (try clear hk); (try clear hi); have hcz76_0 : w75.cell? ⟨gb110, 0, none⟩ = some (.int .i64 ((rd_T86 l1 x23_2).f0)) := (blk_cell BK110.out 0).trans rfl; have hcz76_1 : w75.cell? ⟨gb110, 1, none⟩ = some (.bool ((rd_T86 l1 x23_2).f1)) := (blk_cell BK110.out 1).trans rfl; have hcz76_2 : w75.cell? ⟨gb110, 2, none⟩ = some (.int .i64 ((rd_T86 l1 x23_2).f2)) := (blk_cell BK110.out 2).trans rfl; have hfz76_0 := blk_frozen BK110.out 0; have hfz76_1 := blk_frozen BK110.out 1; have hfz76_2 := blk_frozen BK110.out 2))
                                        repeat (go_quiet (first | (go_at_call 62; (with_reducible refine (impl_Holds.calls ((rd_T84 l0 x23_2).f1.f0) ((rd_T84 l0 x23_2).f1.f1) ((rd_T86 l1 x23_2).f0) true _ A63.out).mono ?_); rintro e w75 ⟨rfl, hb⟩; have n0_ := Aside0.mk (blk_below (g := gb108) (o := .cells #[.bool ((rd_T84 l0 x23_2).f0), .int .i64 ((rd_T84 l0 x23_2).f1.f0), .int .i64 ((rd_T84 l0 x23_2).f1.f1)] 84 (0, 0)) (by (with_reducible repeat (first | refine blk_drewN ?_ _ | refine blk_drew ?_ | refine blk_alloc ?_ _)); exact BK108.out) hb); have n1_ := Aside0.mk (blk_below (g := gb110) (o := .cells #[.int .i64 ((rd_T86 l1 x23_2).f0), .bool ((rd_T86 l1 x23_2).f1), .int .i64 ((rd_T86 l1 x23_2).f2)] 86 (0, 0)) (by (with_reducible repeat (first | refine blk_drewN ?_ _ | refine blk_drew ?_ | refine blk_alloc ?_ _)); exact BK110.out) hb); have n2_ := Aside0.mk (below_step (by repeat (first | (with_reducible first | exact HB.out | apply below_alloc | apply pw_below_drewN | apply below_drew1 | refine below_set ?_ GE108.out | refine below_set ?_ GE110.out) | exact HB.out)) hb); clear BK108; clear BK110; clear HB; have BK108 := n0_; have BK110 := n1_; have HB := n2_; clear n0_ n1_ n2_; (try clear hb); (try clear hb2); (try clear hk); (try clear hi); have hcz76_0 : w75.cell? ⟨gb110, 0, none⟩ = some (.int .i64 ((rd_T86 l1 x23_2).f0)) := (blk_cell BK110.out 0).trans rfl; have hcz76_1 : w75.cell? ⟨gb110, 1, none⟩ = some (.bool ((rd_T86 l1 x23_2).f1)) := (blk_cell BK110.out 1).trans rfl; have hcz76_2 : w75.cell? ⟨gb110, 2, none⟩ = some (.int .i64 ((rd_T86 l1 x23_2).f2)) := (blk_cell BK110.out 2).trans rfl; have hfz76_0 := blk_frozen BK110.out 0; have hfz76_1 := blk_frozen BK110.out 1; have hfz76_2 := blk_frozen BK110.out 2)); try go_wp2_with (first | (go_at_call 62; (with_reducible refine (impl_Holds.calls ((rd_T84 l0 x23_2).f1.f0) ((rd_T84 l0 x23_2).f1.f1) ((rd_T86 l1 x23_2).f0) true _ A63.out).mono ?_); rintro e w75 ⟨rfl, hb⟩; have n0_ := Aside0.mk (blk_below (g := gb108) (o := .cells #[.bool ((rd_T84 l0 x23_2).f0), .int .i64 ((rd_T84 l0 x23_2).f1.f0), .int .i64 ((rd_T84 l0 x23_2).f1.f1)] 84 (0, 0)) (by (with_reducible repeat (first | refine blk_drewN ?_ _ | refine blk_drew ?_ | refine blk_alloc ?_ _)); exact BK108.out) hb); have n1_ := Aside0.mk (blk_below (g := gb110) (o := .cells #[.int .i64 ((rd_T86 l1 x23_2).f0), .bool ((rd_T86 l1 x23_2).f1), .int .i64 ((rd_T86 l1 x23_2).f2)] 86 (0, 0)) (by (with_reducible repeat (first | refine blk_drewN ?_ _ | refine blk_drew ?_ | refine blk_alloc ?_ _)); exact BK110.out) hb); have n2_ := Aside0.mk (below_step (by repeat (first | (with_reducible first | exact HB.out | apply below_alloc | apply pw_below_drewN | apply below_drew1 | refine below_set ?_ GE108.out | refine below_set ?_ GE110.out) | exact HB.out)) hb); clear BK108; clear BK110; clear HB; have BK108 := n0_; have BK110 := n1_; have HB := n2_; clear n0_ n1_ n2_; (try clear hb); (try clear hb2); (try clear hk); (try clear hi); have hcz76_0 : w75.cell? ⟨gb110, 0, none⟩ = some (.int .i64 ((rd_T86 l1 x23_2).f0)) := (blk_cell BK110.out 0).trans rfl; have hcz76_1 : w75.cell? ⟨gb110, 1, none⟩ = some (.bool ((rd_T86 l1 x23_2).f1)) := (blk_cell BK110.out 1).trans rfl; have hcz76_2 : w75.cell? ⟨gb110, 2, none⟩ = some (.int .i64 ((rd_T86 l1 x23_2).f2)) := (blk_cell BK110.out 2).trans rfl; have hfz76_0 := blk_frozen BK110.out 0; have hfz76_1 := blk_frozen BK110.out 1; have hfz76_2 := blk_frozen BK110.out 2)))
                                        go_ret
                                        exact ⟨by first | rfl | (simp [errW_none, errW_some] <;> rfl) | (simp [*, errW_none, errW_some] <;> rfl), by repeat (first | (with_reducible first | exact HB.out | apply below_alloc | apply pw_below_drewN | apply below_drew1 | refine below_set ?_ GE108.out | refine below_set ?_ GE110.out) | exact HB.out)⟩
                                    · replace c65 := Bool.eq_false_iff.mpr c65
                                      subst c65
                                      have H1 : (impl_ReadsOk.l0 kj9 l1 true ((rd_T86 l1 x23_2).f0) l0 (l0.length : Int) (wrap64 (x23_2 + 1))) = some r := by rw [if_neg (show ¬ (false = true) by decide)] at H; exact H
                                      clear H
                                      have H := H1
                                      clear H1
                                      have H' := Aside0.mk H
                                      clear H
                                      have hnb77 := NB110_108.out
                                      have hnc77 := NB108_110.out
                                      have hcz78_0 : wc.cell? ⟨gb110, 0, none⟩ = some (.int .i64 ((rd_T86 l1 x23_2).f0)) := (blk_cell BK110.out 0).trans rfl
                                      have hcz78_1 : wc.cell? ⟨gb110, 1, none⟩ = some (.bool ((rd_T86 l1 x23_2).f1)) := (blk_cell BK110.out 1).trans rfl
                                      have hcz78_2 : wc.cell? ⟨gb110, 2, none⟩ = some (.int .i64 ((rd_T86 l1 x23_2).f2)) := (blk_cell BK110.out 2).trans rfl
                                      have hfz78_0 := blk_frozen BK110.out 0
                                      have hfz78_1 := blk_frozen BK110.out 1
                                      have hfz78_2 := blk_frozen BK110.out 2
                                      have hcz79_0 : wc.cell? ⟨gb108, 0, none⟩ = some (.bool ((rd_T84 l0 x23_2).f0)) := (blk_cell BK108.out 0).trans rfl
                                      have hcz79_1 : wc.cell? ⟨gb108, 1, none⟩ = some (.int .i64 ((rd_T84 l0 x23_2).f1.f0)) := (blk_cell BK108.out 1).trans rfl
                                      have hcz79_2 : wc.cell? ⟨gb108, 2, none⟩ = some (.int .i64 ((rd_T84 l0 x23_2).f1.f1)) := (blk_cell BK108.out 2).trans rfl
                                      have hfz79_0 := blk_frozen BK108.out 0
                                      have hfz79_1 := blk_frozen BK108.out 1
                                      have hfz79_2 := blk_frozen BK108.out 2
                                      go_wp2_with (first | (go_at_call 62; (with_reducible refine (impl_Holds.calls ((rd_T84 l0 x23_2).f1.f0) ((rd_T84 l0 x23_2).f1.f1) ((rd_T86 l1 x23_2).f0) true _ A63.out).mono ?_); rintro e w80 ⟨rfl, hb⟩; have n0_ := Aside0.mk (blk_below (g := gb108) (o := .cells #[.bool ((rd_T84 l0 x23_2).f0), .int .i64 ((rd_T84 l0 x23_2).f1.f0), .int .i64 ((rd_T84 l0 x23_2).f1.f1)] 84 (0, 0)) (by (with_reducible repeat (first | refine blk_drewN ?_ _ | refine blk_drew ?_ | refine blk_alloc ?_ _)); exact BK108.out) hb); have n1_ := Aside0.mk (blk_below (g := gb110) (o := .cells #[.int .i64 ((rd_T86 l1 x23_2).f0), .bool ((rd_T86 l1 x23_2).f1), .int .i64 ((rd_T86 l1 x23_2).f2)] 86 (0, 0)) (by (with_reducible repeat (first | refine blk_drewN ?_ _ | refine blk_drew ?_ | refine blk_alloc ?_ _)); exact BK110.out) hb); have n2_ := Aside0.mk (below_step (by repeat (first | (with_reducible first | exact HB.out | apply below_alloc | apply pw_below_drewN | apply below_drew1 | refine below_set ?_ GE108.out | refine below_set ?_ GE110.out) | exact HB.out)) hb); clear BK108; clear BK110; clear HB; have BK108 := n0_; have BK110 := n1_; have HB := n2_; clear n0_ n1_ n2_; (try clear hb); (try clear hb2); (try clear hk); (try clear hi); have hcz81_0 : w80.cell? ⟨gb110, 0, none⟩ = some (.int .i64 ((rd_T86 l1 x23_2).f0)) := (blk_cell BK110.out 0).trans rfl; have hcz81_1 : w80.cell? ⟨gb110, 1, none⟩ = some (.bool ((rd_T86 l1 x23_2).f1)) := (blk_cell BK110.out 1).trans rfl; have hcz81_2 : w80.cell? ⟨gb110, 2, none⟩ = some (.int .i64 ((rd_T86 l1 x23_2).f2)) := (blk_cell BK110.out 2).trans rfl; have hfz81_0 := blk_frozen BK110.out 0; have hfz81_1 := blk_frozen BK110.out 1; have hfz81_2 := blk_frozen BK110.out 2))
                                      repeat (go_quiet (first | (go_at_call 62; (with_reducible refine (impl_Holds.calls ((rd_T84 l0 x23_2).f1.f0) ((rd_T84 l0 x23_2).f1.f1) ((rd_T86 l1 x23_2).f0) true _ A63.out).mono ?_); rintro e w80 ⟨rfl, hb⟩; have n0_ := Aside0.mk (blk_below (g := gb108) (o := .cells #[.bool ((rd_T84 l0 x23_2).f0), .int .i64 ((rd_T84 l0 x23_2).f1.f0), .int .i64 ((rd_T84 l0 x23_2).f1.f1)] 84 (0, 0)) (by (with_reducible repeat (first | refine blk_drewN ?_ _ | refine blk_drew ?_ | refine blk_alloc ?_ _)); exact BK108.out) hb); have n1_ := Aside0.mk (blk_below (g := gb110) (o := .cells #[.int .i64 ((rd_T86 l1 x23_2).f0), .bool ((rd_T86 l1 x23_2).f1), .int .i64 ((rd_T86 l1 x23_2).f2)] 86 (0, 0)) (by (with_reducible repeat (first | refine blk_drewN ?_ _ | refine blk_drew ?_ | refine blk_alloc ?_ _)); exact BK110.out) hb); have n2_ := Aside0.mk (below_step (by repeat (first | (with_reducible first | exact HB.out | apply below_alloc | apply pw_below_drewN | apply below_drew1 | refine below_set ?_ GE108.out | refine below_set ?_ GE110.out) | exact HB.out)) hb); clear BK108; clear BK110; clear HB; have BK108 := n0_; have BK110 := n1_; have HB := n2_; clear n0_ n1_ n2_; (try clear hb); (try clear hb2); (try clear hk); (try clear hi); have hcz81_0 : w80.cell? ⟨gb110, 0, none⟩ = some (.int .i64 ((rd_T86 l1 x23_2).f0)) := (blk_cell BK110.out 0).trans rfl; have hcz81_1 : w80.cell? ⟨gb110, 1, none⟩ = some (.bool ((rd_T86 l1 x23_2).f1)) := (blk_cell BK110.out 1).trans rfl; have hcz81_2 : w80.cell? ⟨gb110, 2, none⟩ = some (.int .i64 ((rd_T86 l1 x23_2).f2)) := (blk_cell BK110.out 2).trans rfl; have hfz81_0 := blk_frozen BK110.out 0; have hfz81_1 := blk_frozen BK110.out 1; have hfz81_2 := blk_frozen BK110.out 2)); try go_wp2_with (first | (go_at_call 62; (with_reducible refine (impl_Holds.calls ((rd_T84 l0 x23_2).f1.f0) ((rd_T84 l0 x23_2).f1.f1) ((rd_T86 l1 x23_2).f0) true _ A63.out).mono ?_); rintro e w80 ⟨rfl, hb⟩; have n0_ := Aside0.mk (blk_below (g := gb108) (o := .cells #[.bool ((rd_T84 l0 x23_2).f0), .int .i64 ((rd_T84 l0 x23_2).f1.f0), .int .i64 ((rd_T84 l0 x23_2).f1.f1)] 84 (0, 0)) (by (with_reducible repeat (first | refine blk_drewN ?_ _ | refine blk_drew ?_ | refine blk_alloc ?_ _)); exact BK108.out) hb); have n1_ := Aside0.mk (blk_below (g := gb110) (o := .cells #[.int .i64 ((rd_T86 l1 x23_2).f0), .bool ((rd_T86 l1 x23_2).f1), .int .i64 ((rd_T86 l1 x23_2).f2)] 86 (0, 0)) (by (with_reducible repeat (first | refine blk_drewN ?_ _ | refine blk_drew ?_ | refine blk_alloc ?_ _)); exact BK110.out) hb); have n2_ := Aside0.mk (below_step (by repeat (first | (with_reducible first | exact HB.out | apply below_alloc | apply pw_below_drewN | apply below_drew1 | refine below_set ?_ GE108.out | refine below_set ?_ GE110.out) | exact HB.out)) hb); clear BK108; clear BK110; clear HB; have BK108 := n0_; have BK110 := n1_; have HB := n2_; clear n0_ n1_ n2_; (try clear hb); (try clear hb2); (try clear hk); (try clear hi); have hcz81_0 : w80.cell? ⟨gb110, 0, none⟩ = some (.int .i64 ((rd_T86 l1 x23_2).f0)) := (blk_cell BK110.out 0).trans rfl; have hcz81_1 : w80.cell? ⟨gb110, 1, none⟩ = some (.bool ((rd_T86 l1 x23_2).f1)) := (blk_cell BK110.out 1).trans rfl; have hcz81_2 : w80.cell? ⟨gb110, 2, none⟩ = some (.int .i64 ((rd_T86 l1 x23_2).f2)) := (blk_cell BK110.out 2).trans rfl; have hfz81_0 := blk_frozen BK110.out 0; have hfz81_1 := blk_frozen BK110.out 1; have hfz81_2 := blk_frozen BK110.out 2)))
                                      go_roundg kj9
                                      case measure => have := HJ2.out; have := HK2.out; have := HJ9.out; omega
                                      case rel => exact ⟨(true), (((rd_T86 l1 x23_2).f0)), (wrap64 (x23_2 + 1)), (by first | rfl | (simp; done) | (simp [*]; done)), (by first | rfl | (simp; done) | (simp [*]; done)), (by first | rfl | (simp; done) | (simp [*]; done)), H', ⟨by have := HJ2.out; have := HK2.out; have := HJ9.out; omega⟩, ⟨by repeat (first | (with_reducible first | exact HB.out | apply below_alloc | apply pw_below_drewN | apply below_drew1 | refine below_set ?_ GE108.out | refine below_set ?_ GE110.out) | exact HB.out)⟩⟩
                                  · replace c64 := Bool.eq_false_iff.mpr c64
                                    subst c64
                                    have H1 : (some false) = some r := by rw [if_neg (show ¬ (false = true) by decide)] at H; exact H
                                    clear H
                                    have H := H1
                                    clear H1
                                    obtain rfl := Option.some.inj H
                                    have hnb82 := NB110_108.out
                                    have hnc82 := NB108_110.out
                                    have hcz83_0 : wc.cell? ⟨gb110, 0, none⟩ = some (.int .i64 ((rd_T86 l1 x23_2).f0)) := (blk_cell BK110.out 0).trans rfl
                                    have hcz83_1 : wc.cell? ⟨gb110, 1, none⟩ = some (.bool ((rd_T86 l1 x23_2).f1)) := (blk_cell BK110.out 1).trans rfl
                                    have hcz83_2 : wc.cell? ⟨gb110, 2, none⟩ = some (.int .i64 ((rd_T86 l1 x23_2).f2)) := (blk_cell BK110.out 2).trans rfl
                                    have hfz83_0 := blk_frozen BK110.out 0
                                    have hfz83_1 := blk_frozen BK110.out 1
                                    have hfz83_2 := blk_frozen BK110.out 2
                                    have hcz84_0 : wc.cell? ⟨gb108, 0, none⟩ = some (.bool ((rd_T84 l0 x23_2).f0)) := (blk_cell BK108.out 0).trans rfl
                                    have hcz84_1 : wc.cell? ⟨gb108, 1, none⟩ = some (.int .i64 ((rd_T84 l0 x23_2).f1.f0)) := (blk_cell BK108.out 1).trans rfl
                                    have hcz84_2 : wc.cell? ⟨gb108, 2, none⟩ = some (.int .i64 ((rd_T84 l0 x23_2).f1.f1)) := (blk_cell BK108.out 2).trans rfl
                                    have hfz84_0 := blk_frozen BK108.out 0
                                    have hfz84_1 := blk_frozen BK108.out 1
                                    have hfz84_2 := blk_frozen BK108.out 2
                                    go_wp2_with (first | (go_at_call 62; (with_reducible refine (impl_Holds.calls ((rd_T84 l0 x23_2).f1.f0) ((rd_T84 l0 x23_2).f1.f1) ((rd_T86 l1 x23_2).f0) false _ A63.out).mono ?_); rintro e w85 ⟨rfl, hb⟩; have n0_ := Aside0.mk (blk_below (g := gb108) (o := .cells #[.bool ((rd_T84 l0 x23_2).f0), .int .i64 ((rd_T84 l0 x23_2).f1.f0), .int .i64 ((rd_T84 l0 x23_2).f1.f1)] 84 (0, 0)) (by (with_reducible repeat (first | refine blk_drewN ?_ _ | refine blk_drew ?_ | refine blk_alloc ?_ _)); exact BK108.out) hb); have n1_ := Aside0.mk (blk_below (g := gb110) (o := .cells #[.int .i64 ((rd_T86 l1 x23_2).f0), .bool ((rd_T86 l1 x23_2).f1), .int .i64 ((rd_T86 l1 x23_2).f2)] 86 (0, 0)) (by (with_reducible repeat (first | refine blk_drewN ?_ _ | refine blk_drew ?_ | refine blk_alloc ?_ _)); exact BK110.out) hb); have n2_ := Aside0.mk (below_step (by repeat (first | (with_reducible first | exact HB.out | apply below_alloc | apply pw_below_drewN | apply below_drew1 | refine below_set ?_ GE108.out | refine below_set ?_ GE110.out) | exact HB.out)) hb); clear BK108; clear BK110; clear HB; have BK108 := n0_; have BK110 := n1_; have HB := n2_; clear n0_ n1_ n2_; (try clear hb); (try clear hb2); (try clear hk); (try clear hi)))
                                    repeat (go_quiet (first | (go_at_call 62; (with_reducible refine (impl_Holds.calls ((rd_T84 l0 x23_2).f1.f0) ((rd_T84 l0 x23_2).f1.f1) ((rd_T86 l1 x23_2).f0) false _ A63.out).mono ?_); rintro e w85 ⟨rfl, hb⟩; have n0_ := Aside0.mk (blk_below (g := gb108) (o := .cells #[.bool ((rd_T84 l0 x23_2).f0), .int .i64 ((rd_T84 l0 x23_2).f1.f0), .int .i64 ((rd_T84 l0 x23_2).f1.f1)] 84 (0, 0)) (by (with_reducible repeat (first | refine blk_drewN ?_ _ | refine blk_drew ?_ | refine blk_alloc ?_ _)); exact BK108.out) hb); have n1_ := Aside0.mk (blk_below (g := gb110) (o := .cells #[.int .i64 ((rd_T86 l1 x23_2).f0), .bool ((rd_T86 l1 x23_2).f1), .int .i64 ((rd_T86 l1 x23_2).f2)] 86 (0, 0)) (by (with_reducible repeat (first | refine blk_drewN ?_ _ | refine blk_drew ?_ | refine blk_alloc ?_ _)); exact BK110.out) hb); have n2_ := Aside0.mk (below_step (by repeat (first | (with_reducible first | exact HB.out | apply below_alloc | apply pw_below_drewN | apply below_drew1 | refine below_set ?_ GE108.out | refine below_set ?_ GE110.out) | exact HB.out)) hb); clear BK108; clear BK110; clear HB; have BK108 := n0_; have BK110 := n1_; have HB := n2_; clear n0_ n1_ n2_; (try clear hb); (try clear hb2); (try clear hk); (try clear hi))); try go_wp2_with (first | (go_at_call 62; (with_reducible refine (impl_Holds.calls ((rd_T84 l0 x23_2).f1.f0) ((rd_T84 l0 x23_2).f1.f1) ((rd_T86 l1 x23_2).f0) false _ A63.out).mono ?_); rintro e w85 ⟨rfl, hb⟩; have n0_ := Aside0.mk (blk_below (g := gb108) (o := .cells #[.bool ((rd_T84 l0 x23_2).f0), .int .i64 ((rd_T84 l0 x23_2).f1.f0), .int .i64 ((rd_T84 l0 x23_2).f1.f1)] 84 (0, 0)) (by (with_reducible repeat (first | refine blk_drewN ?_ _ | refine blk_drew ?_ | refine blk_alloc ?_ _)); exact BK108.out) hb); have n1_ := Aside0.mk (blk_below (g := gb110) (o := .cells #[.int .i64 ((rd_T86 l1 x23_2).f0), .bool ((rd_T86 l1 x23_2).f1), .int .i64 ((rd_T86 l1 x23_2).f2)] 86 (0, 0)) (by (with_reducible repeat (first | refine blk_drewN ?_ _ | refine blk_drew ?_ | refine blk_alloc ?_ _)); exact BK110.out) hb); have n2_ := Aside0.mk (below_step (by repeat (first | (with_reducible first | exact HB.out | apply below_alloc | apply pw_below_drewN | apply below_drew1 | refine below_set ?_ GE108.out | refine below_set ?_ GE110.out) | exact HB.out)) hb); clear BK108; clear BK110; clear HB; have BK108 := n0_; have BK110 := n1_; have HB := n2_; clear n0_ n1_ n2_; (try clear hb); (try clear hb2); (try clear hk); (try clear hi))))
                                    go_ret
                                    exact ⟨by first | rfl | (simp [errW_none, errW_some] <;> rfl) | (simp [*, errW_none, errW_some] <;> rfl), by repeat (first | (with_reducible first | exact HB.out | apply below_alloc | apply pw_below_drewN | apply below_drew1 | refine below_set ?_ GE108.out | refine below_set ?_ GE110.out) | exact HB.out)⟩
                                · rw [if_neg c62] at H
                                  have c62b0 : (((rd_T86 l1 x23_2).f2) == 0) = false := beq_eq_false_iff_ne.mpr c62
                                  have c62b1 : (((rd_T86 l1 x23_2).f2) != 0) = true := bne_iff_ne.mpr c62
                                  obtain rfl := Option.some.inj H
                                  have hnb86 := NB110_108.out
                                  have hnc86 := NB108_110.out
                                  have hcz87_0 : wc.cell? ⟨gb110, 0, none⟩ = some (.int .i64 ((rd_T86 l1 x23_2).f0)) := (blk_cell BK110.out 0).trans rfl
                                  have hcz87_1 : wc.cell? ⟨gb110, 1, none⟩ = some (.bool ((rd_T86 l1 x23_2).f1)) := (blk_cell BK110.out 1).trans rfl
                                  have hcz87_2 : wc.cell? ⟨gb110, 2, none⟩ = some (.int .i64 ((rd_T86 l1 x23_2).f2)) := (blk_cell BK110.out 2).trans rfl
                                  have hfz87_0 := blk_frozen BK110.out 0
                                  have hfz87_1 := blk_frozen BK110.out 1
                                  have hfz87_2 := blk_frozen BK110.out 2
                                  have hcz88_0 : wc.cell? ⟨gb108, 0, none⟩ = some (.bool ((rd_T84 l0 x23_2).f0)) := (blk_cell BK108.out 0).trans rfl
                                  have hcz88_1 : wc.cell? ⟨gb108, 1, none⟩ = some (.int .i64 ((rd_T84 l0 x23_2).f1.f0)) := (blk_cell BK108.out 1).trans rfl
                                  have hcz88_2 : wc.cell? ⟨gb108, 2, none⟩ = some (.int .i64 ((rd_T84 l0 x23_2).f1.f1)) := (blk_cell BK108.out 2).trans rfl
                                  have hfz88_0 := blk_frozen BK108.out 0
                                  have hfz88_1 := blk_frozen BK108.out 1
                                  have hfz88_2 := blk_frozen BK108.out 2
                                  go_wp2
                                  repeat (go_quiet (fail); try go_wp2)
                                  go_ret
                                  exact ⟨by first | rfl | (simp [errW_none, errW_some] <;> rfl) | (simp [*, errW_none, errW_some] <;> rfl), by repeat (first | (with_reducible first | exact HB.out | apply below_alloc | apply pw_below_drewN | apply below_drew1 | refine below_set ?_ GE108.out | refine below_set ?_ GE110.out) | exact HB.out)⟩
                            · rw [if_neg c41] at H
                              have c41b0 : ((rd_T84 l0 x23_2).f0) = false := by simpa using c41
                              clear c41
                              by_cases c89 : ((rd_T86 l1 x23_2).f2) = 0
                              · rw [if_pos c89] at H
                                have c89b0 : (((rd_T86 l1 x23_2).f2) == 0) = true := beq_iff_eq.mpr c89
                                have c89b1 : (((rd_T86 l1 x23_2).f2) != 0) = false := bne_eq_false_iff_eq.mpr c89
                                clear c89
                                by_cases c90 : ((rd_T86 l1 x23_2).f1) = true
                                · rw [if_pos c90] at H
                                  have c90b0 : ((rd_T86 l1 x23_2).f1) = true := c90
                                  clear c90
                                  by_cases c91 : x5_2 = true
                                  · subst c91
                                    have H1 : (if ((rd_T86 l1 x23_2).f0) = x6_2 then (impl_ReadsOk.l0 kj9 l1 true ((rd_T86 l1 x23_2).f0) l0 (l0.length : Int) (wrap64 (x23_2 + 1))) else (some false)) = some r := by rw [if_pos rfl] at H; exact H
                                    clear H
                                    have H := H1
                                    clear H1
                                    by_cases c92 : ((rd_T86 l1 x23_2).f0) = x6_2
                                    · rw [if_pos c92] at H
                                      have c92b0 : (((rd_T86 l1 x23_2).f0) == x6_2) = true := beq_iff_eq.mpr c92
                                      have c92b1 : (((rd_T86 l1 x23_2).f0) != x6_2) = false := bne_eq_false_iff_eq.mpr c92
                                      clear c92
                                      have H' := Aside0.mk H
                                      clear H
                                      have hnb93 := NB110_108.out
                                      have hnc93 := NB108_110.out
                                      have hcz94_0 : wc.cell? ⟨gb110, 0, none⟩ = some (.int .i64 ((rd_T86 l1 x23_2).f0)) := (blk_cell BK110.out 0).trans rfl
                                      have hcz94_1 : wc.cell? ⟨gb110, 1, none⟩ = some (.bool ((rd_T86 l1 x23_2).f1)) := (blk_cell BK110.out 1).trans rfl
                                      have hcz94_2 : wc.cell? ⟨gb110, 2, none⟩ = some (.int .i64 ((rd_T86 l1 x23_2).f2)) := (blk_cell BK110.out 2).trans rfl
                                      have hfz94_0 := blk_frozen BK110.out 0
                                      have hfz94_1 := blk_frozen BK110.out 1
                                      have hfz94_2 := blk_frozen BK110.out 2
                                      have hcz95_0 : wc.cell? ⟨gb108, 0, none⟩ = some (.bool ((rd_T84 l0 x23_2).f0)) := (blk_cell BK108.out 0).trans rfl
                                      have hcz95_1 : wc.cell? ⟨gb108, 1, none⟩ = some (.int .i64 ((rd_T84 l0 x23_2).f1.f0)) := (blk_cell BK108.out 1).trans rfl
                                      have hcz95_2 : wc.cell? ⟨gb108, 2, none⟩ = some (.int .i64 ((rd_T84 l0 x23_2).f1.f1)) := (blk_cell BK108.out 2).trans rfl
                                      have hfz95_0 := blk_frozen BK108.out 0
                                      have hfz95_1 := blk_frozen BK108.out 1
                                      have hfz95_2 := blk_frozen BK108.out 2
                                      go_wp2
                                      repeat (go_quiet (fail); try go_wp2)
                                      go_roundg kj9
                                      case measure => have := HJ2.out; have := HK2.out; have := HJ9.out; omega
                                      case rel => exact ⟨(true), (((rd_T86 l1 x23_2).f0)), (wrap64 (x23_2 + 1)), (by first | rfl | (simp; done) | (simp [*]; done)), (by first | rfl | (simp; done) | (simp [*]; done)), (by first | rfl | (simp; done) | (simp [*]; done)), H', ⟨by have := HJ2.out; have := HK2.out; have := HJ9.out; omega⟩, ⟨by repeat (first | (with_reducible first | exact HB.out | apply below_alloc | apply pw_below_drewN | apply below_drew1 | refine below_set ?_ GE108.out | refine below_set ?_ GE110.out) | exact HB.out)⟩⟩
                                    · rw [if_neg c92] at H
                                      have c92b0 : (((rd_T86 l1 x23_2).f0) == x6_2) = false := beq_eq_false_iff_ne.mpr c92
                                      have c92b1 : (((rd_T86 l1 x23_2).f0) != x6_2) = true := bne_iff_ne.mpr c92
                                      obtain rfl := Option.some.inj H
                                      have hnb96 := NB110_108.out
                                      have hnc96 := NB108_110.out
                                      have hcz97_0 : wc.cell? ⟨gb110, 0, none⟩ = some (.int .i64 ((rd_T86 l1 x23_2).f0)) := (blk_cell BK110.out 0).trans rfl
                                      have hcz97_1 : wc.cell? ⟨gb110, 1, none⟩ = some (.bool ((rd_T86 l1 x23_2).f1)) := (blk_cell BK110.out 1).trans rfl
                                      have hcz97_2 : wc.cell? ⟨gb110, 2, none⟩ = some (.int .i64 ((rd_T86 l1 x23_2).f2)) := (blk_cell BK110.out 2).trans rfl
                                      have hfz97_0 := blk_frozen BK110.out 0
                                      have hfz97_1 := blk_frozen BK110.out 1
                                      have hfz97_2 := blk_frozen BK110.out 2
                                      have hcz98_0 : wc.cell? ⟨gb108, 0, none⟩ = some (.bool ((rd_T84 l0 x23_2).f0)) := (blk_cell BK108.out 0).trans rfl
                                      have hcz98_1 : wc.cell? ⟨gb108, 1, none⟩ = some (.int .i64 ((rd_T84 l0 x23_2).f1.f0)) := (blk_cell BK108.out 1).trans rfl
                                      have hcz98_2 : wc.cell? ⟨gb108, 2, none⟩ = some (.int .i64 ((rd_T84 l0 x23_2).f1.f1)) := (blk_cell BK108.out 2).trans rfl
                                      have hfz98_0 := blk_frozen BK108.out 0
                                      have hfz98_1 := blk_frozen BK108.out 1
                                      have hfz98_2 := blk_frozen BK108.out 2
                                      go_wp2
                                      repeat (go_quiet (fail); try go_wp2)
                                      go_ret
                                      exact ⟨by first | rfl | (simp [errW_none, errW_some] <;> rfl) | (simp [*, errW_none, errW_some] <;> rfl), by repeat (first | (with_reducible first | exact HB.out | apply below_alloc | apply pw_below_drewN | apply below_drew1 | refine below_set ?_ GE108.out | refine below_set ?_ GE110.out) | exact HB.out)⟩
                                  · replace c91 := Bool.eq_false_iff.mpr c91
                                    subst c91
                                    have H1 : (some false) = some r := by rw [if_neg (show ¬ (false = true) by decide)] at H; exact H
                                    clear H
                                    have H := H1
                                    clear H1
                                    obtain rfl := Option.some.inj H
                                    have hnb99 := NB110_108.out
                                    have hnc99 := NB108_110.out
                                    have hcz100_0 : wc.cell? ⟨gb110, 0, none⟩ = some (.int .i64 ((rd_T86 l1 x23_2).f0)) := (blk_cell BK110.out 0).trans rfl
                                    have hcz100_1 : wc.cell? ⟨gb110, 1, none⟩ = some (.bool ((rd_T86 l1 x23_2).f1)) := (blk_cell BK110.out 1).trans rfl
                                    have hcz100_2 : wc.cell? ⟨gb110, 2, none⟩ = some (.int .i64 ((rd_T86 l1 x23_2).f2)) := (blk_cell BK110.out 2).trans rfl
                                    have hfz100_0 := blk_frozen BK110.out 0
                                    have hfz100_1 := blk_frozen BK110.out 1
                                    have hfz100_2 := blk_frozen BK110.out 2
                                    have hcz101_0 : wc.cell? ⟨gb108, 0, none⟩ = some (.bool ((rd_T84 l0 x23_2).f0)) := (blk_cell BK108.out 0).trans rfl
                                    have hcz101_1 : wc.cell? ⟨gb108, 1, none⟩ = some (.int .i64 ((rd_T84 l0 x23_2).f1.f0)) := (blk_cell BK108.out 1).trans rfl
                                    have hcz101_2 : wc.cell? ⟨gb108, 2, none⟩ = some (.int .i64 ((rd_T84 l0 x23_2).f1.f1)) := (blk_cell BK108.out 2).trans rfl
                                    have hfz101_0 := blk_frozen BK108.out 0
                                    have hfz101_1 := blk_frozen BK108.out 1
                                    have hfz101_2 := blk_frozen BK108.out 2
                                    go_wp2
                                    repeat (go_quiet (fail); try go_wp2)
                                    go_ret
                                    exact ⟨by first | rfl | (simp [errW_none, errW_some] <;> rfl) | (simp [*, errW_none, errW_some] <;> rfl), by repeat (first | (with_reducible first | exact HB.out | apply below_alloc | apply pw_below_drewN | apply below_drew1 | refine below_set ?_ GE108.out | refine below_set ?_ GE110.out) | exact HB.out)⟩
                                · rw [if_neg c90] at H
                                  have c90b0 : ((rd_T86 l1 x23_2).f1) = false := by simpa using c90
                                  clear c90
                                  obtain rfl := Option.some.inj H
                                  have hnb102 := NB110_108.out
                                  have hnc102 := NB108_110.out
                                  have hcz103_0 : wc.cell? ⟨gb110, 0, none⟩ = some (.int .i64 ((rd_T86 l1 x23_2).f0)) := (blk_cell BK110.out 0).trans rfl
                                  have hcz103_1 : wc.cell? ⟨gb110, 1, none⟩ = some (.bool ((rd_T86 l1 x23_2).f1)) := (blk_cell BK110.out 1).trans rfl
                                  have hcz103_2 : wc.cell? ⟨gb110, 2, none⟩ = some (.int .i64 ((rd_T86 l1 x23_2).f2)) := (blk_cell BK110.out 2).trans rfl
                                  have hfz103_0 := blk_frozen BK110.out 0
                                  have hfz103_1 := blk_frozen BK110.out 1
                                  have hfz103_2 := blk_frozen BK110.out 2
                                  have hcz104_0 : wc.cell? ⟨gb108, 0, none⟩ = some (.bool ((rd_T84 l0 x23_2).f0)) := (blk_cell BK108.out 0).trans rfl
                                  have hcz104_1 : wc.cell? ⟨gb108, 1, none⟩ = some (.int .i64 ((rd_T84 l0 x23_2).f1.f0)) := (blk_cell BK108.out 1).trans rfl
                                  have hcz104_2 : wc.cell? ⟨gb108, 2, none⟩ = some (.int .i64 ((rd_T84 l0 x23_2).f1.f1)) := (blk_cell BK108.out 2).trans rfl
                                  have hfz104_0 := blk_frozen BK108.out 0
                                  have hfz104_1 := blk_frozen BK108.out 1
                                  have hfz104_2 := blk_frozen BK108.out 2
                                  go_wp2
                                  repeat (go_quiet (fail); try go_wp2)
                                  go_ret
                                  exact ⟨by first | rfl | (simp [errW_none, errW_some] <;> rfl) | (simp [*, errW_none, errW_some] <;> rfl), by repeat (first | (with_reducible first | exact HB.out | apply below_alloc | apply pw_below_drewN | apply below_drew1 | refine below_set ?_ GE108.out | refine below_set ?_ GE110.out) | exact HB.out)⟩
                              · rw [if_neg c89] at H
                                have c89b0 : (((rd_T86 l1 x23_2).f2) == 0) = false := beq_eq_false_iff_ne.mpr c89
                                have c89b1 : (((rd_T86 l1 x23_2).f2) != 0) = true := bne_iff_ne.mpr c89
                                obtain rfl := Option.some.inj H
                                have hnb105 := NB110_108.out
                                have hnc105 := NB108_110.out
                                have hcz106_0 : wc.cell? ⟨gb110, 0, none⟩ = some (.int .i64 ((rd_T86 l1 x23_2).f0)) := (blk_cell BK110.out 0).trans rfl
                                have hcz106_1 : wc.cell? ⟨gb110, 1, none⟩ = some (.bool ((rd_T86 l1 x23_2).f1)) := (blk_cell BK110.out 1).trans rfl
                                have hcz106_2 : wc.cell? ⟨gb110, 2, none⟩ = some (.int .i64 ((rd_T86 l1 x23_2).f2)) := (blk_cell BK110.out 2).trans rfl
                                have hfz106_0 := blk_frozen BK110.out 0
                                have hfz106_1 := blk_frozen BK110.out 1
                                have hfz106_2 := blk_frozen BK110.out 2
                                have hcz107_0 : wc.cell? ⟨gb108, 0, none⟩ = some (.bool ((rd_T84 l0 x23_2).f0)) := (blk_cell BK108.out 0).trans rfl
                                have hcz107_1 : wc.cell? ⟨gb108, 1, none⟩ = some (.int .i64 ((rd_T84 l0 x23_2).f1.f0)) := (blk_cell BK108.out 1).trans rfl
                                have hcz107_2 : wc.cell? ⟨gb108, 2, none⟩ = some (.int .i64 ((rd_T84 l0 x23_2).f1.f1)) := (blk_cell BK108.out 2).trans rfl
                                have hfz107_0 := blk_frozen BK108.out 0
                                have hfz107_1 := blk_frozen BK108.out 1
                                have hfz107_2 := blk_frozen BK108.out 2
                                go_wp2
                                repeat (go_quiet (fail); try go_wp2)
                                go_ret
                                exact ⟨by first | rfl | (simp [errW_none, errW_some] <;> rfl) | (simp [*, errW_none, errW_some] <;> rfl), by repeat (first | (with_reducible first | exact HB.out | apply below_alloc | apply pw_below_drewN | apply below_drew1 | refine below_set ?_ GE108.out | refine below_set ?_ GE110.out) | exact HB.out)⟩
                  · rw [if_neg c9] at H
                    exact absurd H (by simp)
                · rw [if_neg c8] at H
                  exact absurd H (by simp)
              · rw [if_neg c7] at H
                exact absurd H (by simp)
            · rw [if_neg c6] at H
              have c6b0 : decide (x23_2 < (l0.length : Int)) = false := decide_eq_false c6
              clear c6
              obtain rfl := Option.some.inj H
              go_wp2
              repeat (go_quiet (fail); try go_wp2)
              go_ret
              exact ⟨by first | rfl | (simp [errW_none, errW_some] <;> rfl) | (simp [*, errW_none, errW_some] <;> rfl), by repeat (first | (with_reducible first | exact HB.out | apply below_alloc | apply pw_below_drewN | apply below_drew1) | exact HB.out)⟩

end Go.Proofs.Ythgcceochfjfcaa.PR
