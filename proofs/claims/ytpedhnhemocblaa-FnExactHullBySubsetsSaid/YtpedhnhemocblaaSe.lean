/-
  Contracts of Go functions of this seat: what each call hands back, as a plain function of its arguments, and that nothing that was there has turned.
  No statement of the seat is proved here.
-/
import Derived.Test.YtpedhnhemocblaaProg
import Derived.Test.YtpedhnhemocblaaPure
import Derived.Test.YtpedhnhemocblaaActs
import Derived.Deep.Light
import Derived.RegionTactic
import Derived.Deep.RegionWith
import Derived.BigRegion
import Derived.ChangeAlike
import Derived.Test.YtpedhnhemocblaaCa
import Derived.Test.YtpedhnhemocblaaCl
import Derived.Test.YtpedhnhemocblaaFolds
import Derived.Test.YtpedhnhemocblaaSl
namespace Go.Proofs.Ytpedhnhemocblaa
open Go.RowKit Go.Proofs.YtpedhnhemocblaaW.PrintWords
set_option linter.unusedVariables false
set_option linter.unusedSimpArgs false

-- impl.MeetAll$1
set_option maxHeartbeats 1000000 in
set_option maxRecDepth 100000 in
theorem c_impl_MeetAll_1 (o_lo : Int) (o_hi : Int) (a_lo : Int) (a_hi : Int) (w : World)   :
    Calls Try.prog 87 #[.agg #[.int .i64 o_lo, .int .i64 o_hi], .agg #[.int .i64 a_lo, .int .i64 a_hi]] w (Ret w (.agg #[.int .i64 ((Pu.putMeetAll (⟨o_lo, o_hi⟩ : Ival) (⟨a_lo, a_hi⟩ : Ival)).lo), .int .i64 ((Pu.putMeetAll (⟨o_lo, o_hi⟩ : Ival) (⟨a_lo, a_hi⟩ : Ival)).hi)])) := by
  go_enter Try.func87, Try.ntmps87
  go_wp2_with (first
    | go_region)
  all_goals refine bodyPost_ret (v := .agg #[.int .i64 ((Pu.putMeetAll (⟨o_lo, o_hi⟩ : Ival) (⟨a_lo, a_hi⟩ : Ival)).lo), .int .i64 ((Pu.putMeetAll (⟨o_lo, o_hi⟩ : Ival) (⟨a_lo, a_hi⟩ : Ival)).hi)]) ?_ rfl (Ret.mk (by repeat (first | exact Below.refl _ _ | apply below_alloc | apply below_junk | apply below_drew)))
  all_goals first | (simp [results, Try.results87, go_sem, Pu.putMeetAll, *]; done) | (simp [results, Try.results87, go_sem, Pu.putMeetAll, *]; omega) | (go_light; simp [results, Try.results87, go_sem, Pu.putMeetAll, *]; intros; exfalso; omega) | (go_light; simp [results, Try.results87, go_sem, Pu.putMeetAll, *]; (repeat' split) <;> first | omega | (simp; done) | (simp_all; done)) | (go_light; simp_all [results, Try.results87, go_sem, Pu.putMeetAll, ]; done) | (go_light; simp_all [results, Try.results87, go_sem, Pu.putMeetAll, ]; omega)

-- impl.JoinAll$1
set_option maxHeartbeats 1000000 in
set_option maxRecDepth 100000 in
theorem c_impl_JoinAll_1 (o_lo : Int) (o_hi : Int) (a_lo : Int) (a_hi : Int) (w : World)   :
    Calls Try.prog 95 #[.agg #[.int .i64 o_lo, .int .i64 o_hi], .agg #[.int .i64 a_lo, .int .i64 a_hi]] w (Ret w (.agg #[.int .i64 ((Pu.putJoinAll (⟨o_lo, o_hi⟩ : Ival) (⟨a_lo, a_hi⟩ : Ival)).lo), .int .i64 ((Pu.putJoinAll (⟨o_lo, o_hi⟩ : Ival) (⟨a_lo, a_hi⟩ : Ival)).hi)])) := by
  go_enter Try.func95, Try.ntmps95
  go_wp2_with (first
    | go_region)
  all_goals refine bodyPost_ret (v := .agg #[.int .i64 ((Pu.putJoinAll (⟨o_lo, o_hi⟩ : Ival) (⟨a_lo, a_hi⟩ : Ival)).lo), .int .i64 ((Pu.putJoinAll (⟨o_lo, o_hi⟩ : Ival) (⟨a_lo, a_hi⟩ : Ival)).hi)]) ?_ rfl (Ret.mk (by repeat (first | exact Below.refl _ _ | apply below_alloc | apply below_junk | apply below_drew)))
  all_goals first | (simp [results, Try.results95, go_sem, Pu.putJoinAll, *]; done) | (simp [results, Try.results95, go_sem, Pu.putJoinAll, *]; omega) | (go_light; simp [results, Try.results95, go_sem, Pu.putJoinAll, *]; intros; exfalso; omega) | (go_light; simp [results, Try.results95, go_sem, Pu.putJoinAll, *]; (repeat' split) <;> first | omega | (simp; done) | (simp_all; done)) | (go_light; simp_all [results, Try.results95, go_sem, Pu.putJoinAll, ]; done) | (go_light; simp_all [results, Try.results95, go_sem, Pu.putJoinAll, ]; omega)

set_option maxHeartbeats 2000000 in
set_option maxRecDepth 100000 in
theorem c_impl_folded_impl_MeetAll_1 (l_A : Option Addr) (l_c : Nat) (l : List Ival) (w : World) (l_r : Kd.C kIval w l_A l.length l) (l_h : l.length ≤ l_c) :
    Calls Try.prog 86 #[.slice l_A l.length l_c, .func (.func 87) #[] #[]] w (Ret w (.tuple #[.agg #[.int .i64 (Pu.folded Pu.putMeetAll l).1.lo, .int .i64 (Pu.folded Pu.putMeetAll l).1.hi], .bool (Pu.folded Pu.putMeetAll l).2])) := by
  have l_m := Kd.C_max l_r
  by_cases hin : 1 ≤ l.length ∧ l.length ≤ 64
  · have hI : Pu.In (l.length : Int) 1 64 = true := (Pu.In_iff _ _ _).2 (by omega)
    obtain ⟨ad, x, rfl, hx, hbx, hx0, hx1⟩ := at_Ival l_r 0 (by omega)
    rw [Nat.zero_mul, add_nought] at hx0 hx1 hbx
    go_enter Try.func86, Try.ntmps86
    go_wp2_with (first | (go_at_call 76; refine (c_impl_in_b _ _ _ _ true hI).mono ?_; rintro e w' hr; obtain ⟨rfl, g, d, rfl⟩ := Ret.open hr; clear hr) | (go_at_call 54; refine (c_impl_IvalOk_b _ _ _ _ hv).mono ?_; rintro e w' hr; obtain ⟨rfl, g2, d2, rfl⟩ := Ret.open hr; clear hr) | (go_at_call 87; refine (c_impl_MeetAll_1 _ _ _ _ _).mono ?_; rintro e w' hr; obtain ⟨rfl, g3, d3, rfl⟩ := Ret.open hr; clear hr) | (go_at_call 94; refine (c_impl_ival _ _ _).mono ?_; rintro e w' hr; obtain ⟨rfl, g4, d4, rfl⟩ := Ret.open hr; clear hr))
    go_loopw [19] (fun n wr => ∃ (k : Nat) (o : Ival), k ≤ l.length ∧ n = .int .i64 k ∧ Hid (Pu.folded Pu.putMeetAll l = Pu.foldRest Pu.putMeetAll o (l.drop k)) ∧ ∃ g' d', wr = junk ((junk (w.alloc (Obj.cells #[Value.int IntKind.i64 0, Value.int IntKind.i64 0] 35)) g d).alloc (Obj.cells #[Value.int IntKind.i64 o.lo, Value.int IntKind.i64 o.hi] 35)) g' d') (fun n _ => l.length - (intOf n).toNat)
    case atStart => exact ⟨0, x, by omega, rfl, Lib.hid (by rw [List.drop_zero]; exact Pu.folded_rest hx hin.2), junk_of_below (Below.refl _ _)⟩
    case round =>
      obtain ⟨k, o, hk, rfl, HE, g', d', rfl⟩ := hrel
      by_cases hlt : k < l.length
      · obtain ⟨ad', y, e', hy, hby, hy0, hy1⟩ := at_Ival (Kd.C_below l_r (show Below w.heap.size w (junk ((junk (w.alloc (Obj.cells #[Value.int IntKind.i64 0, Value.int IntKind.i64 0] 35)) g d).alloc (Obj.cells #[Value.int IntKind.i64 o.lo, Value.int IntKind.i64 o.hi] 35)) g' d') from (by repeat (first | exact Below.refl _ _ | assumption | apply below_alloc | apply below_junk | apply below_drew)))) k hlt
        cases e'
        have hdr := Lib.hid (Pu.drop_cons hy)
        rcases Bool.eq_false_or_eq_true (Pu.IvalOk y) with hv | hv
        · go_wp2_with (first | (go_at_call 76; refine (c_impl_in_b _ _ _ _ true hI).mono ?_; rintro e w' hr; obtain ⟨rfl, g, d, rfl⟩ := Ret.open hr; clear hr) | (go_at_call 54; refine (c_impl_IvalOk_b _ _ _ _ hv).mono ?_; rintro e w' hr; obtain ⟨rfl, g2, d2, rfl⟩ := Ret.open hr; clear hr) | (go_at_call 87; refine (c_impl_MeetAll_1 _ _ _ _ _).mono ?_; rintro e w' hr; obtain ⟨rfl, g3, d3, rfl⟩ := Ret.open hr; clear hr) | (go_at_call 94; refine (c_impl_ival _ _ _).mono ?_; rintro e w' hr; obtain ⟨rfl, g4, d4, rfl⟩ := Ret.open hr; clear hr))
          go_roundw
          case rel => exact ⟨k + 1, Pu.putMeetAll o y, by omega, by go_num, Lib.hid (by rw [HE.out, hdr.out, Pu.foldRest, if_pos hv]), junk_of_below (by repeat (first | exact Below.refl _ _ | assumption | apply below_alloc | apply below_junk | apply below_drew))⟩
          case measure => simp [intOf]; omega
        · have hq : Pu.folded Pu.putMeetAll l = (⟨0, 0⟩, false) := by rw [HE.out, hdr.out, Pu.foldRest, if_neg (by simp [hv])]
          have HQ := Lib.hid hq; clear hq
          go_wp2_with (first | (go_at_call 76; refine (c_impl_in_b _ _ _ _ true hI).mono ?_; rintro e w' hr; obtain ⟨rfl, g, d, rfl⟩ := Ret.open hr; clear hr) | (go_at_call 54; refine (c_impl_IvalOk_b _ _ _ _ hv).mono ?_; rintro e w' hr; obtain ⟨rfl, g2, d2, rfl⟩ := Ret.open hr; clear hr) | (go_at_call 87; refine (c_impl_MeetAll_1 _ _ _ _ _).mono ?_; rintro e w' hr; obtain ⟨rfl, g3, d3, rfl⟩ := Ret.open hr; clear hr) | (go_at_call 94; refine (c_impl_ival _ _ _).mono ?_; rintro e w' hr; obtain ⟨rfl, g4, d4, rfl⟩ := Ret.open hr; clear hr))
          all_goals refine bodyPost_ret (v := .tuple #[.agg #[.int .i64 (Pu.folded Pu.putMeetAll l).1.lo, .int .i64 (Pu.folded Pu.putMeetAll l).1.hi], .bool (Pu.folded Pu.putMeetAll l).2]) ?_ rfl (Ret.mk (by repeat (first | exact Below.refl _ _ | assumption | apply below_alloc | apply below_junk | apply below_drew)))
          all_goals rw [HQ.out]
          all_goals simp [results, Try.results86, go_sem]
      · have hkl : k = l.length := by omega
        subst hkl
        have hq : Pu.folded Pu.putMeetAll l = Pu.Told o.lo o.hi := by rw [HE.out, List.drop_length]; rfl
        have HQ := Lib.hid hq; clear hq
        go_wp2_with (first | (go_at_call 76; refine (c_impl_in_b _ _ _ _ true hI).mono ?_; rintro e w' hr; obtain ⟨rfl, g, d, rfl⟩ := Ret.open hr; clear hr) | (go_at_call 54; refine (c_impl_IvalOk_b _ _ _ _ hv).mono ?_; rintro e w' hr; obtain ⟨rfl, g2, d2, rfl⟩ := Ret.open hr; clear hr) | (go_at_call 87; refine (c_impl_MeetAll_1 _ _ _ _ _).mono ?_; rintro e w' hr; obtain ⟨rfl, g3, d3, rfl⟩ := Ret.open hr; clear hr) | (go_at_call 94; refine (c_impl_ival _ _ _).mono ?_; rintro e w' hr; obtain ⟨rfl, g4, d4, rfl⟩ := Ret.open hr; clear hr))
        all_goals refine bodyPost_ret (v := .tuple #[.agg #[.int .i64 (Pu.folded Pu.putMeetAll l).1.lo, .int .i64 (Pu.folded Pu.putMeetAll l).1.hi], .bool (Pu.folded Pu.putMeetAll l).2]) ?_ rfl (Ret.mk (by repeat (first | exact Below.refl _ _ | assumption | apply below_alloc | apply below_junk | apply below_drew)))
        all_goals rw [HQ.out]
        all_goals simp [results, Try.results86, go_sem]
  · have hI : Pu.In (l.length : Int) 1 64 = false := by simp only [Pu.In, Bool.and_eq_false_iff, decide_eq_false_iff_not]; omega
    have hq : Pu.folded Pu.putMeetAll l = (⟨0, 0⟩, false) := Pu.folded_none hin
    have HQ := Lib.hid hq; clear hq
    go_enter Try.func86, Try.ntmps86
    go_wp2_with (first | (go_at_call 76; refine (c_impl_in_b _ _ _ _ false hI).mono ?_; rintro e w' hr; obtain ⟨rfl, g, d, rfl⟩ := Ret.open hr; clear hr) | (go_at_call 54; refine (c_impl_IvalOk_b _ _ _ _ hv).mono ?_; rintro e w' hr; obtain ⟨rfl, g2, d2, rfl⟩ := Ret.open hr; clear hr) | (go_at_call 87; refine (c_impl_MeetAll_1 _ _ _ _ _).mono ?_; rintro e w' hr; obtain ⟨rfl, g3, d3, rfl⟩ := Ret.open hr; clear hr) | (go_at_call 94; refine (c_impl_ival _ _ _).mono ?_; rintro e w' hr; obtain ⟨rfl, g4, d4, rfl⟩ := Ret.open hr; clear hr))
    all_goals refine bodyPost_ret (v := .tuple #[.agg #[.int .i64 (Pu.folded Pu.putMeetAll l).1.lo, .int .i64 (Pu.folded Pu.putMeetAll l).1.hi], .bool (Pu.folded Pu.putMeetAll l).2]) ?_ rfl (Ret.mk (by repeat (first | exact Below.refl _ _ | assumption | apply below_alloc | apply below_junk | apply below_drew)))
    all_goals rw [HQ.out]
    all_goals simp [results, Try.results86, go_sem]
-- impl.MeetAll
set_option maxHeartbeats 1000000 in
set_option maxRecDepth 100000 in
theorem c_impl_MeetAll (l_A : Option Addr) (l_c : Nat) (l : List Ival) (w : World) (l_r : Kd.C kIval w l_A l.length l) (l_h : l.length ≤ l_c)  :
    Calls Try.prog 63 #[.slice l_A l.length l_c] w (Ret w (.tuple #[.agg #[.int .i64 (((Pu.folded Pu.putMeetAll l).1).lo), .int .i64 (((Pu.folded Pu.putMeetAll l).1).hi)], .bool ((Pu.folded Pu.putMeetAll l).2)])) := by
  have l_m := Kd.C_max l_r
  go_enter Try.func63, Try.ntmps63
  go_wp2_with (first
    | (go_at_call 86; refine (c_impl_folded_impl_MeetAll_1 _ _ _ _ (by first | assumption | exact Kd.C_below (by assumption) (by repeat (first | exact Below.refl _ _ | assumption | apply below_alloc | apply below_junk | apply below_drew))) (by omega)).mono ?_; rintro e w' hr; obtain ⟨rfl, g, d, rfl⟩ := Ret.open hr; clear hr)
    | go_region)
  all_goals refine bodyPost_ret (v := .tuple #[.agg #[.int .i64 (((Pu.folded Pu.putMeetAll l).1).lo), .int .i64 (((Pu.folded Pu.putMeetAll l).1).hi)], .bool ((Pu.folded Pu.putMeetAll l).2)]) ?_ rfl (Ret.mk (by repeat (first | exact Below.refl _ _ | apply below_alloc | apply below_junk | apply below_drew)))
  all_goals first | (simp [results, Try.results63, go_sem, *]; done) | (simp [results, Try.results63, go_sem, *]; omega) | (go_light; simp [results, Try.results63, go_sem, *]; intros; exfalso; omega) | (go_light; simp [results, Try.results63, go_sem, *]; (repeat' split) <;> first | omega | (simp; done) | (simp_all; done)) | (go_light; simp_all [results, Try.results63, go_sem, ]; done) | (go_light; simp_all [results, Try.results63, go_sem, ]; omega)

set_option maxHeartbeats 2000000 in
set_option maxRecDepth 100000 in
theorem c_impl_folded_impl_JoinAll_1 (l_A : Option Addr) (l_c : Nat) (l : List Ival) (w : World) (l_r : Kd.C kIval w l_A l.length l) (l_h : l.length ≤ l_c) :
    Calls Try.prog 86 #[.slice l_A l.length l_c, .func (.func 95) #[] #[]] w (Ret w (.tuple #[.agg #[.int .i64 (Pu.folded Pu.putJoinAll l).1.lo, .int .i64 (Pu.folded Pu.putJoinAll l).1.hi], .bool (Pu.folded Pu.putJoinAll l).2])) := by
  have l_m := Kd.C_max l_r
  by_cases hin : 1 ≤ l.length ∧ l.length ≤ 64
  · have hI : Pu.In (l.length : Int) 1 64 = true := (Pu.In_iff _ _ _).2 (by omega)
    obtain ⟨ad, x, rfl, hx, hbx, hx0, hx1⟩ := at_Ival l_r 0 (by omega)
    rw [Nat.zero_mul, add_nought] at hx0 hx1 hbx
    go_enter Try.func86, Try.ntmps86
    go_wp2_with (first | (go_at_call 76; refine (c_impl_in_b _ _ _ _ true hI).mono ?_; rintro e w' hr; obtain ⟨rfl, g, d, rfl⟩ := Ret.open hr; clear hr) | (go_at_call 54; refine (c_impl_IvalOk_b _ _ _ _ hv).mono ?_; rintro e w' hr; obtain ⟨rfl, g2, d2, rfl⟩ := Ret.open hr; clear hr) | (go_at_call 95; refine (c_impl_JoinAll_1 _ _ _ _ _).mono ?_; rintro e w' hr; obtain ⟨rfl, g3, d3, rfl⟩ := Ret.open hr; clear hr) | (go_at_call 94; refine (c_impl_ival _ _ _).mono ?_; rintro e w' hr; obtain ⟨rfl, g4, d4, rfl⟩ := Ret.open hr; clear hr))
    go_loopw [19] (fun n wr => ∃ (k : Nat) (o : Ival), k ≤ l.length ∧ n = .int .i64 k ∧ Hid (Pu.folded Pu.putJoinAll l = Pu.foldRest Pu.putJoinAll o (l.drop k)) ∧ ∃ g' d', wr = junk ((junk (w.alloc (Obj.cells #[Value.int IntKind.i64 0, Value.int IntKind.i64 0] 35)) g d).alloc (Obj.cells #[Value.int IntKind.i64 o.lo, Value.int IntKind.i64 o.hi] 35)) g' d') (fun n _ => l.length - (intOf n).toNat)
    case atStart => exact ⟨0, x, by omega, rfl, Lib.hid (by rw [List.drop_zero]; exact Pu.folded_rest hx hin.2), junk_of_below (Below.refl _ _)⟩
    case round =>
      obtain ⟨k, o, hk, rfl, HE, g', d', rfl⟩ := hrel
      by_cases hlt : k < l.length
      · obtain ⟨ad', y, e', hy, hby, hy0, hy1⟩ := at_Ival (Kd.C_below l_r (show Below w.heap.size w (junk ((junk (w.alloc (Obj.cells #[Value.int IntKind.i64 0, Value.int IntKind.i64 0] 35)) g d).alloc (Obj.cells #[Value.int IntKind.i64 o.lo, Value.int IntKind.i64 o.hi] 35)) g' d') from (by repeat (first | exact Below.refl _ _ | assumption | apply below_alloc | apply below_junk | apply below_drew)))) k hlt
        cases e'
        have hdr := Lib.hid (Pu.drop_cons hy)
        rcases Bool.eq_false_or_eq_true (Pu.IvalOk y) with hv | hv
        · go_wp2_with (first | (go_at_call 76; refine (c_impl_in_b _ _ _ _ true hI).mono ?_; rintro e w' hr; obtain ⟨rfl, g, d, rfl⟩ := Ret.open hr; clear hr) | (go_at_call 54; refine (c_impl_IvalOk_b _ _ _ _ hv).mono ?_; rintro e w' hr; obtain ⟨rfl, g2, d2, rfl⟩ := Ret.open hr; clear hr) | (go_at_call 95; refine (c_impl_JoinAll_1 _ _ _ _ _).mono ?_; rintro e w' hr; obtain ⟨rfl, g3, d3, rfl⟩ := Ret.open hr; clear hr) | (go_at_call 94; refine (c_impl_ival _ _ _).mono ?_; rintro e w' hr; obtain ⟨rfl, g4, d4, rfl⟩ := Ret.open hr; clear hr))
          go_roundw
          case rel => exact ⟨k + 1, Pu.putJoinAll o y, by omega, by go_num, Lib.hid (by rw [HE.out, hdr.out, Pu.foldRest, if_pos hv]), junk_of_below (by repeat (first | exact Below.refl _ _ | assumption | apply below_alloc | apply below_junk | apply below_drew))⟩
          case measure => simp [intOf]; omega
        · have hq : Pu.folded Pu.putJoinAll l = (⟨0, 0⟩, false) := by rw [HE.out, hdr.out, Pu.foldRest, if_neg (by simp [hv])]
          have HQ := Lib.hid hq; clear hq
          go_wp2_with (first | (go_at_call 76; refine (c_impl_in_b _ _ _ _ true hI).mono ?_; rintro e w' hr; obtain ⟨rfl, g, d, rfl⟩ := Ret.open hr; clear hr) | (go_at_call 54; refine (c_impl_IvalOk_b _ _ _ _ hv).mono ?_; rintro e w' hr; obtain ⟨rfl, g2, d2, rfl⟩ := Ret.open hr; clear hr) | (go_at_call 95; refine (c_impl_JoinAll_1 _ _ _ _ _).mono ?_; rintro e w' hr; obtain ⟨rfl, g3, d3, rfl⟩ := Ret.open hr; clear hr) | (go_at_call 94; refine (c_impl_ival _ _ _).mono ?_; rintro e w' hr; obtain ⟨rfl, g4, d4, rfl⟩ := Ret.open hr; clear hr))
          all_goals refine bodyPost_ret (v := .tuple #[.agg #[.int .i64 (Pu.folded Pu.putJoinAll l).1.lo, .int .i64 (Pu.folded Pu.putJoinAll l).1.hi], .bool (Pu.folded Pu.putJoinAll l).2]) ?_ rfl (Ret.mk (by repeat (first | exact Below.refl _ _ | assumption | apply below_alloc | apply below_junk | apply below_drew)))
          all_goals rw [HQ.out]
          all_goals simp [results, Try.results86, go_sem]
      · have hkl : k = l.length := by omega
        subst hkl
        have hq : Pu.folded Pu.putJoinAll l = Pu.Told o.lo o.hi := by rw [HE.out, List.drop_length]; rfl
        have HQ := Lib.hid hq; clear hq
        go_wp2_with (first | (go_at_call 76; refine (c_impl_in_b _ _ _ _ true hI).mono ?_; rintro e w' hr; obtain ⟨rfl, g, d, rfl⟩ := Ret.open hr; clear hr) | (go_at_call 54; refine (c_impl_IvalOk_b _ _ _ _ hv).mono ?_; rintro e w' hr; obtain ⟨rfl, g2, d2, rfl⟩ := Ret.open hr; clear hr) | (go_at_call 95; refine (c_impl_JoinAll_1 _ _ _ _ _).mono ?_; rintro e w' hr; obtain ⟨rfl, g3, d3, rfl⟩ := Ret.open hr; clear hr) | (go_at_call 94; refine (c_impl_ival _ _ _).mono ?_; rintro e w' hr; obtain ⟨rfl, g4, d4, rfl⟩ := Ret.open hr; clear hr))
        all_goals refine bodyPost_ret (v := .tuple #[.agg #[.int .i64 (Pu.folded Pu.putJoinAll l).1.lo, .int .i64 (Pu.folded Pu.putJoinAll l).1.hi], .bool (Pu.folded Pu.putJoinAll l).2]) ?_ rfl (Ret.mk (by repeat (first | exact Below.refl _ _ | assumption | apply below_alloc | apply below_junk | apply below_drew)))
        all_goals rw [HQ.out]
        all_goals simp [results, Try.results86, go_sem]
  · have hI : Pu.In (l.length : Int) 1 64 = false := by simp only [Pu.In, Bool.and_eq_false_iff, decide_eq_false_iff_not]; omega
    have hq : Pu.folded Pu.putJoinAll l = (⟨0, 0⟩, false) := Pu.folded_none hin
    have HQ := Lib.hid hq; clear hq
    go_enter Try.func86, Try.ntmps86
    go_wp2_with (first | (go_at_call 76; refine (c_impl_in_b _ _ _ _ false hI).mono ?_; rintro e w' hr; obtain ⟨rfl, g, d, rfl⟩ := Ret.open hr; clear hr) | (go_at_call 54; refine (c_impl_IvalOk_b _ _ _ _ hv).mono ?_; rintro e w' hr; obtain ⟨rfl, g2, d2, rfl⟩ := Ret.open hr; clear hr) | (go_at_call 95; refine (c_impl_JoinAll_1 _ _ _ _ _).mono ?_; rintro e w' hr; obtain ⟨rfl, g3, d3, rfl⟩ := Ret.open hr; clear hr) | (go_at_call 94; refine (c_impl_ival _ _ _).mono ?_; rintro e w' hr; obtain ⟨rfl, g4, d4, rfl⟩ := Ret.open hr; clear hr))
    all_goals refine bodyPost_ret (v := .tuple #[.agg #[.int .i64 (Pu.folded Pu.putJoinAll l).1.lo, .int .i64 (Pu.folded Pu.putJoinAll l).1.hi], .bool (Pu.folded Pu.putJoinAll l).2]) ?_ rfl (Ret.mk (by repeat (first | exact Below.refl _ _ | assumption | apply below_alloc | apply below_junk | apply below_drew)))
    all_goals rw [HQ.out]
    all_goals simp [results, Try.results86, go_sem]
-- impl.JoinAll
set_option maxHeartbeats 1000000 in
set_option maxRecDepth 100000 in
theorem c_impl_JoinAll (l_A : Option Addr) (l_c : Nat) (l : List Ival) (w : World) (l_r : Kd.C kIval w l_A l.length l) (l_h : l.length ≤ l_c)  :
    Calls Try.prog 88 #[.slice l_A l.length l_c] w (Ret w (.tuple #[.agg #[.int .i64 (((Pu.folded Pu.putJoinAll l).1).lo), .int .i64 (((Pu.folded Pu.putJoinAll l).1).hi)], .bool ((Pu.folded Pu.putJoinAll l).2)])) := by
  have l_m := Kd.C_max l_r
  go_enter Try.func88, Try.ntmps88
  go_wp2_with (first
    | (go_at_call 86; refine (c_impl_folded_impl_JoinAll_1 _ _ _ _ (by first | assumption | exact Kd.C_below (by assumption) (by repeat (first | exact Below.refl _ _ | assumption | apply below_alloc | apply below_junk | apply below_drew))) (by omega)).mono ?_; rintro e w' hr; obtain ⟨rfl, g, d, rfl⟩ := Ret.open hr; clear hr)
    | go_region)
  all_goals refine bodyPost_ret (v := .tuple #[.agg #[.int .i64 (((Pu.folded Pu.putJoinAll l).1).lo), .int .i64 (((Pu.folded Pu.putJoinAll l).1).hi)], .bool ((Pu.folded Pu.putJoinAll l).2)]) ?_ rfl (Ret.mk (by repeat (first | exact Below.refl _ _ | apply below_alloc | apply below_junk | apply below_drew)))
  all_goals first | (simp [results, Try.results88, go_sem, *]; done) | (simp [results, Try.results88, go_sem, *]; omega) | (go_light; simp [results, Try.results88, go_sem, *]; intros; exfalso; omega) | (go_light; simp [results, Try.results88, go_sem, *]; (repeat' split) <;> first | omega | (simp; done) | (simp_all; done)) | (go_light; simp_all [results, Try.results88, go_sem, ]; done) | (go_light; simp_all [results, Try.results88, go_sem, ]; omega)

-- impl.Meet
set_option maxHeartbeats 1000000 in
set_option maxRecDepth 100000 in
theorem c_impl_Meet (a_lo : Int) (a_hi : Int) (b_lo : Int) (b_hi : Int) (w : World)   :
    Calls Try.prog 68 #[.agg #[.int .i64 a_lo, .int .i64 a_hi], .agg #[.int .i64 b_lo, .int .i64 b_hi]] w (Ret w (.tuple #[.agg #[.int .i64 (((Pu.Meet (⟨a_lo, a_hi⟩ : Ival) (⟨b_lo, b_hi⟩ : Ival)).1).lo), .int .i64 (((Pu.Meet (⟨a_lo, a_hi⟩ : Ival) (⟨b_lo, b_hi⟩ : Ival)).1).hi)], .bool ((Pu.Meet (⟨a_lo, a_hi⟩ : Ival) (⟨b_lo, b_hi⟩ : Ival)).2)])) := by
  rw [← Pu.folded_Meet]
  go_enter Try.func68, Try.ntmps68
  go_wp2_with (first
    | (go_at_call 63; refine (c_impl_MeetAll _ _ [(⟨a_lo, a_hi⟩ : Ival), ⟨b_lo, b_hi⟩] _ (two_C _ _ _ ⟨a_lo, a_hi⟩ ⟨b_lo, b_hi⟩ (by simp [go_sem])) (by simp)).mono ?_; rintro e w' hr; obtain ⟨rfl, g, d, rfl⟩ := Ret.open hr; clear hr)
    | go_region)
  all_goals refine bodyPost_ret (v := .tuple #[.agg #[.int .i64 (((Pu.folded Pu.putMeetAll [(⟨a_lo, a_hi⟩ : Ival), (⟨b_lo, b_hi⟩ : Ival)]).1).lo), .int .i64 (((Pu.folded Pu.putMeetAll [(⟨a_lo, a_hi⟩ : Ival), (⟨b_lo, b_hi⟩ : Ival)]).1).hi)], .bool ((Pu.folded Pu.putMeetAll [(⟨a_lo, a_hi⟩ : Ival), (⟨b_lo, b_hi⟩ : Ival)]).2)]) ?_ rfl (Ret.mk (by repeat (first | exact Below.refl _ _ | apply below_alloc | apply below_junk | apply below_drew)))
  all_goals first | (simp [results, Try.results68, go_sem, *]; done) | (simp [results, Try.results68, go_sem, *]; omega) | (go_light; simp [results, Try.results68, go_sem, *]; intros; exfalso; omega) | (go_light; simp [results, Try.results68, go_sem, *]; (repeat' split) <;> first | omega | (simp; done) | (simp_all; done)) | (go_light; simp_all [results, Try.results68, go_sem, ]; done) | (go_light; simp_all [results, Try.results68, go_sem, ]; omega)

-- impl.Join
set_option maxHeartbeats 1000000 in
set_option maxRecDepth 100000 in
theorem c_impl_Join (a_lo : Int) (a_hi : Int) (b_lo : Int) (b_hi : Int) (w : World)   :
    Calls Try.prog 64 #[.agg #[.int .i64 a_lo, .int .i64 a_hi], .agg #[.int .i64 b_lo, .int .i64 b_hi]] w (Ret w (.tuple #[.agg #[.int .i64 (((Pu.Join (⟨a_lo, a_hi⟩ : Ival) (⟨b_lo, b_hi⟩ : Ival)).1).lo), .int .i64 (((Pu.Join (⟨a_lo, a_hi⟩ : Ival) (⟨b_lo, b_hi⟩ : Ival)).1).hi)], .bool ((Pu.Join (⟨a_lo, a_hi⟩ : Ival) (⟨b_lo, b_hi⟩ : Ival)).2)])) := by
  rw [← Pu.folded_Join]
  go_enter Try.func64, Try.ntmps64
  go_wp2_with (first
    | (go_at_call 88; refine (c_impl_JoinAll _ _ [(⟨a_lo, a_hi⟩ : Ival), ⟨b_lo, b_hi⟩] _ (two_C _ _ _ ⟨a_lo, a_hi⟩ ⟨b_lo, b_hi⟩ (by simp [go_sem])) (by simp)).mono ?_; rintro e w' hr; obtain ⟨rfl, g, d, rfl⟩ := Ret.open hr; clear hr)
    | go_region)
  all_goals refine bodyPost_ret (v := .tuple #[.agg #[.int .i64 (((Pu.folded Pu.putJoinAll [(⟨a_lo, a_hi⟩ : Ival), (⟨b_lo, b_hi⟩ : Ival)]).1).lo), .int .i64 (((Pu.folded Pu.putJoinAll [(⟨a_lo, a_hi⟩ : Ival), (⟨b_lo, b_hi⟩ : Ival)]).1).hi)], .bool ((Pu.folded Pu.putJoinAll [(⟨a_lo, a_hi⟩ : Ival), (⟨b_lo, b_hi⟩ : Ival)]).2)]) ?_ rfl (Ret.mk (by repeat (first | exact Below.refl _ _ | apply below_alloc | apply below_junk | apply below_drew)))
  all_goals first | (simp [results, Try.results64, go_sem, *]; done) | (simp [results, Try.results64, go_sem, *]; omega) | (go_light; simp [results, Try.results64, go_sem, *]; intros; exfalso; omega) | (go_light; simp [results, Try.results64, go_sem, *]; (repeat' split) <;> first | omega | (simp; done) | (simp_all; done)) | (go_light; simp_all [results, Try.results64, go_sem, ]; done) | (go_light; simp_all [results, Try.results64, go_sem, ]; omega)

end Go.Proofs.Ytpedhnhemocblaa
