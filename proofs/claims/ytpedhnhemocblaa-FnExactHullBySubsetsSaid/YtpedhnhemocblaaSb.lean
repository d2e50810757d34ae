/-
  Contracts of Go functions of this seat: what each call hands back, as a plain function of its arguments, and that nothing that was there has turned.
  No statement of the seat is proved here.
-/
import Derived.Test.YtpedhnhemocblaaProg
import Derived.Test.YtpedhnhemocblaaPure
import Derived.Test.YtpedhnhemocblaaActs
import Derived.Deep.Light
import Derived.RegionTactic
import Derived.Deep.RegionWith
import Derived.BigRegion
import Derived.ChangeAlike
import Derived.Test.YtpedhnhemocblaaCa
import Derived.Test.YtpedhnhemocblaaCl
import Derived.Test.YtpedhnhemocblaaSa
import Derived.Test.YtpedhnhemocblaaSl
import Derived.Test.YtpedhnhemocblaaSources
namespace Go.Proofs.Ytpedhnhemocblaa
open Go.RowKit Go.Proofs.YtpedhnhemocblaaW.PrintWords
set_option linter.unusedVariables false
set_option linter.unusedSimpArgs false

-- spec.l1All
set_option maxHeartbeats 1000000 in
set_option maxRecDepth 100000 in
theorem c_spec_l1All (l_A : Option Addr) (l_c : Nat) (l : List Ival) (most : Int) (w : World) (l_r : Kd.C kIval w l_A l.length l) (l_h : l.length ≤ l_c)  :
    Calls Try.prog 51 #[.slice l_A l.length l_c, .int .i64 most] w (Ret w (.bool (Pu.AllOk l most))) := by
  have l_m := Kd.C_max l_r
  go_enter Try.func51, Try.ntmps51
  go_wp2_with (first | (go_at_call 49; refine (c_spec_IvalOk _ _ _ ).mono ?_; rintro e w' hr; (rcases Ret.bool hr with ⟨rfl, hX, g, d, rfl⟩ | ⟨rfl, hX, g, d, rfl⟩ <;> first | (have hB := (Pu.IvalOk_iff _).1 hX; (try dsimp only at hB); obtain ⟨hB1, hB2, hB3⟩ := hB; clear hr) | clear hr)) | go_region)
  · refine bodyPost_ret (v := .bool (Pu.AllOk l most)) ?_ rfl (Ret.mk (by repeat (first | exact Below.refl _ _ | assumption | apply below_alloc | apply below_junk | apply below_drew)))
    go_light
    simp [results, Try.results51, go_sem, Pu.AllOk]; intros; omega
  go_loopw [5] (fun n wr => ∃ k : Nat, k ≤ l.length ∧ n = .int .i64 k ∧ Hid ((l.drop k).all Pu.IvalOk = l.all Pu.IvalOk) ∧ Below w.heap.size w wr) (fun n _ => l.length - (intOf n).toNat)
  case atStart => exact ⟨0, by omega, rfl, Lib.hid (by simp), (by repeat (first | exact Below.refl _ _ | assumption | apply below_alloc | apply below_junk | apply below_drew))⟩
  case round =>
    obtain ⟨k, hk, rfl, HE, HBW⟩ := hrel
    by_cases hlt : k < l.length
    · obtain ⟨ad, x, rfl, hx, hbx, hx0_, hx1_⟩ := at_Ival (Kd.C_below l_r HBW) k hlt
      have hdr := Lib.hid (Pu.drop_cons hx)
      go_wp2_with (first | (go_at_call 49; refine (c_spec_IvalOk _ _ _ ).mono ?_; rintro e w' hr; (rcases Ret.bool hr with ⟨rfl, hX, g, d, rfl⟩ | ⟨rfl, hX, g, d, rfl⟩ <;> first | (have hB := (Pu.IvalOk_iff _).1 hX; (try dsimp only at hB); obtain ⟨hB1, hB2, hB3⟩ := hB; clear hr) | clear hr)) | go_region)
      all_goals first
        | (go_roundw
           case rel => exact ⟨k + 1, by omega, by go_num, Lib.hid (by rw [← HE.out, hdr.out]; simp [hX]), (by repeat (first | exact Below.refl _ _ | assumption | apply below_alloc | apply below_junk | apply below_drew))⟩
           case measure => simp [intOf]; omega)
        | (refine bodyPost_ret (v := .bool (Pu.AllOk l most)) ?_ rfl (Ret.mk (by repeat (first | exact Below.refl _ _ | assumption | apply below_alloc | apply below_junk | apply below_drew)))
           go_light
           have he := HE.out
           rw [hdr.out] at he
           simp [results, Try.results51, go_sem, Pu.AllOk, ← he, hX])
    · have hkl : k = l.length := by omega
      subst hkl
      go_wp2_with (first | (go_at_call 49; refine (c_spec_IvalOk _ _ _ ).mono ?_; rintro e w' hr; (rcases Ret.bool hr with ⟨rfl, hX, g, d, rfl⟩ | ⟨rfl, hX, g, d, rfl⟩ <;> first | (have hB := (Pu.IvalOk_iff _).1 hX; (try dsimp only at hB); obtain ⟨hB1, hB2, hB3⟩ := hB; clear hr) | clear hr)) | go_region)
      refine bodyPost_ret (v := .bool (Pu.AllOk l most)) ?_ rfl (Ret.mk (by repeat (first | exact Below.refl _ _ | assumption | apply below_alloc | apply below_junk | apply below_drew)))
      go_light
      have he := HE.out
      simp [results, Try.results51, go_sem, Pu.AllOk, ← he]; omega

-- impl.SourcesOk$1
set_option maxHeartbeats 1000000 in
set_option maxRecDepth 100000 in
theorem c_impl_SourcesOk_1 (a_lo : Int) (a_hi : Int) (w : World)   :
    Calls Try.prog 53 #[.agg #[.int .i64 a_lo, .int .i64 a_hi]] w (Ret w (.bool (!Pu.IvalOk (⟨a_lo, a_hi⟩ : Ival)))) := by
  go_enter Try.func53, Try.ntmps53
  go_wp2_with (first
    | (go_at_call 54; refine (c_impl_IvalOk _ _ _ ).mono ?_; rintro e w' hr; (rcases Ret.bool hr with ⟨rfl, hX, g, d, rfl⟩ | ⟨rfl, hX, g, d, rfl⟩ <;> first | (have hB := (Pu.IvalOk_iff _).1 hX; (try dsimp only at hB); obtain ⟨hB1, hB2, hB3⟩ := hB; clear hr) | clear hr))
    | go_region)
  all_goals refine bodyPost_ret (v := .bool (!Pu.IvalOk (⟨a_lo, a_hi⟩ : Ival))) ?_ rfl (Ret.mk (by repeat (first | exact Below.refl _ _ | apply below_alloc | apply below_junk | apply below_drew)))
  all_goals first | (simp [results, Try.results53, go_sem, *]; done) | (simp [results, Try.results53, go_sem, *]; omega) | (go_light; simp [results, Try.results53, go_sem, *]; intros; exfalso; omega) | (go_light; simp [results, Try.results53, go_sem, *]; (repeat' split) <;> first | omega | (simp; done) | (simp_all; done)) | (go_light; simp_all [results, Try.results53, go_sem, ]; done) | (go_light; simp_all [results, Try.results53, go_sem, ]; omega)

-- slices.IndexFunc[[]impl.Ival,impl.Ival]
set_option maxHeartbeats 1000000 in
set_option maxRecDepth 100000 in
theorem c_slices_IndexFunc_impl_Ival_impl_Ival (s_A : Option Addr) (s_c : Nat) (s : List Ival) (w : World) (s_r : Kd.C kIval w s_A s.length s) (s_h : s.length ≤ s_c)  :
    Calls Try.prog 82 #[.slice s_A s.length s_c, .func (.func 53) #[] #[]] w (Ret w (.int .i64 (Pu.idx (fun a => !Pu.IvalOk a) 0 s))) := by
  have s_m := Kd.C_max s_r
  go_enter Try.func82, Try.ntmps82
  go_wp2_with (first | (go_at_call 53; refine (c_impl_SourcesOk_1 _ _ _ ).mono ?_; rintro e w' hr; obtain ⟨rfl, g, d, rfl⟩ := Ret.open hr; clear hr) | go_region)
  go_loopw [8] (fun n wr => ∃ k : Nat, k ≤ s.length ∧ n = .int .i64 k ∧ Hid (Pu.idx (fun a => !Pu.IvalOk a) k (s.drop k) = Pu.idx (fun a => !Pu.IvalOk a) 0 s) ∧ Below w.heap.size w wr) (fun n _ => s.length - (intOf n).toNat)
  case atStart => exact ⟨0, by omega, rfl, Lib.hid (by simp), (by repeat (first | exact Below.refl _ _ | assumption | apply below_alloc | apply below_junk | apply below_drew))⟩
  case round =>
    obtain ⟨k, hk, rfl, HE, HBW⟩ := hrel
    by_cases hlt : k < s.length
    · obtain ⟨ad, x, rfl, hx, hbx, hx0_, hx1_⟩ := at_Ival (Kd.C_below s_r HBW) k hlt
      have hdr := Lib.hid (Pu.drop_cons hx)
      go_wp2_with (first | (go_at_call 53; refine (c_impl_SourcesOk_1 _ _ _ ).mono ?_; rintro e w' hr; obtain ⟨rfl, g, d, rfl⟩ := Ret.open hr; clear hr) | go_region)
      all_goals first
        | (go_roundw
           case rel => exact ⟨k + 1, by omega, by go_num, Lib.hid (by rw [← HE.out, hdr.out]; simp [Pu.idx, *]), (by repeat (first | exact Below.refl _ _ | assumption | apply below_alloc | apply below_junk | apply below_drew))⟩
           case measure => simp [intOf]; omega)
        | (refine bodyPost_ret (v := .int .i64 (Pu.idx (fun a => !Pu.IvalOk a) 0 s)) ?_ rfl (Ret.mk (by repeat (first | exact Below.refl _ _ | assumption | apply below_alloc | apply below_junk | apply below_drew)))
           go_light
           have he := HE.out
           rw [hdr.out] at he
           simp [results, Try.results82, go_sem, ← he, Pu.idx, *])
    · have hkl : k = s.length := by omega
      subst hkl
      go_wp2_with (first | (go_at_call 53; refine (c_impl_SourcesOk_1 _ _ _ ).mono ?_; rintro e w' hr; obtain ⟨rfl, g, d, rfl⟩ := Ret.open hr; clear hr) | go_region)
      refine bodyPost_ret (v := .int .i64 (Pu.idx (fun a => !Pu.IvalOk a) 0 s)) ?_ rfl (Ret.mk (by repeat (first | exact Below.refl _ _ | assumption | apply below_alloc | apply below_junk | apply below_drew)))
      go_light
      have he := HE.out
      simp [results, Try.results82, go_sem, ← he, Pu.idx]

-- slices.ContainsFunc[[]impl.Ival,impl.Ival]
set_option maxHeartbeats 1000000 in
set_option maxRecDepth 100000 in
theorem c_slices_ContainsFunc_impl_Ival_impl_Ival (s_A : Option Addr) (s_c : Nat) (s : List Ival) (w : World) (s_r : Kd.C kIval w s_A s.length s) (s_h : s.length ≤ s_c)  :
    Calls Try.prog 52 #[.slice s_A s.length s_c, .func (.func 53) #[] #[]] w (Ret w (.bool (s.any (fun a => !Pu.IvalOk a)))) := by
  have s_m := Kd.C_max s_r
  have hi := Pu.idx_any (fun a => !Pu.IvalOk a) 0 s
  obtain ⟨hi1, hi2, hi3⟩ := hi
  have HI := Lib.hid hi1; clear hi1
  go_enter Try.func52, Try.ntmps52
  go_wp2_with (first
    | (go_at_call 82; refine (c_slices_IndexFunc_impl_Ival_impl_Ival _ _ _ _ (by first | assumption | exact Kd.C_below (by assumption) (by repeat (first | exact Below.refl _ _ | assumption | apply below_alloc | apply below_junk | apply below_drew))) (by omega)).mono ?_; rintro e w' hr; obtain ⟨rfl, g, d, rfl⟩ := Ret.open hr; clear hr)
    | (go_at_call 53; refine (c_impl_SourcesOk_1 _ _ _ ).mono ?_; rintro e w' hr; obtain ⟨rfl, g, d, rfl⟩ := Ret.open hr; clear hr)
    | go_region)
  all_goals refine bodyPost_ret (v := .bool (s.any (fun a => !Pu.IvalOk a))) ?_ rfl (Ret.mk (by repeat (first | exact Below.refl _ _ | apply below_alloc | apply below_junk | apply below_drew)))
  all_goals (have hi := HI.out; simp [results, Try.results52, go_sem]; simp at hi; rw [Bool.eq_iff_iff]; simpa using hi)

-- spec.SourcesOk
set_option maxHeartbeats 1000000 in
set_option maxRecDepth 100000 in
theorem c_spec_SourcesOk (l_A : Option Addr) (l_c : Nat) (l : List Ival) (w : World) (l_r : Kd.C kIval w l_A l.length l) (l_h : l.length ≤ l_c)  :
    Calls Try.prog 16 #[.slice l_A l.length l_c] w (Ret w (.bool (Pu.SourcesOk l))) := by
  have l_m := Kd.C_max l_r
  go_enter Try.func16, Try.ntmps16
  go_wp2_with (first
    | (go_at_call 51; refine (c_spec_l1All _ _ _ _ _ (by first | assumption | exact Kd.C_below (by assumption) (by repeat (first | exact Below.refl _ _ | assumption | apply below_alloc | apply below_junk | apply below_drew))) (by omega)).mono ?_; rintro e w' hr; obtain ⟨rfl, g, d, rfl⟩ := Ret.open hr; clear hr)
    | go_region)
  all_goals refine bodyPost_ret (v := .bool (Pu.SourcesOk l)) ?_ rfl (Ret.mk (by repeat (first | exact Below.refl _ _ | apply below_alloc | apply below_junk | apply below_drew)))
  all_goals first | (simp [results, Try.results16, go_sem, Pu.SourcesOk, *]; done) | (simp [results, Try.results16, go_sem, Pu.SourcesOk, *]; omega) | (go_light; simp [results, Try.results16, go_sem, Pu.SourcesOk, *]; intros; exfalso; omega) | (go_light; simp [results, Try.results16, go_sem, Pu.SourcesOk, *]; (repeat' split) <;> first | omega | (simp; done) | (simp_all; done)) | (go_light; simp_all [results, Try.results16, go_sem, Pu.SourcesOk, ]; done) | (go_light; simp_all [results, Try.results16, go_sem, Pu.SourcesOk, ]; omega)

-- impl.SourcesOk
set_option maxHeartbeats 1000000 in
set_option maxRecDepth 100000 in
theorem c_impl_SourcesOk (l_A : Option Addr) (l_c : Nat) (l : List Ival) (w : World) (l_r : Kd.C kIval w l_A l.length l) (l_h : l.length ≤ l_c)  :
    Calls Try.prog 18 #[.slice l_A l.length l_c] w (Ret w (.bool (Pu.SourcesOk l))) := by
  have l_m := Kd.C_max l_r
  go_enter Try.func18, Try.ntmps18
  go_wp2_with (first
    | (go_at_call 52; refine (c_slices_ContainsFunc_impl_Ival_impl_Ival _ _ _ _ (by first | assumption | exact Kd.C_below (by assumption) (by repeat (first | exact Below.refl _ _ | assumption | apply below_alloc | apply below_junk | apply below_drew))) (by omega)).mono ?_; rintro e w' hr; obtain ⟨rfl, g, d, rfl⟩ := Ret.open hr; clear hr)
    | go_region)
  all_goals refine bodyPost_ret (v := .bool (Pu.SourcesOk l)) ?_ rfl (Ret.mk (by repeat (first | exact Below.refl _ _ | apply below_alloc | apply below_junk | apply below_drew)))
  all_goals (simp only [Pu.SourcesOk, Pu.AllOk, ← Pu.any_not]; simp [results, Try.results18, go_sem, *]; try omega)

-- laws.FnExactSourcesOk
set_option maxHeartbeats 1000000 in
set_option maxRecDepth 100000 in
theorem c_laws_FnExactSourcesOk (l_A : Option Addr) (l_c : Nat) (l : List Ival) (w : World) (l_r : Kd.C kIval w l_A l.length l) (l_h : l.length ≤ l_c)  :
    Calls Try.prog 3 #[.slice l_A l.length l_c] w (Ret w (.bool true)) := by
  have l_m := Kd.C_max l_r
  have hsz := Pu.sz_cases l.length
  go_enter Try.func3, Try.ntmps3
  go_wp2_with (first
    | (go_at_call 15; refine (c_laws_szIvalS _ _ _ _ _ (by first | assumption | exact Kd.C_below (by assumption) (by repeat (first | exact Below.refl _ _ | assumption | apply below_alloc | apply below_junk | apply below_drew))) (by omega) (by omega) (by omega)).mono ?_; rintro e w' hr; obtain ⟨rfl, g, d, rfl⟩ := Ret.open hr; clear hr)
    | (go_at_call 16; refine (c_spec_SourcesOk _ _ _ _ (by first | assumption | exact Kd.C_below (by assumption) (by repeat (first | exact Below.refl _ _ | assumption | apply below_alloc | apply below_junk | apply below_drew))) (by omega)).mono ?_; rintro e w' hr; (rcases Ret.bool hr with ⟨rfl, hX, g, d, rfl⟩ | ⟨rfl, hX, g, d, rfl⟩ <;> first | (have hB := Pu.SourcesOk_bd hX; (try dsimp only at hB); obtain hB1 := hB; clear hr) | clear hr))
    | (go_at_call 17; refine (c_laws_toIvalS _ _ _ _ (by first | assumption | exact Kd.C_below (by assumption) (by repeat (first | exact Below.refl _ _ | assumption | apply below_alloc | apply below_junk | apply below_drew))) (by omega) (by omega)).mono ?_; rintro e w' hr; obtain ⟨v0, rfl, hR0, hb⟩ := hr; obtain ⟨g, d, rfl⟩ := junk_of_below hb; clear hb; obtain ⟨A0, c0, rfl, hC0, hc0⟩ := R_open hR0)
    | (go_at_call 18; refine (c_impl_SourcesOk _ _ _ _ (by first | assumption | exact Kd.C_below (by assumption) (by repeat (first | exact Below.refl _ _ | assumption | apply below_alloc | apply below_junk | apply below_drew))) (by omega)).mono ?_; rintro e w' hr; (rcases Ret.bool hr with ⟨rfl, hX, g, d, rfl⟩ | ⟨rfl, hX, g, d, rfl⟩ <;> first | (have hB := Pu.SourcesOk_bd hX; (try dsimp only at hB); obtain hB1 := hB; clear hr) | clear hr))
    | (go_at_call 19; refine (c_laws_eqIvalS _ _ _ _ _ _ _ (by first | assumption | exact Kd.C_below (by assumption) (by repeat (first | exact Below.refl _ _ | assumption | apply below_alloc | apply below_junk | apply below_drew))) (by omega) (by first | assumption | exact Kd.C_below (by assumption) (by repeat (first | exact Below.refl _ _ | assumption | apply below_alloc | apply below_junk | apply below_drew))) (by omega)).mono ?_; rintro e w' hr; obtain ⟨rfl, g, d, rfl⟩ := Ret.open hr; clear hr)
    | go_region)
  all_goals refine bodyPost_ret (v := .bool true) ?_ rfl (Ret.mk (by repeat (first | exact Below.refl _ _ | apply below_alloc | apply below_junk | apply below_drew)))
  all_goals first | (simp [results, Try.results3, go_sem, *]; done) | (simp [results, Try.results3, go_sem, *]; omega) | (go_light; simp [results, Try.results3, go_sem, *]; intros; exfalso; omega) | (go_light; simp [results, Try.results3, go_sem, *]; (repeat' split) <;> first | omega | (simp; done) | (simp_all; done)) | (go_light; simp_all [results, Try.results3, go_sem, ]; done) | (go_light; simp_all [results, Try.results3, go_sem, ]; omega)

end Go.Proofs.Ytpedhnhemocblaa
