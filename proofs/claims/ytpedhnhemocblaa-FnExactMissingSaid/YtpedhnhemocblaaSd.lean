/-
  Contracts of Go functions of this seat: what each call hands back, as a plain function of its arguments, and that nothing that was there has turned.
  No statement of the seat is proved here.
-/
import Derived.Test.YtpedhnhemocblaaProg
import Derived.Test.YtpedhnhemocblaaPure
import Derived.Test.YtpedhnhemocblaaActs
import Derived.Deep.Light
import Derived.RegionTactic
import Derived.Deep.RegionWith
import Derived.BigRegion
import Derived.ChangeAlike
import Derived.Test.YtpedhnhemocblaaCa
import Derived.Test.YtpedhnhemocblaaCl
import Derived.Test.YtpedhnhemocblaaSa
import Derived.Test.YtpedhnhemocblaaSb
import Derived.Test.YtpedhnhemocblaaSc
import Derived.Test.YtpedhnhemocblaaSl
import Derived.Test.YtpedhnhemocblaaSources
namespace Go.Proofs.Ytpedhnhemocblaa
open Go.RowKit Go.Proofs.YtpedhnhemocblaaW.PrintWords
set_option linter.unusedVariables false
set_option linter.unusedSimpArgs false

-- impl.Missing$1
set_option maxHeartbeats 1000000 in
set_option maxRecDepth 100000 in
theorem c_impl_Missing_1 (a b : Ival) (p : Nat) (w : World) (h0 : w.cell? ⟨p, 0, none⟩ = some (.int .i64 a.lo)) (h1 : w.cell? ⟨p, 1, none⟩ = some (.int .i64 a.hi)) (hlt : p < w.heap.size) :
    Calls Try.prog 59 #[.agg #[.int .i64 b.lo, .int .i64 b.hi], .pointer (some ⟨p, 0, none⟩)] w (Ret w (.bool (decide (0 < Pu.Apart a b)))) := by
  go_enter Try.func59, Try.ntmps59
  go_wp2_with (first | (go_at_call 60; refine (c_impl_Apart _ _ _ _ _ ).mono ?_; rintro e w' hr; obtain ⟨rfl, g, d, rfl⟩ := Ret.open hr; clear hr) | go_region)
  all_goals refine bodyPost_ret (v := .bool (decide (0 < Pu.Apart a b))) ?_ rfl (Ret.mk (by repeat (first | exact Below.refl _ _ | assumption | apply below_alloc | apply below_junk | apply below_drew)))
  all_goals simp [results, Try.results59, go_sem]

set_option maxHeartbeats 2000000 in
set_option maxRecDepth 100000 in
theorem c_impl_places_impl_Missing_1 (l_A : Option Addr) (l_c : Nat) (l : List Ival) (cb : Nat) (p : Ival → Bool) (w : World) (l_r : Kd.C kIval w l_A l.length l) (l_h : l.length ≤ l_c) (hn : l.length ≤ 1048576)
    (hf : ∀ (x : Ival) (w1 : World), Below w.heap.size w w1 → Calls Try.prog 59 #[.agg #[.int .i64 x.lo, .int .i64 x.hi], .pointer (some ⟨cb, 0, none⟩)] w1 (Ret w1 (.bool (p x)))) :
    Calls Try.prog 56 #[.slice l_A l.length l_c, .func (.func 59) #[] #[.pointer (some ⟨cb, 0, none⟩)]] w (fun e w' => ∃ v0 : Value, e = .returned v0 ∧ Kd.R (Kd.int .i64) 3 w' w.heap.size (fun _ => True) v0 (Pu.places p 0 l) ∧ Below w.heap.size w w') := by
  have l_m := Kd.C_max l_r
  go_enter Try.func56, Try.ntmps56
  go_wp2_with (first | ((with_reducible refine gate_dst (N := 8) rfl ?_); refine Kd.R_lit (Kd.int .i64) _ 3 ?hg (N := 8) ?hd (xs := ([] : List Int)) (inner := []) (ok := fun _ => True) (okp := fun _ => True) ?hr ?hp (fun _ hk => hk) trivial (Below.refl _ _) (Nat.le_refl _) (by simp) ?_; (case hd => rfl); (case hg => rfl); (case hr => first | (go_simp; done) | (go_simp; rfl)); (case hp => exact (Reps.none _ _)); intro v w1 hR hb hg_ hnew_; clear hg_ hnew_; obtain ⟨g0, d0, rfl⟩ := junk_of_below hb; clear hb))
  have HR := Lib.hid hR; clear hR
  go_loopw [5, 11] (fun v n wr => ∃ (k : Nat) (out : List Int), k ≤ l.length ∧ n = .int .i64 k ∧ Hid (Kd.R (Kd.int .i64) 3 wr w.heap.size (fun _ => True) v out) ∧ Hid (out ++ Pu.places p k (l.drop k) = Pu.places p 0 l) ∧ out.length ≤ k ∧ Below w.heap.size w wr) (fun _ n _ => l.length - (intOf n).toNat)
  case atStart => exact ⟨0, [], by omega, rfl, HR, Lib.hid (by simp), by simp, (by repeat (first | exact Below.refl _ _ | assumption | apply below_alloc | apply below_junk | apply below_drew))⟩
  case round =>
    obtain ⟨k, out, hk, rfl, HO, HE, hko, HBW⟩ := hrel
    by_cases hlt : k < l.length
    · obtain ⟨ad, x, rfl, hx, hbx, hx0_, hx1_⟩ := at_Ival (Kd.C_below l_r HBW) k hlt
      have hdr := Lib.hid (Pu.drop_cons hx)
      go_wp2_with (first
        | (go_at_call 59; refine (hf x _ (by repeat (first | exact Below.refl _ _ | assumption | apply below_alloc | apply below_junk | apply below_drew))).mono ?_; rintro e w2 ⟨rfl, hb⟩; have hbw : Below w.heap.size w w2 := below_step (by repeat (first | exact Below.refl _ _ | assumption | apply below_alloc | apply below_junk | apply below_drew)) hb; have hbr : Below wr.heap.size wr w2 := below_step (by repeat (first | exact Below.refl _ _ | assumption | apply below_alloc | apply below_junk | apply below_drew)) hb; clear hb)
        | ((with_reducible refine gate_ (.call { callee := .builtin .append, args := #[.tmp 19, .tmp 21], argTypes := #[33, 33] }) rfl ?_); at_builtin; go_loud (refine Kd.R_append (Kd.int .i64) (w0 := w) w.heap.size rfl (.tmp 19) (.tmp 21) 33 3 (.int .i64 0) 8 rfl Try.underlying33 (by kernel_rfl) rfl (by decide) (by omega) u5 out (k : Int) [.int .i64 k] (fun _ => True) (fun _ => False) rfl rfl ?aP (fun _ hk => hk.elim) ?aF ?aO ?aB ?aS ?aL ?_); go_loud (case aP => exact rfl); go_loud (case aB => exact (by repeat (first | exact Below.refl _ _ | assumption | apply below_alloc | apply below_junk | apply below_drew))); go_loud (case aF => exact (fun _ _ => trivial)); go_loud (case aO => exact Kd.R_below HO.out (by repeat (first | exact Below.refl _ _ | assumption | apply below_alloc | apply below_junk | apply below_drew))); go_loud (case aS => exact Below.size (by repeat (first | exact Below.refl _ _ | assumption | apply below_alloc | apply below_junk | apply below_drew))); go_loud (case aL => omega); intro v1 w1 hR hb hg hat; clear hg hat; obtain ⟨g1, d1, rfl⟩ := junk_of_below hb; clear hb; have HR1 := Lib.hid hR; clear hR))
      · go_roundw
        case rel => exact ⟨k + 1, _, by omega, by go_num, HR1, Lib.hid (by have he := HE.out; rw [hdr.out] at he; rw [← he]; simp [Pu.places, *]), by simp; omega, (by repeat (first | exact Below.refl _ _ | assumption | apply below_alloc | apply below_junk | apply below_drew))⟩
        case measure => simp [intOf]; omega
      · go_roundw
        case rel => exact ⟨k + 1, _, by omega, by go_num, Lib.hid (Kd.R_below HO.out (by repeat (first | exact Below.refl _ _ | assumption | apply below_alloc | apply below_junk | apply below_drew))), Lib.hid (by have he := HE.out; rw [hdr.out] at he; rw [← he]; simp [Pu.places, *]), by omega, (by repeat (first | exact Below.refl _ _ | assumption | apply below_alloc | apply below_junk | apply below_drew))⟩
        case measure => simp [intOf]; omega
    · have hkl : k = l.length := by omega
      subst hkl
      go_wp2
      go_ret
      exact ⟨_, rfl, by have h := HO.out; have he := HE.out; simp [Pu.places] at he; rw [← he]; exact h, HBW⟩
-- impl.Missing
set_option maxHeartbeats 1000000 in
set_option maxRecDepth 100000 in
theorem c_impl_Missing (l_A : Option Addr) (l_c : Nat) (l : List Ival) (a_lo : Int) (a_hi : Int) (w : World) (l_r : Kd.C kIval w l_A l.length l) (l_h : l.length ≤ l_c)  :
    Calls Try.prog 24 #[.slice l_A l.length l_c, .agg #[.int .i64 a_lo, .int .i64 a_hi]] w (fun e w' => ∃ v0 : Value, e = .returned (v0) ∧ Kd.R (Kd.int .i64) 3 w' w.heap.size (fun _ => True) v0 ((Pu.Missing l (⟨a_lo, a_hi⟩ : Ival))) ∧ Below w.heap.size w w') := by
  have l_m := Kd.C_max l_r
  go_enter Try.func24, Try.ntmps24
  go_wp2_with (first | (go_at_call 18; refine (c_impl_SourcesOk _ _ _ _ (by first | assumption | exact Kd.C_below (by assumption) (by repeat (first | exact Below.refl _ _ | assumption | apply below_alloc | apply below_junk | apply below_drew))) (by omega)).mono ?_; rintro e w' hr; (rcases Ret.bool hr with ⟨rfl, hX, g, d, rfl⟩ | ⟨rfl, hX, g, d, rfl⟩ <;> first | (have hB := Pu.SourcesOk_bd hX; (try dsimp only at hB); obtain hB1 := hB; clear hr) | clear hr)) | (go_at_call 54; refine (c_impl_IvalOk _ _ _ ).mono ?_; rintro e w' hr; (rcases Ret.bool hr with ⟨rfl, hX, g, d, rfl⟩ | ⟨rfl, hX, g, d, rfl⟩ <;> first | (have hB := (Pu.IvalOk_iff _).1 hX; (try dsimp only at hB); obtain ⟨hB1, hB2, hB3⟩ := hB; clear hr) | clear hr)) | (go_at_call 56; refine (c_impl_places_impl_Missing_1 _ _ _ _ (fun b => decide (0 < Pu.Apart ⟨a_lo, a_hi⟩ b)) _ (by first | assumption | exact Kd.C_below (by assumption) (by repeat (first | exact Below.refl _ _ | assumption | apply below_alloc | apply below_junk | apply below_drew))) (by omega) (by omega) (fun x w1 hw1 => c_impl_Missing_1 ⟨a_lo, a_hi⟩ x _ w1 (by rw [Below.cell hw1 (by simp [go_sem])]; simp [go_sem]) (by rw [Below.cell hw1 (by simp [go_sem])]; simp [go_sem]) (by have := hw1.size; simp [go_sem] at this; omega))).mono ?_; rintro e w' hr; obtain ⟨v0, rfl, hR0, hb⟩ := hr; obtain ⟨g, d, rfl⟩ := junk_of_below hb; clear hb; obtain ⟨A0, c0, rfl, hC0, hc0⟩ := R_open hR0) | go_region)
  all_goals go_ret
  all_goals first
    | exact ⟨_, rfl, by rw [Pu.Missing_bad (by simp_all)]; exact Kd.R_nil _ _ _ _ _, (by repeat (first | exact Below.refl _ _ | assumption | apply below_alloc | apply below_junk | apply below_drew))⟩
    | exact ⟨_, rfl, by rw [Pu.Missing_ok (by simp_all) (by simp_all)]; exact Kd.R_lower hR0 (by simp [go_sem]; try omega), (by repeat (first | exact Below.refl _ _ | assumption | apply below_alloc | apply below_junk | apply below_drew))⟩

end Go.Proofs.Ytpedhnhemocblaa
