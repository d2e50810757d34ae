/-
  Contracts of Go functions of this seat: what each call hands back, as a plain function of its arguments, and that nothing that was there has turned.
  No statement of the seat is proved here.
-/
import Derived.Test.YtomfappebadllaaProg
import Derived.Test.YtomfappebadllaaPure
import Derived.Test.YtomfappebadllaaActs
import Derived.Deep.Light
import Derived.RegionTactic
import Derived.Deep.RegionWith
import Derived.BigRegion
import Derived.ChangeAlike
import Derived.Test.YtomfappebadllaaCa
import Derived.Test.YtomfappebadllaaCl
import Derived.Test.YtomfappebadllaaSa
import Derived.Test.YtomfappebadllaaSl
import Derived.Test.YtomfappebadllaaTypes
namespace Go.Proofs.Ytomfappebadllaa
open Go.RowKit Go.Proofs.YtomfappebadllaaW.PrintWords
set_option linter.unusedVariables false
set_option linter.unusedSimpArgs false

-- impl.Waits$1
set_option maxHeartbeats 1000000 in
set_option maxRecDepth 100000 in
theorem c_impl_Waits_1 (x : Ask) (b : Nat) (t : Int) (w : World) (hb : w.cell? ⟨b, 0, none⟩ = some (.int .i64 t)) (hlb : b < w.heap.size) :
    Calls Try.prog 41 #[.agg #[.int .i64 x.nonce, .int .i64 x.dest, .int .i64 x.pt, .int .i64 x.tries], .pointer (some ⟨b, 0, none⟩)] w (Ret w (.bool (x.dest == t))) := by
  go_enter Try.func41, Try.ntmps41
  go_wp2_with (first | go_region)
  all_goals refine bodyPost_ret (v := .bool (x.dest == t)) ?_ rfl (Ret.mk (by repeat (first | exact Below.refl _ _ | assumption | apply below_alloc | apply below_junk | apply below_drew)))
  all_goals simp [results, Try.results41, go_sem, *]

set_option maxHeartbeats 2000000 in
set_option maxRecDepth 100000 in
theorem c_impl_places_impl_Waits_1 (l_A : Option Addr) (l_c : Nat) (l : List Ask) (cb : Nat) (p : Ask → Bool) (w : World) (l_r : Kd.C kAsk w l_A l.length l) (l_h : l.length ≤ l_c) (hn : l.length ≤ 1048576)
    (hf : ∀ (x : Ask) (w1 : World), Below w.heap.size w w1 → Calls Try.prog 41 #[.agg #[.int .i64 x.nonce, .int .i64 x.dest, .int .i64 x.pt, .int .i64 x.tries], .pointer (some ⟨cb, 0, none⟩)] w1 (Ret w1 (.bool (p x)))) :
    Calls Try.prog 40 #[.slice l_A l.length l_c, .func (.func 41) #[] #[.pointer (some ⟨cb, 0, none⟩)]] w (fun e w' => ∃ v0 : Value, e = .returned v0 ∧ Kd.R (Kd.int .i64) 3 w' w.heap.size (fun _ => True) v0 (Pu.places p 0 l) ∧ Below w.heap.size w w') := by
  have l_m := Kd.C_max l_r
  go_enter Try.func40, Try.ntmps40
  go_wp2_with (first | ((with_reducible refine gate_dst (N := 8) rfl ?_); refine Kd.R_lit (Kd.int .i64) _ 3 ?hg (N := 8) ?hd (xs := ([] : List Int)) (inner := []) (ok := fun _ => True) (okp := fun _ => True) ?hr ?hp (fun _ hk => hk) trivial (Below.refl _ _) (Nat.le_refl _) (by simp) ?_; (case hd => rfl); (case hg => rfl); (case hr => first | (go_simp; done) | (go_simp; rfl)); (case hp => exact (Reps.none _ _)); intro v w1 hR hb hg_ hnew_; clear hg_ hnew_; obtain ⟨g0, d0, rfl⟩ := junk_of_below hb; clear hb))
  have HR := Lib.hid hR; clear hR
  go_loopw [5, 11] (fun v n wr => ∃ (k : Nat) (out : List Int), k ≤ l.length ∧ n = .int .i64 k ∧ Hid (Kd.R (Kd.int .i64) 3 wr w.heap.size (fun _ => True) v out) ∧ Hid (out ++ Pu.places p k (l.drop k) = Pu.places p 0 l) ∧ out.length ≤ k ∧ Below w.heap.size w wr) (fun _ n _ => l.length - (intOf n).toNat)
  case atStart => exact ⟨0, [], by omega, rfl, HR, Lib.hid (by simp), by simp, (by repeat (first | exact Below.refl _ _ | assumption | apply below_alloc | apply below_junk | apply below_drew))⟩
  case round =>
    obtain ⟨k, out, hk, rfl, HO, HE, hko, HBW⟩ := hrel
    by_cases hlt : k < l.length
    · obtain ⟨ad, x, rfl, hx, hbx, hx0_, hx1_, hx2_, hx3_⟩ := at_Ask (Kd.C_below l_r HBW) k hlt
      have hdr := Lib.hid (Pu.drop_cons hx)
      go_wp2_with (first
        | (go_at_call 41; refine (hf x _ (by repeat (first | exact Below.refl _ _ | assumption | apply below_alloc | apply below_junk | apply below_drew))).mono ?_; rintro e w2 ⟨rfl, hb⟩; have hbw : Below w.heap.size w w2 := below_step (by repeat (first | exact Below.refl _ _ | assumption | apply below_alloc | apply below_junk | apply below_drew)) hb; have hbr : Below wr.heap.size wr w2 := below_step (by repeat (first | exact Below.refl _ _ | assumption | apply below_alloc | apply below_junk | apply below_drew)) hb; clear hb)
        | ((with_reducible refine gate_ (.call { callee := .builtin .append, args := #[.tmp 19, .tmp 21], argTypes := #[55, 55] }) rfl ?_); at_builtin; go_loud (refine Kd.R_append (Kd.int .i64) (w0 := w) w.heap.size rfl (.tmp 19) (.tmp 21) 55 3 (.int .i64 0) 8 rfl Try.underlying55 (by kernel_rfl) rfl (by decide) (by omega) u5 out (k : Int) [.int .i64 k] (fun _ => True) (fun _ => False) rfl rfl ?aP (fun _ hk => hk.elim) ?aF ?aO ?aB ?aS ?aL ?_); go_loud (case aP => exact rfl); go_loud (case aB => exact (by repeat (first | exact Below.refl _ _ | assumption | apply below_alloc | apply below_junk | apply below_drew))); go_loud (case aF => exact (fun _ _ => trivial)); go_loud (case aO => exact Kd.R_below HO.out (by repeat (first | exact Below.refl _ _ | assumption | apply below_alloc | apply below_junk | apply below_drew))); go_loud (case aS => exact Below.size (by repeat (first | exact Below.refl _ _ | assumption | apply below_alloc | apply below_junk | apply below_drew))); go_loud (case aL => omega); intro v1 w1 hR hb hg hat; clear hg hat; obtain ⟨g1, d1, rfl⟩ := junk_of_below hb; clear hb; have HR1 := Lib.hid hR; clear hR))
      · go_roundw
        case rel => exact ⟨k + 1, _, by omega, by go_num, HR1, Lib.hid (by have he := HE.out; rw [hdr.out] at he; rw [← he]; simp [Pu.places, *]), by simp; omega, (by repeat (first | exact Below.refl _ _ | assumption | apply below_alloc | apply below_junk | apply below_drew))⟩
        case measure => simp [intOf]; omega
      · go_roundw
        case rel => exact ⟨k + 1, _, by omega, by go_num, Lib.hid (Kd.R_below HO.out (by repeat (first | exact Below.refl _ _ | assumption | apply below_alloc | apply below_junk | apply below_drew))), Lib.hid (by have he := HE.out; rw [hdr.out] at he; rw [← he]; simp [Pu.places, *]), by omega, (by repeat (first | exact Below.refl _ _ | assumption | apply below_alloc | apply below_junk | apply below_drew))⟩
        case measure => simp [intOf]; omega
    · have hkl : k = l.length := by omega
      subst hkl
      go_wp2
      go_ret
      exact ⟨_, rfl, by have h := HO.out; have he := HE.out; simp [Pu.places] at he; rw [← he]; exact h, HBW⟩
-- impl.Waits
set_option maxHeartbeats 1000000 in
set_option maxRecDepth 100000 in
theorem c_impl_Waits (t_e t_u : Int) (t_A : Option Addr) (t_c : Nat) (t : List Ask) (tgt : Int) (tok : Bool) (w : World) (t_r : Kd.C kAsk w t_A t.length t) (t_h : t.length ≤ t_c) (hsm : tok = true → t.length ≤ 16)
    (hT : ∀ w1, Below w.heap.size w w1 → Calls Try.prog 17 #[.agg #[.int .i64 t_e, .int .i64 t_u, .slice t_A t.length t_c]] w1 (Ret w1 (.bool tok))) :
    Calls Try.prog 20 #[.agg #[.int .i64 t_e, .int .i64 t_u, .slice t_A t.length t_c], .int .i64 tgt] w (Ret w (.int .i64 (if tok = true then (t.countP (fun x => x.dest == tgt) : Nat) else 0))) := by
  have t_m := Kd.C_max t_r
  cases tok
  · go_enter Try.func20, Try.ntmps20
    go_wp2_with (first | (go_at_call 40; refine (c_impl_places_impl_Waits_1 _ _ _ _ (fun x => x.dest == tgt) _ (by first | assumption | exact Kd.C_below (by assumption) (by repeat (first | exact Below.refl _ _ | assumption | apply below_alloc | apply below_junk | apply below_drew))) (by omega) (by omega) (fun x w1 hw1 => c_impl_Waits_1 x _ tgt w1 (by rw [Below.cell hw1 (by simp [go_sem])]; simp [go_sem]) (by have := hw1.size; simp [go_sem] at this; omega))).mono ?_; rintro e w' hr; obtain ⟨v0, rfl, hR0, hb⟩ := hr; obtain ⟨g, d, rfl⟩ := junk_of_below hb; clear hb; obtain ⟨A0, c0, rfl, hC0, hc0⟩ := R_open hR0) | (go_at_call 17; refine (hT _ (by repeat (first | exact Below.refl _ _ | assumption | apply below_alloc | apply below_junk | apply below_drew))).mono ?_; rintro e w' hr; obtain ⟨rfl, g, d, rfl⟩ := Ret.open hr; clear hr) | go_region)
    all_goals refine bodyPost_ret (v := .int .i64 0) ?_ rfl (Ret.mk (by repeat (first | exact Below.refl _ _ | assumption | apply below_alloc | apply below_junk | apply below_drew)))
    all_goals simp [results, Try.results20, go_sem]
  · have hs := hsm rfl
    go_enter Try.func20, Try.ntmps20
    go_wp2_with (first | (go_at_call 40; refine (c_impl_places_impl_Waits_1 _ _ _ _ (fun x => x.dest == tgt) _ (by first | assumption | exact Kd.C_below (by assumption) (by repeat (first | exact Below.refl _ _ | assumption | apply below_alloc | apply below_junk | apply below_drew))) (by omega) (by omega) (fun x w1 hw1 => c_impl_Waits_1 x _ tgt w1 (by rw [Below.cell hw1 (by simp [go_sem])]; simp [go_sem]) (by have := hw1.size; simp [go_sem] at this; omega))).mono ?_; rintro e w' hr; obtain ⟨v0, rfl, hR0, hb⟩ := hr; obtain ⟨g, d, rfl⟩ := junk_of_below hb; clear hb; obtain ⟨A0, c0, rfl, hC0, hc0⟩ := R_open hR0) | (go_at_call 17; refine (hT _ (by repeat (first | exact Below.refl _ _ | assumption | apply below_alloc | apply below_junk | apply below_drew))).mono ?_; rintro e w' hr; obtain ⟨rfl, g, d, rfl⟩ := Ret.open hr; clear hr) | go_region)
    all_goals refine bodyPost_ret (v := .int .i64 (t.countP (fun x => x.dest == tgt) : Nat)) ?_ rfl (Ret.mk (by repeat (first | exact Below.refl _ _ | assumption | apply below_alloc | apply below_junk | apply below_drew)))
    all_goals simp [results, Try.results20, go_sem, Pu.places_len]

end Go.Proofs.Ytomfappebadllaa
