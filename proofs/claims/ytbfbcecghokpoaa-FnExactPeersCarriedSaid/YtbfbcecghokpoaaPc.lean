/-
  Contracts of Go functions of this seat: what each call hands back, as a plain function of its arguments, and that nothing that was there has turned.
  No statement of the seat is proved here.
-/
import Derived.Test.YtbfbcecghokpoaaProg
import Derived.Test.YtbfbcecghokpoaaPure
import Derived.Test.YtbfbcecghokpoaaActs
import Derived.Deep.Light
import Derived.RegionTactic
import Derived.Deep.RegionWith
import Derived.BigRegion
import Derived.ChangeAlike
import Derived.Test.YtbfbcecghokpoaaCa
import Derived.Test.YtbfbcecghokpoaaCl
import Derived.Test.YtbfbcecghokpoaaSa
import Derived.Test.YtbfbcecghokpoaaPa
import Derived.Test.YtbfbcecghokpoaaFracs
import Derived.Test.YtbfbcecghokpoaaPeers
import Derived.Test.YtbfbcecghokpoaaPeers2
import Derived.Test.YtbfbcecghokpoaaSl
import Derived.Test.YtbfbcecghokpoaaTypes
namespace Go.Proofs.Ytbfbcecghokpoaa
open Go.RowKit Go.Proofs.YtbfbcecghokpoaaW.PrintWords
set_option linter.unusedVariables false
set_option linter.unusedSimpArgs false

-- impl.PeersFresh$1
set_option maxHeartbeats 1000000 in
set_option maxRecDepth 100000 in
theorem c_impl_PeersFresh_1 (x : Peer) (b c : Nat) (t f : Int) (w : World) (hb : w.cell? ⟨b, 0, none⟩ = some (.int .i64 t)) (hc : w.cell? ⟨c, 0, none⟩ = some (.int .i64 f)) (hlb : b < w.heap.size) (hlc : c < w.heap.size) :
    Calls Try.prog 61 #[.agg #[.int .i64 x.id, .int .i64 x.bound.lo, .int .i64 x.bound.hi, .int .i64 x.pt, .bool x.suspect], .pointer (some ⟨b, 0, none⟩), .pointer (some ⟨c, 0, none⟩)] w (Ret w (.bool (Pu.In (wrap64 (t - x.pt)) 0 f))) := by
  go_enter Try.func61, Try.ntmps61
  go_wp2_with (first | (go_at_call 62; refine (c_impl_in _ _ _ _ ).mono ?_; rintro e w' hr; (rcases Ret.bool hr with ⟨rfl, hX, g, d, rfl⟩ | ⟨rfl, hX, g, d, rfl⟩ <;> first | (have hB := (Pu.In_iff _ _ _).1 hX; (try dsimp only at hB); obtain ⟨hB1, hB2⟩ := hB; clear hr) | (have hB := Pu.no_of (Pu.In_iff _ _ _) hX; (try dsimp only at hB); clear hr) | clear hr)) | go_region)
  all_goals refine bodyPost_ret (v := .bool (Pu.In (wrap64 (t - x.pt)) 0 f)) ?_ rfl (Ret.mk (by repeat (first | exact Below.refl _ _ | assumption | apply below_alloc | apply below_junk | apply below_drew)))
  all_goals simp [results, Try.results61, go_sem, *]

set_option maxHeartbeats 2000000 in
set_option maxRecDepth 100000 in
theorem c_impl_places_impl_PeersFresh_1 (l_A : Option Addr) (l_c : Nat) (l : List Peer) (cb : Nat) (cc : Nat) (p : Peer → Bool) (w : World) (l_r : Kd.C kPeer w l_A l.length l) (l_h : l.length ≤ l_c) (hn : l.length ≤ 1048576)
    (hf : ∀ (x : Peer) (w1 : World), Below w.heap.size w w1 → Calls Try.prog 61 #[.agg #[.int .i64 x.id, .int .i64 x.bound.lo, .int .i64 x.bound.hi, .int .i64 x.pt, .bool x.suspect], .pointer (some ⟨cb, 0, none⟩), .pointer (some ⟨cc, 0, none⟩)] w1 (Ret w1 (.bool (p x)))) :
    Calls Try.prog 60 #[.slice l_A l.length l_c, .func (.func 61) #[] #[.pointer (some ⟨cb, 0, none⟩), .pointer (some ⟨cc, 0, none⟩)]] w (fun e w' => ∃ v0 : Value, e = .returned v0 ∧ Kd.R (Kd.int .i64) 3 w' w.heap.size (fun _ => True) v0 (Pu.places p 0 l) ∧ Below w.heap.size w w') := by
  have l_m := Kd.C_max l_r
  go_enter Try.func60, Try.ntmps60
  go_wp2_with (first | ((with_reducible refine gate_dst (N := 8) rfl ?_); refine Kd.R_lit (Kd.int .i64) _ 3 ?hg (N := 8) ?hd (xs := ([] : List Int)) (inner := []) (ok := fun _ => True) (okp := fun _ => True) ?hr ?hp (fun _ hk => hk) trivial (Below.refl _ _) (Nat.le_refl _) (by simp) ?_; (case hd => rfl); (case hg => rfl); (case hr => first | (go_simp; done) | (go_simp; rfl)); (case hp => exact (Reps.none _ _)); intro v w1 hR hb hg_ hnew_; clear hg_ hnew_; obtain ⟨g0, d0, rfl⟩ := junk_of_below hb; clear hb))
  have HR := Lib.hid hR; clear hR
  go_loopw [5, 11] (fun v n wr => ∃ (k : Nat) (out : List Int), k ≤ l.length ∧ n = .int .i64 k ∧ Hid (Kd.R (Kd.int .i64) 3 wr w.heap.size (fun _ => True) v out) ∧ Hid (out ++ Pu.places p k (l.drop k) = Pu.places p 0 l) ∧ out.length ≤ k ∧ Below w.heap.size w wr) (fun _ n _ => l.length - (intOf n).toNat)
  case atStart => exact ⟨0, [], by omega, rfl, HR, Lib.hid (by simp), by simp, (by repeat (first | exact Below.refl _ _ | assumption | apply below_alloc | apply below_junk | apply below_drew))⟩
  case round =>
    obtain ⟨k, out, hk, rfl, HO, HE, hko, HBW⟩ := hrel
    by_cases hlt : k < l.length
    · obtain ⟨ad, x, rfl, hx, hbx, hx0_, hx1_, hx2_, hx3_, hx4_⟩ := at_Peer (Kd.C_below l_r HBW) k hlt
      have hdr := Lib.hid (Pu.drop_cons hx)
      go_wp2_with (first
        | (go_at_call 61; refine (hf x _ (by repeat (first | exact Below.refl _ _ | assumption | apply below_alloc | apply below_junk | apply below_drew))).mono ?_; rintro e w2 ⟨rfl, hb⟩; have hbw : Below w.heap.size w w2 := below_step (by repeat (first | exact Below.refl _ _ | assumption | apply below_alloc | apply below_junk | apply below_drew)) hb; have hbr : Below wr.heap.size wr w2 := below_step (by repeat (first | exact Below.refl _ _ | assumption | apply below_alloc | apply below_junk | apply below_drew)) hb; clear hb)
        | ((with_reducible refine gate_ (.call { callee := .builtin .append, args := #[.tmp 19, .tmp 21], argTypes := #[29, 29] }) rfl ?_); at_builtin; go_loud (refine Kd.R_append (Kd.int .i64) (w0 := w) w.heap.size rfl (.tmp 19) (.tmp 21) 29 3 (.int .i64 0) 8 rfl Try.underlying29 (by kernel_rfl) rfl (by decide) (by omega) u5 out (k : Int) [.int .i64 k] (fun _ => True) (fun _ => False) rfl rfl ?aP (fun _ hk => hk.elim) ?aF ?aO ?aB ?aS ?aL ?_); go_loud (case aP => exact rfl); go_loud (case aB => exact (by repeat (first | exact Below.refl _ _ | assumption | apply below_alloc | apply below_junk | apply below_drew))); go_loud (case aF => exact (fun _ _ => trivial)); go_loud (case aO => exact Kd.R_below HO.out (by repeat (first | exact Below.refl _ _ | assumption | apply below_alloc | apply below_junk | apply below_drew))); go_loud (case aS => exact Below.size (by repeat (first | exact Below.refl _ _ | assumption | apply below_alloc | apply below_junk | apply below_drew))); go_loud (case aL => omega); intro v1 w1 hR hb hg hat; clear hg hat; obtain ⟨g1, d1, rfl⟩ := junk_of_below hb; clear hb; have HR1 := Lib.hid hR; clear hR))
      · go_roundw
        case rel => exact ⟨k + 1, _, by omega, by go_num, HR1, Lib.hid (by have he := HE.out; rw [hdr.out] at he; rw [← he]; simp [Pu.places, *]), by simp; omega, (by repeat (first | exact Below.refl _ _ | assumption | apply below_alloc | apply below_junk | apply below_drew))⟩
        case measure => simp [intOf]; omega
      · go_roundw
        case rel => exact ⟨k + 1, _, by omega, by go_num, Lib.hid (Kd.R_below HO.out (by repeat (first | exact Below.refl _ _ | assumption | apply below_alloc | apply below_junk | apply below_drew))), Lib.hid (by have he := HE.out; rw [hdr.out] at he; rw [← he]; simp [Pu.places, *]), by omega, (by repeat (first | exact Below.refl _ _ | assumption | apply below_alloc | apply below_junk | apply below_drew))⟩
        case measure => simp [intOf]; omega
    · have hkl : k = l.length := by omega
      subst hkl
      go_wp2
      go_ret
      exact ⟨_, rfl, by have h := HO.out; have he := HE.out; simp [Pu.places] at he; rw [← he]; exact h, HBW⟩
-- impl.PeersFresh
set_option maxHeartbeats 1000000 in
set_option maxRecDepth 100000 in
theorem c_impl_PeersFresh (l_A : Option Addr) (l_c : Nat) (l : List Peer) (t : Int) (f : Int) (w : World) (l_r : Kd.C kPeer w l_A l.length l) (l_h : l.length ≤ l_c)  :
    Calls Try.prog 26 #[.slice l_A l.length l_c, .int .i64 t, .int .i64 f] w (fun e w' => ∃ v0 : Value, e = .returned (v0) ∧ Kd.R (Kd.int .i64) 3 w' w.heap.size (fun _ => True) v0 ((Pu.PeersFresh l t f)) ∧ Below w.heap.size w w') := by
  have l_m := Kd.C_max l_r
  go_enter Try.func26, Try.ntmps26
  go_wp2_with (first | (go_at_call 17; refine (c_impl_PeersOk _ _ _ _ (by first | assumption | exact Kd.C_below (by assumption) (by repeat (first | exact Below.refl _ _ | assumption | apply below_alloc | apply below_junk | apply below_drew))) (by omega)).mono ?_; rintro e w' hr; (rcases Ret.bool hr with ⟨rfl, hX, g, d, rfl⟩ | ⟨rfl, hX, g, d, rfl⟩ <;> first | (have hB := Pu.PeersOk_bd hX; (try dsimp only at hB); obtain hB1 := hB; clear hr) | clear hr)) | (go_at_call 57; refine (c_impl_isTime _ _ ).mono ?_; rintro e w' hr; (rcases Ret.bool hr with ⟨rfl, hX, g, d, rfl⟩ | ⟨rfl, hX, g, d, rfl⟩ <;> first | (have hB := (Pu.isTime_iff _).1 hX; (try dsimp only at hB); obtain ⟨hB1, hB2⟩ := hB; clear hr) | (have hB := Pu.no_of (Pu.isTime_iff _) hX; (try dsimp only at hB); clear hr) | clear hr)) | (go_at_call 60; refine (c_impl_places_impl_PeersFresh_1 _ _ _ _ _ (fun x => Pu.In (wrap64 (t - x.pt)) 0 f) _ (by first | assumption | exact Kd.C_below (by assumption) (by repeat (first | exact Below.refl _ _ | assumption | apply below_alloc | apply below_junk | apply below_drew))) (by omega) (by omega) (fun x w1 hw1 => c_impl_PeersFresh_1 x _ _ t f w1 (by rw [Below.cell hw1 (by simp [go_sem])]; simp [go_sem]) (by rw [Below.cell hw1 (by simp [go_sem])]; simp [go_sem]) (by have := hw1.size; simp [go_sem] at this; omega) (by have := hw1.size; simp [go_sem] at this; omega))).mono ?_; rintro e w' hr; obtain ⟨v0, rfl, hR0, hb⟩ := hr; obtain ⟨g, d, rfl⟩ := junk_of_below hb; clear hb; obtain ⟨A0, c0, rfl, hC0, hc0⟩ := R_open hR0) | go_region)
  all_goals go_ret
  all_goals first
    | exact ⟨_, rfl, by rw [Pu.PeersFresh_bad (by simp_all)]; exact Kd.R_nil _ _ _ _ _, (by repeat (first | exact Below.refl _ _ | assumption | apply below_alloc | apply below_junk | apply below_drew))⟩
    | exact ⟨_, rfl, by rw [Pu.PeersFresh_ok (by simp_all) (by simp_all) (by simp_all)]; exact Kd.R_lower hR0 (by simp [go_sem]; try omega), (by repeat (first | exact Below.refl _ _ | assumption | apply below_alloc | apply below_junk | apply below_drew))⟩

end Go.Proofs.Ytbfbcecghokpoaa
