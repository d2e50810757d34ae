/-
  Contracts of Go functions of this seat: what each call hands back, as a plain function of its arguments, and that nothing that was there has turned.
  No statement of the seat is proved here.
-/
import Derived.Test.YtbfbcecghokpoaaProg
import Derived.Test.YtbfbcecghokpoaaPure
import Derived.Test.YtbfbcecghokpoaaActs
import Derived.Deep.Light
import Derived.RegionTactic
import Derived.Deep.RegionWith
import Derived.BigRegion
import Derived.ChangeAlike
import Derived.Test.YtbfbcecghokpoaaCa
import Derived.Test.YtbfbcecghokpoaaCl
import Derived.Test.YtbfbcecghokpoaaSl
namespace Go.Proofs.Ytbfbcecghokpoaa
open Go.RowKit Go.Proofs.YtbfbcecghokpoaaW.PrintWords
set_option linter.unusedVariables false
set_option linter.unusedSimpArgs false

-- laws.eqIvalS
set_option maxHeartbeats 1000000 in
set_option maxRecDepth 100000 in
theorem c_laws_eqIvalS (a_A : Option Addr) (a_c : Nat) (a : List Ival) (b_A : Option Addr) (b_c : Nat) (b : List Ival) (w : World) (a_r : Kd.C kIval w a_A a.length a) (a_h : a.length ≤ a_c) (b_r : Kd.C kIval w b_A b.length b) (b_h : b.length ≤ b_c)  :
    Calls Try.prog 38 #[.slice a_A a.length a_c, .slice b_A b.length b_c] w (Ret w (.bool (Pu.eqS Pu.eqIval a b))) := by
  have a_m := Kd.C_max a_r
  have b_m := Kd.C_max b_r
  go_enter Try.func38, Try.ntmps38
  go_wp2_with (first | ((with_reducible refine wp_region_calm (id := 6) (by kernel_rfl) (by kernel_rfl) ?_); (repeat (go_big_quiet_step ((first | (go_at_call 70; exact calm_of (c_laws_eqIval _ _ _ _ _ )))))); refine wpQuiet_nil ?_; intro g d) | (go_at_call 70; refine (c_laws_eqIval _ _ _ _ _ ).mono ?_; rintro e w' hr; obtain ⟨rfl, g, d, rfl⟩ := Ret.open hr; clear hr) | go_region)
  · refine bodyPost_ret (v := .bool (Pu.eqS Pu.eqIval a b)) ?_ rfl (Ret.mk (by repeat (first | exact Below.refl _ _ | assumption | apply below_alloc | apply below_junk | apply below_drew)))
    go_light
    rw [Pu.eqS_len (by simp only [bne_iff_ne, ne_eq] at *; omega)]; simp [results, Try.results38, go_sem]
  · go_loopw [5] (fun n wr => ∃ k : Nat, k ≤ a.length ∧ n = .int .i64 k ∧ Pu.eqS Pu.eqIval (a.drop k) (b.drop k) = Pu.eqS Pu.eqIval a b ∧ Below w.heap.size w wr) (fun n _ => a.length - (intOf n).toNat)
    case atStart => exact ⟨0, by omega, rfl, rfl, Below.refl _ _⟩
    case round =>
      obtain ⟨k, hk, rfl, hE, HBW⟩ := hrel
      have HE := Lib.hid hE; clear hE
      have hab : a.length = b.length := by simp only [bne_eq_false_iff_eq] at *; omega
      by_cases hlt : k < a.length
      · obtain ⟨ad, x, rfl, hx, hbx, hxc⟩ := at_Ival (Kd.C_below a_r HBW) k hlt
        obtain ⟨bd, y, rfl, hy, hby, hyc⟩ := at_Ival (Kd.C_below b_r HBW) k (by omega)
        obtain ⟨hx0, hx1⟩ := hxc
        obtain ⟨hy0, hy1⟩ := hyc
        have HX := Lib.hid (Pu.eqS_drop (e := Pu.eqIval) hx hy)
        go_wp2_with (first | ((with_reducible refine wp_region_calm (id := 6) (by kernel_rfl) (by kernel_rfl) ?_); (repeat (go_big_quiet_step ((first | (go_at_call 70; exact calm_of (c_laws_eqIval _ _ _ _ _ )))))); refine wpQuiet_nil ?_; intro g d) | (go_at_call 70; refine (c_laws_eqIval _ _ _ _ _ ).mono ?_; rintro e w' hr; obtain ⟨rfl, g, d, rfl⟩ := Ret.open hr; clear hr) | go_region)
        · refine bodyPost_ret (v := .bool (Pu.eqS Pu.eqIval a b)) ?_ rfl (Ret.mk (by repeat (first | exact Below.refl _ _ | assumption | apply below_alloc | apply below_junk | apply below_drew)))
          have hq : Pu.eqIval x y = false := by simpa using (by assumption : (!Pu.eqIval x y) = true)
          go_light
          rw [← HE.out, HX.out, hq]; simp [results, Try.results38, go_sem]
        · have hq : Pu.eqIval x y = true := by simpa using (by assumption : (!Pu.eqIval x y) = false)
          go_roundw
          case rel => exact ⟨k + 1, by omega, by go_num, by rw [← HE.out, HX.out, hq]; simp, (by repeat (first | exact Below.refl _ _ | assumption | apply below_alloc | apply below_junk | apply below_drew))⟩
          case measure => simp [intOf]; omega
      · go_wp2_with (first | ((with_reducible refine wp_region_calm (id := 6) (by kernel_rfl) (by kernel_rfl) ?_); (repeat (go_big_quiet_step ((first | (go_at_call 70; exact calm_of (c_laws_eqIval _ _ _ _ _ )))))); refine wpQuiet_nil ?_; intro g d) | (go_at_call 70; refine (c_laws_eqIval _ _ _ _ _ ).mono ?_; rintro e w' hr; obtain ⟨rfl, g, d, rfl⟩ := Ret.open hr; clear hr) | go_region)
        refine bodyPost_ret (v := .bool (Pu.eqS Pu.eqIval a b)) ?_ rfl (Ret.mk (by repeat (first | exact Below.refl _ _ | assumption | apply below_alloc | apply below_junk | apply below_drew)))
        go_light
        rw [← HE.out, List.drop_eq_nil_of_le (by omega), List.drop_eq_nil_of_le (by omega)]; simp [results, Try.results38, go_sem, Pu.eqS]

-- laws.szPeerS
set_option maxHeartbeats 1000000 in
set_option maxRecDepth 100000 in
theorem c_laws_szPeerS (a_A : Option Addr) (a_c : Nat) (a : List Peer) (left : Int) (w : World) (a_r : Kd.C kPeer w a_A a.length a) (a_h : a.length ≤ a_c) (hl0 : 0 ≤ left) (hl1 : left ≤ 1048576) :
    Calls Try.prog 14 #[.slice a_A a.length a_c, .int .i64 left] w (Ret w (.int .i64 (Pu.sz left a.length))) := by
  have a_m := Kd.C_max a_r
  go_enter Try.func14, Try.ntmps14
  go_wp2_with (first
    | go_region)
  all_goals refine bodyPost_ret (v := .int .i64 (Pu.sz left a.length)) ?_ rfl (Ret.mk (by repeat (first | exact Below.refl _ _ | apply below_alloc | apply below_junk | apply below_drew)))
  all_goals first | (simp [results, Try.results14, go_sem, Pu.sz, *]; done) | (simp [results, Try.results14, go_sem, Pu.sz, *]; omega) | (go_light; simp [results, Try.results14, go_sem, Pu.sz, *]; intros; exfalso; omega) | (go_light; simp [results, Try.results14, go_sem, Pu.sz, *]; (repeat' split) <;> first | omega | (simp; done) | (simp_all; done)) | (go_light; simp_all [results, Try.results14, go_sem, Pu.sz, ]; done) | (go_light; simp_all [results, Try.results14, go_sem, Pu.sz, ]; omega)

-- laws.eqPeerS
set_option maxHeartbeats 1000000 in
set_option maxRecDepth 100000 in
theorem c_laws_eqPeerS (a_A : Option Addr) (a_c : Nat) (a : List Peer) (b_A : Option Addr) (b_c : Nat) (b : List Peer) (w : World) (a_r : Kd.C kPeer w a_A a.length a) (a_h : a.length ≤ a_c) (b_r : Kd.C kPeer w b_A b.length b) (b_h : b.length ≤ b_c)  :
    Calls Try.prog 18 #[.slice a_A a.length a_c, .slice b_A b.length b_c] w (Ret w (.bool (Pu.eqS Pu.eqPeer a b))) := by
  have a_m := Kd.C_max a_r
  have b_m := Kd.C_max b_r
  go_enter Try.func18, Try.ntmps18
  go_wp2_with (first | ((with_reducible refine wp_region_calm (id := 6) (by kernel_rfl) (by kernel_rfl) ?_); (repeat (go_big_quiet_step ((first | (go_at_call 58; exact calm_of (c_laws_eqPeer _ _ _ _ _ _ _ _ _ _ _ )))))); refine wpQuiet_nil ?_; intro g d) | (go_at_call 58; refine (c_laws_eqPeer _ _ _ _ _ _ _ _ _ _ _ ).mono ?_; rintro e w' hr; obtain ⟨rfl, g, d, rfl⟩ := Ret.open hr; clear hr) | go_region)
  · refine bodyPost_ret (v := .bool (Pu.eqS Pu.eqPeer a b)) ?_ rfl (Ret.mk (by repeat (first | exact Below.refl _ _ | assumption | apply below_alloc | apply below_junk | apply below_drew)))
    go_light
    rw [Pu.eqS_len (by simp only [bne_iff_ne, ne_eq] at *; omega)]; simp [results, Try.results18, go_sem]
  · go_loopw [5] (fun n wr => ∃ k : Nat, k ≤ a.length ∧ n = .int .i64 k ∧ Pu.eqS Pu.eqPeer (a.drop k) (b.drop k) = Pu.eqS Pu.eqPeer a b ∧ Below w.heap.size w wr) (fun n _ => a.length - (intOf n).toNat)
    case atStart => exact ⟨0, by omega, rfl, rfl, Below.refl _ _⟩
    case round =>
      obtain ⟨k, hk, rfl, hE, HBW⟩ := hrel
      have HE := Lib.hid hE; clear hE
      have hab : a.length = b.length := by simp only [bne_eq_false_iff_eq] at *; omega
      by_cases hlt : k < a.length
      · obtain ⟨ad, x, rfl, hx, hbx, hxc⟩ := at_Peer (Kd.C_below a_r HBW) k hlt
        obtain ⟨bd, y, rfl, hy, hby, hyc⟩ := at_Peer (Kd.C_below b_r HBW) k (by omega)
        obtain ⟨hx0, hx1, hx2, hx3, hx4⟩ := hxc
        obtain ⟨hy0, hy1, hy2, hy3, hy4⟩ := hyc
        have HX := Lib.hid (Pu.eqS_drop (e := Pu.eqPeer) hx hy)
        go_wp2_with (first | ((with_reducible refine wp_region_calm (id := 6) (by kernel_rfl) (by kernel_rfl) ?_); (repeat (go_big_quiet_step ((first | (go_at_call 58; exact calm_of (c_laws_eqPeer _ _ _ _ _ _ _ _ _ _ _ )))))); refine wpQuiet_nil ?_; intro g d) | (go_at_call 58; refine (c_laws_eqPeer _ _ _ _ _ _ _ _ _ _ _ ).mono ?_; rintro e w' hr; obtain ⟨rfl, g, d, rfl⟩ := Ret.open hr; clear hr) | go_region)
        · refine bodyPost_ret (v := .bool (Pu.eqS Pu.eqPeer a b)) ?_ rfl (Ret.mk (by repeat (first | exact Below.refl _ _ | assumption | apply below_alloc | apply below_junk | apply below_drew)))
          have hq : Pu.eqPeer x y = false := by simpa using (by assumption : (!Pu.eqPeer x y) = true)
          go_light
          rw [← HE.out, HX.out, hq]; simp [results, Try.results18, go_sem]
        · have hq : Pu.eqPeer x y = true := by simpa using (by assumption : (!Pu.eqPeer x y) = false)
          go_roundw
          case rel => exact ⟨k + 1, by omega, by go_num, by rw [← HE.out, HX.out, hq]; simp, (by repeat (first | exact Below.refl _ _ | assumption | apply below_alloc | apply below_junk | apply below_drew))⟩
          case measure => simp [intOf]; omega
      · go_wp2_with (first | ((with_reducible refine wp_region_calm (id := 6) (by kernel_rfl) (by kernel_rfl) ?_); (repeat (go_big_quiet_step ((first | (go_at_call 58; exact calm_of (c_laws_eqPeer _ _ _ _ _ _ _ _ _ _ _ )))))); refine wpQuiet_nil ?_; intro g d) | (go_at_call 58; refine (c_laws_eqPeer _ _ _ _ _ _ _ _ _ _ _ ).mono ?_; rintro e w' hr; obtain ⟨rfl, g, d, rfl⟩ := Ret.open hr; clear hr) | go_region)
        refine bodyPost_ret (v := .bool (Pu.eqS Pu.eqPeer a b)) ?_ rfl (Ret.mk (by repeat (first | exact Below.refl _ _ | assumption | apply below_alloc | apply below_junk | apply below_drew)))
        go_light
        rw [← HE.out, List.drop_eq_nil_of_le (by omega), List.drop_eq_nil_of_le (by omega)]; simp [results, Try.results18, go_sem, Pu.eqS]

-- laws.toPeerS
set_option maxHeartbeats 1000000 in
set_option maxRecDepth 100000 in
theorem c_laws_toPeerS (a_A : Option Addr) (a_c : Nat) (a : List Peer) (w : World) (a_r : Kd.C kPeer w a_A a.length a) (a_h : a.length ≤ a_c) (hn : a.length ≤ 1048576) :
    Calls Try.prog 16 #[.slice a_A a.length a_c] w (fun e w' => ∃ v0 : Value, e = .returned (v0) ∧ Kd.R kPeer 63 w' w.heap.size (fun _ => True) v0 (a) ∧ Below w.heap.size w w') := by
  have a_m := Kd.C_max a_r
  have hz : Kd.M kPeer w w.heap.size (fun _ => True) (⟨0, ⟨0, 0⟩, 0, false⟩ : Peer) [.int .i64 0, .int .i64 0, .int .i64 0, .int .i64 0, .bool false] := kPeer_mkM _ _ _ ⟨0, ⟨0, 0⟩, 0, false⟩
  go_enter Try.func16, Try.ntmps16
  go_wp2_with (first | ((with_reducible refine gate_dst (N := 7) rfl ?_); refine Kd.R_make kPeer _ 63 rfl (N := 7) rfl 25 _ _ rfl (a.length : Int) rfl rfl Try.underlying25 (.agg #[.int .i64 0, .int .i64 0, .int .i64 0, .int .i64 0, .bool false]) 40 (by kernel_rfl) rfl (by decide) (by omega) (⟨0, ⟨0, 0⟩, 0, false⟩ : Peer) (ok := fun _ => True) (okp := fun _ => True) hz (fun _ hk => hk) trivial (by omega) (by omega) (Below.refl _ _) (Nat.le_refl _) ?_; intro v w1 hR hb hg hnew; clear hg hnew; obtain ⟨g0, d0, rfl⟩ := junk_of_below hb; clear hb))
  have HR := Lib.hid hR; clear hR
  go_loopw [4] (fun n wr => ∃ k : Nat, k ≤ a.length ∧ n = .int .i64 k ∧ Hid (Kd.R kPeer 63 wr w.heap.size (fun _ => True) v (a.take k ++ List.replicate (a.length - k) ⟨0, ⟨0, 0⟩, 0, false⟩)) ∧ Below w.heap.size w wr) (fun n _ => a.length - (intOf n).toNat)
  case atStart => exact ⟨0, by omega, rfl, Lib.hid (by have := HR.out; simpa using this), (by repeat (first | exact Below.refl _ _ | assumption | apply below_alloc | apply below_junk | apply below_drew))⟩
  case round =>
    obtain ⟨k, hk, rfl, HE, HBW⟩ := hrel
    by_cases hlt : k < a.length
    · obtain ⟨ad, x, rfl, hx, hbx, hx0_, hx1_, hx2_, hx3_, hx4_⟩ := at_Peer (Kd.C_below a_r HBW) k hlt
      obtain ⟨g, cap, x0, rfl, hg0, hg1, hx0, ho0, ho1, ho2, ho3, ho4, hf0, hf1, hf2, hf3, hf4⟩ := own_Peer HE.out k (by simp; omega)
      have hl : (a.take k ++ List.replicate (a.length - k) (⟨0, ⟨0, 0⟩, 0, false⟩ : Peer)).length = a.length := by simp; omega
      simp only [hl] at HE
      rw [hl]
      go_wp2_with (first | (go_at_call 54; refine (c_laws_toPeer _ _ _ _ _ _ ).mono ?_; rintro e w' hr; obtain ⟨rfl, g, d, rfl⟩ := Ret.open hr; clear hr) | go_region)
      go_roundw
      case rel =>
        refine ⟨k + 1, by omega, by go_num, Lib.hid ?_, by repeat (first | exact HBW | apply below_alloc | apply below_junk | apply below_drew | refine below_set ?_ hg0)⟩
        have hp := Kd.R_below (put_Peer HE.out k (by omega) x) (below_junk g d (Below.refl _ _))
        rw [Pu.fill hx] at hp
        exact hp
      case measure => simp [intOf]; omega
    · go_wp2_with (first | (go_at_call 54; refine (c_laws_toPeer _ _ _ _ _ _ ).mono ?_; rintro e w' hr; obtain ⟨rfl, g, d, rfl⟩ := Ret.open hr; clear hr) | go_region)
      go_ret
      have hkl : k = a.length := by omega
      subst hkl
      exact ⟨_, rfl, by have := HE.out; simpa using this, HBW⟩

end Go.Proofs.Ytbfbcecghokpoaa
