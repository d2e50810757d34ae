/-
  Contracts of Go functions of this seat: what each call hands back, as a plain function of its arguments, and that nothing that was there has turned.
  No statement of the seat is proved here.
-/
import Derived.Test.YtbfbcecghokpoaaProg
import Derived.Test.YtbfbcecghokpoaaPure
import Derived.Test.YtbfbcecghokpoaaActs
import Derived.Deep.Light
import Derived.RegionTactic
import Derived.Deep.RegionWith
import Derived.BigRegion
import Derived.ChangeAlike
import Derived.Test.YtbfbcecghokpoaaCa
import Derived.Test.YtbfbcecghokpoaaCl
import Derived.Test.YtbfbcecghokpoaaSa
import Derived.Test.YtbfbcecghokpoaaPa
import Derived.Test.YtbfbcecghokpoaaCi
import Derived.Test.YtbfbcecghokpoaaFracs
import Derived.Test.YtbfbcecghokpoaaPeers
import Derived.Test.YtbfbcecghokpoaaPeers2
import Derived.Test.YtbfbcecghokpoaaSl
import Derived.Test.YtbfbcecghokpoaaTypes
namespace Go.Proofs.Ytbfbcecghokpoaa
open Go.RowKit Go.Proofs.YtbfbcecghokpoaaW.PrintWords
set_option linter.unusedVariables false
set_option linter.unusedSimpArgs false

-- impl.peerAt$1
set_option maxHeartbeats 1000000 in
set_option maxRecDepth 100000 in
theorem c_impl_peerAt_1 (p_id : Int) (p_bound_lo : Int) (p_bound_hi : Int) (p_pt : Int) (p_suspect : Bool) (id : Int) (w : World)   :
    Calls Try.prog 87 #[.agg #[.int .i64 p_id, .int .i64 p_bound_lo, .int .i64 p_bound_hi, .int .i64 p_pt, .bool p_suspect], .int .i64 id] w (Ret w (.int .i64 (Pu.Cmp (⟨p_id, ⟨p_bound_lo, p_bound_hi⟩, p_pt, p_suspect⟩ : Peer).id id))) := by
  rcases Bool.eq_false_or_eq_true p_suspect with hb0 | hb0
  all_goals
    go_enter Try.func87, Try.ntmps87
    go_wp2_with (first
      | (go_at_call 88; refine (c_cmp_Compare_int _ _ _ ).mono ?_; rintro e w' hr; obtain ⟨rfl, g, d, rfl⟩ := Ret.open hr; clear hr)
      | go_region)
    all_goals refine bodyPost_ret (v := .int .i64 (Pu.Cmp (⟨p_id, ⟨p_bound_lo, p_bound_hi⟩, p_pt, p_suspect⟩ : Peer).id id)) ?_ rfl (Ret.mk (by repeat (first | exact Below.refl _ _ | apply below_alloc | apply below_junk | apply below_drew)))
    all_goals first | (simp [results, Try.results87, go_sem, *]; done) | (simp [results, Try.results87, go_sem, *]; omega) | (go_light; simp [results, Try.results87, go_sem, *]; intros; exfalso; omega) | (go_light; simp [results, Try.results87, go_sem, *]; (repeat' split) <;> first | omega | (simp; done) | (simp_all; done)) | (go_light; simp_all [results, Try.results87, go_sem, ]; done) | (go_light; simp_all [results, Try.results87, go_sem, ]; omega)

-- slices.BinarySearchFunc[[]impl.Peer,impl.Peer,int]
set_option maxHeartbeats 1000000 in
set_option maxRecDepth 100000 in
theorem c_slices_BinarySearchFunc_impl_Peer_impl_Peer_int (l_A : Option Addr) (l_c : Nat) (l : List Peer) (id : Int) (w : World) (l_r : Kd.C kPeer w l_A l.length l) (l_h : l.length ≤ l_c) (hok : Pu.PeersOk l = true) :
    Calls Try.prog 86 #[.slice l_A l.length l_c, .int .i64 id, .func (.func 87) #[] #[]] w (Ret w (.tuple #[.int .i64 ((((Pu.peerPos l id : Nat) : Int), Pu.peerThere l id).1), .bool ((((Pu.peerPos l id : Nat) : Int), Pu.peerThere l id).2)])) := by
  have l_m := Kd.C_max l_r
  have hs := Pu.peers_sorted hok
  have hn8 := Pu.PeersOk_bd hok
  have HS := Lib.hid hs; clear hs
  go_enter Try.func86, Try.ntmps86
  go_wp2_with (first | (go_at_call 87; refine (c_impl_peerAt_1 _ _ _ _ _ _ _ ).mono ?_; rintro e w' hr; obtain ⟨rfl, g, d, rfl⟩ := Ret.open hr; clear hr) | go_region)
  go_loopw [9, 10] (fun a b wr => ∃ i j : Nat, i ≤ j ∧ j ≤ l.length ∧ a = .int .i64 i ∧ b = .int .i64 j ∧ Hid (∀ q x, q < i → l[q]? = some x → x.id < id) ∧ Hid (∀ q x, j ≤ q → l[q]? = some x → id ≤ x.id) ∧ Below w.heap.size w wr) (fun a b _ => (intOf b - intOf a).toNat)
  case atStart => exact ⟨0, l.length, by omega, by omega, rfl, rfl, Lib.hid (by intro q x h; omega), Lib.hid (fun q x h hx => by rw [List.getElem?_eq_none h] at hx; cases hx), (by repeat (first | exact Below.refl _ _ | assumption | apply below_alloc | apply below_junk | apply below_drew))⟩
  case round =>
    obtain ⟨i, j, hij, hj, rfl, rfl, HL, HH, HBW⟩ := hrel
    by_cases hlt : i < j
    · have hm : (i + j) / 2 < l.length := by omega
      obtain ⟨ad, x, rfl, hx, hbx, hx0, hx1, hx2, hx3, hx4⟩ := at_Peer (Kd.C_below l_r HBW) ((i + j) / 2) hm
      go_wp2_with (first | (go_at_call 87; refine (c_impl_peerAt_1 _ _ _ _ _ _ _ ).mono ?_; rintro e w' hr; obtain ⟨rfl, g, d, rfl⟩ := Ret.open hr; clear hr) | go_region)
      · have hc : x.id < id := Pu.Cmp_lt0 (by assumption)
        go_roundw
        case rel => exact ⟨(i + j) / 2 + 1, j, by omega, hj, by congr 1 <;> omega, rfl, Lib.hid (fun q y hq hy => by
            rcases Nat.lt_or_ge q ((i + j) / 2) with h | h
            · have := Pu.sorted_at HS.out hy hx h; omega
            · obtain rfl : q = (i + j) / 2 := by omega
              rw [hx] at hy; cases hy; exact hc), HH, (by repeat (first | exact Below.refl _ _ | assumption | apply below_alloc | apply below_junk | apply below_drew))⟩
        case measure => simp [intOf]; omega
      · have hc : id ≤ x.id := Pu.Cmp_ge0 (by first | assumption | omega)
        go_roundw
        case rel => exact ⟨i, (i + j) / 2, by omega, by omega, rfl, by congr 1 <;> omega, HL, Lib.hid (fun q y hq hy => by
            rcases Nat.lt_or_ge ((i + j) / 2) q with h | h
            · have := Pu.sorted_at HS.out hx hy h; omega
            · obtain rfl : q = (i + j) / 2 := by omega
              rw [hx] at hy; cases hy; exact hc), (by repeat (first | exact Below.refl _ _ | assumption | apply below_alloc | apply below_junk | apply below_drew))⟩
        case measure => simp [intOf]; omega
    · have hij' : i = j := by omega
      subst hij'
      have hp := Pu.peerPos_of hj HL.out (fun x hx => HH.out i x (Nat.le_refl _) hx)
      have ht := Pu.peerThere_of HS.out HL.out HH.out
      have HP := Lib.hid hp; have HT := Lib.hid ht; clear hp ht
      by_cases hlt2 : i < l.length
      · obtain ⟨ad, x, rfl, hx, hbx, hx0, hx1, hx2, hx3, hx4⟩ := at_Peer (Kd.C_below l_r HBW) i hlt2
        go_wp2_with (first | (go_at_call 87; refine (c_impl_peerAt_1 _ _ _ _ _ _ _ ).mono ?_; rintro e w' hr; obtain ⟨rfl, g, d, rfl⟩ := Ret.open hr; clear hr) | go_region)
        all_goals refine bodyPost_ret (v := .tuple #[.int .i64 (((Pu.peerPos l id : Nat) : Int), Pu.peerThere l id).1, .bool (((Pu.peerPos l id : Nat) : Int), Pu.peerThere l id).2]) ?_ rfl (Ret.mk (by repeat (first | exact Below.refl _ _ | assumption | apply below_alloc | apply below_junk | apply below_drew)))
        all_goals (have ht := HT.out; rw [hx] at ht; simp only at ht; rw [HP.out, ht]; simp [results, Try.results86, go_sem, Pu.Cmp_eq0])
      · go_wp2_with (first | (go_at_call 87; refine (c_impl_peerAt_1 _ _ _ _ _ _ _ ).mono ?_; rintro e w' hr; obtain ⟨rfl, g, d, rfl⟩ := Ret.open hr; clear hr) | go_region)
        all_goals refine bodyPost_ret (v := .tuple #[.int .i64 (((Pu.peerPos l id : Nat) : Int), Pu.peerThere l id).1, .bool (((Pu.peerPos l id : Nat) : Int), Pu.peerThere l id).2]) ?_ rfl (Ret.mk (by repeat (first | exact Below.refl _ _ | assumption | apply below_alloc | apply below_junk | apply below_drew)))
        all_goals (have ht := HT.out; rw [List.getElem?_eq_none (by omega)] at ht; simp only at ht; rw [HP.out, ht]; simp [results, Try.results86, go_sem])

-- impl.peerAt
set_option maxHeartbeats 1000000 in
set_option maxRecDepth 100000 in
theorem c_impl_peerAt (l_A : Option Addr) (l_c : Nat) (l : List Peer) (id : Int) (w : World) (l_r : Kd.C kPeer w l_A l.length l) (l_h : l.length ≤ l_c) (hok : Pu.PeersOk l = true) :
    Calls Try.prog 64 #[.slice l_A l.length l_c, .int .i64 id] w (Ret w (.tuple #[.int .i64 ((((Pu.peerPos l id : Nat) : Int), Pu.peerThere l id).1), .bool ((((Pu.peerPos l id : Nat) : Int), Pu.peerThere l id).2)])) := by
  have l_m := Kd.C_max l_r
  go_enter Try.func64, Try.ntmps64
  go_wp2_with (first
    | (go_at_call 86; refine (c_slices_BinarySearchFunc_impl_Peer_impl_Peer_int _ _ _ _ _ (by first | assumption | exact Kd.C_below (by assumption) (by repeat (first | exact Below.refl _ _ | assumption | apply below_alloc | apply below_junk | apply below_drew))) (by omega) (by assumption)).mono ?_; rintro e w' hr; obtain ⟨rfl, g, d, rfl⟩ := Ret.open hr; clear hr)
    | go_region)
  all_goals refine bodyPost_ret (v := .tuple #[.int .i64 ((((Pu.peerPos l id : Nat) : Int), Pu.peerThere l id).1), .bool ((((Pu.peerPos l id : Nat) : Int), Pu.peerThere l id).2)]) ?_ rfl (Ret.mk (by repeat (first | exact Below.refl _ _ | apply below_alloc | apply below_junk | apply below_drew)))
  all_goals first | (simp [results, Try.results64, go_sem, *]; done) | (simp [results, Try.results64, go_sem, *]; omega) | (go_light; simp [results, Try.results64, go_sem, *]; intros; exfalso; omega) | (go_light; simp [results, Try.results64, go_sem, *]; (repeat' split) <;> first | omega | (simp; done) | (simp_all; done)) | (go_light; simp_all [results, Try.results64, go_sem, ]; done) | (go_light; simp_all [results, Try.results64, go_sem, ]; omega)

end Go.Proofs.Ytbfbcecghokpoaa
