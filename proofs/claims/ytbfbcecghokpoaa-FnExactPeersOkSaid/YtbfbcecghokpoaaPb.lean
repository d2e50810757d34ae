/-
  Contracts of Go functions of this seat: what each call hands back, as a plain function of its arguments, and that nothing that was there has turned.
  No statement of the seat is proved here.
-/
import Derived.Test.YtbfbcecghokpoaaProg
import Derived.Test.YtbfbcecghokpoaaPure
import Derived.Test.YtbfbcecghokpoaaActs
import Derived.Deep.Light
import Derived.RegionTactic
import Derived.Deep.RegionWith
import Derived.BigRegion
import Derived.ChangeAlike
import Derived.Test.YtbfbcecghokpoaaCa
import Derived.Test.YtbfbcecghokpoaaCl
import Derived.Test.YtbfbcecghokpoaaSa
import Derived.Test.YtbfbcecghokpoaaPa
import Derived.Test.YtbfbcecghokpoaaPeers
import Derived.Test.YtbfbcecghokpoaaSl
import Derived.Test.YtbfbcecghokpoaaTypes
namespace Go.Proofs.Ytbfbcecghokpoaa
open Go.RowKit Go.Proofs.YtbfbcecghokpoaaW.PrintWords
set_option linter.unusedVariables false
set_option linter.unusedSimpArgs false

-- laws.FnExactPeersOk
set_option maxHeartbeats 1000000 in
set_option maxRecDepth 100000 in
theorem c_laws_FnExactPeersOk (l_A : Option Addr) (l_c : Nat) (l : List Peer) (w : World) (l_r : Kd.C kPeer w l_A l.length l) (l_h : l.length ≤ l_c)  :
    Calls Try.prog 3 #[.slice l_A l.length l_c] w (Ret w (.bool true)) := by
  have l_m := Kd.C_max l_r
  have hsz := Pu.sz_cases l.length
  go_enter Try.func3, Try.ntmps3
  go_wp2_with (first
    | (go_at_call 14; refine (c_laws_szPeerS _ _ _ _ _ (by first | assumption | exact Kd.C_below (by assumption) (by repeat (first | exact Below.refl _ _ | assumption | apply below_alloc | apply below_junk | apply below_drew))) (by omega) (by omega) (by omega)).mono ?_; rintro e w' hr; obtain ⟨rfl, g, d, rfl⟩ := Ret.open hr; clear hr)
    | (go_at_call 15; refine (c_spec_PeersOk _ _ _ _ (by first | assumption | exact Kd.C_below (by assumption) (by repeat (first | exact Below.refl _ _ | assumption | apply below_alloc | apply below_junk | apply below_drew))) (by omega)).mono ?_; rintro e w' hr; obtain ⟨rfl, g, d, rfl⟩ := Ret.open hr; clear hr)
    | (go_at_call 16; refine (c_laws_toPeerS _ _ _ _ (by first | assumption | exact Kd.C_below (by assumption) (by repeat (first | exact Below.refl _ _ | assumption | apply below_alloc | apply below_junk | apply below_drew))) (by omega) (by omega)).mono ?_; rintro e w' hr; obtain ⟨v0, rfl, hR0, hb⟩ := hr; obtain ⟨g, d, rfl⟩ := junk_of_below hb; clear hb; obtain ⟨A0, c0, rfl, hC0, hc0⟩ := R_open hR0)
    | (go_at_call 17; refine (c_impl_PeersOk _ _ _ _ (by first | assumption | exact Kd.C_below (by assumption) (by repeat (first | exact Below.refl _ _ | assumption | apply below_alloc | apply below_junk | apply below_drew))) (by omega)).mono ?_; rintro e w' hr; (rcases Ret.bool hr with ⟨rfl, hX, g, d, rfl⟩ | ⟨rfl, hX, g, d, rfl⟩ <;> first | (have hB := Pu.PeersOk_bd hX; (try dsimp only at hB); obtain hB1 := hB; clear hr) | clear hr))
    | (go_at_call 18; refine (c_laws_eqPeerS _ _ _ _ _ _ _ (by first | assumption | exact Kd.C_below (by assumption) (by repeat (first | exact Below.refl _ _ | assumption | apply below_alloc | apply below_junk | apply below_drew))) (by omega) (by first | assumption | exact Kd.C_below (by assumption) (by repeat (first | exact Below.refl _ _ | assumption | apply below_alloc | apply below_junk | apply below_drew))) (by omega)).mono ?_; rintro e w' hr; obtain ⟨rfl, g, d, rfl⟩ := Ret.open hr; clear hr)
    | go_region)
  all_goals refine bodyPost_ret (v := .bool true) ?_ rfl (Ret.mk (by repeat (first | exact Below.refl _ _ | apply below_alloc | apply below_junk | apply below_drew)))
  all_goals first | (simp [results, Try.results3, go_sem, *]; done) | (simp [results, Try.results3, go_sem, *]; omega) | (go_light; simp [results, Try.results3, go_sem, *]; intros; exfalso; omega) | (go_light; simp [results, Try.results3, go_sem, *]; (repeat' split) <;> first | omega | (simp; done) | (simp_all; done)) | (go_light; simp_all [results, Try.results3, go_sem, ]; done) | (go_light; simp_all [results, Try.results3, go_sem, ]; omega)

end Go.Proofs.Ytbfbcecghokpoaa
