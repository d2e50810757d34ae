/-
  Contracts of Go functions of this seat: what each call hands back, as a plain function of its arguments, and that nothing that was there has turned.
  No statement of the seat is proved here.
-/
import Derived.Test.YtbfbcecghokpoaaProg
import Derived.Test.YtbfbcecghokpoaaPure
import Derived.Test.YtbfbcecghokpoaaActs
import Derived.Deep.Light
import Derived.RegionTactic
import Derived.Deep.RegionWith
import Derived.BigRegion
import Derived.ChangeAlike
import Derived.Test.YtbfbcecghokpoaaSl
import Derived.Test.YtbfbcecghokpoaaTypes
import Derived.Test.YtbfbcecghokpoaaPuPeersCarried
namespace Go.Proofs.Ytbfbcecghokpoaa
open Go.RowKit Go.Proofs.YtbfbcecghokpoaaW.PrintWords
set_option linter.unusedVariables false
set_option linter.unusedSimpArgs false

-- laws.FnExactPeersCarried
set_option maxHeartbeats 1000000 in
set_option maxRecDepth 100000 in
theorem c_laws_FnExactPeersCarried (l_A : Option Addr) (l_c : Nat) (l : List Peer) (d_num : Int) (d_den : Int) (t : Int) (f : Int) (w : World) (l_r : Kd.C kPeer w l_A l.length l) (l_h : l.length ≤ l_c)  :
    Calls Try.prog 9 #[.slice l_A l.length l_c, .agg #[.int .i64 d_num, .int .i64 d_den], .int .i64 t, .int .i64 f] w (Ret w (.bool true)) := by
  have l_m := Kd.C_max l_r
  obtain ⟨k, hk⟩ := Go.Proofs.Ytbfbcecghokpoaa.PPeersCarried.pure_FnExactPeersCarried (l.map Go.Proofs.Ytbfbcecghokpoaa.PPeersCarried.vc82) d_num d_den t f
  have h := Go.Proofs.Ytbfbcecghokpoaa.PPeersCarried.laws_FnExactPeersCarried.calls k l_A l_c (l.map Go.Proofs.Ytbfbcecghokpoaa.PPeersCarried.vc82) d_num d_den t f true w (by rw [List.length_map]; exact C_map (d' := Go.Proofs.Ytbfbcecghokpoaa.PPeersCarried.k82) Go.Proofs.Ytbfbcecghokpoaa.PPeersCarried.vc82 rfl (fun w x cs hk => by obtain rfl := kPeer_open hk; exact Go.Proofs.Ytbfbcecghokpoaa.PPeersCarried.k82_mk w _) l_r) (by simpa using l_h) hk
  (try simp only [List.length_map] at h)
  exact h

end Go.Proofs.Ytbfbcecghokpoaa
