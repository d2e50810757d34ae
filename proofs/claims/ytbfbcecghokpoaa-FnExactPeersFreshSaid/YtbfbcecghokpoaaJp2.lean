/-
  Contracts of Go functions of this seat: what each call hands back, as a plain function of its arguments, and that nothing that was there has turned.
  No statement of the seat is proved here.
-/
import Derived.Test.YtbfbcecghokpoaaProg
import Derived.Test.YtbfbcecghokpoaaPure
import Derived.Test.YtbfbcecghokpoaaActs
import Derived.Deep.Light
import Derived.RegionTactic
import Derived.Deep.RegionWith
import Derived.BigRegion
import Derived.ChangeAlike
import Derived.Test.YtbfbcecghokpoaaSl
import Derived.Test.YtbfbcecghokpoaaTypes
import Derived.Test.YtbfbcecghokpoaaPuPeersFresh
namespace Go.Proofs.Ytbfbcecghokpoaa
open Go.RowKit Go.Proofs.YtbfbcecghokpoaaW.PrintWords
set_option linter.unusedVariables false
set_option linter.unusedSimpArgs false

-- laws.FnExactPeersFresh
set_option maxHeartbeats 1000000 in
set_option maxRecDepth 100000 in
theorem c_laws_FnExactPeersFresh (l_A : Option Addr) (l_c : Nat) (l : List Peer) (t : Int) (f : Int) (w : World) (l_r : Kd.C kPeer w l_A l.length l) (l_h : l.length ≤ l_c)  :
    Calls Try.prog 5 #[.slice l_A l.length l_c, .int .i64 t, .int .i64 f] w (Ret w (.bool true)) := by
  have l_m := Kd.C_max l_r
  obtain ⟨k, hk⟩ := Go.Proofs.Ytbfbcecghokpoaa.PPeersFresh.pure_FnExactPeersFresh (l.map Go.Proofs.Ytbfbcecghokpoaa.PPeersFresh.vc82) t f
  have h := Go.Proofs.Ytbfbcecghokpoaa.PPeersFresh.laws_FnExactPeersFresh.calls k l_A l_c (l.map Go.Proofs.Ytbfbcecghokpoaa.PPeersFresh.vc82) t f true w (by rw [List.length_map]; exact C_map (d' := Go.Proofs.Ytbfbcecghokpoaa.PPeersFresh.k82) Go.Proofs.Ytbfbcecghokpoaa.PPeersFresh.vc82 rfl (fun w x cs hk => by obtain rfl := kPeer_open hk; exact Go.Proofs.Ytbfbcecghokpoaa.PPeersFresh.k82_mk w _) l_r) (by simpa using l_h) hk
  (try simp only [List.length_map] at h)
  exact h

end Go.Proofs.Ytbfbcecghokpoaa
