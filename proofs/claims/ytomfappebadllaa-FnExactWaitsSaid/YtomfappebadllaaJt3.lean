/-
  Contracts of Go functions of this seat: what each call hands back, as a plain function of its arguments, and that nothing that was there has turned.
  No statement of the seat is proved here.
-/
import Derived.Test.YtomfappebadllaaProg
import Derived.Test.YtomfappebadllaaPure
import Derived.Test.YtomfappebadllaaActs
import Derived.Deep.Light
import Derived.RegionTactic
import Derived.Deep.RegionWith
import Derived.BigRegion
import Derived.ChangeAlike
import Derived.Test.YtomfappebadllaaSl
import Derived.Test.YtomfappebadllaaTypes
import Derived.Test.YtomfappebadllaaPuWaits
namespace Go.Proofs.Ytomfappebadllaa
open Go.RowKit Go.Proofs.YtomfappebadllaaW.PrintWords
set_option linter.unusedVariables false
set_option linter.unusedSimpArgs false

-- laws.FnExactWaits
set_option maxHeartbeats 1000000 in
set_option maxRecDepth 100000 in
theorem c_laws_FnExactWaits (t_e t_u : Int) (t_A : Option Addr) (t_c : Nat) (t : List Ask) (tgt : Int) (w : World) (t_r : Kd.C kAsk w t_A t.length t) (t_h : t.length ≤ t_c)  :
    Calls Try.prog 6 #[.agg #[.int .i64 t_e, .int .i64 t_u, .slice t_A t.length t_c], .int .i64 tgt] w (Ret w (.bool true)) := by
  have t_m := Kd.C_max t_r
  obtain ⟨k, hk⟩ := Go.Proofs.Ytomfappebadllaa.PWaits.pure_FnExactWaits t_e t_u (t.map Go.Proofs.Ytomfappebadllaa.PWaits.vc64) tgt
  have h := Go.Proofs.Ytomfappebadllaa.PWaits.laws_FnExactWaits.calls k t_e t_u t_A t_c (t.map Go.Proofs.Ytomfappebadllaa.PWaits.vc64) tgt true w (by rw [List.length_map]; exact C_map (d' := Go.Proofs.Ytomfappebadllaa.PWaits.k64) Go.Proofs.Ytomfappebadllaa.PWaits.vc64 rfl (fun w x cs hk => by obtain rfl := kAsk_open hk; exact Go.Proofs.Ytomfappebadllaa.PWaits.k64_mk w _) t_r) (by simpa using t_h) hk
  (try simp only [List.length_map] at h)
  exact h

end Go.Proofs.Ytomfappebadllaa
