/-
  Contracts of Go functions of this seat: what each call hands back, as a plain function of its arguments, and that nothing that was there has turned.
  No statement of the seat is proved here.
-/
import Derived.Test.YtpedhnhemocblaaProg
import Derived.Test.YtpedhnhemocblaaPure
import Derived.Test.YtpedhnhemocblaaActs
import Derived.Deep.Light
import Derived.RegionTactic
import Derived.Deep.RegionWith
import Derived.BigRegion
import Derived.ChangeAlike
import Derived.Test.YtpedhnhemocblaaSl
import Derived.Test.YtpedhnhemocblaaTypes
import Derived.Test.YtpedhnhemocblaaPuHullBySubsets
namespace Go.Proofs.Ytpedhnhemocblaa
open Go.RowKit Go.Proofs.YtpedhnhemocblaaW.PrintWords
set_option linter.unusedVariables false
set_option linter.unusedSimpArgs false

-- laws.FnExactHullBySubsets
set_option maxHeartbeats 1000000 in
set_option maxRecDepth 100000 in
theorem c_laws_FnExactHullBySubsets (l_A : Option Addr) (l_c : Nat) (l : List Ival) (n_ : Int) (w : World) (l_r : Kd.C kIval w l_A l.length l) (l_h : l.length ≤ l_c) (n__b : -9223372036854775808 ≤ n_ ∧ n_ ≤ 9223372036854775807) :
    Calls Try.prog 6 #[.slice l_A l.length l_c, .int .i64 n_] w (Ret w (.bool true)) := by
  have l_m := Kd.C_max l_r
  obtain ⟨k, hk⟩ := Go.Proofs.Ytpedhnhemocblaa.PHullBySubsets.pure_FnExactHullBySubsets (l.map Go.Proofs.Ytpedhnhemocblaa.PHullBySubsets.vc32) n_ n__b
  have h := Go.Proofs.Ytpedhnhemocblaa.PHullBySubsets.laws_FnExactHullBySubsets.calls k l_A l_c (l.map Go.Proofs.Ytpedhnhemocblaa.PHullBySubsets.vc32) n_ true w (by rw [List.length_map]; exact C_map (d' := Go.Proofs.Ytpedhnhemocblaa.PHullBySubsets.k32) Go.Proofs.Ytpedhnhemocblaa.PHullBySubsets.vc32 rfl (fun w x cs hk => by obtain rfl := kIval_open hk; exact Go.Proofs.Ytpedhnhemocblaa.PHullBySubsets.k32_mk w _) l_r) (by simpa using l_h) hk
  (try simp only [List.length_map] at h)
  exact h

end Go.Proofs.Ytpedhnhemocblaa
