/-
  Contracts of Go functions of this seat: what each call hands back, as a plain function of its arguments, and that nothing that was there has turned.
  No statement of the seat is proved here.
-/
import Derived.Test.YthgcceochfjfcaaProg
import Derived.Test.YthgcceochfjfcaaPure
import Derived.Test.YthgcceochfjfcaaActs
import Derived.Deep.Light
import Derived.RegionTactic
import Derived.Deep.RegionWith
import Derived.BigRegion
import Derived.ChangeAlike
import Derived.Test.YthgcceochfjfcaaSl
import Derived.Test.YthgcceochfjfcaaTypes
import Derived.Test.YthgcceochfjfcaaPuReadsOk
namespace Go.Proofs.Ythgcceochfjfcaa
open Go.RowKit Go.Proofs.YthgcceochfjfcaaW.PrintWords
set_option linter.unusedVariables false
set_option linter.unusedSimpArgs false

-- laws.FnExactReadsOk
set_option maxHeartbeats 1000000 in
set_option maxRecDepth 100000 in
theorem c_laws_FnExactReadsOk (list_A : Option Addr) (list_c : Nat) (list : List Look) (reads_A : Option Addr) (reads_c : Nat) (reads : List Reading) (w : World) (list_r : Kd.C kLook w list_A list.length list) (list_h : list.length ≤ list_c) (reads_r : Kd.C kReading w reads_A reads.length reads) (reads_h : reads.length ≤ reads_c)  :
    Calls Try.prog 6 #[.slice list_A list.length list_c, .slice reads_A reads.length reads_c] w (Ret w (.bool true)) := by
  have list_m := Kd.C_max list_r
  have reads_m := Kd.C_max reads_r
  obtain ⟨k, hk⟩ := Go.Proofs.Ythgcceochfjfcaa.PR.pure_FnExactReadsOk (list.map Go.Proofs.Ythgcceochfjfcaa.PR.vc90) (reads.map Go.Proofs.Ythgcceochfjfcaa.PR.vc92)
  have h := Go.Proofs.Ythgcceochfjfcaa.PR.laws_FnExactReadsOk.calls k list_A list_c (list.map Go.Proofs.Ythgcceochfjfcaa.PR.vc90) reads_A reads_c (reads.map Go.Proofs.Ythgcceochfjfcaa.PR.vc92) true w (by rw [List.length_map]; exact C_map (d' := Go.Proofs.Ythgcceochfjfcaa.PR.k90) Go.Proofs.Ythgcceochfjfcaa.PR.vc90 rfl (fun w x cs hk => by obtain rfl := kLook_open hk; exact Go.Proofs.Ythgcceochfjfcaa.PR.k90_mk w _) list_r) (by simpa using list_h) (by rw [List.length_map]; exact C_map (d' := Go.Proofs.Ythgcceochfjfcaa.PR.k92) Go.Proofs.Ythgcceochfjfcaa.PR.vc92 rfl (fun w x cs hk => by obtain rfl := kReading_open hk; exact Go.Proofs.Ythgcceochfjfcaa.PR.k92_mk w _) reads_r) (by simpa using reads_h) hk
  (try simp only [List.length_map] at h)
  exact h

end Go.Proofs.Ythgcceochfjfcaa
