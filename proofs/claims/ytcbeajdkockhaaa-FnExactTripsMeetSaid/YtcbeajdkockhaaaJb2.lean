/-
  Contracts of Go functions of this seat: what each call hands back, as a plain function of its arguments, and that nothing that was there has turned.
  No statement of the seat is proved here.
-/
import Derived.Test.YtcbeajdkockhaaaProg
import Derived.Test.YtcbeajdkockhaaaPure
import Derived.Test.YtcbeajdkockhaaaActs
import Derived.Deep.Light
import Derived.RegionTactic
import Derived.Deep.RegionWith
import Derived.BigRegion
import Derived.ChangeAlike
import Derived.Test.YtcbeajdkockhaaaSl
import Derived.Test.YtcbeajdkockhaaaTypes
import Derived.Test.YtcbeajdkockhaaaPuTripsMeet
namespace Go.Proofs.Ytcbeajdkockhaaa
open Go.RowKit Go.Proofs.YtcbeajdkockhaaaW.PrintWords
set_option linter.unusedVariables false
set_option linter.unusedSimpArgs false

-- laws.FnExactTripsMeet
set_option maxHeartbeats 1000000 in
set_option maxRecDepth 100000 in
theorem c_laws_FnExactTripsMeet (d_num : Int) (d_den : Int) (list_A : Option Addr) (list_c : Nat) (list : List Trip) (pt : Int) (w : World) (list_r : Kd.C kTrip w list_A list.length list) (list_h : list.length ≤ list_c)  :
    Calls Try.prog 14 #[.agg #[.int .i64 d_num, .int .i64 d_den], .slice list_A list.length list_c, .int .i64 pt] w (Ret w (.bool true)) := by
  have list_m := Kd.C_max list_r
  obtain ⟨k, hk⟩ := Go.Proofs.Ytcbeajdkockhaaa.PTripsMeet.pure_FnExactTripsMeet d_num d_den (list.map Go.Proofs.Ytcbeajdkockhaaa.PTripsMeet.vc25) pt
  have h := Go.Proofs.Ytcbeajdkockhaaa.PTripsMeet.laws_FnExactTripsMeet.calls k d_num d_den list_A list_c (list.map Go.Proofs.Ytcbeajdkockhaaa.PTripsMeet.vc25) pt true w (by rw [List.length_map]; exact C_map (d' := Go.Proofs.Ytcbeajdkockhaaa.PTripsMeet.k25) Go.Proofs.Ytcbeajdkockhaaa.PTripsMeet.vc25 rfl (fun w x cs hk => by obtain rfl := kTrip_open hk; exact Go.Proofs.Ytcbeajdkockhaaa.PTripsMeet.k25_mk w _) list_r) (by simpa using list_h) hk
  (try simp only [List.length_map] at h)
  exact h

end Go.Proofs.Ytcbeajdkockhaaa
