/-
  Contracts of Go functions of this seat: what each call hands back, as a plain function of its arguments, and that nothing that was there has turned.
  No statement of the seat is proved here.
-/
import Derived.Test.YtomfappebadllaaProg
import Derived.Test.YtomfappebadllaaPure
import Derived.Test.YtomfappebadllaaActs
import Derived.Deep.Light
import Derived.RegionTactic
import Derived.Deep.RegionWith
import Derived.BigRegion
import Derived.ChangeAlike
namespace Go.Proofs.Ytomfappebadllaa
open Go.RowKit
set_option linter.unusedVariables false
set_option linter.unusedSimpArgs false

-- spec.l1In
set_option maxHeartbeats 1000000 in
set_option maxRecDepth 100000 in
theorem c_spec_l1In (x : Int) (lo : Int) (hi : Int) (w : World)   :
    Calls Try.prog 32 #[.int .i64 x, .int .i64 lo, .int .i64 hi] w (Ret w (.bool (Pu.In x lo hi))) := by
  go_enter Try.func32, Try.ntmps32
  go_wp2_with (first
    | go_region)
  all_goals refine bodyPost_ret (v := .bool (Pu.In x lo hi)) ?_ rfl (Ret.mk (by repeat (first | exact Below.refl _ _ | apply below_alloc | apply below_junk | apply below_drew)))
  all_goals first | (simp [results, Try.results32, go_sem, Pu.In, *]; done) | (simp [results, Try.results32, go_sem, Pu.In, *]; omega) | (go_light; simp [results, Try.results32, go_sem, Pu.In, *]; intros; exfalso; omega) | (go_light; simp [results, Try.results32, go_sem, Pu.In, *]; (repeat' split) <;> first | omega | (simp; done) | (simp_all; done)) | (go_light; simp_all [results, Try.results32, go_sem, Pu.In, ]; done) | (go_light; simp_all [results, Try.results32, go_sem, Pu.In, ]; omega)
theorem c_spec_l1In_b (x : Int) (lo : Int) (hi : Int) (w : World) (b : Bool) (hb : Pu.In x lo hi = b) :
    Calls Try.prog 32 #[.int .i64 x, .int .i64 lo, .int .i64 hi] w (Ret w (.bool b)) := by subst hb; exact c_spec_l1In x lo hi w

-- impl.in
set_option maxHeartbeats 1000000 in
set_option maxRecDepth 100000 in
theorem c_impl_in (x : Int) (lo : Int) (hi : Int) (w : World)   :
    Calls Try.prog 33 #[.int .i64 x, .int .i64 lo, .int .i64 hi] w (Ret w (.bool (Pu.In x lo hi))) := by
  go_enter Try.func33, Try.ntmps33
  go_wp2_with (first
    | go_region)
  all_goals refine bodyPost_ret (v := .bool (Pu.In x lo hi)) ?_ rfl (Ret.mk (by repeat (first | exact Below.refl _ _ | apply below_alloc | apply below_junk | apply below_drew)))
  all_goals first | (simp [results, Try.results33, go_sem, Pu.In, *]; done) | (simp [results, Try.results33, go_sem, Pu.In, *]; omega) | (go_light; simp [results, Try.results33, go_sem, Pu.In, *]; intros; exfalso; omega) | (go_light; simp [results, Try.results33, go_sem, Pu.In, *]; (repeat' split) <;> first | omega | (simp; done) | (simp_all; done)) | (go_light; simp_all [results, Try.results33, go_sem, Pu.In, ]; done) | (go_light; simp_all [results, Try.results33, go_sem, Pu.In, ]; omega)
theorem c_impl_in_b (x : Int) (lo : Int) (hi : Int) (w : World) (b : Bool) (hb : Pu.In x lo hi = b) :
    Calls Try.prog 33 #[.int .i64 x, .int .i64 lo, .int .i64 hi] w (Ret w (.bool b)) := by subst hb; exact c_impl_in x lo hi w

-- spec.l2Time
set_option maxHeartbeats 1000000 in
set_option maxRecDepth 100000 in
theorem c_spec_l2Time (t : Int) (w : World)   :
    Calls Try.prog 36 #[.int .i64 t] w (Ret w (.bool (Pu.isTime t))) := by
  go_enter Try.func36, Try.ntmps36
  go_wp2_with (first
    | (go_at_call 32; refine (c_spec_l1In _ _ _ _ ).mono ?_; rintro e w' hr; (rcases Ret.bool hr with ⟨rfl, hX, g, d, rfl⟩ | ⟨rfl, hX, g, d, rfl⟩ <;> first | (have hB := (Pu.In_iff _ _ _).1 hX; (try dsimp only at hB); obtain ⟨hB1, hB2⟩ := hB; clear hr) | (have hB := Pu.no_of (Pu.In_iff _ _ _) hX; (try dsimp only at hB); clear hr) | clear hr))
    | go_region)
  all_goals refine bodyPost_ret (v := .bool (Pu.isTime t)) ?_ rfl (Ret.mk (by repeat (first | exact Below.refl _ _ | apply below_alloc | apply below_junk | apply below_drew)))
  all_goals first | (simp [results, Try.results36, go_sem, Pu.isTime, Pu.In, *]; done) | (simp [results, Try.results36, go_sem, Pu.isTime, Pu.In, *]; omega) | (go_light; simp [results, Try.results36, go_sem, Pu.isTime, Pu.In, *]; intros; exfalso; omega) | (go_light; simp [results, Try.results36, go_sem, Pu.isTime, Pu.In, *]; (repeat' split) <;> first | omega | (simp; done) | (simp_all; done)) | (go_light; simp_all [results, Try.results36, go_sem, Pu.isTime, Pu.In, ]; done) | (go_light; simp_all [results, Try.results36, go_sem, Pu.isTime, Pu.In, ]; omega)
theorem c_spec_l2Time_b (t : Int) (w : World) (b : Bool) (hb : Pu.isTime t = b) :
    Calls Try.prog 36 #[.int .i64 t] w (Ret w (.bool b)) := by subst hb; exact c_spec_l2Time t w

-- impl.isTime
set_option maxHeartbeats 1000000 in
set_option maxRecDepth 100000 in
theorem c_impl_isTime (t : Int) (w : World)   :
    Calls Try.prog 39 #[.int .i64 t] w (Ret w (.bool (Pu.isTime t))) := by
  go_enter Try.func39, Try.ntmps39
  go_wp2_with (first
    | (go_at_call 33; refine (c_impl_in _ _ _ _ ).mono ?_; rintro e w' hr; (rcases Ret.bool hr with ⟨rfl, hX, g, d, rfl⟩ | ⟨rfl, hX, g, d, rfl⟩ <;> first | (have hB := (Pu.In_iff _ _ _).1 hX; (try dsimp only at hB); obtain ⟨hB1, hB2⟩ := hB; clear hr) | (have hB := Pu.no_of (Pu.In_iff _ _ _) hX; (try dsimp only at hB); clear hr) | clear hr))
    | go_region)
  all_goals refine bodyPost_ret (v := .bool (Pu.isTime t)) ?_ rfl (Ret.mk (by repeat (first | exact Below.refl _ _ | apply below_alloc | apply below_junk | apply below_drew)))
  all_goals first | (simp [results, Try.results39, go_sem, Pu.isTime, Pu.In, *]; done) | (simp [results, Try.results39, go_sem, Pu.isTime, Pu.In, *]; omega) | (go_light; simp [results, Try.results39, go_sem, Pu.isTime, Pu.In, *]; intros; exfalso; omega) | (go_light; simp [results, Try.results39, go_sem, Pu.isTime, Pu.In, *]; (repeat' split) <;> first | omega | (simp; done) | (simp_all; done)) | (go_light; simp_all [results, Try.results39, go_sem, Pu.isTime, Pu.In, ]; done) | (go_light; simp_all [results, Try.results39, go_sem, Pu.isTime, Pu.In, ]; omega)
theorem c_impl_isTime_b (t : Int) (w : World) (b : Bool) (hb : Pu.isTime t = b) :
    Calls Try.prog 39 #[.int .i64 t] w (Ret w (.bool b)) := by subst hb; exact c_impl_isTime t w

-- spec.l4Node
set_option maxHeartbeats 1000000 in
set_option maxRecDepth 100000 in
theorem c_spec_l4Node (t : Int) (w : World)   :
    Calls Try.prog 35 #[.int .i64 t] w (Ret w (.bool (Pu.isNode t))) := by
  go_enter Try.func35, Try.ntmps35
  go_wp2_with (first
    | (go_at_call 32; refine (c_spec_l1In _ _ _ _ ).mono ?_; rintro e w' hr; (rcases Ret.bool hr with ⟨rfl, hX, g, d, rfl⟩ | ⟨rfl, hX, g, d, rfl⟩ <;> first | (have hB := (Pu.In_iff _ _ _).1 hX; (try dsimp only at hB); obtain ⟨hB1, hB2⟩ := hB; clear hr) | (have hB := Pu.no_of (Pu.In_iff _ _ _) hX; (try dsimp only at hB); clear hr) | clear hr))
    | go_region)
  all_goals refine bodyPost_ret (v := .bool (Pu.isNode t)) ?_ rfl (Ret.mk (by repeat (first | exact Below.refl _ _ | apply below_alloc | apply below_junk | apply below_drew)))
  all_goals first | (simp [results, Try.results35, go_sem, Pu.isNode, Pu.In, *]; done) | (simp [results, Try.results35, go_sem, Pu.isNode, Pu.In, *]; omega) | (go_light; simp [results, Try.results35, go_sem, Pu.isNode, Pu.In, *]; intros; exfalso; omega) | (go_light; simp [results, Try.results35, go_sem, Pu.isNode, Pu.In, *]; (repeat' split) <;> first | omega | (simp; done) | (simp_all; done)) | (go_light; simp_all [results, Try.results35, go_sem, Pu.isNode, Pu.In, ]; done) | (go_light; simp_all [results, Try.results35, go_sem, Pu.isNode, Pu.In, ]; omega)
theorem c_spec_l4Node_b (t : Int) (w : World) (b : Bool) (hb : Pu.isNode t = b) :
    Calls Try.prog 35 #[.int .i64 t] w (Ret w (.bool b)) := by subst hb; exact c_spec_l4Node t w

-- impl.isNode
set_option maxHeartbeats 1000000 in
set_option maxRecDepth 100000 in
theorem c_impl_isNode (t : Int) (w : World)   :
    Calls Try.prog 38 #[.int .i64 t] w (Ret w (.bool (Pu.isNode t))) := by
  go_enter Try.func38, Try.ntmps38
  go_wp2_with (first
    | (go_at_call 33; refine (c_impl_in _ _ _ _ ).mono ?_; rintro e w' hr; (rcases Ret.bool hr with ⟨rfl, hX, g, d, rfl⟩ | ⟨rfl, hX, g, d, rfl⟩ <;> first | (have hB := (Pu.In_iff _ _ _).1 hX; (try dsimp only at hB); obtain ⟨hB1, hB2⟩ := hB; clear hr) | (have hB := Pu.no_of (Pu.In_iff _ _ _) hX; (try dsimp only at hB); clear hr) | clear hr))
    | go_region)
  all_goals refine bodyPost_ret (v := .bool (Pu.isNode t)) ?_ rfl (Ret.mk (by repeat (first | exact Below.refl _ _ | apply below_alloc | apply below_junk | apply below_drew)))
  all_goals first | (simp [results, Try.results38, go_sem, Pu.isNode, Pu.In, *]; done) | (simp [results, Try.results38, go_sem, Pu.isNode, Pu.In, *]; omega) | (go_light; simp [results, Try.results38, go_sem, Pu.isNode, Pu.In, *]; intros; exfalso; omega) | (go_light; simp [results, Try.results38, go_sem, Pu.isNode, Pu.In, *]; (repeat' split) <;> first | omega | (simp; done) | (simp_all; done)) | (go_light; simp_all [results, Try.results38, go_sem, Pu.isNode, Pu.In, ]; done) | (go_light; simp_all [results, Try.results38, go_sem, Pu.isNode, Pu.In, ]; omega)
theorem c_impl_isNode_b (t : Int) (w : World) (b : Bool) (hb : Pu.isNode t = b) :
    Calls Try.prog 38 #[.int .i64 t] w (Ret w (.bool b)) := by subst hb; exact c_impl_isNode t w

end Go.Proofs.Ytomfappebadllaa
