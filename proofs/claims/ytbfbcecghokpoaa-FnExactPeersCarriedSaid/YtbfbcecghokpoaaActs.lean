/-
  A statement whose order of evaluation Go leaves open, in which calls that leave new blocks behind stand beside the laying of a variable of its own: what reads or calls is taken first; what lays and writes comes behind it, with whatever new blocks between.
  No statement of the seat is proved here.
-/
import Derived.Test.YtbfbcecghokpoaaRegion
namespace Go.Proofs.Ytbfbcecghokpoaa
open Go.RowKit Go

/-- w' is w with new blocks. -/
def Later (w w' : World) : Prop := ∃ x : Left, w' = junk w x.g x.d
theorem Later.refl (w : World) : Later w w := ⟨⟨#[], w.drawn⟩, by simp [junk]⟩
theorem Later.trans {a b c : World} (h : Later a b) (k : Later b c) : Later a c := by
  obtain ⟨x, rfl⟩ := h
  obtain ⟨y, rfl⟩ := k
  exact ⟨⟨x.g ++ y.g, y.d⟩, by simp [junk_junk]⟩
theorem Later.junk (w : World) (x : Left) : Later w (junk w x.g x.d) := ⟨x, rfl⟩
theorem Later.of_below {w w' : World} (h : Below w.heap.size w w') : Later w w' := by
  obtain ⟨g, d, rfl⟩ := junk_of_below h
  exact ⟨⟨g, d⟩, rfl⟩
theorem later_below {w w' : World} (h : Later w w') : Below w.heap.size w w' := by
  obtain ⟨x, rfl⟩ := h
  exact below_junk _ _ (Below.refl _ _)

section
variable {P : Program} {ops : Array Oper} {md : Region.Mode} {Q : Exit → Act → World → Prop} {w0 : World}

/-- One value in every later world, and nothing turned. -/
def calmUpon (P : Program) (w : World) (v : Value) : Result Next → Prop
  | .ok (.value u) w' => w' = w ∧ u = v
  | .ok .skip w' => w' = w ∧ v = undef
  | .ok (.enter f args) w' => w' = w ∧ Calls P f args w (Ret w v)
  | _ => False
def calmAt (P : Program) (o : Oper) (a : Act) (w : World) (v : Value) : Prop := calmUpon P w v ((execOp a.eval o).run P w)
def calm (P : Program) (o : Oper) (a : Act) (w0 : World) (next : Act → Prop) : Prop := ∃ v, (∀ x : Left, calmAt P o a (junk w0 x.g x.d) v) ∧ next (a.put o.dst v)

/-- An operation that comes to its end. -/
def goesUpon (P : Program) (o : Oper) (a : Act) (K : Act → World → Prop) : Result Next → Prop
  | .ok (.value v) w' => K (a.put o.dst v) w'
  | .ok .skip w' => K (a.put o.dst undef) w'
  | .ok (.enter f args) w' => ∃ v, Calls P f args w' (Ret w' v) ∧ ∀ w'', Later w' w'' → K (a.put o.dst v) w''
  | _ => False
def goesAt (P : Program) (o : Oper) (a : Act) (w : World) (K : Act → World → Prop) : Prop := goesUpon P o a K ((execOp a.eval o).run P w)
def gOp (P : Program) (ops : Array Oper) (i : Nat) (K : Act → World → Prop) (a : Act) (w : World) : Prop :=
  match ops[i]? with
  | none => K a w
  | some o => if Region.wanted o (yielded ops a.tmps) then goesAt P o a w K else K (a.put o.dst undef) w

attribute [go_sem] calm calmAt calmUpon goesAt goesUpon

theorem goesUpon_mono {o : Oper} {a : Act} {K K' : Act → World → Prop} {r : Result Next} (h : ∀ a w, K a w → K' a w) (hh : goesUpon P o a K r) : goesUpon P o a K' r := by
  cases r with
  | ok n w' =>
    cases n <;> simp only [goesUpon] at hh ⊢
    case value => exact h _ _ hh
    case skip => exact h _ _ hh
    case enter f args => obtain ⟨v, hc, hk⟩ := hh; exact ⟨v, hc, fun w'' hl => h _ _ (hk w'' hl)⟩
  | halt x w' => simp only [goesUpon] at hh
theorem gOp_mono {i : Nat} {a : Act} {w : World} {K K' : Act → World → Prop} (h : ∀ a w, K a w → K' a w) (hh : gOp P ops i K a w) : gOp P ops i K' a w := by
  unfold gOp at *
  split
  · exact h _ _ (by simpa [*] using hh)
  · rename_i o ho
    simp only [ho] at hh
    split
    · rename_i hw; simp only [hw, if_true] at hh; exact goesUpon_mono h hh
    · rename_i hw; simp only [hw] at hh; exact h _ _ hh

theorem wpOp_of_gOp {i : Nat} {a : Act} {w : World} {K : Act → World → Prop} (hh : gOp P ops i K a w) : wpOp P ops Q i K a w := by
  unfold gOp at hh
  unfold wpOp
  split
  · rename_i ho; simpa only [ho] using hh
  · rename_i o ho
    simp only [ho] at hh
    split
    · rename_i hw
      simp only [hw, if_true, goesAt] at hh
      refine .inl ?_
      unfold Oper.wp
      generalize (execOp a.eval o).run P w = r at *
      cases r with
      | ok n w' =>
        cases n <;> simp only [goesUpon] at hh <;> simp only [Oper.upon]
        case value => exact hh
        case skip => exact hh
        case enter f args =>
          obtain ⟨v, hc, hk⟩ := hh
          exact hc.mono fun e w'' hr => by
            obtain ⟨he, g, d, rfl⟩ := hr.open
            subst he
            exact hk _ ⟨⟨g, d⟩, rfl⟩
      | halt x w' => simp only [goesUpon] at hh
    · rename_i hw; simpa [hw] using hh

/-- Whatever order is picked from here on, with whatever new blocks between. -/
def hAny (P : Program) (md : Region.Mode) (ops : Array Oper) (Q : Exit → Act → World → Prop) (w0 : World) : Nat → Array Bool → Act → World → Prop
  | 0, listed, a, w => Region.ready md ops listed = [] ∧ ∀ x : Left, Q .normal a (junk w x.g x.d)
  | f + 1, listed, a, w => (Region.ready md ops listed = [] → ∀ x : Left, Q .normal a (junk w x.g x.d)) ∧
    ∀ i ∈ Region.ready md ops listed, ∀ x : Left, gOp P ops i (fun a' w' => Later w0 w' ∧ hAny P md ops Q w0 f (listed.setIfInBounds i true) a' w') a (junk w x.g x.d)

theorem hAny_later : ∀ {f : Nat} {listed : Array Bool} {a : Act} {w w' : World}, Later w w' → hAny P md ops Q w0 f listed a w → hAny P md ops Q w0 f listed a w'
  | 0, _, _, _, _, ⟨y, hy⟩, h => ⟨h.1, fun x => by subst hy; rw [junk_junk]; exact h.2 ⟨y.g ++ x.g, x.d⟩⟩
  | _ + 1, _, _, _, _, ⟨y, hy⟩, h => ⟨fun h0 x => by subst hy; rw [junk_junk]; exact h.1 h0 ⟨y.g ++ x.g, x.d⟩, fun i hi x => by subst hy; rw [junk_junk]; exact h.2 i hi ⟨y.g ++ x.g, x.d⟩⟩

theorem wpAny_of_hAny : ∀ {f : Nat} {listed : Array Bool} {a : Act} {w : World}, hAny P md ops Q w0 f listed a w → wpAny P md ops Q f listed a w
  | 0, _, _, w, h => ⟨h.1, by have := h.2 ⟨#[], w.drawn⟩; simpa [junk] using this⟩
  | _ + 1, _, _, w, h => by
    refine ⟨fun h0 => ?_, fun i hi => ?_⟩
    · have := h.1 h0 ⟨#[], w.drawn⟩; simpa [junk] using this
    · have := h.2 i hi ⟨#[], w.drawn⟩
      have e : junk w (#[] : Array Obj) w.drawn = w := by simp [junk]
      simp only [e] at this
      exact wpOp_mono (fun a' w' h' => wpAny_of_hAny h'.2) (wpOp_of_gOp this)

/-- Operation 'o' leaves v, in every world later than w0. -/
def CalmIn (P : Program) (ops : Array Oper) (w0 : World) (o : Oper) (v : Value) (a : Act) : Prop :=
  (Region.wanted o (yielded ops a.tmps) = true ∧ ∀ x : Left, calmAt P o a (junk w0 x.g x.d) v) ∨
  (Region.wanted o (yielded ops a.tmps) = false ∧ v = undef)

theorem CalmIn.of_same {o : Oper} {v : Value} {a a' : Act} (hy : CalmIn P ops w0 o v a) (he : execOp a'.eval o = execOp a.eval o)
    (hw : Region.wanted o (yielded ops a'.tmps) = Region.wanted o (yielded ops a.tmps)) : CalmIn P ops w0 o v a' := by
  unfold CalmIn calmAt at *
  rw [he, hw]
  exact hy

theorem CalmIn.gOp {i : Nat} {o : Oper} {v : Value} {a : Act} {w : World} (hi : ops[i]? = some o) (hy : CalmIn P ops w0 o v a) (hw0 : Later w0 w) {K : Act → World → Prop}
    (h : ∀ w', Later w w' → K (a.put o.dst v) w') : gOp P ops i K a w := by
  unfold Go.Proofs.Ytbfbcecghokpoaa.gOp
  simp only [hi]
  rcases hy with ⟨hw, hv⟩ | ⟨hw, rfl⟩
  · simp only [hw, if_true]
    obtain ⟨x, rfl⟩ := hw0
    have := hv x
    unfold calmAt at this
    unfold goesAt
    generalize (execOp a.eval o).run P (junk w0 x.g x.d) = r at *
    cases r with
    | ok n w' =>
      cases n <;> simp only [calmUpon] at this <;> simp only [goesUpon]
      case value u => obtain ⟨rfl, rfl⟩ := this; exact h _ (Later.refl _)
      case skip => obtain ⟨rfl, rfl⟩ := this; exact h _ (Later.refl _)
      case enter f args => obtain ⟨rfl, hc⟩ := this; exact ⟨v, hc, h⟩
    | halt x' w' => simp only [calmUpon] at this
  · simp only [hw, Bool.false_eq_true, if_false]; exact h _ (Later.refl _)

/-- One operation 'oj', apart from 'oi': whether 'oi''s value is already in its temporary makes no difference to it, and it makes none to 'oi'. -/
theorem gOp_put {j : Nat} {oi oj : Oper} {v : Value} (hj : ops[j]? = some oj) (hap : oi.apart ops oj = true)
    (hsi : ∀ cs b, oi.op ≠ .select cs b) (hsj : ∀ cs b, oj.op ≠ .select cs b) {K : Act → World → Prop} {a : Act} {w : World}
    (hy : CalmIn P ops w0 oi v a) (h : gOp P ops j K (a.put oi.dst v) w) :
    gOp P ops j (fun a' w' => CalmIn P ops w0 oi v a' ∧ K (a'.put oi.dst v) w') a w := by
  obtain ⟨h1, h2, h3⟩ := Oper.apart_spec hap
  have keep : ∀ u, CalmIn P ops w0 oi v (a.put oj.dst u) := fun u =>
    hy.of_same (execOp_put oi hsi a oj.dst u h3) (wanted_put oi a oj.dst u h3)
  unfold gOp at *
  simp only [hj] at *
  rw [wanted_put oj a oi.dst v h1] at h
  split
  · rename_i hw
    simp only [hw, if_true] at h
    unfold goesAt at *
    rw [execOp_put oj hsj a oi.dst v h1] at h
    generalize (execOp a.eval oj).run P w = r at *
    cases r with
    | ok n w' =>
      cases n <;> simp only [goesUpon] at h ⊢
      case value u => exact ⟨keep _, by rw [← Act.put_comm a v u h2]; exact h⟩
      case skip => exact ⟨keep _, by rw [← Act.put_comm a v undef h2]; exact h⟩
      case enter f args =>
        obtain ⟨u, hc, hk⟩ := h
        exact ⟨u, hc, fun w'' hl => ⟨keep _, by rw [← Act.put_comm a v u h2]; exact hk w'' hl⟩⟩
    | halt x w' => simp only [goesUpon] at h
  · rename_i hw
    simp only [hw] at h
    exact ⟨keep _, by rw [← Act.put_comm a v undef h2]; exact h⟩

/-- **What only reads or calls may be taken first.** -/
theorem hAny_first {i : Nat} {oi : Oper} {v : Value} (hi : ops[i]? = some oi) (hsel : ∀ (j : Nat) (o : Oper) cs b, ops[j]? = some o → o.op ≠ .select cs b) :
    ∀ (f : Nat) (listed : Array Bool) (a : Act) (w : World), Later w0 w →
      (∀ j oj, ops[j]? = some oj → j ≠ i → listed.getD j true = false → (∀ e ∈ oj.after, Region.binds md e = true → e.on ≠ i) → oi.apart ops oj = true) →
      i ∈ Region.ready md ops listed → CalmIn P ops w0 oi v a →
      hAny P md ops Q w0 f (listed.setIfInBounds i true) (a.put oi.dst v) w → hAny P md ops Q w0 (f + 1) listed a w := by
  intro f
  induction f with
  | zero =>
    intro listed a w hl _ hr hy H
    refine ⟨fun h => (by rw [h] at hr; cases hr), fun j hj x => ?_⟩
    by_cases hji : j = i
    · subst hji
      exact hy.gOp hi (hl.trans (Later.junk _ _)) fun w' hw' => ⟨(hl.trans (Later.junk _ _)).trans hw', hAny_later ((Later.junk _ _).trans hw') H⟩
    · have := ready_mono hj hji
      rw [H.1] at this
      cases this
  | succ f ih =>
    intro listed a w hl hfree hr hy H
    refine ⟨fun h => (by rw [h] at hr; cases hr), fun j hj x => ?_⟩
    by_cases hji : j = i
    · subst hji
      exact hy.gOp hi (hl.trans (Later.junk _ _)) fun w' hw' => ⟨(hl.trans (Later.junk _ _)).trans hw', hAny_later ((Later.junk _ _).trans hw') H⟩
    · have h1 := H.2 j (ready_mono hj hji) x
      obtain ⟨hjun, oj, hoj, hall⟩ := mem_ready.1 hj
      have hnot : ∀ e ∈ oj.after, Region.binds md e = true → e.on ≠ i := fun e he hb heq => by
        have h1 := hall e he hb
        have h0 := (mem_ready.1 hr).1
        rw [heq] at h1
        rcases Nat.lt_or_ge i listed.size with h' | h'
        · simp [h'] at h0 h1; rw [h0] at h1; cases h1
        · simp [Array.getElem?_eq_none h'] at h1
      have h2 := gOp_put (w0 := w0) hoj (hfree j oj hoj hji hjun hnot) (fun cs b => hsel i oi cs b hi) (fun cs b => hsel j oj cs b hoj) hy h1
      have hfree' : ∀ k ok, ops[k]? = some ok → k ≠ i → (listed.setIfInBounds j true).getD k true = false →
          (∀ e ∈ ok.after, Region.binds md e = true → e.on ≠ i) → oi.apart ops ok = true := fun k ok hk hki hun hno => by
        refine hfree k ok hk hki ?_ hno
        by_cases hjk : j = k
        · subst hjk; exact hjun
        · rw [getD_set_ne true hjk] at hun; exact hun
      refine gOp_mono (fun a' w' h3 => ⟨h3.2.1, ih (listed.setIfInBounds j true) a' w' h3.2.1 hfree' (ready_mono hr (Ne.symm hji)) h3.1 ?_⟩) h2
      rw [Array.setIfInBounds_comm _ _ hji]
      exact h3.2.2

/-- May operation k be taken first, by the region's own table? -/
def takeB (md : Region.Mode) (ops : Array Oper) (k : Nat) (listed : Array Bool) : Bool :=
  Region.noSelect ops && (Region.ready md ops listed).contains k && Region.free md ops listed k

/-- One operation taken first; what follows behind a variable. -/
theorem hAny_take (k : Nat) {o : Oper} {f : Nat} {listed : Array Bool} {a : Act} {w : World} (hl : Later w0 w) (hB : takeB md ops k listed = true) (ho : ops[k]? = some o)
    (h : ∀ K : Act → Prop, (∀ a, hAny P md ops Q w0 f (listed.setIfInBounds k true) a w → K a) → if Region.wanted o (yielded ops a.tmps) then calm P o a w0 K else K (a.put o.dst undef)) :
    hAny P md ops Q w0 (f + 1) listed a w := by
  simp only [takeB, Bool.and_eq_true] at hB
  obtain ⟨⟨hs, hr⟩, hf⟩ := hB
  have h' := h _ (fun _ h => h)
  by_cases hw : Region.wanted o (yielded ops a.tmps) = true
  · simp only [hw, if_true] at h'
    obtain ⟨v, h1, h2⟩ := h'
    exact hAny_first ho (Region.noSelect_spec hs) f listed a w hl (Region.free_spec ho hf) (by simpa using hr) (.inl ⟨hw, h1⟩) h2
  · simp only [hw] at h'
    exact hAny_first ho (Region.noSelect_spec hs) f listed a w hl (Region.free_spec ho hf) (by simpa using hr) (.inr ⟨by simpa using hw, rfl⟩) h'

/-- One operation alone may come up. -/
theorem hAny_one (k : Nat) {o : Oper} {f : Nat} {listed : Array Bool} {a : Act} {w : World} (hr : Region.ready md ops listed = [k]) (ho : ops[k]? = some o) (hg : o.guard = none)
    (h : ∀ x : Left, goesAt P o a (junk w x.g x.d) (fun a' w' => Later w0 w' ∧ hAny P md ops Q w0 f (listed.setIfInBounds k true) a' w')) : hAny P md ops Q w0 (f + 1) listed a w := by
  refine ⟨fun h0 => (by rw [hr] at h0; cases h0), fun i hi x => ?_⟩
  rw [hr] at hi
  have : i = k := by simpa using hi
  subst this
  unfold gOp
  simp only [ho, Region.wanted, hg, if_true]
  exact h x

/-- One of two may come up. -/
theorem hAny_two (k k' : Nat) {o o' : Oper} {f : Nat} {listed : Array Bool} {a : Act} {w : World} (hr : Region.ready md ops listed = [k, k']) (ho : ops[k]? = some o) (hg : o.guard = none) (ho' : ops[k']? = some o') (hg' : o'.guard = none)
    (h : ∀ x : Left, goesAt P o a (junk w x.g x.d) (fun a' w' => Later w0 w' ∧ hAny P md ops Q w0 f (listed.setIfInBounds k true) a' w'))
    (h' : ∀ x : Left, goesAt P o' a (junk w x.g x.d) (fun a' w' => Later w0 w' ∧ hAny P md ops Q w0 f (listed.setIfInBounds k' true) a' w')) : hAny P md ops Q w0 (f + 1) listed a w := by
  refine ⟨fun h0 => (by rw [hr] at h0; cases h0), fun i hi x => ?_⟩
  rw [hr] at hi
  have : i = k ∨ i = k' := by simpa using hi
  rcases this with rfl | rfl
  · unfold gOp
    simp only [ho, Region.wanted, hg, if_true]
    exact h x
  · unfold gOp
    simp only [ho', Region.wanted, hg', if_true]
    exact h' x

theorem hAny_end {listed : Array Bool} {a : Act} {w : World} (hr : Region.ready md ops listed = []) (h : ∀ g d, Q .normal a (junk w g d)) : hAny P md ops Q w0 0 listed a w :=
  ⟨hr, fun x => h x.g x.d⟩

theorem wp_region_acts {id : Nat} {a : Act} {w : World} {l : List Oper} (hm : P.follows .mixedOrders = true)
    (h : hAny P .any l.toArray Q w l.length (Array.replicate l.length false) a w) : (Code.region id l.toArray true).wp P Q a w := by
  refine wp_region_any hm (wpAny_of_hAny (w0 := w) ?_)
  have := hAny_later (w' := { w with drawn := w.drawn + 1 }) ⟨⟨#[], w.drawn + 1⟩, by simp [junk]⟩ h
  simpa using this
end
end Go.Proofs.Ytbfbcecghokpoaa
