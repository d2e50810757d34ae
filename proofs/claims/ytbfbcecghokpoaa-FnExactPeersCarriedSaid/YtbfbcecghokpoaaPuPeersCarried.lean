/-
  Chapter 10: what the fresh peers say at a count: the reference and the program tell the same; what was handed in is not turned, and the answer is one's own. Plain lists, no memory.
  No statement of the seat is proved here.
-/
import Derived.Test.YtbfbcecghokpoaaPPeersCarriedx
namespace Go.Proofs.Ytbfbcecghokpoaa.PPeersCarried
open Go.RowKit Go.Proofs.YtbfbcecghokpoaaW.PrintWords
set_option linter.unusedVariables false
theorem Ev.ite {α : Type} {c : Prop} [Decidable c] {f g : Nat → Option α} {r : α} (h1 : c → Ev f r) (h2 : ¬ c → Ev g r) : Ev (fun k => if c then f k else g k) r := by
  by_cases h : c
  · simpa only [if_pos h] using h1 h
  · simpa only [if_neg h] using h2 h
theorem Ev.shift {α : Type} {g : Nat → Option α} {r : α} (h : Ev (fun k => g (k + 1)) r) : Ev g r := Ev.step (fun _ => rfl) h
theorem Ev.bindSome {α β : Type} {a : α} {f : Nat → α → Option β} {r : β} (h : Ev (fun k => f k a) r) : Ev (fun k => (some a).bind (f k)) r := h
theorem Ev.up {α : Type} {g : Nat → Option α} {r : α} (h : Ev g r) : Ev (fun k => g (k + 1)) r := by
  obtain ⟨K, h⟩ := h
  exact ⟨K, fun k hk => h (k + 1) (by omega)⟩
theorem Ev.bindIte {α β : Type} {c : Prop} [Decidable c] {f g : Nat → Option α} {h : Nat → α → Option β} {r : β} (h1 : c → Ev (fun k => (f k).bind (h k)) r) (h2 : ¬ c → Ev (fun k => (g k).bind (h k)) r) : Ev (fun k => (if c then f k else g k).bind (h k)) r := by
  by_cases hc : c
  · simpa only [if_pos hc] using h1 hc
  · simpa only [if_neg hc] using h2 hc
theorem Ev.pos {α : Type} {c : Prop} [Decidable c] {f g : Nat → Option α} {r : α} (hc : c) (h : Ev f r) : Ev (fun k => if c then f k else g k) r := by simpa only [if_pos hc] using h
theorem Ev.neg {α : Type} {c : Prop} [Decidable c] {f g : Nat → Option α} {r : α} (hc : ¬ c) (h : Ev g r) : Ev (fun k => if c then f k else g k) r := by simpa only [if_neg hc] using h
theorem Ev.bindPos {α β : Type} {c : Prop} [Decidable c] {f g : Nat → Option α} {h : Nat → α → Option β} {r : β} (hc : c) (h1 : Ev (fun k => (f k).bind (h k)) r) : Ev (fun k => (if c then f k else g k).bind (h k)) r := by simpa only [if_pos hc] using h1
theorem Ev.bindNeg {α β : Type} {c : Prop} [Decidable c] {f g : Nat → Option α} {h : Nat → α → Option β} {r : β} (hc : ¬ c) (h1 : Ev (fun k => (g k).bind (h k)) r) : Ev (fun k => (if c then f k else g k).bind (h k)) r := by simpa only [if_neg hc] using h1
theorem Ev.val {α : Type} {a r : α} (h : a = r) : Ev (fun _ => some a) r := h ▸ Ev.now a
theorem sz_small {n : Nat} {x : Int} (h : (n : Int) ≤ x) : Pu.sz x n = x - n := by unfold Pu.sz; rw [if_neg (by omega)]
theorem sz_big {n : Nat} {x : Int} (h : x < n) : Pu.sz x n = -1 := by unfold Pu.sz; rw [if_pos (by omega)]
/-- All of d places from i on. -/
def allFrom (c : Nat → Bool) : Nat → Nat → Bool
  | _, 0 => true
  | i, d + 1 => c i && allFrom c (i + 1) d
/-! Peers: elements, marks. -/
theorem rdPeer (a : List S63) (i : Nat) (h : i < a.length) : rd_T63 a (i : Int) = a[i] := by simp [rd_T63, List.getD_eq_getElem?_getD, h]
theorem atPeer (a : List S63) (i : Nat) (h : i < a.length) : ((a.map cv63)[i]'(by simpa using h)) = ⟨a[i].f0, ⟨a[i].f1.f0, a[i].f1.f1⟩, a[i].f2, a[i].f3⟩ := by simp [cv63]
theorem markPeer_ev (a : List S63) (h : a.length ≤ 3000000) : laws_markPeerS.f a 1 = some (1 + 5 * (a.length : Int), ((List.range' 0 a.length).map Pu.mkPeer).map vc63) := by
  unfold laws_markPeerS.f; rw [if_pos ⟨rfl, h⟩]
/-! Fresh peers: the reference's way. -/
theorem places_len_le {α : Type} (p : α → Bool) (i : Nat) (l : List α) : (Pu.places p i l).length ≤ l.length := by
  rw [Pu.places_len]; exact List.countP_le_length
theorem fresh_len (l : List Peer) (t f : Int) : (Pu.PeersFresh l t f).length ≤ 8 := by
  unfold Pu.PeersFresh; split
  · rename_i h
    have h1 := Pu.PeersOk_bd h.1
    have h2 := places_len_le (fun x : Peer => Pu.In (wrap64 (t - x.pt)) 0 f) 0 l
    omega
  · simp
theorem spec_fresh_loop (a : List S63) (t f : Int) (hn : a.length ≤ 8) (d : Nat) : ∀ (i : Nat) (acc : List Int), i + d = a.length → acc.length ≤ i →
    Ev (fun k => spec_PeersFresh.l0 k a t f acc (i : Int)) (acc ++ Pu.places (fun x : Peer => Pu.In (wrap64 (t - x.pt)) 0 f) i ((a.map cv63).drop i)) := by
  induction d with
  | zero =>
    intro i acc hi hac
    refine Ev.shift ?_; simp only [spec_PeersFresh.l0]
    rw [List.drop_eq_nil_of_le (by simp; omega)]
    exact Ev.neg (by omega) (Ev.val (by simp [Pu.places]))
  | succ d ih =>
    intro i acc hi hac
    have hl : i < a.length := by omega
    have hw : wrap64 ((i : Int) + 1) = ((i + 1 : Nat) : Int) := by unfold wrap64; omega
    have h1 := ih (i + 1) (acc ++ [(i : Int)]) (by omega) (by simp; omega)
    have h2 := ih (i + 1) acc (by omega) (by omega)
    rw [List.drop_eq_getElem_cons (by simpa using hl), atPeer a i hl, Pu.places]
    refine Ev.shift ?_; simp only [spec_PeersFresh.l0, spec_l1In.f, Option.bind_some, rdPeer a i hl, hw]
    refine Ev.pos (by omega) (Ev.pos (by omega) (Ev.ite (fun h => ?_) (fun h => ?_)))
    · rw [if_pos h]
      exact Ev.pos (by omega) (by simpa using h1)
    · rw [if_neg h]; exact h2
theorem spec_fresh (a : List S63) (t f : Int) : Ev (fun k => spec_PeersFresh.f k a t f) (Pu.PeersFresh (a.map cv63) t f) := by
  unfold spec_PeersFresh.f
  simp only [spec_PeersOk.f, spec_l2Time.f, Option.bind_some]
  by_cases h1 : Pu.PeersOk (a.map cv63) = true
  · by_cases h2 : Pu.isTime t = true
    · by_cases h3 : Pu.isTime f = true
      · rw [Pu.PeersFresh_ok h1 h2 h3]
        have hb := Pu.PeersOk_bd h1
        refine Ev.pos h1 (Ev.pos h2 ?_)
        refine Ev.shift ?_; simp only [spec_PeersFresh.j0]
        refine Ev.neg (by simp [h3]) ?_
        simpa using spec_fresh_loop a t f (by simpa using hb) a.length 0 [] (by omega) (by simp)
      · have h3' : Pu.isTime f = false := by simpa using h3
        rw [Pu.PeersFresh_bad (.inr (.inr h3'))]
        refine Ev.pos h1 (Ev.pos h2 ?_)
        refine Ev.shift ?_; simp only [spec_PeersFresh.j0]
        exact Ev.pos (by simp [h3']) (Ev.val rfl)
    · have h2' : Pu.isTime t = false := by simpa using h2
      rw [Pu.PeersFresh_bad (.inr (.inl h2'))]
      refine Ev.pos h1 (Ev.neg h2 ?_)
      refine Ev.shift ?_; simp only [spec_PeersFresh.j0]
      exact Ev.pos (by simp) (Ev.val rfl)
  · have h1' : Pu.PeersOk (a.map cv63) = false := by simpa using h1
    rw [Pu.PeersFresh_bad (.inl h1')]
    refine Ev.neg h1 ?_
    refine Ev.shift ?_; simp only [spec_PeersFresh.j0]
    exact Ev.pos (by simp) (Ev.val rfl)
/-! What the fresh peers say at a count. -/
theorem places_lt {α : Type} (p : α → Bool) : ∀ (l : List α) (i : Nat) (x : Int), x ∈ Pu.places p i l → (i : Int) ≤ x ∧ x < (i : Int) + l.length
  | [], i, x, h => by simp [Pu.places] at h
  | a :: l, i, x, h => by
    unfold Pu.places at h
    have ih := places_lt p l (i + 1) x
    split at h
    · rcases List.mem_cons.1 h with rfl | h
      · simp; omega
      · have := ih h; simp; omega
    · have := ih h; simp; omega
theorem fresh_lt {l : List Peer} {t f x : Int} (h : x ∈ Pu.PeersFresh l t f) : 0 ≤ x ∧ x < l.length := by
  unfold Pu.PeersFresh at h; split at h
  · have := places_lt _ _ _ _ h; omega
  · cases h
def carriedFrom (a : List S63) (dn dd t : Int) : List S43 → List Int → List Int → List S43 × List Int
  | L, I, [] => (L, I)
  | L, I, x :: xs =>
    let b := Pu.CarryOn ⟨true, ⟨(rd_T63 a x).f1.f0, (rd_T63 a x).f1.f1⟩, (rd_T63 a x).f2⟩ ⟨dn, dd⟩ t
    if b.2 = 0 then carriedFrom a dn dd t (L ++ [⟨b.1.lo, b.1.hi⟩]) (I ++ [(rd_T63 a x).f0]) xs else carriedFrom a dn dd t L I xs
theorem carried_len (a : List S63) (dn dd t : Int) : ∀ (xs : List Int) (L : List S43) (I : List Int), (carriedFrom a dn dd t L I xs).1.length ≤ L.length + xs.length ∧ (carriedFrom a dn dd t L I xs).2.length ≤ I.length + xs.length
  | [], L, I => by simp [carriedFrom]
  | x :: xs, L, I => by
    have h1 := fun p => carried_len a dn dd t xs (L ++ [p]) (I ++ [(rd_T63 a x).f0])
    have h2 := carried_len a dn dd t xs L I
    simp only [List.length_append, List.length_cons, List.length_nil] at h1 h2 ⊢
    unfold carriedFrom; simp only; split
    · have := h1 ⟨(Pu.CarryOn ⟨true, ⟨(rd_T63 a x).f1.f0, (rd_T63 a x).f1.f1⟩, (rd_T63 a x).f2⟩ ⟨dn, dd⟩ t).1.lo, (Pu.CarryOn ⟨true, ⟨(rd_T63 a x).f1.f0, (rd_T63 a x).f1.f1⟩, (rd_T63 a x).f2⟩ ⟨dn, dd⟩ t).1.hi⟩
      omega
    · omega
theorem carried_loops (a : List S63) (dn dd t : Int) (F : List Int) (hF : F.length ≤ 8) (hin : ∀ x ∈ F, 0 ≤ x ∧ x < (a.length : Int)) (d : Nat) : ∀ (i : Nat) (L : List S43) (I : List Int), i + d = F.length → L.length ≤ i → I.length ≤ i →
    Ev (fun k => spec_PeersCarried.l0 k a t L I F (i : Int) dn dd) (carriedFrom a dn dd t L I (F.drop i)) ∧
    Ev (fun k => impl_PeersCarried.l0 k a t L I F (F.length : Int) (i : Int) dn dd) (carriedFrom a dn dd t L I (F.drop i)) := by
  induction d with
  | zero =>
    intro i L I hi hL hI
    rw [List.drop_eq_nil_of_le (by omega)]
    constructor
    · refine Ev.shift ?_; simp only [spec_PeersCarried.l0]; exact Ev.neg (by omega) (Ev.val rfl)
    · refine Ev.shift ?_; simp only [impl_PeersCarried.l0]; exact Ev.neg (by omega) (Ev.val rfl)
  | succ d ih =>
    intro i L I hi hL hI
    have hl : i < F.length := by omega
    have hw : wrap64 ((i : Int) + 1) = ((i + 1 : Nat) : Int) := by unfold wrap64; omega
    have er : rd F (i : Int) = F[i] := by simp [rd, List.getD_eq_getElem?_getD, hl]
    have hx := hin F[i] (List.getElem_mem hl)
    have h1 := fun x y => ih (i + 1) (L ++ [x]) (I ++ [y]) (by omega) (by simp; omega) (by simp; omega)
    have h2 := ih (i + 1) L I (by omega) (by omega) (by omega)
    rw [List.drop_eq_getElem_cons hl, carriedFrom]
    constructor
    · refine Ev.shift ?_; simp only [spec_PeersCarried.l0, spec_CarryOn.f, Option.bind_some, er, hw]
      refine Ev.pos (by omega) (Ev.pos (by omega) (Ev.pos (by omega) (Ev.pos (by omega) (Ev.ite (fun h => ?_) (fun h => ?_)))))
      · rw [if_pos h]; exact Ev.pos (by omega) (Ev.pos (by omega) (h1 _ _).1)
      · rw [if_neg h]; exact h2.1
    · refine Ev.shift ?_; simp only [impl_PeersCarried.l0, impl_CarryOn.f, Option.bind_some, er, hw]
      refine Ev.pos (by omega) (Ev.pos (by omega) (Ev.pos (by omega) (Ev.pos (by omega) (Ev.pos (by omega) (Ev.ite (fun h => ?_) (fun h => ?_))))))
      · rw [if_pos h]; exact Ev.pos (by simp; omega) (Ev.pos (by simp; omega) (h1 _ _).2)
      · rw [if_neg h]; exact h2.2
theorem both_carried (a : List S63) (dn dd t f : Int) : ∃ (L : List S43) (I : List Int), L.length ≤ 8 ∧ I.length ≤ 8 ∧
    Ev (fun k => spec_PeersCarried.f k a dn dd t f) (L, I) ∧ Ev (fun k => impl_PeersCarried.f k a dn dd t f) (L, I) := by
  have hF := fresh_len (a.map cv63) t f
  have hin : ∀ x ∈ Pu.PeersFresh (a.map cv63) t f, 0 ≤ x ∧ x < (a.length : Int) := fun x hx => by simpa using fresh_lt hx
  have hs := spec_fresh a t f
  have h := carried_loops a dn dd t _ hF hin (Pu.PeersFresh (a.map cv63) t f).length 0 [] [] (by omega) (by simp) (by simp)
  have hl := carried_len a dn dd t (Pu.PeersFresh (a.map cv63) t f) [] []
  rw [List.drop_zero] at h
  refine ⟨(carriedFrom a dn dd t [] [] (Pu.PeersFresh (a.map cv63) t f)).1, (carriedFrom a dn dd t [] [] (Pu.PeersFresh (a.map cv63) t f)).2, by simp at hl; omega, by simp at hl; omega, ?_, ?_⟩
  · unfold spec_PeersCarried.f; exact Ev.bind hs h.1
  · unfold impl_PeersCarried.f; simp only [impl_PeersFresh.f, Option.bind_some]; exact h.2
/-! marks: Ival -/
def mkIval (j : Nat) : S43 := ⟨1 + 2 * (j : Int) + 0, 1 + 2 * (j : Int) + 1⟩
theorem rdsetIval (a : List S43) (i : Nat) (v : S43) (h : i < a.length) : rd_T43 (a.set i v) (i : Int) = v := by simp [rd_T43, List.getD_eq_getElem?_getD, h]
theorem markIval_loop (n : Nat) (hn : n ≤ 3000000) (d : Nat) : ∀ (i : Nat) (a : List S43), i + d = n → a.length = n → Ev (fun k => laws_markIvalS.l0 k a (1 + 2 * (i : Int)) (i : Int)) ((1 + 2 * (n : Int)), a.take i ++ (List.range' i d).map mkIval) := by
  induction d with
  | zero =>
    intro i a hi ha
    refine Ev.shift ?_; simp only [laws_markIvalS.l0]
    refine Ev.ite (fun h => absurd h (by omega)) (fun _ => Ev.val ?_)
    obtain rfl : i = n := by omega
    rw [List.take_of_length_le (by omega)]; simp
  | succ d ih =>
    intro i a hi ha
    have hw : wrap64 ((i : Int) + 1) = ((i + 1 : Nat) : Int) := by unfold wrap64; omega
    have hw0 : wrap64 (1 + 2 * (i : Int) + 1) = 1 + 2 * (i : Int) + 1 := by unfold wrap64; omega
    have hw1 : wrap64 (1 + 2 * (i : Int) + 1 + 1) = 1 + 2 * (i : Int) + 2 := by unfold wrap64; omega
    have hl : i < a.length := by omega
    have hih := ih (i + 1) (a.set i (mkIval i)) (by omega) (by simpa using ha)
    refine Ev.shift ?_; simp only [laws_markIvalS.l0]
    refine Ev.ite (fun _ => ?_) (fun h => absurd (by omega) h)
    refine Ev.ite (fun _ => ?_) (fun h => absurd (by omega) h)
    repeat' (with_reducible refine Ev.bindSome ?_)
    simp only [Int.toNat_natCast]
    simp (disch := simp [hl]) only [rdsetIval, List.set_set, hw, hw0, hw1]
    have e : (1 + 2 * ((i + 1 : Nat) : Int)) = 1 + 2 * (i : Int) + 2 := by omega
    rw [e] at hih
    have e2 : (a.set i (mkIval i)).take (i + 1) ++ (List.range' (i + 1) d).map mkIval = a.take i ++ (List.range' i (d + 1)).map mkIval := by
      rw [List.range'_succ, List.map_cons, List.take_set, List.take_add_one, List.getElem?_eq_getElem hl]
      rw [List.set_append_right _ _ (by simp; omega)]
      have : i - (a.take i).length = 0 := by simp; omega
      rw [this]; simp
    rw [e2] at hih
    simpa [mkIval] using hih
theorem markIval_ev (a : List S43) (hn : a.length ≤ 3000000) : Ev (fun k => laws_markIvalS.f k a 1) ((1 + 2 * (a.length : Int)), (List.range' 0 a.length).map mkIval) := by
  have h := markIval_loop a.length hn a.length 0 a (by omega) rfl
  unfold laws_markIvalS.f
  simpa using h
theorem heldIval_loop (n : Nat) (hn : n ≤ 3000000) (d : Nat) : ∀ (i : Nat), i + d = n → Ev (fun k => laws_heldIvalS.l0 k ((List.range' 0 n).map mkIval) (1 + 2 * (i : Int)) (i : Int)) (1 + 2 * (n : Int)) := by
  induction d with
  | zero =>
    intro i hi
    refine Ev.shift ?_; simp only [laws_heldIvalS.l0]
    refine Ev.ite (fun h => absurd h (by simp; omega)) (fun _ => Ev.val ?_)
    omega
  | succ d ih =>
    intro i hi
    have hw : wrap64 ((i : Int) + 1) = ((i + 1 : Nat) : Int) := by unfold wrap64; omega
    have hw0 : wrap64 (1 + 2 * (i : Int) + 1) = 1 + 2 * (i : Int) + 1 := by unfold wrap64; omega
    have hw1 : wrap64 (1 + 2 * (i : Int) + 1 + 1) = 1 + 2 * (i : Int) + 2 := by unfold wrap64; omega
    have hr : rd_T43 ((List.range' 0 n).map mkIval) (i : Int) = mkIval i := by simp [rd_T43, List.getD_eq_getElem?_getD, show i < n by omega]
    have hih := ih (i + 1) (by omega)
    have e : (1 + 2 * ((i + 1 : Nat) : Int)) = 1 + 2 * (i : Int) + 2 := by omega
    rw [e] at hih
    refine Ev.shift ?_; simp only [laws_heldIvalS.l0, hr, hw, hw0, hw1]
    repeat' (with_reducible refine Ev.ite (fun h => ?_) (fun h => ?_))
    all_goals first | exact hih | (exfalso; simp at h; omega) | (exfalso; apply h; simp [mkIval]; done) | (exfalso; apply h; simp [mkIval]; omega) | (exfalso; omega)
theorem heldIval_ev (n : Nat) (hn : n ≤ 3000000) : Ev (fun k => laws_heldIvalS.f k ((List.range' 0 n).map mkIval) 1) (1 + 2 * (n : Int)) := by
  have h := heldIval_loop n hn n 0 (by omega)
  unfold laws_heldIvalS.f
  simpa using h
/-! marks: Int -/
def mkInt (j : Nat) : Int := 1 + 1 * (j : Int) + 0
theorem rdsetInt (a : List Int) (i : Nat) (v : Int) (h : i < a.length) : rd (a.set i v) (i : Int) = v := by simp [rd, List.getD_eq_getElem?_getD, h]
theorem markInt_loop (n : Nat) (hn : n ≤ 3000000) (d : Nat) : ∀ (i : Nat) (a : List Int), i + d = n → a.length = n → Ev (fun k => laws_markIntS.l0 k a (1 + 1 * (i : Int)) (i : Int)) ((1 + 1 * (n : Int)), a.take i ++ (List.range' i d).map mkInt) := by
  induction d with
  | zero =>
    intro i a hi ha
    refine Ev.shift ?_; simp only [laws_markIntS.l0]
    refine Ev.ite (fun h => absurd h (by omega)) (fun _ => Ev.val ?_)
    obtain rfl : i = n := by omega
    rw [List.take_of_length_le (by omega)]; simp
  | succ d ih =>
    intro i a hi ha
    have hw : wrap64 ((i : Int) + 1) = ((i + 1 : Nat) : Int) := by unfold wrap64; omega
    have hw0 : wrap64 (1 + 1 * (i : Int) + 1) = 1 + 1 * (i : Int) + 1 := by unfold wrap64; omega
    have hl : i < a.length := by omega
    have hih := ih (i + 1) (a.set i (mkInt i)) (by omega) (by simpa using ha)
    refine Ev.shift ?_; simp only [laws_markIntS.l0]
    refine Ev.ite (fun _ => ?_) (fun h => absurd (by omega) h)
    refine Ev.ite (fun _ => ?_) (fun h => absurd (by omega) h)
    repeat' (with_reducible refine Ev.bindSome ?_)
    simp only [Int.toNat_natCast]
    simp (disch := simp [hl]) only [rdsetInt, List.set_set, hw, hw0]
    have e : (1 + 1 * ((i + 1 : Nat) : Int)) = 1 + 1 * (i : Int) + 1 := by omega
    rw [e] at hih
    have e2 : (a.set i (mkInt i)).take (i + 1) ++ (List.range' (i + 1) d).map mkInt = a.take i ++ (List.range' i (d + 1)).map mkInt := by
      rw [List.range'_succ, List.map_cons, List.take_set, List.take_add_one, List.getElem?_eq_getElem hl]
      rw [List.set_append_right _ _ (by simp; omega)]
      have : i - (a.take i).length = 0 := by simp; omega
      rw [this]; simp
    rw [e2] at hih
    simpa [mkInt] using hih
theorem markInt_ev (a : List Int) (hn : a.length ≤ 3000000) : Ev (fun k => laws_markIntS.f k a 1) ((1 + 1 * (a.length : Int)), (List.range' 0 a.length).map mkInt) := by
  have h := markInt_loop a.length hn a.length 0 a (by omega) rfl
  unfold laws_markIntS.f
  simpa using h
theorem heldInt_loop (n : Nat) (hn : n ≤ 3000000) (d : Nat) : ∀ (i : Nat), i + d = n → Ev (fun k => laws_heldIntS.l0 k ((List.range' 0 n).map mkInt) (1 + 1 * (i : Int)) (i : Int)) (1 + 1 * (n : Int)) := by
  induction d with
  | zero =>
    intro i hi
    refine Ev.shift ?_; simp only [laws_heldIntS.l0]
    refine Ev.ite (fun h => absurd h (by simp; omega)) (fun _ => Ev.val ?_)
    omega
  | succ d ih =>
    intro i hi
    have hw : wrap64 ((i : Int) + 1) = ((i + 1 : Nat) : Int) := by unfold wrap64; omega
    have hw0 : wrap64 (1 + 1 * (i : Int) + 1) = 1 + 1 * (i : Int) + 1 := by unfold wrap64; omega
    have hr : rd ((List.range' 0 n).map mkInt) (i : Int) = mkInt i := by simp [rd, List.getD_eq_getElem?_getD, show i < n by omega]
    have hih := ih (i + 1) (by omega)
    have e : (1 + 1 * ((i + 1 : Nat) : Int)) = 1 + 1 * (i : Int) + 1 := by omega
    rw [e] at hih
    refine Ev.shift ?_; simp only [laws_heldIntS.l0, hr, hw, hw0]
    repeat' (with_reducible refine Ev.ite (fun h => ?_) (fun h => ?_))
    all_goals first | exact hih | (exfalso; simp at h; omega) | (exfalso; apply h; simp [mkInt]; done) | (exfalso; apply h; simp [mkInt]; omega) | (exfalso; omega)
theorem heldInt_ev (n : Nat) (hn : n ≤ 3000000) : Ev (fun k => laws_heldIntS.f k ((List.range' 0 n).map mkInt) 1) (1 + 1 * (n : Int)) := by
  have h := heldInt_loop n hn n 0 (by omega)
  unfold laws_heldIntS.f
  simpa using h
theorem eqInt_loop (a : List Int) (hn : a.length ≤ 3000000) (d : Nat) : ∀ (i : Nat), i + d = a.length → Ev (fun k => laws_eqIntS.l0 k a a (i : Int)) true := by
  induction d with
  | zero => intro i hi; refine Ev.shift ?_; simp only [laws_eqIntS.l0]; exact Ev.ite (fun h => absurd h (by omega)) (fun _ => Ev.val rfl)
  | succ d ih =>
    intro i hi
    have hw : wrap64 ((i : Int) + 1) = ((i + 1 : Nat) : Int) := by unfold wrap64; omega
    refine Ev.shift ?_; simp only [laws_eqIntS.l0, hw, ↓reduceIte]
    exact Ev.pos (by omega) (Ev.pos (by omega) (Ev.pos (by omega) (ih (i + 1) (by omega))))
theorem eqInt_ev (a : List Int) (hn : a.length ≤ 3000000) : Ev (fun k => laws_eqIntS.f k a a) true := by
  unfold laws_eqIntS.f
  exact Ev.pos rfl (eqInt_loop a hn a.length 0 (by omega))
/-! marks: Int -/
def mfInt (s : Int) (j : Nat) : Int := s + 1 * (j : Int) + 0
theorem rdsetFInt (a : List Int) (i : Nat) (v : Int) (h : i < a.length) : rd (a.set i v) (i : Int) = v := by simp [rd, List.getD_eq_getElem?_getD, h]
theorem markFInt_loop (s : Int) (hs : 0 ≤ s) (hs2 : s ≤ 100000000) (n : Nat) (hn : n ≤ 3000000) (d : Nat) : ∀ (i : Nat) (a : List Int), i + d = n → a.length = n → Ev (fun k => laws_markIntS.l0 k a (s + 1 * (i : Int)) (i : Int)) ((s + 1 * (n : Int)), a.take i ++ (List.range' i d).map (mfInt s)) := by
  induction d with
  | zero =>
    intro i a hi ha
    refine Ev.shift ?_; simp only [laws_markIntS.l0]
    refine Ev.ite (fun h => absurd h (by omega)) (fun _ => Ev.val ?_)
    obtain rfl : i = n := by omega
    rw [List.take_of_length_le (by omega)]; simp
  | succ d ih =>
    intro i a hi ha
    have hw : wrap64 ((i : Int) + 1) = ((i + 1 : Nat) : Int) := by unfold wrap64; omega
    have hw0 : wrap64 (s + 1 * (i : Int) + 1) = s + 1 * (i : Int) + 1 := by unfold wrap64; omega
    have hl : i < a.length := by omega
    have hih := ih (i + 1) (a.set i (mfInt s i)) (by omega) (by simpa using ha)
    refine Ev.shift ?_; simp only [laws_markIntS.l0]
    refine Ev.ite (fun _ => ?_) (fun h => absurd (by omega) h)
    refine Ev.ite (fun _ => ?_) (fun h => absurd (by omega) h)
    repeat' (with_reducible refine Ev.bindSome ?_)
    simp only [Int.toNat_natCast]
    simp (disch := simp [hl]) only [rdsetFInt, List.set_set, hw, hw0]
    have e : (s + 1 * ((i + 1 : Nat) : Int)) = s + 1 * (i : Int) + 1 := by omega
    rw [e] at hih
    have e2 : (a.set i (mfInt s i)).take (i + 1) ++ (List.range' (i + 1) d).map (mfInt s) = a.take i ++ (List.range' i (d + 1)).map (mfInt s) := by
      rw [List.range'_succ, List.map_cons, List.take_set, List.take_add_one, List.getElem?_eq_getElem hl]
      rw [List.set_append_right _ _ (by simp; omega)]
      have : i - (a.take i).length = 0 := by simp; omega
      rw [this]; simp
    rw [e2] at hih
    simpa [mfInt] using hih
theorem markFInt_ev (s : Int) (hs : 0 ≤ s) (hs2 : s ≤ 100000000) (a : List Int) (hn : a.length ≤ 3000000) : Ev (fun k => laws_markIntS.f k a s) ((s + 1 * (a.length : Int)), (List.range' 0 a.length).map (mfInt s)) := by
  have h := markFInt_loop s hs hs2 a.length hn a.length 0 a (by omega) rfl
  unfold laws_markIntS.f
  simpa using h
theorem heldFInt_loop (s : Int) (hs : 0 ≤ s) (hs2 : s ≤ 100000000) (n : Nat) (hn : n ≤ 3000000) (d : Nat) : ∀ (i : Nat), i + d = n → Ev (fun k => laws_heldIntS.l0 k ((List.range' 0 n).map (mfInt s)) (s + 1 * (i : Int)) (i : Int)) (s + 1 * (n : Int)) := by
  induction d with
  | zero =>
    intro i hi
    refine Ev.shift ?_; simp only [laws_heldIntS.l0]
    refine Ev.ite (fun h => absurd h (by simp; omega)) (fun _ => Ev.val ?_)
    omega
  | succ d ih =>
    intro i hi
    have hw : wrap64 ((i : Int) + 1) = ((i + 1 : Nat) : Int) := by unfold wrap64; omega
    have hw0 : wrap64 (s + 1 * (i : Int) + 1) = s + 1 * (i : Int) + 1 := by unfold wrap64; omega
    have hr : rd ((List.range' 0 n).map (mfInt s)) (i : Int) = mfInt s i := by simp [rd, List.getD_eq_getElem?_getD, show i < n by omega]
    have hih := ih (i + 1) (by omega)
    have e : (s + 1 * ((i + 1 : Nat) : Int)) = s + 1 * (i : Int) + 1 := by omega
    rw [e] at hih
    refine Ev.shift ?_; simp only [laws_heldIntS.l0, hr, hw, hw0]
    repeat' (with_reducible refine Ev.ite (fun h => ?_) (fun h => ?_))
    all_goals first | exact hih | (exfalso; simp at h; omega) | (exfalso; apply h; simp [mfInt]; done) | (exfalso; apply h; simp [mfInt]; omega) | (exfalso; omega)
theorem heldFInt_ev (s : Int) (hs : 0 ≤ s) (hs2 : s ≤ 100000000) (n : Nat) (hn : n ≤ 3000000) : Ev (fun k => laws_heldIntS.f k ((List.range' 0 n).map (mfInt s)) s) (s + 1 * (n : Int)) := by
  have h := heldFInt_loop s hs hs2 n hn n 0 (by omega)
  unfold laws_heldIntS.f
  simpa using h
/-- What is left of the statement: over lists alone. -/
theorem pure_FnExactPeersCarried (l : List S82) (dn dd t f : Int) : ∃ k, laws_FnExactPeersCarried.f k l dn dd t f = some true := by
  apply Ev.rounds
  unfold laws_FnExactPeersCarried.f
  have p1 : (0 : Int) ≤ 1048576 ∧ (1048576 : Int) ≤ 1048576 := by omega
  simp only [laws_szPeerS.f, if_pos p1]
  by_cases ha : l.length ≤ 1048576
  · rw [sz_small (by omega)]
    obtain ⟨L, I, hL, hI, hs, hi⟩ := both_carried ((l.map cv82).map vc63) dn dd t f
    have hm := markPeer_ev ((l.map cv82).map vc63) (by simp; omega)
    have p3 : ¬ (1048576 - (l.length : Int) < 0) := by omega
    simp only [Option.bind_some, if_neg p3, laws_toPeerS.f, laws_toDrift.f, if_pos ha]
    have hm2 := markIval_ev L (by omega)
    have hm3 := markFInt_ev (1 + 2 * (L.length : Int)) (by omega) (by omega) I (by omega)
    have hh2 := heldIval_ev L.length (by omega)
    have hh3 := heldFInt_ev (1 + 2 * (L.length : Int)) (by omega) (by omega) I.length (by omega)
    have hq := eqInt_ev I (by omega)
    simp only [List.length_map] at hm
    repeat' first | (with_reducible refine Ev.bindSome ?_) | (with_reducible refine Ev.pos (by first | omega | exact eqS_Peer _ | exact eqS_Ival _ | (simp; done) | assumption) ?_) | (with_reducible refine Ev.neg (by first | omega | exact eqS_Peer _ | exact eqS_Ival _ | (simp; done) | assumption) ?_) | (with_reducible refine Ev.bindPos (by first | omega | exact eqS_Peer _ | exact eqS_Ival _ | (simp; done) | assumption) ?_) | (with_reducible refine Ev.bindNeg (by first | omega | exact eqS_Peer _ | exact eqS_Ival _ | (simp; done) | assumption) ?_) | (with_reducible refine Ev.ite (fun h => ?_) (fun h => ?_)) | (with_reducible refine Ev.bindIte (fun h => ?_) (fun h => ?_)) | (with_reducible refine Ev.bind hs ?_) | (with_reducible refine Ev.bind hi ?_) | (with_reducible refine Ev.bind hm2 ?_) | (with_reducible refine Ev.bind hm3 ?_) | (with_reducible refine Ev.bind hh2 ?_) | (with_reducible refine Ev.bind hh3 ?_) | (with_reducible refine Ev.bind hq ?_) | (with_reducible refine Ev.bind (Ev.up hs) ?_) | (with_reducible refine Ev.bind (Ev.up hi) ?_) | (with_reducible refine Ev.bind (Ev.up hm2) ?_) | (with_reducible refine Ev.bind (Ev.up hm3) ?_) | (with_reducible refine Ev.bind (Ev.up hh2) ?_) | (with_reducible refine Ev.bind (Ev.up hh3) ?_) | (with_reducible refine Ev.bind (Ev.up hq) ?_) | (with_reducible refine Ev.bind (Ev.up (Ev.up hs)) ?_) | (with_reducible refine Ev.bind (Ev.up (Ev.up hi)) ?_) | (with_reducible refine Ev.bind (Ev.up (Ev.up hm2)) ?_) | (with_reducible refine Ev.bind (Ev.up (Ev.up hm3)) ?_) | (with_reducible refine Ev.bind (Ev.up (Ev.up hh2)) ?_) | (with_reducible refine Ev.bind (Ev.up (Ev.up hh3)) ?_) | (with_reducible refine Ev.bind (Ev.up (Ev.up hq)) ?_) | (with_reducible refine Ev.bind (Ev.up (Ev.up (Ev.up hs))) ?_) | (with_reducible refine Ev.bind (Ev.up (Ev.up (Ev.up hi))) ?_) | (with_reducible refine Ev.bind (Ev.up (Ev.up (Ev.up hm2))) ?_) | (with_reducible refine Ev.bind (Ev.up (Ev.up (Ev.up hm3))) ?_) | (with_reducible refine Ev.bind (Ev.up (Ev.up (Ev.up hh2))) ?_) | (with_reducible refine Ev.bind (Ev.up (Ev.up (Ev.up hh3))) ?_) | (with_reducible refine Ev.bind (Ev.up (Ev.up (Ev.up hq))) ?_) | (simp only [laws_toPeerS.f, laws_eqPeerS.f, laws_eqIvalS.f, laws_toDrift.f, if_pos ha, eqS_Peer, eqS_Ival, hm, Option.bind_some, Option.bind_assoc, ↓reduceIte]) | (with_reducible refine Ev.shift ?_; simp only [laws_FnExactPeersCarried.j0]) | (with_reducible refine Ev.shift ?_; simp only [laws_FnExactPeersCarried.j1]) | (with_reducible refine Ev.shift ?_; simp only [laws_FnExactPeersCarried.j2])
    all_goals first | (exfalso; omega) | (refine Ev.val ?_; simp; done) | (exfalso; simp_all; done) | (exfalso; simp_all; omega)
  · rw [sz_big (n := l.length) (by omega)]
    exact ⟨0, fun k _ => by simp⟩
end Go.Proofs.Ytbfbcecghokpoaa.PPeersCarried
