/-
  Chapter 10: how old it is what a peer has said: the reference and the program tell the same. Plain lists, no memory.
  No statement of the seat is proved here.
-/
import Derived.Test.YtbfbcecghokpoaaPPeerAgex
namespace Go.Proofs.Ytbfbcecghokpoaa.PPeerAge
open Go.RowKit Go.Proofs.YtbfbcecghokpoaaW.PrintWords
set_option linter.unusedVariables false
theorem Ev.ite {α : Type} {c : Prop} [Decidable c] {f g : Nat → Option α} {r : α} (h1 : c → Ev f r) (h2 : ¬ c → Ev g r) : Ev (fun k => if c then f k else g k) r := by
  by_cases h : c
  · simpa only [if_pos h] using h1 h
  · simpa only [if_neg h] using h2 h
theorem Ev.shift {α : Type} {g : Nat → Option α} {r : α} (h : Ev (fun k => g (k + 1)) r) : Ev g r := Ev.step (fun _ => rfl) h
theorem Ev.bindSome {α β : Type} {a : α} {f : Nat → α → Option β} {r : β} (h : Ev (fun k => f k a) r) : Ev (fun k => (some a).bind (f k)) r := h
theorem Ev.up {α : Type} {g : Nat → Option α} {r : α} (h : Ev g r) : Ev (fun k => g (k + 1)) r := by
  obtain ⟨K, h⟩ := h
  exact ⟨K, fun k hk => h (k + 1) (by omega)⟩
theorem Ev.bindIte {α β : Type} {c : Prop} [Decidable c] {f g : Nat → Option α} {h : Nat → α → Option β} {r : β} (h1 : c → Ev (fun k => (f k).bind (h k)) r) (h2 : ¬ c → Ev (fun k => (g k).bind (h k)) r) : Ev (fun k => (if c then f k else g k).bind (h k)) r := by
  by_cases hc : c
  · simpa only [if_pos hc] using h1 hc
  · simpa only [if_neg hc] using h2 hc
theorem Ev.pos {α : Type} {c : Prop} [Decidable c] {f g : Nat → Option α} {r : α} (hc : c) (h : Ev f r) : Ev (fun k => if c then f k else g k) r := by simpa only [if_pos hc] using h
theorem Ev.neg {α : Type} {c : Prop} [Decidable c] {f g : Nat → Option α} {r : α} (hc : ¬ c) (h : Ev g r) : Ev (fun k => if c then f k else g k) r := by simpa only [if_neg hc] using h
theorem Ev.bindPos {α β : Type} {c : Prop} [Decidable c] {f g : Nat → Option α} {h : Nat → α → Option β} {r : β} (hc : c) (h1 : Ev (fun k => (f k).bind (h k)) r) : Ev (fun k => (if c then f k else g k).bind (h k)) r := by simpa only [if_pos hc] using h1
theorem Ev.bindNeg {α β : Type} {c : Prop} [Decidable c] {f g : Nat → Option α} {h : Nat → α → Option β} {r : β} (hc : ¬ c) (h1 : Ev (fun k => (g k).bind (h k)) r) : Ev (fun k => (if c then f k else g k).bind (h k)) r := by simpa only [if_neg hc] using h1
theorem Ev.val {α : Type} {a r : α} (h : a = r) : Ev (fun _ => some a) r := h ▸ Ev.now a
theorem sz_small {n : Nat} {x : Int} (h : (n : Int) ≤ x) : Pu.sz x n = x - n := by unfold Pu.sz; rw [if_neg (by omega)]
theorem sz_big {n : Nat} {x : Int} (h : x < n) : Pu.sz x n = -1 := by unfold Pu.sz; rw [if_pos (by omega)]
/-- All of d places from i on. -/
def allFrom (c : Nat → Bool) : Nat → Nat → Bool
  | _, 0 => true
  | i, d + 1 => c i && allFrom c (i + 1) d
theorem rdPeer (a : List S63) (i : Nat) (h : i < a.length) : rd_T63 a (i : Int) = a[i] := by simp [rd_T63, List.getD_eq_getElem?_getD, h]
theorem atPeer (a : List S63) (i : Nat) (h : i < a.length) : ((a.map cv63)[i]'(by simpa using h)) = ⟨a[i].f0, ⟨a[i].f1.f0, a[i].f1.f1⟩, a[i].f2, a[i].f3⟩ := by simp [cv63]
def ageIn (id t : Int) (l : List Peer) : Int := match l.find? (fun x => x.id == id) with | some x => max (-1) (wrap64 (t - x.pt)) | none => -1
theorem spec_age_loop (a : List S63) (id t : Int) (hn : a.length ≤ 8) (d : Nat) : ∀ (i : Nat), i + d = a.length →
    Ev (fun k => spec_PeerAge.l0 k a id t (i : Int)) (ageIn id t ((a.map cv63).drop i)) := by
  induction d with
  | zero =>
    intro i hi
    refine Ev.shift ?_; simp only [spec_PeerAge.l0]
    rw [List.drop_eq_nil_of_le (by simp; omega)]
    exact Ev.neg (by omega) (Ev.val (by simp [ageIn]))
  | succ d ih =>
    intro i hi
    have hl : i < a.length := by omega
    have hw : wrap64 ((i : Int) + 1) = ((i + 1 : Nat) : Int) := by unfold wrap64; omega
    have h1 := ih (i + 1) (by omega)
    rw [List.drop_eq_getElem_cons (by simpa using hl), atPeer a i hl]
    refine Ev.shift ?_; simp only [spec_PeerAge.l0, spec_l1Max.f, Option.bind_some, rdPeer a i hl, hw]
    refine Ev.pos (by omega) (Ev.pos (by omega) (Ev.ite (fun h => ?_) (fun h => ?_)))
    · refine Ev.val ?_
      simp only [ageIn, List.find?_cons, h, beq_self_eq_true]; omega
    · have e : ageIn id t (⟨a[i].f0, ⟨a[i].f1.f0, a[i].f1.f1⟩, a[i].f2, a[i].f3⟩ :: (a.map cv63).drop (i + 1)) = ageIn id t ((a.map cv63).drop (i + 1)) := by
        have hb : (a[i].f0 == id) = false := by simpa using h
        simp only [ageIn, List.find?_cons, hb]
      rw [e]; exact h1
theorem find_pos {l : List Peer} (hs : l.Pairwise (fun x y => x.id < y.id)) (id : Int) : l.find? (fun x => x.id == id) = if Pu.peerThere l id = true then l[Pu.peerPos l id]? else none := by
  cases hf : l.find? (fun x => x.id == id) with
  | none =>
    rw [if_neg]
    intro h
    unfold Pu.peerThere at h
    obtain ⟨x, hx, he⟩ := List.any_eq_true.1 h
    exact absurd he (by simpa using List.find?_eq_none.1 hf x hx)
  | some x =>
    have he : x.id = id := by simpa using List.find?_some hf
    have hx := List.mem_of_find?_eq_some hf
    obtain ⟨q, hq, e⟩ := List.mem_iff_getElem.1 hx
    have hq' : l[q]? = some x := by rw [List.getElem?_eq_getElem hq, e]
    have hp : Pu.peerPos l id = q := Pu.peerPos_of (by omega) (fun j y hj hy => by have := Pu.sorted_at hs hy hq' hj; omega) (fun y hy => by rw [hq'] at hy; cases hy; omega)
    rw [if_pos, hp, hq']
    unfold Pu.peerThere
    exact List.any_eq_true.2 ⟨x, hx, by simpa using he⟩
def ageOf (l : List Peer) (id t : Int) : Int := if Pu.PeersOk l = true ∧ Pu.isTime t = true then ageIn id t l else -1
theorem spec_age (a : List S63) (id t : Int) : Ev (fun k => spec_PeerAge.f k a id t) (ageOf (a.map cv63) id t) := by
  unfold spec_PeerAge.f ageOf
  simp only [spec_PeersOk.f, spec_l2Time.f, Option.bind_some]
  refine Ev.ite (fun h1 => ?_) (fun h1 => ?_)
  · refine Ev.shift ?_; simp only [spec_PeerAge.j0]
    refine Ev.ite (fun h2 => ?_) (fun h2 => ?_)
    · rw [if_neg (by intro hc; simp [hc.2] at h2)]; exact Ev.val rfl
    · have h2' : Pu.isTime t = true := by simpa using h2
      rw [if_pos ⟨h1, h2'⟩]
      have hb := Pu.PeersOk_bd h1
      simpa using spec_age_loop a id t (by simpa using hb) a.length 0 (by omega)
  · rw [if_neg (fun hc => h1 hc.1)]
    refine Ev.shift ?_; simp only [spec_PeerAge.j0]
    exact Ev.pos (by simp) (Ev.val rfl)
theorem impl_age (a : List S63) (id t : Int) : Ev (fun k => impl_PeerAge.f k a id t) (ageOf (a.map cv63) id t) := by
  unfold impl_PeerAge.f ageOf
  simp only [impl_PeersOk.f, impl_isTime.f, Option.bind_some]
  refine Ev.ite (fun h1 => ?_) (fun h1 => ?_)
  · refine Ev.shift ?_; simp only [impl_PeerAge.j0]
    refine Ev.ite (fun h2 => ?_) (fun h2 => ?_)
    · rw [if_neg (by intro hc; simp [hc.2] at h2)]; exact Ev.val rfl
    · have h2' : Pu.isTime t = true := by simpa using h2
      rw [if_pos ⟨h1, h2'⟩]
      have hs := Pu.peers_sorted h1
      have hf := find_pos hs id
      simp only [impl_peerAt.f, if_pos h1, Option.bind_some]
      refine Ev.ite (fun h3 => ?_) (fun h3 => ?_)
      · rw [if_pos h3] at hf
        have hlt : Pu.peerPos (a.map cv63) id < a.length := by
          unfold Pu.peerThere at h3
          obtain ⟨x, hx, he⟩ := List.any_eq_true.1 h3
          have := List.findIdx_lt_length_of_exists (xs := a.map cv63) (p := fun x => decide (id ≤ x.id)) ⟨x, hx, by simp at he ⊢; omega⟩
          simpa [Pu.peerPos] using this
        rw [List.getElem?_eq_getElem (by simpa using hlt), atPeer a _ hlt] at hf
        refine Ev.pos (by omega) (Ev.pos (by omega) (Ev.val ?_))
        rw [rdPeer a _ hlt]
        simp only [ageIn, hf, mx]; split <;> omega
      · rw [if_neg h3] at hf
        exact Ev.val (by simp only [ageIn, hf])
  · rw [if_neg (fun hc => h1 hc.1)]
    refine Ev.shift ?_; simp only [impl_PeerAge.j0]
    exact Ev.pos (by simp) (Ev.val rfl)
/-- What is left of the statement: over lists alone. -/
theorem pure_FnExactPeerAge (l : List S82) (id t : Int) : ∃ k, laws_FnExactPeerAge.f k l id t = some true := by
  apply Ev.rounds
  unfold laws_FnExactPeerAge.f
  have p1 : (0 : Int) ≤ 1048576 ∧ (1048576 : Int) ≤ 1048576 := by omega
  simp only [laws_szPeerS.f, if_pos p1]
  by_cases ha : l.length ≤ 1048576
  · rw [sz_small (by omega)]
    have hs := spec_age ((l.map cv82).map vc63) id t
    have hi := impl_age ((l.map cv82).map vc63) id t
    have p3 : ¬ (1048576 - (l.length : Int) < 0) := by omega
    simp only [Option.bind_some, if_neg p3, laws_toPeerS.f, if_pos ha]
    repeat' first | (with_reducible refine Ev.bindSome ?_) | (with_reducible refine Ev.pos (by first | omega | exact eqS_Peer _ | (simp; done) | assumption) ?_) | (with_reducible refine Ev.neg (by first | omega | exact eqS_Peer _ | (simp; done) | assumption) ?_) | (with_reducible refine Ev.bindPos (by first | omega | exact eqS_Peer _ | (simp; done) | assumption) ?_) | (with_reducible refine Ev.bindNeg (by first | omega | exact eqS_Peer _ | (simp; done) | assumption) ?_) | (with_reducible refine Ev.ite (fun h => ?_) (fun h => ?_)) | (with_reducible refine Ev.bindIte (fun h => ?_) (fun h => ?_)) | (with_reducible refine Ev.bind hs ?_) | (with_reducible refine Ev.bind hi ?_) | (simp only [laws_toPeerS.f, laws_eqPeerS.f, if_pos ha, eqS_Peer, Option.bind_some, Option.bind_assoc, ↓reduceIte])
    all_goals first | (exfalso; omega) | (refine Ev.val ?_; simp; done) | (exfalso; simp_all; done)
  · rw [sz_big (n := l.length) (by omega)]
    exact ⟨0, fun k _ => by simp⟩
end Go.Proofs.Ytbfbcecghokpoaa.PPeerAge
