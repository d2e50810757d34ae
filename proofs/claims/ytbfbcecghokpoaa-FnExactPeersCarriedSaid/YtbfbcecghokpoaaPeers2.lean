/-
  Chapter 10: fresh peers, and where a peer stands, as plain functions of lists.
  No statement of the seat is proved here.
-/
import Derived.Test.YtbfbcecghokpoaaPeers
import Derived.Test.YtbfbcecghokpoaaFracs
namespace Go.Proofs.Ytbfbcecghokpoaa
open Go.RowKit
namespace Pu
def PeersFresh (l : List Peer) (t f : Int) : List Int := if PeersOk l = true ∧ isTime t = true ∧ isTime f = true then places (fun x => In (wrap64 (t - x.pt)) 0 f) 0 l else []
theorem PeersFresh_ok {l : List Peer} {t f : Int} (h1 : PeersOk l = true) (h2 : isTime t = true) (h3 : isTime f = true) : PeersFresh l t f = places (fun x => In (wrap64 (t - x.pt)) 0 f) 0 l := if_pos ⟨h1, h2, h3⟩
theorem PeersFresh_bad {l : List Peer} {t f : Int} (h : PeersOk l = false ∨ isTime t = false ∨ isTime f = false) : PeersFresh l t f = [] := if_neg (by rcases h with h | h | h <;> simp [h])
/-- The place of the first peer whose Id is not below id. -/
def peerPos (l : List Peer) (id : Int) : Nat := l.findIdx fun x => decide (id ≤ x.id)
def peerThere (l : List Peer) (id : Int) : Bool := l.any fun x => x.id == id
/-- From each prev on the Ids grow. -/
theorem peersFrom_mono : ∀ (l : List Peer) (prev : Option Int), peersFrom prev l = true → l.Pairwise (fun x y => x.id < y.id) ∧ ∀ q, prev = some q → ∀ x ∈ l, q < x.id
  | [], _, _ => ⟨List.Pairwise.nil, by simp⟩
  | x :: xs, prev, h => by
    simp only [peersFrom, Bool.and_eq_true] at h
    obtain ⟨_, _, _, h4, h5⟩ := h
    obtain ⟨h6, h7⟩ := peersFrom_mono xs _ h5
    refine ⟨List.Pairwise.cons (fun y hy => h7 _ rfl y hy) h6, fun q hq y hy => ?_⟩
    subst hq
    have h8 : q < x.id := by simpa using h4
    rcases List.mem_cons.1 hy with rfl | hy
    · exact h8
    · have := h7 _ rfl y hy; omega
theorem peers_sorted {l : List Peer} (h : PeersOk l = true) : l.Pairwise (fun x y => x.id < y.id) := by
  simp only [PeersOk, Bool.and_eq_true] at h
  exact (peersFrom_mono l none h.2).1
theorem sorted_at {l : List Peer} (h : l.Pairwise (fun x y => x.id < y.id)) {i j : Nat} {x y : Peer} (hx : l[i]? = some x) (hy : l[j]? = some y) (hij : i < j) : x.id < y.id := by
  obtain ⟨h1, rfl⟩ := List.getElem?_eq_some_iff.1 hx
  obtain ⟨h2, rfl⟩ := List.getElem?_eq_some_iff.1 hy
  exact List.pairwise_iff_getElem.1 h i j h1 h2 hij
/-- What the search keeps: all below i are below id, all from j on are not. -/
theorem peerPos_of {l : List Peer} {id : Int} {i : Nat} (hi : i ≤ l.length) (hlo : ∀ q x, q < i → l[q]? = some x → x.id < id) (hhi : ∀ x, l[i]? = some x → id ≤ x.id) : peerPos l id = i := by
  unfold peerPos
  rcases Nat.lt_or_ge i l.length with h | h
  · rw [List.findIdx_eq h]
    refine ⟨by simpa using hhi _ (List.getElem?_eq_getElem h), fun q hq => ?_⟩
    have := hlo q _ hq (List.getElem?_eq_getElem (by omega))
    simp; omega
  · have : i = l.length := by omega
    subst this
    rw [List.findIdx_eq_length]
    intro x hx
    obtain ⟨q, hq, rfl⟩ := List.mem_iff_getElem.1 hx
    have := hlo q _ hq (List.getElem?_eq_getElem hq)
    simp; omega
theorem peerThere_of {l : List Peer} {id : Int} {i : Nat} (hs : l.Pairwise (fun x y => x.id < y.id)) (hlo : ∀ q x, q < i → l[q]? = some x → x.id < id) (hhi : ∀ q x, i ≤ q → l[q]? = some x → id ≤ x.id) : peerThere l id = (match l[i]? with | some x => x.id == id | none => false) := by
  unfold peerThere
  rw [Bool.eq_iff_iff, List.any_eq_true]
  constructor
  · rintro ⟨x, hx, he⟩
    obtain ⟨q, hq, rfl⟩ := List.mem_iff_getElem.1 hx
    have he' : l[q].id = id := by simpa using he
    rcases Nat.lt_or_ge q i with h | h
    · have := hlo q _ h (List.getElem?_eq_getElem hq); omega
    · rcases Nat.lt_or_ge i q with h2 | h2
      · have h3 := sorted_at hs (List.getElem?_eq_getElem (show i < l.length by omega)) (List.getElem?_eq_getElem hq) h2
        have h4 := hhi i _ (Nat.le_refl _) (List.getElem?_eq_getElem (show i < l.length by omega))
        omega
      · obtain rfl : q = i := by omega
        rw [List.getElem?_eq_getElem hq]; exact he
  · intro h
    cases hx : l[i]? with
    | none => rw [hx] at h; cases h
    | some x =>
      rw [hx] at h
      exact ⟨x, List.mem_of_getElem? hx, h⟩
theorem Cmp_lt0 {x y : Int} (h : Cmp x y < 0) : x < y := by
  unfold Cmp at h
  split at h
  · assumption
  · split at h <;> omega
theorem Cmp_ge0 {x y : Int} (h : ¬ Cmp x y < 0) : y ≤ x := by
  unfold Cmp at h
  split at h <;> omega
theorem Cmp_eq0 (x y : Int) : (Cmp x y == 0) = (x == y) := by
  unfold Cmp; rw [Bool.eq_iff_iff]; split
  · simp; omega
  · split
    · simp; omega
    · simp; omega
end Pu
end Go.Proofs.Ytbfbcecghokpoaa
