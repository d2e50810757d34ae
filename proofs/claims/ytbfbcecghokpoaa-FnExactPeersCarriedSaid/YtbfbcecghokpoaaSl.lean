/-
  Slices: how a slice of structs lies in memory, in the words of the kit's printing tool, and what a walk reads at an index.
  No statement of the seat is proved here.
-/
import Derived.Test.YtbfbcecghokpoaaTypes
import Derived.Test.YtbfbcecghokpoaaBase
import Derived.Test.YtbfbcecghokpoaaWWords
namespace Go.Proofs.Ytbfbcecghokpoaa
open Go.RowKit Go.Proofs.YtbfbcecghokpoaaW.PrintWords

@[go_sem] theorem junk_cell_at (w : World) (g : Array Obj) (d : Nat) (a : Addr) (hn : a.block < w.heap.size) : (junk w g d).cell? a = w.cell? a :=
  World.cell?_of_block (junk_block w g d a.block hn)
@[go_sem] theorem junk_frozen_at (w : World) (g : Array Obj) (d : Nat) (a : Addr) (hn : a.block < w.heap.size) : (junk w g d).frozen? a = w.frozen? a :=
  World.frozen?_of_block (junk_block w g d a.block hn)

namespace Pu
/-- What is left of a bound on an argument's size. -/
def sz (left : Int) (n : Nat) : Int := if left - n < 0 then -1 else left - n
theorem sz_cases (n : Nat) : (sz 1048576 n = -1 ∧ 1048576 < n) ∨ (0 ≤ sz 1048576 n ∧ n ≤ 1048576) := by unfold sz; split <;> omega
/-- Two lists by a comparison of their elements. -/
def eqS {α : Type} (e : α → α → Bool) : List α → List α → Bool
  | [], [] => true
  | x :: xs, y :: ys => e x y && eqS e xs ys
  | _, _ => false
theorem eqS_self {α : Type} {e : α → α → Bool} (h : ∀ x, e x x = true) : ∀ l : List α, eqS e l l = true
  | [] => rfl
  | x :: xs => by simp [eqS, h, eqS_self h xs]
theorem eqS_len {α : Type} {e : α → α → Bool} : ∀ {a b : List α}, a.length ≠ b.length → eqS e a b = false
  | [], [], h => absurd rfl h
  | [], _ :: _, _ => rfl
  | _ :: _, [], _ => rfl
  | x :: xs, y :: ys, h => by simp [eqS, eqS_len (a := xs) (b := ys) (by simpa using h)]
theorem eqS_drop {α : Type} {e : α → α → Bool} {a b : List α} {k : Nat} {x y : α} (hx : a[k]? = some x) (hy : b[k]? = some y) : eqS e (a.drop k) (b.drop k) = (e x y && eqS e (a.drop (k + 1)) (b.drop (k + 1))) := by
  obtain ⟨h1, rfl⟩ := List.getElem?_eq_some_iff.1 hx
  obtain ⟨h2, rfl⟩ := List.getElem?_eq_some_iff.1 hy
  rw [List.drop_eq_getElem_cons h1, List.drop_eq_getElem_cons h2]; rfl
theorem fill {α : Type} {a : List α} {k : Nat} {x z : α} (hx : a[k]? = some x) : (a.take k ++ List.replicate (a.length - k) z).set k x = a.take (k + 1) ++ List.replicate (a.length - (k + 1)) z := by
  obtain ⟨h, rfl⟩ := List.getElem?_eq_some_iff.1 hx
  have e : a.length - k = (a.length - (k + 1)) + 1 := by omega
  rw [e, List.replicate_succ, List.set_append_right _ _ (by simp; omega)]
  have e2 : k - (a.take k).length = 0 := by simp; omega
  rw [e2, List.set_cons_zero, List.take_add_one, List.getElem?_eq_getElem h, List.append_assoc]; rfl
theorem drop_cons {α : Type} {l : List α} {k : Nat} {x : α} (hx : l[k]? = some x) : l.drop k = x :: l.drop (k + 1) := by
  obtain ⟨h, rfl⟩ := List.getElem?_eq_some_iff.1 hx
  exact List.drop_eq_getElem_cons h
/-- The first place at which p holds, counted from i; or -1. -/
def idx {α : Type} (p : α → Bool) : Nat → List α → Int
  | _, [] => -1
  | i, x :: xs => if p x = true then (i : Int) else idx p (i + 1) xs
theorem idx_any {α : Type} (p : α → Bool) : ∀ (i : Nat) (l : List α), (0 ≤ idx p i l ↔ l.any p = true) ∧ -1 ≤ idx p i l ∧ idx p i l ≤ i + l.length
  | i, [] => by simp [idx]
  | i, x :: xs => by
    unfold idx
    have h := idx_any p (i + 1) xs
    by_cases hp : p x = true
    · simp [hp]; omega
    · rw [if_neg hp]; simp only [List.any_cons, Bool.or_eq_true, List.length_cons, hp, Bool.false_eq_true, false_or]
      exact ⟨h.1, h.2.1, by have := h.2.2; omega⟩
/-- The places at which p holds, counted from i. -/
def places {α : Type} (p : α → Bool) : Nat → List α → List Int
  | _, [] => []
  | i, x :: xs => if p x = true then (i : Int) :: places p (i + 1) xs else places p (i + 1) xs
theorem places_len {α : Type} (p : α → Bool) : ∀ (i : Nat) (l : List α), (places p i l).length = l.countP p
  | _, [] => rfl
  | i, x :: xs => by
    unfold places
    by_cases hp : p x = true
    · rw [if_pos hp, List.length_cons, places_len, List.countP_cons_of_pos hp]
    · rw [if_neg hp, places_len, List.countP_cons_of_neg hp]
end Pu
theorem R_open {α : Type} {k : Kd α} {e : Nat} {w : World} {base : Nat} {ok : Nat → Prop} {v : Value} {xs : List α} (h : k.R e w base ok v xs) :
    ∃ A c, v = .slice A xs.length c ∧ k.C w A xs.length xs ∧ xs.length ≤ c := by
  obtain ⟨A, c, rfl⟩ := Kd.R_slice h
  obtain ⟨_, h2, h3⟩ := Kd.R_reads' h
  exact ⟨A, c, rfl, h3, h2⟩

theorem C_map {α β : Type} {d : Kd α} {d' : Kd β} (f : α → β) (hs : d.sz = d'.sz) (hK : ∀ w x cs, d.K w x cs → d'.K w (f x) cs) {w : World} {A : Option Addr} {n : Nat} {xs : List α} (h : d.C w A n xs) : d'.C w A n (xs.map f) := by
  obtain ⟨h1, h2, h3⟩ := h
  refine ⟨by rw [List.length_map, h1], h2, fun hn => ?_⟩
  obtain ⟨ad, e, hc⟩ := h3 hn
  refine ⟨ad, e, fun j p hp => ?_⟩
  rw [List.getElem?_map] at hp
  obtain ⟨q, hq, rfl⟩ := Option.map_eq_some_iff.1 hp
  obtain ⟨c, hl, hk, hcc⟩ := hc j q hq
  exact ⟨c, by rw [hl, hs], hK _ _ _ hk, fun i u hu => by rw [← hs]; exact hcc i u hu⟩
theorem R_map {α β : Type} {d : Kd α} {d' : Kd β} (f : α → β) (hs : d.sz = d'.sz) (hM : ∀ w base ok x cs, d.M w base ok x cs → d'.M w base ok (f x) cs) {e : Nat} {w : World} {base : Nat} {ok : Nat → Prop} {v : Value} {xs : List α} (h : d.R e w base ok v xs) : d'.R e w base ok v (xs.map f) := by
  obtain ⟨h0, inner, ho, hl, hr⟩ := h
  refine ⟨h0, inner, by rw [List.length_map, ← hs]; exact ho, by rw [List.length_map, ← hs]; exact hl, fun j p hp => ?_⟩
  rw [List.getElem?_map] at hp
  obtain ⟨q, hq, rfl⟩ := Option.map_eq_some_iff.1 hp
  rw [← hs]
  exact hM _ _ _ _ _ (hr j q hq)

/-! Ival -/
def kIval : Kd Ival := Kd.iso (Kd.pair (Kd.int .i64) (Kd.int .i64)) (fun x : Ival => (x.lo, x.hi))
theorem kIval_open {w : World} {x : Ival} {cs : List Value} (h : kIval.K w x cs) : cs = [.int .i64 x.lo, .int .i64 x.hi] := by
  obtain ⟨_, _, rfl, rfl, rfl⟩ := h
  exact rfl
theorem kIval_mk (w : World) (x : Ival) : kIval.K w x [.int .i64 x.lo, .int .i64 x.hi] := ⟨[.int .i64 x.lo], [.int .i64 x.hi], rfl, rfl, rfl⟩
theorem kIval_mkM (w : World) (base : Nat) (ok : Nat → Prop) (x : Ival) : kIval.M w base ok x [.int .i64 x.lo, .int .i64 x.hi] := ⟨[.int .i64 x.lo], [.int .i64 x.hi], rfl, rfl, rfl⟩
theorem kIval_openM {w : World} {base : Nat} {ok : Nat → Prop} {x : Ival} {cs : List Value} (h : kIval.M w base ok x cs) : cs = [.int .i64 x.lo, .int .i64 x.hi] := by
  obtain ⟨_, _, rfl, rfl, rfl⟩ := h
  exact rfl
theorem at_Ival {w : World} {A : Option Addr} {n : Nat} {xs : List Ival} (h : Kd.C kIval w A n xs) (i : Nat) (h1 : i < n) : ∃ ad x, A = some ad ∧ xs[i]? = some x ∧ (ad.add (i * 2)).block < w.heap.size ∧ w.cell? (ad.add (i * 2)) = some (.int .i64 x.lo) ∧ w.cell? ⟨(ad.add (i * 2)).block, (ad.add (i * 2)).off + 1, none⟩ = some (.int .i64 x.hi) := by
  obtain ⟨hl, _, hc⟩ := h
  obtain ⟨ad, e, hc⟩ := hc (by omega)
  have hi : i < xs.length := by omega
  obtain ⟨c, _, hK, hcc⟩ := hc i _ (List.getElem?_eq_getElem hi)
  obtain rfl := kIval_open hK
  have h0 := hcc 0 _ rfl
  exact ⟨ad, _, e, List.getElem?_eq_getElem hi, World.block_lt_of_cell? w _ h0, h0, by rw [← add_field _ _ 1 (by omega)]; exact hcc 1 _ rfl⟩
theorem own_Ival {e : Nat} {W : World} {base : Nat} {ok : Nat → Prop} {v : Value} {xs : List Ival} (h : Kd.R kIval e W base ok v xs) (i : Nat) (hi : i < xs.length) :
    ∃ g cap x, v = .slice (some ⟨g, 0, none⟩) xs.length cap ∧ base ≤ g ∧ g < W.heap.size ∧ xs[i]? = some x ∧ W.cell? ⟨g, i * 2, none⟩ = some (.int .i64 x.lo) ∧ W.cell? ⟨g, i * 2 + 1, none⟩ = some (.int .i64 x.hi) ∧ W.frozen? ⟨g, i * 2, none⟩ = false ∧ W.frozen? ⟨g, i * 2 + 1, none⟩ = false := by
  obtain ⟨g, cap, rfl, hb, hl, _⟩ := Kd.R_form h (by omega)
  obtain ⟨c, _, hM, hc, hf⟩ := Kd.R_elem h xs[i] (i : Int) (by omega) (by omega)
  have hx : xs.getD (i : Int).toNat xs[i] = xs[i] := by simp [List.getD, hi]
  rw [hx] at hM
  obtain rfl := kIval_openM hM
  exact ⟨g, cap, xs[i], rfl, hb, hl, List.getElem?_eq_getElem hi, hc 0 _ rfl, hc 1 _ rfl, hf 0, hf 1⟩
theorem put_Ival {e : Nat} {W : World} {base : Nat} {ok : Nat → Prop} {g n cap : Nat} {xs : List Ival} (h : Kd.R kIval e W base ok (.slice (some ⟨g, 0, none⟩) n cap) xs) (i : Nat) (hi : i < n) (x : Ival) :
    Kd.R kIval e ((W.setCell ⟨g, i * 2, none⟩ (.int .i64 x.lo)).setCell ⟨g, i * 2 + 1, none⟩ (.int .i64 x.hi)) base ok (.slice (some ⟨g, 0, none⟩) n cap) (xs.set i x) := by
  obtain ⟨hn, _, _⟩ := Kd.R_reads' h
  obtain ⟨c, hl, _, hc, _⟩ := Kd.R_elem h x (i : Int) (by omega) (by omega)
  exact (Kd.R_seg h (i : Int) (by omega) (by omega) (seg := [.int .i64 x.lo, .int .i64 x.hi]) (j := 0) (okp := fun _ => False) hl hc (show 2 ≤ 2 from by decide) (x' := x) (by
    have e : c.take 0 ++ [.int .i64 x.lo, .int .i64 x.hi] ++ c.drop (0 + 2) = [.int .i64 x.lo, .int .i64 x.hi] := by rw [List.drop_eq_nil_of_le (by rw [hl]; show 2 ≤ 0 + 2; omega)]; rfl
    show Kd.M kIval W base (fun _ => False) x (c.take 0 ++ [.int .i64 x.lo, .int .i64 x.hi] ++ c.drop (0 + 2))
    rw [e]; exact kIval_mkM _ _ _ x) (fun _ (hk : False) => hk.elim)).1
@[go_sem] theorem eqS_Ival (l : List Ival) : Pu.eqS Pu.eqIval l l = true := Pu.eqS_self (fun x => Pu.eqIval_self x) l

/-! Peer -/
def kPeer : Kd Peer := Kd.iso (Kd.pair (Kd.int .i64) (Kd.pair (Kd.int .i64) (Kd.pair (Kd.int .i64) (Kd.pair (Kd.int .i64) Kd.bool)))) (fun x : Peer => (x.id, x.bound.lo, x.bound.hi, x.pt, x.suspect))
theorem kPeer_open {w : World} {x : Peer} {cs : List Value} (h : kPeer.K w x cs) : cs = [.int .i64 x.id, .int .i64 x.bound.lo, .int .i64 x.bound.hi, .int .i64 x.pt, .bool x.suspect] := by
  obtain ⟨_, _, rfl, rfl, _, _, rfl, rfl, _, _, rfl, rfl, _, _, rfl, rfl, rfl⟩ := h
  exact rfl
theorem kPeer_mk (w : World) (x : Peer) : kPeer.K w x [.int .i64 x.id, .int .i64 x.bound.lo, .int .i64 x.bound.hi, .int .i64 x.pt, .bool x.suspect] := ⟨[.int .i64 x.id], [.int .i64 x.bound.lo, .int .i64 x.bound.hi, .int .i64 x.pt, .bool x.suspect], rfl, rfl, ⟨[.int .i64 x.bound.lo], [.int .i64 x.bound.hi, .int .i64 x.pt, .bool x.suspect], rfl, rfl, ⟨[.int .i64 x.bound.hi], [.int .i64 x.pt, .bool x.suspect], rfl, rfl, ⟨[.int .i64 x.pt], [.bool x.suspect], rfl, rfl, rfl⟩⟩⟩⟩
theorem kPeer_mkM (w : World) (base : Nat) (ok : Nat → Prop) (x : Peer) : kPeer.M w base ok x [.int .i64 x.id, .int .i64 x.bound.lo, .int .i64 x.bound.hi, .int .i64 x.pt, .bool x.suspect] := ⟨[.int .i64 x.id], [.int .i64 x.bound.lo, .int .i64 x.bound.hi, .int .i64 x.pt, .bool x.suspect], rfl, rfl, ⟨[.int .i64 x.bound.lo], [.int .i64 x.bound.hi, .int .i64 x.pt, .bool x.suspect], rfl, rfl, ⟨[.int .i64 x.bound.hi], [.int .i64 x.pt, .bool x.suspect], rfl, rfl, ⟨[.int .i64 x.pt], [.bool x.suspect], rfl, rfl, rfl⟩⟩⟩⟩
theorem kPeer_openM {w : World} {base : Nat} {ok : Nat → Prop} {x : Peer} {cs : List Value} (h : kPeer.M w base ok x cs) : cs = [.int .i64 x.id, .int .i64 x.bound.lo, .int .i64 x.bound.hi, .int .i64 x.pt, .bool x.suspect] := by
  obtain ⟨_, _, rfl, rfl, _, _, rfl, rfl, _, _, rfl, rfl, _, _, rfl, rfl, rfl⟩ := h
  exact rfl
theorem at_Peer {w : World} {A : Option Addr} {n : Nat} {xs : List Peer} (h : Kd.C kPeer w A n xs) (i : Nat) (h1 : i < n) : ∃ ad x, A = some ad ∧ xs[i]? = some x ∧ (ad.add (i * 5)).block < w.heap.size ∧ w.cell? (ad.add (i * 5)) = some (.int .i64 x.id) ∧ w.cell? ⟨(ad.add (i * 5)).block, (ad.add (i * 5)).off + 1, none⟩ = some (.int .i64 x.bound.lo) ∧ w.cell? ⟨(ad.add (i * 5)).block, (ad.add (i * 5)).off + 2, none⟩ = some (.int .i64 x.bound.hi) ∧ w.cell? ⟨(ad.add (i * 5)).block, (ad.add (i * 5)).off + 3, none⟩ = some (.int .i64 x.pt) ∧ w.cell? ⟨(ad.add (i * 5)).block, (ad.add (i * 5)).off + 4, none⟩ = some (.bool x.suspect) := by
  obtain ⟨hl, _, hc⟩ := h
  obtain ⟨ad, e, hc⟩ := hc (by omega)
  have hi : i < xs.length := by omega
  obtain ⟨c, _, hK, hcc⟩ := hc i _ (List.getElem?_eq_getElem hi)
  obtain rfl := kPeer_open hK
  have h0 := hcc 0 _ rfl
  exact ⟨ad, _, e, List.getElem?_eq_getElem hi, World.block_lt_of_cell? w _ h0, h0, by rw [← add_field _ _ 1 (by omega)]; exact hcc 1 _ rfl, by rw [← add_field _ _ 2 (by omega)]; exact hcc 2 _ rfl, by rw [← add_field _ _ 3 (by omega)]; exact hcc 3 _ rfl, by rw [← add_field _ _ 4 (by omega)]; exact hcc 4 _ rfl⟩
theorem own_Peer {e : Nat} {W : World} {base : Nat} {ok : Nat → Prop} {v : Value} {xs : List Peer} (h : Kd.R kPeer e W base ok v xs) (i : Nat) (hi : i < xs.length) :
    ∃ g cap x, v = .slice (some ⟨g, 0, none⟩) xs.length cap ∧ base ≤ g ∧ g < W.heap.size ∧ xs[i]? = some x ∧ W.cell? ⟨g, i * 5, none⟩ = some (.int .i64 x.id) ∧ W.cell? ⟨g, i * 5 + 1, none⟩ = some (.int .i64 x.bound.lo) ∧ W.cell? ⟨g, i * 5 + 2, none⟩ = some (.int .i64 x.bound.hi) ∧ W.cell? ⟨g, i * 5 + 3, none⟩ = some (.int .i64 x.pt) ∧ W.cell? ⟨g, i * 5 + 4, none⟩ = some (.bool x.suspect) ∧ W.frozen? ⟨g, i * 5, none⟩ = false ∧ W.frozen? ⟨g, i * 5 + 1, none⟩ = false ∧ W.frozen? ⟨g, i * 5 + 2, none⟩ = false ∧ W.frozen? ⟨g, i * 5 + 3, none⟩ = false ∧ W.frozen? ⟨g, i * 5 + 4, none⟩ = false := by
  obtain ⟨g, cap, rfl, hb, hl, _⟩ := Kd.R_form h (by omega)
  obtain ⟨c, _, hM, hc, hf⟩ := Kd.R_elem h xs[i] (i : Int) (by omega) (by omega)
  have hx : xs.getD (i : Int).toNat xs[i] = xs[i] := by simp [List.getD, hi]
  rw [hx] at hM
  obtain rfl := kPeer_openM hM
  exact ⟨g, cap, xs[i], rfl, hb, hl, List.getElem?_eq_getElem hi, hc 0 _ rfl, hc 1 _ rfl, hc 2 _ rfl, hc 3 _ rfl, hc 4 _ rfl, hf 0, hf 1, hf 2, hf 3, hf 4⟩
theorem put_Peer {e : Nat} {W : World} {base : Nat} {ok : Nat → Prop} {g n cap : Nat} {xs : List Peer} (h : Kd.R kPeer e W base ok (.slice (some ⟨g, 0, none⟩) n cap) xs) (i : Nat) (hi : i < n) (x : Peer) :
    Kd.R kPeer e (((((W.setCell ⟨g, i * 5, none⟩ (.int .i64 x.id)).setCell ⟨g, i * 5 + 1, none⟩ (.int .i64 x.bound.lo)).setCell ⟨g, i * 5 + 2, none⟩ (.int .i64 x.bound.hi)).setCell ⟨g, i * 5 + 3, none⟩ (.int .i64 x.pt)).setCell ⟨g, i * 5 + 4, none⟩ (.bool x.suspect)) base ok (.slice (some ⟨g, 0, none⟩) n cap) (xs.set i x) := by
  obtain ⟨hn, _, _⟩ := Kd.R_reads' h
  obtain ⟨c, hl, _, hc, _⟩ := Kd.R_elem h x (i : Int) (by omega) (by omega)
  exact (Kd.R_seg h (i : Int) (by omega) (by omega) (seg := [.int .i64 x.id, .int .i64 x.bound.lo, .int .i64 x.bound.hi, .int .i64 x.pt, .bool x.suspect]) (j := 0) (okp := fun _ => False) hl hc (show 5 ≤ 5 from by decide) (x' := x) (by
    have e : c.take 0 ++ [.int .i64 x.id, .int .i64 x.bound.lo, .int .i64 x.bound.hi, .int .i64 x.pt, .bool x.suspect] ++ c.drop (0 + 5) = [.int .i64 x.id, .int .i64 x.bound.lo, .int .i64 x.bound.hi, .int .i64 x.pt, .bool x.suspect] := by rw [List.drop_eq_nil_of_le (by rw [hl]; show 5 ≤ 0 + 5; omega)]; rfl
    show Kd.M kPeer W base (fun _ => False) x (c.take 0 ++ [.int .i64 x.id, .int .i64 x.bound.lo, .int .i64 x.bound.hi, .int .i64 x.pt, .bool x.suspect] ++ c.drop (0 + 5))
    rw [e]; exact kPeer_mkM _ _ _ x) (fun _ (hk : False) => hk.elim)).1
@[go_sem] theorem eqS_Peer (l : List Peer) : Pu.eqS Pu.eqPeer l l = true := Pu.eqS_self (fun x => Pu.eqPeer_self x) l

end Go.Proofs.Ytbfbcecghokpoaa
