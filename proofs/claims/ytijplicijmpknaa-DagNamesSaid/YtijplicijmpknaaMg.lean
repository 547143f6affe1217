/- Two lists of hashes that rise, merged. No program. -/
import Derived.Test.YtijplicijmpknaaHo
import Derived.Test.YtijplicijmpknaaArg
namespace Go.Proofs.Ytijplicijmpknaa
open Go.RowKit

theorem drop_flat (zs : List Hs) (n : Nat) : (zs.flatMap hc).drop (n * 32) = (zs.drop n).flatMap hc := by
  have h1 := flat_take hc_len zs n
  have h2 : zs.flatMap hc = (zs.take n).flatMap hc ++ (zs.drop n).flatMap hc := by rw [← List.flatMap_append, List.take_append_drop]
  by_cases hn : n ≤ zs.length
  · have h3 : ((zs.take n).flatMap hc).length = n * 32 := by rw [hs_len, List.length_take, Nat.min_eq_left hn]
    rw [h2, ← h3, List.drop_left]
  · rw [List.drop_eq_nil_of_le (by rw [hs_len]; omega), List.drop_eq_nil_of_le (by omega)]; rfl
theorem Rd.hcut {A : HP} {a : Option Addr} {l : List Hs} (h : Rd A a (l.flatMap hc)) {c : Nat} (n : Nat) (hl : l.length ≤ c) : Rd A (a.map fun g => cutAt g c n 32) ((l.drop n).flatMap hc) := by
  have := h.cut (cap := c) (j := n) (size := 32) (by rw [hs_len]; omega)
  rwa [drop_flat l n] at this
theorem Rd.htake {A : HP} {a : Option Addr} {l : List Hs} (h : Rd A a (l.flatMap hc)) (n : Nat) : Rd A a ((l.take n).flatMap hc) := by
  rw [flat_take hc_len]; exact h.take _
def mg : List Hs → List Hs → List Hs
  | [], ys => ys
  | xs, [] => xs
  | x :: xs, y :: ys => if cmpH x y < 0 then x :: mg xs (y :: ys) else if cmpH x y = 0 then x :: mg xs ys else y :: mg (x :: xs) ys
termination_by xs ys => xs.length + ys.length
theorem mg_nil (ys : List Hs) : mg [] ys = ys := by unfold mg; rfl
theorem mg_nil' (xs : List Hs) : mg xs [] = xs := by cases xs <;> (unfold mg; rfl)
theorem mg_cons (x : Hs) (xs : List Hs) (y : Hs) (ys : List Hs) : mg (x :: xs) (y :: ys) = if cmpH x y < 0 then x :: mg xs (y :: ys) else if cmpH x y = 0 then x :: mg xs ys else y :: mg (x :: xs) ys := by
  rw [mg]
theorem mg_len (xs ys : List Hs) : (mg xs ys).length ≤ xs.length + ys.length := by
  match xs, ys with
  | [], ys => rw [mg_nil]; simp
  | x :: xs, [] => rw [mg_nil']; simp
  | x :: xs, y :: ys =>
    have h1 := mg_len xs (y :: ys)
    have h2 := mg_len xs ys
    have h3 := mg_len (x :: xs) ys
    rw [mg_cons]
    simp only [List.length_cons] at *
    split
    · simp only [List.length_cons]; omega
    · split
      · simp only [List.length_cons]; omega
      · simp only [List.length_cons]; omega
termination_by xs.length + ys.length
theorem mem_mg (xs ys : List Hs) (z : Hs) : z ∈ mg xs ys ↔ z ∈ xs ∨ z ∈ ys := by
  match xs, ys with
  | [], ys => rw [mg_nil]; simp
  | x :: xs, [] => rw [mg_nil']; simp
  | x :: xs, y :: ys =>
    have h1 := mem_mg xs (y :: ys) z
    have h2 := mem_mg xs ys z
    have h3 := mem_mg (x :: xs) ys z
    rw [mg_cons]
    split
    · rw [List.mem_cons, h1, List.mem_cons (a := z) (b := x), or_assoc]
    · split
      · next h => have := cmpH_eq h; subst this; simp only [List.mem_cons, h2]; constructor
                  · rintro (h | h | h) <;> simp [h]
                  · rintro ((h | h) | h | h) <;> simp [h]
      · simp only [List.mem_cons, h3]; constructor
        · rintro (h | (h | h) | h) <;> simp [h]
        · rintro ((h | h) | h | h) <;> simp [h]
termination_by xs.length + ys.length
theorem rises_mg (xs ys : List Hs) (hx : Rises xs) (hy : Rises ys) : Rises (mg xs ys) := by
  match xs, ys with
  | [], ys => rw [mg_nil]; exact hy
  | x :: xs, [] => rw [mg_nil']; exact hx
  | x :: xs, y :: ys =>
    have hx' := List.pairwise_cons.1 hx
    have hy' := List.pairwise_cons.1 hy
    have h1 := rises_mg xs (y :: ys) hx'.2 hy
    have h2 := rises_mg xs ys hx'.2 hy'.2
    have h3 := rises_mg (x :: xs) ys hx hy'.2
    rw [mg_cons]
    split
    · next h =>
      refine List.pairwise_cons.2 ⟨fun z hz => ?_, h1⟩
      rcases (mem_mg _ _ z).1 hz with hz | hz
      · exact hx'.1 z hz
      · rcases List.mem_cons.1 hz with rfl | hz
        · exact h
        · exact cmpH_trans h (hy'.1 z hz)
    · split
      · next h0 =>
        have := cmpH_eq h0
        subst this
        refine List.pairwise_cons.2 ⟨fun z hz => ?_, h2⟩
        rcases (mem_mg _ _ z).1 hz with hz | hz
        · exact hx'.1 z hz
        · exact hy'.1 z hz
      · next h h0 =>
        have hyx : ltH y x := by
          unfold ltH
          have := cmpH_neg x y
          rcases cmpH_range x y with e | e | e <;> omega
        refine List.pairwise_cons.2 ⟨fun z hz => ?_, h3⟩
        rcases (mem_mg _ _ z).1 hz with hz | hz
        · rcases List.mem_cons.1 hz with rfl | hz
          · exact hyx
          · exact cmpH_trans hyx (hx'.1 z hz)
        · exact hy'.1 z hz
termination_by xs.length + ys.length
theorem mg_sortS (l : List Hs) (n : Nat) : mg (sortS (l.take n)) (sortS (l.drop n)) = sortS l :=
  sortS_unique (rises_mg _ _ (sortS_rises _) (sortS_rises _)) fun z => by
    rw [mem_mg, mem_sortS, mem_sortS, ← List.mem_append, List.take_append_drop]
theorem sortS_small (l : List Hs) (h : l.length < 2) : sortS l = l := by
  match l, h with
  | [], _ => rfl
  | [x], _ => rfl
  | x :: y :: l, h => simp at h; omega
end Go.Proofs.Ytijplicijmpknaa
