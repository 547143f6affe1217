/- Rows of elements that a slice owns; append, make, copy. Any program. -/
import Derived.Test.YtijplicijmpknaaOp
namespace Go.Proofs.Ytijplicijmpknaa
open Go.RowKit

/-- the slice '.slice ad n cap' owns the row whose first cells are xs ('size' cells an element) -/
def Arr (E size : Nat) (ad : Option Addr) (cap n : Nat) (xs : List Value) : HP := fun h =>
  xs.length = n * size ∧ ((ad = none ∧ cap = 0 ∧ n = 0) ∨
    ∃ g spare, ad = some ⟨g, 0, none⟩ ∧ n ≤ cap ∧ cap ≤ maxLen ∧ xs.length + spare.length = cap * size ∧ Blk g (xs ++ spare) E h)

/-- where a slice's row is -/
class FArr (A : HP) (E size : Nat) (ad : Option Addr) (cap : Nat) (n : outParam Nat) (xs : outParam (List Value)) (R : outParam HP) : Prop where
  ent : Ent A (Arr E size ad cap n xs * R)
instance (priority := 1200) FArr.here (E size : Nat) (ad : Option Addr) (cap n : Nat) (xs : List Value) (B : HP) : FArr (Arr E size ad cap n xs * B) E size ad cap n xs B := ⟨Ent.refl _⟩
instance (priority := 1100) FArr.there (E size : Nat) (ad : Option Addr) (cap n : Nat) (xs : List Value) (B : HP) : FArr (B * Arr E size ad cap n xs) E size ad cap n xs B := ⟨Ent.comm _ _⟩
instance (priority := 1000) FArr.left (A R B : HP) (E size : Nat) (ad : Option Addr) (cap n : Nat) (xs : List Value) [h : FArr A E size ad cap n xs R] : FArr (A * B) E size ad cap n xs (R * B) := ⟨ent_left h.ent⟩
instance (priority := 900) FArr.right (A R B : HP) (E size : Nat) (ad : Option Addr) (cap n : Nat) (xs : List Value) [h : FArr B E size ad cap n xs R] : FArr (A * B) E size ad cap n xs (A * R) := ⟨ent_right h.ent⟩
instance (priority := 800) FArr.all (E size : Nat) (ad : Option Addr) (cap n : Nat) (xs : List Value) : FArr (Arr E size ad cap n xs) E size ad cap n xs emp := ⟨Ent.addEmp _⟩

theorem arr_nil (A : HP) (E size : Nat) : Ent A (Arr E size none 0 0 [] * A) := fun h a =>
  ⟨h, Sub.refl h, fun _ => none, h, fun _ => .inl rfl, fun k => by simp, ⟨by simp, .inl ⟨rfl, rfl, rfl⟩⟩, a⟩
instance (priority := 700) FArr.nil (A : HP) (E size : Nat) : FArr A E size none 0 0 [] A := ⟨arr_nil A E size⟩

section
variable {P : Program} {ops : Array Oper} {Q : Exit → Act → World → Prop} {n : Nat} {D : List Deferred} {W0 : World} {rest : List Oper} {ρ : Env} {A B R : HP}
variable {d : Nat} {dst : Option Tmp} {ty : TypeId} {pos : String} {aft : Array Edge} {gd : Option (Nat × Bool)}

theorem Sat.arr {w : World} {E size cap m : Nat} {ad : Option Addr} {xs : List Value} (s : Sat W0 w (Arr E size ad cap m xs * R)) :
    xs.length = m * size ∧ ((ad = none ∧ cap = 0 ∧ m = 0) ∨
      ∃ g spare, ad = some ⟨g, 0, none⟩ ∧ m ≤ cap ∧ cap ≤ maxLen ∧ xs.length + spare.length = cap * size ∧ Sat W0 w (Blk g (xs ++ spare) E * R)) := by
  obtain ⟨h, hh, h1, h2, dj, u, ⟨hl, a⟩, b⟩ := s.sub
  refine ⟨hl, ?_⟩
  rcases a with a | ⟨g, spare, e1, e2, e3, e4, a⟩
  · exact .inl a
  · exact .inr ⟨g, spare, e1, e2, e3, e4, s.os, s.tape, s.output, s.drawn, s.size, h, hh, h1, h2, dj, u, a, b⟩
theorem arr_mk {E size cap m g : Nat} {xs spare : List Value} (hl : xs.length = m * size) (h1 : m ≤ cap) (h2 : cap ≤ maxLen) (h3 : xs.length + spare.length = cap * size) :
    Ent (Blk g (xs ++ spare) E) (Arr E size (some ⟨g, 0, none⟩) cap m xs) := fun h a => ⟨h, Sub.refl h, hl, .inr ⟨g, spare, rfl, h1, h2, h3, a⟩⟩

/-- what an owned row's cells read as -/
theorem Sat.arrCell {w : World} {E size cap m : Nat} {g : Addr} {xs : List Value} (s : Sat W0 w (Arr E size (some g) cap m xs * R)) (j : Nat) (v : Value) (h : xs[j]? = some v) : w.cell? (g.add j) = some v := by
  rcases s.arr.2 with ⟨h1, _⟩ | ⟨b, spare, e, _, _, _, s'⟩
  · cases h1
  · cases e
    have : (Addr.add ⟨b, 0, none⟩ j) = ⟨b, j, none⟩ := by unfold Addr.add; split <;> simp_all
    have hj : j < xs.length := (List.getElem?_eq_some_iff.1 h).1
    rw [this, s'.cell]
    rw [← h]; simp [List.getElem?_append, hj]
theorem reads_arr {E size cap m : Nat} {g : Addr} {xs : List Value} [hf : FArr A E size (some g) cap m xs R] : Reads A g xs := fun _ _ s j v h => (s.ent hf.ent).arrCell j v h

/-- what a row tells of its slice -/
theorem arr_fact {E size : Nat} (ad : Option Addr) (cap : Nat) {m : Nat} {xs : List Value} [hf : FArr A E size ad cap m xs R] {w : World} (s : Sat W0 w A) : xs.length = m * size ∧ (ad = none → m = 0 ∧ cap = 0) ∧ m ≤ cap ∧ cap ≤ maxLen := by
  obtain ⟨h1, h2⟩ := (s.ent hf.ent).arr
  refine ⟨h1, ?_⟩
  rcases h2 with ⟨e1, e2, e3⟩ | ⟨g, spare, e1, e2, e3, _, _⟩
  · exact ⟨fun _ => ⟨e3, e2⟩, by omega, by unfold maxLen; omega⟩
  · exact ⟨fun h => (by rw [e1] at h; cases h), e2, e3⟩
theorem rt_arr (E size : Nat) (ad : Option Addr) (cap : Nat) {m : Nat} {xs : List Value} [hf : FArr A E size ad cap m xs R] (h : xs.length = m * size → (ad = none → m = 0 ∧ cap = 0) → m ≤ cap → cap ≤ maxLen → RT P ops Q n D W0 rest ρ A) : RT P ops Q n D W0 rest ρ A := fun a w ha s => by
  obtain ⟨h1, h2, h3, h4⟩ := arr_fact (E := E) (size := size) ad cap s
  exact h h1 h2 h3 h4 a w ha s
theorem ct_arr {c : Code} (E size : Nat) (ad : Option Addr) (cap : Nat) {m : Nat} {xs : List Value} [hf : FArr A E size ad cap m xs R] (h : xs.length = m * size → (ad = none → m = 0 ∧ cap = 0) → m ≤ cap → cap ≤ maxLen → CT P c Q n D W0 ρ A) : CT P c Q n D W0 ρ A := fun a w ha s => by
  obtain ⟨h1, h2, h3, h4⟩ := arr_fact (E := E) (size := size) ad cap s
  exact h h1 h2 h3 h4 a w ha s

/-- what append, copy may take their elements from -/
def Src (P : Program) (A : HP) (size : Nat) (x : Value) (m : Nat) (news : List Value) : Prop := news.length = m * size ∧
  ∀ W0 w, Sat W0 w A → (Builtin.lenOf x).run P w = .ok m w ∧ (∀ k, k ≤ m → (Builtin.firstCells size k x).run P w = .ok (news.take (k * size)).toArray w)
theorem src_slice {size m c : Nat} {a : Addr} {news : List Value} (hl : news.length = m * size) (h : Reads A a news) : Src P A size (.slice (some a) m c) m news :=
  ⟨hl, fun W0 w s => ⟨rfl, fun k hk => run_firstCells_some (P := P) w size k a m c _ (by rw [List.length_take, hl]; exact Nat.min_eq_left (Nat.mul_le_mul_right _ hk)) fun j v e => h W0 w s j v (by
    have : j < k * size := by
      have := (List.getElem?_eq_some_iff.1 e).1
      rw [List.length_take] at this; omega
    rwa [List.getElem?_take, if_pos this] at e)⟩⟩
theorem src_none {size c : Nat} : Src P A size (.slice none 0 c) 0 [] := ⟨by simp, fun _ w _ => ⟨rfl, fun k hk => by
  obtain rfl : k = 0 := by omega
  simp [Builtin.firstCells]⟩⟩
theorem src_string {s : ByteArray} : Src P A 1 (.string s) s.size (s.data.toList.map fun b => .int .u8 b.toNat) := ⟨by simp, fun _ w _ => ⟨rfl, fun k hk => by
  have : ((s.extract 0 k).data.map fun b => Value.int .u8 b.toNat) = ((s.data.toList.map fun b => Value.int .u8 (b.toNat : Int)).take (k * 1)).toArray := by
    apply Array.ext'
    simp [ByteArray.data_extract, ← List.map_take]
  show Result.ok _ w = _
  rw [this]⟩⟩
theorem Src.ent {size m : Nat} {x : Value} {news : List Value} (h : Src P B size x m news) (e : Ent A B) : Src P A size x m news := ⟨h.1, fun W0 w s => h.2 W0 w (s.ent e)⟩

theorem run_append_arr {T u E size bytes m k cap : Nat} {z : Value} {ad : Option Addr} {xs news : List Value} {x : Value} {w : World} {du : TypeDesc} [ht : TyU P T (.slice E)] [hu : TyU P u du] [he : TyI P E size bytes z] (hdu : (∃ e, du = .slice e) ∨ du = .string)
    (s : Sat W0 w (Arr E size ad cap m xs * R)) (hsrc : Src P (Arr E size ad cap m xs * R) size x k news) (h1 : ∀ v ∈ news, v.oneCell' = true) (h63 : m + k ≤ maxLen) (hb : (m + k) * bytes ≤ 140737488355328) :
    ∃ ad' cap' w', (Builtin.append_ #[T, u] ty #[.slice ad m cap, x]).run P w = .ok (.slice ad' (m + k) cap') w' ∧ Sat W0 w' (Arr E size ad' cap' (m + k) (xs ++ news) * R) := by
  have hzs := he.cells
  obtain ⟨hnl, hs⟩ := hsrc
  obtain ⟨hlen, hcells⟩ := hs W0 w s
  obtain ⟨i, hi, hie⟩ := Option.map_eq_some_iff.1 he.eq
  obtain ⟨hz0, hz1, hz2⟩ : i.zero = some z ∧ i.size = size ∧ i.bytes = bytes := by simpa using hie
  have hfull := hcells k (Nat.le_refl _)
  rw [List.take_of_length_le (by omega)] at hfull
  obtain ⟨hxl, hc⟩ := s.arr
  have hal : (xs ++ news).length = (m + k) * size := by rw [List.length_append, hxl, hnl, Nat.add_mul]
  by_cases hroom : m + k ≤ cap
  · rcases hc with ⟨rfl, rfl, rfl⟩ | ⟨g, spare, rfl, h2, h3, h4, s'⟩
    · obtain rfl : k = 0 := by omega
      have hn : news = [] := List.eq_nil_of_length_eq_zero (by simpa using hnl)
      have hx0 : xs = [] := List.eq_nil_of_length_eq_zero (by simpa using hxl)
      subst hn hx0
      refine ⟨none, 0, w, ?_, by simpa using s⟩
      have hue := hu.eq
      rcases hdu with ⟨e, rfl⟩ | rfl <;> simp [Builtin.append_, run_underlying ht.eq, run_underlying hue, sizeOf, typeInfo, hi, hz1, hlen, hfull]
    · have hst := run_storeCells_at P g (m * size) E news 0 (xs ++ spare).toArray w s'.blk (by
        simp only [List.size_toArray, List.length_append, h4, hnl, Nat.add_zero, ← Nat.add_mul]
        exact Nat.mul_le_mul_right _ hroom) h1
      have ha : (Addr.add ⟨g, 0, none⟩ (m * size)) = ⟨g, m * size, none⟩ := by unfold Addr.add; split <;> simp_all
      simp only [Nat.add_zero] at hst
      have e : ((xs ++ spare).toArray.toList.take (m * size) ++ news ++ (xs ++ spare).toArray.toList.drop (m * size + news.length)) = (xs ++ news) ++ spare.drop news.length := by
        simp only [List.toList_toArray]
        rw [← hxl, List.take_left, List.drop_append]
        simp
      rw [e] at hst
      refine ⟨some ⟨g, 0, none⟩, cap, _, ?_, (s'.row (cs' := ((xs ++ news) ++ spare.drop news.length))).ent (Ent.mul (arr_mk hal hroom h3 ?_) (Ent.refl _))⟩
      · have hue := hu.eq
        rcases hdu with ⟨e, rfl⟩ | rfl <;> simp [Builtin.append_, run_underlying ht.eq, run_underlying hue, sizeOf, typeInfo, hi, hz1, hlen, hfull, hroom, ha, hst]
      · have : news.length ≤ spare.length := by
          have := Nat.mul_le_mul_right size hroom
          rw [Nat.add_mul, ← hxl, ← hnl, ← h4] at this; omega
        simp only [List.length_append, List.length_drop]; omega
  · have hg : cap < m + k := by omega
    have hfit := growslice_fits hg hb
    have hn63 : ¬ (9223372036854775807 < ((m : Int) + (k : Int))) := by unfold maxLen at h63; omega
    have h48 : ¬ (281474976710656 < Builtin.nextslicecap (m + k) cap * bytes) := by omega
    have hcap1 := grownCap_ge w (m + k) cap E
    have hcap2 := grownCap_le_maxLen w (m + k) cap E h63
    have hcells' : (Builtin.firstCells size k x).run P w.drew = .ok news.toArray w.drew := by
      have := (hs W0 w.drew (s.drew)).2 k (Nat.le_refl _)
      rwa [List.take_of_length_le (by omega)] at this
    have hold : (Builtin.firstCells size m (.slice ad m cap)).run P w.drew = .ok xs.toArray w.drew := by
      rcases hc with ⟨rfl, rfl, rfl⟩ | ⟨g, spare, rfl, h2, h3, h4, s'⟩
      · have hx0 : xs = [] := List.eq_nil_of_length_eq_zero (by simpa using hxl)
        subst hx0; simp [Builtin.firstCells]
      · exact run_firstCells_some (P := P) w.drew size m _ m cap xs hxl fun j v e => (show Sat W0 w.drew _ from s.drew).arrCell j v e
    have s2 : Sat W0 w.drew (Arr E size ad cap m xs * R) := s.drew
    have s3 := (s2.ent (Ent.dropL _ _)).alloc ((xs ++ news) ++ (Builtin.zeroCells z.cells (grownCap w (m + k) cap E - (m + k))).toList).toArray E
    refine ⟨some ⟨w.heap.size, 0, none⟩, grownCap w (m + k) cap E, _, ?_, s3.ent (Ent.mul (arr_mk hal hcap1 hcap2 ?_) (Ent.refl _))⟩
    · have hr : ∀ b : Nat, (askRoom b).run P w.drew = .ok () w.drew := fun b => by unfold askRoom; split <;> rfl
      have hue := hu.eq
      rcases hdu with ⟨e, rfl⟩ | rfl
      all_goals
        simp [Builtin.append_, run_underlying ht.eq, run_underlying hue, sizeOf, typeInfo, zeroValue, hi, hz0, hz1, hz2, hlen, hroom, hn63, h48, hold, hcells', newRow, hr, Question.forced, grownCap]
        congr 2
        apply Array.ext'
        simp [List.append_assoc]
    · rw [hal]
      simp only [Array.length_toList, size_zeroCells, hzs, ← Nat.add_mul]
      congr 1; omega
end
end Go.Proofs.Ytijplicijmpknaa
