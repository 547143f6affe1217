/- Heaps apart: assertions over the blocks of the model's memory, and what holds of a world. No program is named. -/
import Derived.Test.YtijplicijmpknaaRows
import Derived.WalkKit
namespace Go.Proofs.Ytijplicijmpknaa
open Go.RowKit

/-! ### assertions -/
abbrev PH := Nat → Option Obj
def HP : Type := PH → Prop
def HP.sep (A B : HP) : HP := fun h => ∃ h1 h2 : PH, (∀ k, h1 k = none ∨ h2 k = none) ∧ (∀ k, h k = (h1 k).or (h2 k)) ∧ A h1 ∧ B h2
instance : Mul HP := ⟨HP.sep⟩
def emp : HP := fun _ => True
def pr (p : Prop) : HP := fun _ => p
def ex {α : Type} (f : α → HP) : HP := fun h => ∃ x, f x h
/-- a block of cells, none of which is frozen -/
def Blk (p : Nat) (cs : List Value) (T : TypeId) : HP := fun h => h p = some (.cells cs.toArray T (0, 0))
/-- a block that is a map -/
def MapB (p : Nat) (es : Array MapEntry) (clock : Nat) : HP := fun h => h p = some (.map es clock)
/-- any other block, written out -/
def ObjB (p : Nat) (o : Obj) : HP := fun h => h p = some o
/-- all that was there in a world -/
def Old (W : World) : HP := fun h => ∀ k, k < W.heap.size → h k = W.heap[k]?

theorem sep_def (A B : HP) (h : PH) : (A * B) h ↔ ∃ h1 h2 : PH, (∀ k, h1 k = none ∨ h2 k = none) ∧ (∀ k, h k = (h1 k).or (h2 k)) ∧ A h1 ∧ B h2 := Iff.rfl

def Sub (h' h : PH) : Prop := ∀ k o, h' k = some o → h k = some o
theorem Sub.refl (h : PH) : Sub h h := fun _ _ e => e
theorem Sub.trans {a b c : PH} (h : Sub a b) (k : Sub b c) : Sub a c := fun _ _ e => k _ _ (h _ _ e)

/-- A holds of a heap: B holds of a part of it -/
def Ent (A B : HP) : Prop := ∀ h, A h → ∃ h', Sub h' h ∧ B h'
theorem Ent.refl (A : HP) : Ent A A := fun h a => ⟨h, Sub.refl h, a⟩
theorem Ent.trans {A B C : HP} (h : Ent A B) (k : Ent B C) : Ent A C := fun x a =>
  let ⟨y, s, b⟩ := h x a; let ⟨z, t, c⟩ := k y b; ⟨z, t.trans s, c⟩

theorem Sub.none {a b : PH} (s : Sub a b) {k : Nat} (h : b k = none) : a k = none := by
  cases e : a k with
  | none => rfl
  | some o => rw [s k o e] at h; cases h

theorem sub_union {a b a' b' h : PH} (d : ∀ k, a k = none ∨ b k = none) (u : ∀ k, h k = (a k).or (b k)) (sa : Sub a' a) (sb : Sub b' b) :
    (∀ k, a' k = none ∨ b' k = none) ∧ Sub (fun k => (a' k).or (b' k)) h := by
  refine ⟨fun k => (d k).imp sa.none sb.none, fun k o e => ?_⟩
  rw [u k]
  dsimp only at e
  cases ea : a' k with
  | some x => rw [ea] at e; simp only [Option.some_or] at e; cases e; rw [sa k _ ea]; simp
  | none =>
    rw [ea] at e; simp only [Option.none_or] at e
    have hb := sb k o e
    rcases d k with h | h
    · rw [h, hb]; simp
    · rw [h] at hb; cases hb

theorem Ent.mul {A B A' B' : HP} (h : Ent A A') (k : Ent B B') : Ent (A * B) (A' * B') := by
  rintro x ⟨h1, h2, d, u, a, b⟩
  obtain ⟨y, s, a'⟩ := h h1 a
  obtain ⟨z, t, b'⟩ := k h2 b
  have := sub_union d u s t
  exact ⟨_, this.2, y, z, this.1, fun _ => rfl, a', b'⟩

theorem Ent.comm (A B : HP) : Ent (A * B) (B * A) := by
  rintro x ⟨h1, h2, d, u, a, b⟩
  refine ⟨x, Sub.refl x, h2, h1, fun k => (d k).symm, fun k => ?_, b, a⟩
  rw [u k]; rcases d k with h | h <;> simp [h]

theorem Ent.assoc (A B C : HP) : Ent (A * B * C) (A * (B * C)) := by
  rintro x ⟨h12, h3, d, u, ⟨h1, h2, d', u', a, b⟩, c⟩
  refine ⟨x, Sub.refl x, h1, fun k => (h2 k).or (h3 k), fun k => ?_, fun k => ?_, a, h2, h3, fun k => ?_, fun _ => rfl, b, c⟩
  · have e := u' k
    rcases d' k with h | h
    · exact .inl h
    · rcases d k with h' | h'
      · rw [e, h] at h'; simp at h'; exact .inl h'
      · right; simp [h, h']
  · rw [u k, u' k]; cases h1 k <;> simp
  · have e := u' k
    rcases d k with h | h
    · rw [e] at h; left
      cases e1 : h1 k with
      | none => rw [e1] at h; simpa using h
      | some o => rw [e1] at h; simp at h
    · exact .inr h

theorem Ent.assoc' (A B C : HP) : Ent (A * (B * C)) (A * B * C) := by
  refine (Ent.comm _ _).trans ((Ent.assoc _ _ _).trans ((Ent.comm _ _).trans ((Ent.assoc _ _ _).trans ?_)))
  exact Ent.comm _ _

theorem Ent.dropR (A B : HP) : Ent (A * B) A := by
  rintro x ⟨h1, h2, d, u, a, b⟩
  refine ⟨h1, fun k o e => ?_, a⟩
  rw [u k, e]; simp

theorem Ent.dropL (A B : HP) : Ent (A * B) B := (Ent.comm _ _).trans (Ent.dropR _ _)
theorem Ent.nothing (A : HP) : Ent A emp := fun h _ => ⟨h, Sub.refl h, trivial⟩
theorem Ent.addEmp (A : HP) : Ent A (A * emp) := fun h a =>
  ⟨h, Sub.refl h, h, fun _ => none, fun _ => .inr rfl, fun k => by simp, a, trivial⟩
theorem Ent.pr {A : HP} {p : Prop} (hp : p) : Ent A (pr p) := fun h _ => ⟨h, Sub.refl h, hp⟩
theorem Ent.ex {α : Type} {f : α → HP} (x : α) : Ent (f x) (ex f) := fun h a => ⟨h, Sub.refl h, x, a⟩

/-! ### finding a part: 'A' is 'X * R' -/
class Fr (A X : HP) (R : outParam HP) : Prop where
  ent : Ent A (X * R)
class FBlk (A : HP) (p : Nat) (cs : outParam (List Value)) (T : outParam TypeId) (R : outParam HP) : Prop where
  ent : Ent A (Blk p cs T * R)

theorem ent_left {A X R B : HP} (h : Ent A (X * R)) : Ent (A * B) (X * (R * B)) := (Ent.mul h (Ent.refl B)).trans (Ent.assoc _ _ _)
theorem ent_right {A X R B : HP} (h : Ent B (X * R)) : Ent (A * B) (X * (A * R)) :=
  (Ent.mul (Ent.refl A) h).trans ((Ent.assoc' _ _ _).trans ((Ent.mul (Ent.comm _ _) (Ent.refl _)).trans (Ent.assoc _ _ _)))

instance (priority := 1200) Fr.here (X B : HP) : Fr (X * B) X B := ⟨Ent.refl _⟩
instance (priority := 1100) Fr.there (X A : HP) : Fr (A * X) X A := ⟨Ent.comm _ _⟩
instance (priority := 1000) Fr.left (A X R B : HP) [h : Fr A X R] : Fr (A * B) X (R * B) := ⟨ent_left h.ent⟩
instance (priority := 900) Fr.right (A X R B : HP) [h : Fr B X R] : Fr (A * B) X (A * R) := ⟨ent_right h.ent⟩
instance (priority := 800) Fr.all (X : HP) : Fr X X emp := ⟨Ent.addEmp _⟩
instance (priority := 1200) FBlk.here (p : Nat) (cs : List Value) (T : TypeId) (B : HP) : FBlk (Blk p cs T * B) p cs T B := ⟨Ent.refl _⟩
instance (priority := 1100) FBlk.there (p : Nat) (cs : List Value) (T : TypeId) (A : HP) : FBlk (A * Blk p cs T) p cs T A := ⟨Ent.comm _ _⟩
instance (priority := 1000) FBlk.left (A R B : HP) (p : Nat) (cs : List Value) (T : TypeId) [h : FBlk A p cs T R] : FBlk (A * B) p cs T (R * B) := ⟨ent_left h.ent⟩
instance (priority := 900) FBlk.right (A R B : HP) (p : Nat) (cs : List Value) (T : TypeId) [h : FBlk B p cs T R] : FBlk (A * B) p cs T (A * R) := ⟨ent_right h.ent⟩
instance (priority := 800) FBlk.all (p : Nat) (cs : List Value) (T : TypeId) : FBlk (Blk p cs T) p cs T emp := ⟨Ent.addEmp _⟩

/-- 'B' out of 'A', part by part -/
class En (A B : HP) : Prop where
  ent : Ent A B
instance (priority := 1200) En.emp (A : HP) : En A emp := ⟨Ent.nothing _⟩
instance (priority := 1100) En.same (A : HP) : En A A := ⟨Ent.refl _⟩
instance (priority := 1000) En.mul (A X Y R : HP) [h : Fr A X R] [k : En R Y] : En A (X * Y) := ⟨h.ent.trans (Ent.mul (Ent.refl _) k.ent)⟩
instance (priority := 950) En.mul2 (A X Y Z : HP) [h : En A (X * (Y * Z))] : En A (X * Y * Z) := ⟨h.ent.trans (Ent.assoc' _ _ _)⟩
instance (priority := 900) En.one (A X R : HP) [h : Fr A X R] : En A X := ⟨h.ent.trans (Ent.dropR _ _)⟩

/-! ### worlds -/
structure Sat (W0 w : World) (A : HP) : Prop where
  os : w.os = W0.os
  tape : w.tape = W0.tape
  output : w.output = W0.output
  drawn : W0.drawn ≤ w.drawn
  size : W0.heap.size ≤ w.heap.size
  sub : ∃ h : PH, (∀ k o, h k = some o → w.heap[k]? = some o) ∧ A h

theorem Sat.ent {W0 w : World} {A B : HP} (s : Sat W0 w A) (h : Ent A B) : Sat W0 w B :=
  let ⟨x, hx, a⟩ := s.sub
  let ⟨y, hy, b⟩ := h x a
  ⟨s.os, s.tape, s.output, s.drawn, s.size, y, fun k o e => hx k o (hy k o e), b⟩

theorem Sat.ofEn {W0 w : World} {A B : HP} (s : Sat W0 w A) [h : En A B] : Sat W0 w B := s.ent h.ent

theorem Sat.ex {W0 w : World} {α : Type} {f : α → HP} {R : HP} (s : Sat W0 w (ex f * R)) : ∃ x, Sat W0 w (f x * R) := by
  obtain ⟨h, hh, h1, h2, d, u, ⟨x, a⟩, b⟩ := s.sub
  exact ⟨x, s.os, s.tape, s.output, s.drawn, s.size, h, hh, h1, h2, d, u, a, b⟩

theorem Sat.pr {W0 w : World} {p : Prop} {R : HP} (s : Sat W0 w (pr p * R)) : p ∧ Sat W0 w R := by
  obtain ⟨h, hh, h1, h2, d, u, a, b⟩ := s.sub
  exact ⟨a, s.ent (Ent.dropL _ _)⟩

theorem Sat.blk {W0 w : World} {p : Nat} {cs : List Value} {T : TypeId} {R : HP} (s : Sat W0 w (Blk p cs T * R)) :
    w.heap[p]? = some (.cells cs.toArray T (0, 0)) := by
  obtain ⟨h, hh, h1, h2, d, u, a, b⟩ := s.sub
  exact hh p _ (by rw [u p, show h1 p = _ from a]; simp)

theorem Sat.cell {W0 w : World} {p : Nat} {cs : List Value} {T : TypeId} {R : HP} (s : Sat W0 w (Blk p cs T * R)) (i : Nat) :
    w.cell? ⟨p, i, none⟩ = cs[i]? := by
  simp [World.cell?, s.blk]

theorem Sat.free {W0 w : World} {p : Nat} {cs : List Value} {T : TypeId} {R : HP} (s : Sat W0 w (Blk p cs T * R)) (i : Nat) :
    w.frozen? ⟨p, i, none⟩ = false := by
  simp [World.frozen?, s.blk]

/-- whatever turns block p alone: what is said of the others stays -/
theorem Sat.turn {W0 w w' : World} {p : Nat} {X Y R : HP} (s : Sat W0 w (X * R)) (hX : ∀ h, X h → (h p).isSome = true) (o' : Obj)
    (hY : ∀ h, h p = some o' → Y h) (hos : w'.os = w.os) (ht : w'.tape = w.tape) (ho : w'.output = w.output) (hdr : w'.drawn = w.drawn) (hs : w'.heap.size = w.heap.size)
    (hp : w'.heap[p]? = some o') (hk : ∀ k, k ≠ p → w'.heap[k]? = w.heap[k]?) : Sat W0 w' (Y * R) := by
  obtain ⟨h, hh, h1, h2, d, u, a, b⟩ := s.sub
  have hp1 := hX h1 a
  have h2p : h2 p = none := by
    rcases d p with e | e
    · rw [e] at hp1; cases hp1
    · exact e
  refine ⟨hos.trans s.os, ht.trans s.tape, ho.trans s.output, by rw [hdr]; exact s.drawn, by rw [hs]; exact s.size, fun k => if k = p then some o' else h k, ?_, fun k => if k = p then some o' else h1 k, h2, ?_, ?_, hY _ (by simp), b⟩
  · intro k o e
    dsimp only at e
    split at e
    · next hkp => subst hkp; cases e; exact hp
    · next hkp => rw [hk k hkp]; exact hh k o e
  · intro k
    dsimp only
    split
    · next hkp => subst hkp; exact .inr h2p
    · exact d k
  · intro k
    dsimp only
    split
    · next hkp => simp
    · exact u k

theorem setCell_heap_same {w : World} {p i : Nat} {cs : Array Value} {T : TypeId} {f : Nat × Nat} {v : Value} (e : w.heap[p]? = some (.cells cs T f)) :
    (w.setCell ⟨p, i, none⟩ v).heap[p]? = some (.cells (cs.setIfInBounds i v) T f) := by
  simp [World.setCell, Array.getElem?_modify, e]

theorem Sat.set {W0 w : World} {p : Nat} {cs : List Value} {T : TypeId} {R : HP} (s : Sat W0 w (Blk p cs T * R)) (i : Nat) (v : Value) :
    Sat W0 (w.setCell ⟨p, i, none⟩ v) (Blk p (cs.set i v) T * R) := by
  exact s.turn (p := p) (fun h a => by rw [show h p = _ from a]; rfl) (.cells (cs.set i v).toArray T (0, 0)) (fun h a => a) rfl rfl rfl rfl (by simp [World.setCell]) (by rw [setCell_heap_same s.blk]; simp)
    (fun k hk => Below.heap_setCell _ _ _ _ hk)

theorem Sat.row {W0 w : World} {p : Nat} {cs cs' : List Value} {T : TypeId} {R : HP} (s : Sat W0 w (Blk p cs T * R)) :
    Sat W0 (w.setRow p cs'.toArray) (Blk p cs' T * R) :=
  s.turn (p := p) (fun h a => by rw [show h p = _ from a]; rfl) (.cells cs'.toArray T (0, 0)) (fun h a => a) rfl rfl rfl rfl (by simp) (setRow_heap w p cs.toArray cs'.toArray T (0, 0) s.blk)
    (fun k hk => setRow_other w p k cs'.toArray hk)

theorem Sat.alloc {W0 w : World} {A : HP} (s : Sat W0 w A) (cs : Array Value) (T : TypeId) :
    Sat W0 (w.alloc (.cells cs T)) (Blk w.heap.size cs.toList T * A) := by
  obtain ⟨h, hh, a⟩ := s.sub
  have hn : h w.heap.size = none := by
    cases e : h w.heap.size with
    | none => rfl
    | some o => have := hh _ _ e; simp at this
  refine ⟨s.os, s.tape, s.output, s.drawn, Nat.le_trans s.size (by simp), fun k => if k = w.heap.size then some (.cells cs T (0, 0)) else h k, ?_, fun k => if k = w.heap.size then some (.cells cs T (0, 0)) else none, h, ?_, ?_, by simp [Blk], a⟩
  · intro k o e
    dsimp only at e
    split at e
    · next hk => cases e; rw [hk]; exact heap_alloc_new w _
    · next hk => have := hh k o e; exact (Below.heap_alloc w _ k (Array.getElem?_eq_some_iff.1 this).1).trans this
  · intro k; dsimp only; split
    · next hk => rw [hk]; exact .inr hn
    · exact .inl rfl
  · intro k; dsimp only; split <;> simp

theorem Sat.drew {W0 w : World} {A : HP} (s : Sat W0 w A) : Sat W0 { w with drawn := w.drawn + 1 } A := ⟨s.os, s.tape, s.output, Nat.le_trans s.drawn (Nat.le_succ _), s.size, s.sub⟩

/-- the beginning -/
theorem Sat.begin (W : World) : Sat W W (Old W) := ⟨rfl, rfl, rfl, Nat.le_refl _, Nat.le_refl _, fun k => W.heap[k]?, fun _ _ e => e, fun _ _ => rfl⟩
/-- the end: nothing that was there has turned -/
theorem Sat.below {W w : World} {R : HP} (s : Sat W w (Old W * R)) : Below W.heap.size W w := by
  obtain ⟨h, hh, h1, h2, d, u, a, b⟩ := s.sub
  refine ⟨s.os, s.tape, s.output, s.size, fun k hk => ?_⟩
  have e := a k hk
  rw [Array.getElem?_eq_getElem hk] at e ⊢
  exact hh k _ (by rw [u k, e]; simp)
theorem Sat.old {W W0 w : World} {R : HP} (s : Sat W0 w (Old W * R)) {a : Addr} {v : Value} (h : W.cell? a = some v) : w.cell? a = some v := by
  obtain ⟨h', hh, h1, h2, d, u, o, b⟩ := s.sub
  have hlt := World.block_lt_of_cell? W a h
  have e := o a.block hlt
  rw [Array.getElem?_eq_getElem hlt] at e
  have e2 : w.heap[a.block]? = some W.heap[a.block] := hh a.block _ (by rw [u, e]; simp)
  rw [← h]
  exact World.cell?_of_block (w := W) (e2.trans (Array.getElem?_eq_getElem hlt).symm)

end Go.Proofs.Ytijplicijmpknaa
