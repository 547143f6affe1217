/- Rules that the walk takes by itself: what slices read as, places of them, stores into rows, appends, make, splits, calls. Any program. -/
import Derived.Test.YtijplicijmpknaaTail
import Derived.Test.YtijplicijmpknaaU
import Derived.Laws.MakeOwn
namespace Go.Proofs.Ytijplicijmpknaa
open Go.RowKit

/-! ### what a slice's cells read as -/
class Rd (A : HP) (ad : Option Addr) (vs : outParam (List Value)) : Prop where
  nil : ∀ W0 w, Sat W0 w A → ad = none → vs = []
  rd : ∀ g, ad = some g → Reads A g vs
instance (priority := 1200) Rd.arr (E size : Nat) (ad : Option Addr) (cap n : Nat) (xs : List Value) : Rd (Arr E size ad cap n xs) ad xs :=
  ⟨fun W0 w s e => by
    obtain ⟨h1, h2, _⟩ := arr_fact (A := Arr E size ad cap n xs) (E := E) (size := size) ad cap s
    obtain ⟨h3, _⟩ := h2 e
    subst h3
    exact List.eq_nil_of_length_eq_zero (by simpa using h1), fun g e => by subst e; exact reads_arr (E := E) (size := size) (cap := cap)⟩
instance (priority := 1150) Rd.blk (p : Nat) (cs : List Value) (T : TypeId) : Rd (Blk p cs T) (some ⟨p, 0, none⟩) cs :=
  ⟨fun _ _ _ e => (by cases e), fun g e => by cases e; exact reads_blk (by intro j v h; simpa using h)⟩
instance (priority := 1000) Rd.left (A B : HP) (ad : Option Addr) (vs : List Value) [h : Rd A ad vs] : Rd (A * B) ad vs := ⟨fun W0 w s => h.nil W0 w (s.ent (Ent.dropR _ _)), fun g e => (h.rd g e).ent (Ent.dropR _ _)⟩
instance (priority := 900) Rd.right (A B : HP) (ad : Option Addr) (vs : List Value) [h : Rd B ad vs] : Rd (A * B) ad vs := ⟨fun W0 w s => h.nil W0 w (s.ent (Ent.dropL _ _)), fun g e => (h.rd g e).ent (Ent.dropL _ _)⟩
theorem Rd.take {A : HP} {ad : Option Addr} {vs : List Value} (h : Rd A ad vs) (n : Nat) : Rd A ad (vs.take n) := ⟨fun W0 w s e => by rw [h.nil W0 w s e]; simp, fun g e => (h.rd g e).take n⟩
theorem Rd.of_ent {A B : HP} {ad : Option Addr} {vs : List Value} (h : Rd B ad vs) (e : Ent A B) : Rd A ad vs := ⟨fun W0 w s => h.nil W0 w (s.ent e), fun g k => (h.rd g k).ent e⟩
theorem RdB.toRd {A : HP} {ad : Option Addr} {ys : List UInt8} (h : RdB A ad ys) : Rd A ad (ys.map bv) := ⟨fun _ _ _ e => by rw [h.1 e]; rfl, h.2⟩

def adr (ad : Option Addr) : Addr := ad.getD ⟨0, 0, none⟩
theorem adr_some (g : Addr) : adr (some g) = g := rfl

theorem blk_arr {g E : Nat} {cs : List Value} (size n : Nat) (h : cs.length = n * size) (hn : n ≤ maxLen) : Ent (Blk g cs E) (Arr E size (some ⟨g, 0, none⟩) n n cs) := by
  have := arr_mk (g := g) (E := E) (size := size) (cap := n) (m := n) (xs := cs) (spare := []) h (Nat.le_refl _) hn (by simpa using h)
  rwa [List.append_nil] at this

/-- what one cell reads as -/
class RdC (A : HP) (p i : Nat) (v : outParam Value) : Prop where
  rd : ∀ W0 w, Sat W0 w A → w.cell? ⟨p, i, none⟩ = some v
instance (priority := 1000) RdC.left (A B : HP) (p i : Nat) (v : Value) [h : RdC A p i v] : RdC (A * B) p i v := ⟨fun W0 w s => h.rd W0 w (s.ent (Ent.dropR _ _))⟩
instance (priority := 900) RdC.right (A B : HP) (p i : Nat) (v : Value) [h : RdC B p i v] : RdC (A * B) p i v := ⟨fun W0 w s => h.rd W0 w (s.ent (Ent.dropL _ _))⟩
/-! ### integers that are numbers -/
class NatI (i : Int) (j : outParam Nat) : Prop where
  eq : i = (j : Int)
instance (priority := 1200) NatI.cast (n : Nat) : NatI (n : Int) n := ⟨rfl⟩
instance : NatI 0 0 := ⟨rfl⟩
instance : NatI 1 1 := ⟨rfl⟩
instance : NatI 2 2 := ⟨rfl⟩
instance : NatI 3 3 := ⟨rfl⟩
instance : NatI 4 4 := ⟨rfl⟩
instance : NatI 5 5 := ⟨rfl⟩
instance : NatI 6 6 := ⟨rfl⟩
instance : NatI 7 7 := ⟨rfl⟩
instance : NatI 8 8 := ⟨rfl⟩
instance : NatI 9 9 := ⟨rfl⟩
instance : NatI 10 10 := ⟨rfl⟩
instance : NatI 11 11 := ⟨rfl⟩
instance : NatI 12 12 := ⟨rfl⟩
instance : NatI 13 13 := ⟨rfl⟩
instance : NatI 14 14 := ⟨rfl⟩
instance : NatI 15 15 := ⟨rfl⟩
instance : NatI 16 16 := ⟨rfl⟩
instance : NatI 17 17 := ⟨rfl⟩
instance : NatI 18 18 := ⟨rfl⟩
instance : NatI 19 19 := ⟨rfl⟩
instance : NatI 20 20 := ⟨rfl⟩
instance : NatI 21 21 := ⟨rfl⟩
instance : NatI 22 22 := ⟨rfl⟩
instance : NatI 23 23 := ⟨rfl⟩
instance : NatI 24 24 := ⟨rfl⟩
instance : NatI 25 25 := ⟨rfl⟩
instance : NatI 26 26 := ⟨rfl⟩
instance : NatI 27 27 := ⟨rfl⟩
instance : NatI 28 28 := ⟨rfl⟩
instance : NatI 29 29 := ⟨rfl⟩
instance : NatI 30 30 := ⟨rfl⟩
instance : NatI 31 31 := ⟨rfl⟩
instance : NatI 32 32 := ⟨rfl⟩
instance : NatI 33 33 := ⟨rfl⟩
instance : NatI 34 34 := ⟨rfl⟩
instance : NatI 35 35 := ⟨rfl⟩
instance : NatI 36 36 := ⟨rfl⟩
instance : NatI 37 37 := ⟨rfl⟩
instance : NatI 38 38 := ⟨rfl⟩
instance : NatI 39 39 := ⟨rfl⟩
instance : NatI 40 40 := ⟨rfl⟩
instance : NatI 41 41 := ⟨rfl⟩
instance : NatI 42 42 := ⟨rfl⟩
instance : NatI 43 43 := ⟨rfl⟩
instance : NatI 44 44 := ⟨rfl⟩
instance : NatI 45 45 := ⟨rfl⟩
instance : NatI 46 46 := ⟨rfl⟩
instance : NatI 47 47 := ⟨rfl⟩
instance : NatI 48 48 := ⟨rfl⟩
instance : NatI 49 49 := ⟨rfl⟩
instance : NatI 50 50 := ⟨rfl⟩
instance : NatI 51 51 := ⟨rfl⟩
instance : NatI 52 52 := ⟨rfl⟩
instance : NatI 53 53 := ⟨rfl⟩
instance : NatI 54 54 := ⟨rfl⟩
instance : NatI 55 55 := ⟨rfl⟩
instance : NatI 56 56 := ⟨rfl⟩
instance : NatI 57 57 := ⟨rfl⟩
instance : NatI 58 58 := ⟨rfl⟩
instance : NatI 59 59 := ⟨rfl⟩
instance : NatI 60 60 := ⟨rfl⟩
instance : NatI 61 61 := ⟨rfl⟩
instance : NatI 62 62 := ⟨rfl⟩
instance : NatI 63 63 := ⟨rfl⟩
instance : NatI 64 64 := ⟨rfl⟩
instance : NatI 128 128 := ⟨rfl⟩
instance : NatI 250 250 := ⟨rfl⟩
instance : NatI 255 255 := ⟨rfl⟩
instance : NatI 256 256 := ⟨rfl⟩
instance NatI.add (a b : Int) (x y : Nat) [h : NatI a x] [k : NatI b y] : NatI (a + b) (x + y) := ⟨by rw [h.eq, k.eq]; rfl⟩
instance NatI.mul (a b : Int) (x y : Nat) [h : NatI a x] [k : NatI b y] : NatI (a * b) (x * y) := ⟨by rw [h.eq, k.eq]; rfl⟩
instance NatI.div (a b : Int) (x y : Nat) [h : NatI a x] [k : NatI b y] : NatI (a / b) (x / y) := ⟨by rw [h.eq, k.eq]; rfl⟩
instance NatI.mod (a b : Int) (x y : Nat) [h : NatI a x] [k : NatI b y] : NatI (a % b) (x % y) := ⟨by rw [h.eq, k.eq]; rfl⟩
theorem NatI.nn {i : Int} {j : Nat} (h : NatI i j) : 0 ≤ i := by rw [h.eq]; omega
theorem NatI.to {i : Int} {j : Nat} (h : NatI i j) : i.toNat = j := by rw [h.eq]; simp

instance (priority := 700) Fr.nilArr (A : HP) (E size : Nat) : Fr A (Arr E size none 0 0 []) A := ⟨arr_nil A E size⟩
section
variable {P : Program} {ops : Array Oper} {Q : Exit → Act → World → Prop} {n : Nat} {D : List Deferred} {W0 : World} {rest : List Oper} {ρ : Env} {A B R : HP}
variable {K : Env → HP → Prop} {d : Nat} {dst : Option Tmp} {ty : TypeId} {pos : String} {aft : Array Edge} {gd : Option (Nat × Bool)}

theorem g_congr {o : Oper} (ad : Option Addr) {vs : List Value} [hr : Rd A ad vs] (hn : vs ≠ []) {v : Value} (h : ∀ g, ad = some g → Gives P o ρ A v) : Gives P o ρ A v := fun W0 w s => by
  cases ad with
  | none => exact absurd (hr.nil W0 w s rfl) hn
  | some g => exact h g rfl W0 w s
/-- an element's place -/
theorem g_elemO {x ix : Operand} {T e size bytes : Nat} {z : Value} {ad : Option Addr} {l c j : Nat} {k : IntKind} {i : Int} {vs : List Value} (hx : ev ρ x = .slice ad l c) (hi : ev ρ ix = .int k i) [ht : TyU P T (.slice e)] [he : TyI P e size bytes z] [hr : Rd A ad vs] [hj : NatI i j]
    (h1 : j < l) (hn : 0 < vs.length) : Gives P ⟨dst, .indexAddr T x ix, ty, pos, aft, gd⟩ ρ A (.pointer (some ((adr ad).add (j * size)))) := by
  refine g_congr ad (by intro h; rw [h] at hn; simp at hn) fun g hg => ?_
  subst hg
  exact g_elemR hx hi hj.nn (by rw [hj.eq]; omega) hj.to
theorem g_elemO1 {x ix : Operand} {T e bytes : Nat} {z : Value} {ad : Option Addr} {l c j : Nat} {k : IntKind} {i : Int} {vs : List Value} (hx : ev ρ x = .slice ad l c) (hi : ev ρ ix = .int k i) [ht : TyU P T (.slice e)] [he : TyI P e 1 bytes z] [hr : Rd A ad vs] [hj : NatI i j]
    (h1 : j < l) (hn : 0 < vs.length) : Gives P ⟨dst, .indexAddr T x ix, ty, pos, aft, gd⟩ ρ A (.pointer (some ((adr ad).add j))) := by
  have := g_elemO (P := P) (A := A) (dst := dst) (ty := ty) (pos := pos) (aft := aft) (gd := gd) (T := T) (e := e) hx hi h1 hn
  simpa using this
/-- a place of an array that a variable holds -/
theorem g_elemB {x ix : Operand} {T e size bytes len : Nat} {z : Value} {p j : Nat} {k : IntKind} {i : Int} (hx : ev ρ x = .pointer (some ⟨p, 0, none⟩)) (hi : ev ρ ix = .int k i) [ht : TyU P T (.array len e)] [he : TyI P e size bytes z] [hj : NatI i j] (h1 : j < len) :
    Gives P ⟨dst, .indexAddr T x ix, ty, pos, aft, gd⟩ ρ A (.pointer (some ⟨p, j * size, none⟩)) := by
  have := g_elemA (P := P) (A := A) (dst := dst) (ty := ty) (pos := pos) (aft := aft) (gd := gd) (T := T) (e := e) (len := len) hx hi hj.nn (by rw [hj.eq]; omega)
  simpa [hj.to] using this
theorem g_elemB1 {x ix : Operand} {T e bytes len : Nat} {z : Value} {p j : Nat} {k : IntKind} {i : Int} (hx : ev ρ x = .pointer (some ⟨p, 0, none⟩)) (hi : ev ρ ix = .int k i) [ht : TyU P T (.array len e)] [he : TyI P e 1 bytes z] [hj : NatI i j] (h1 : j < len) :
    Gives P ⟨dst, .indexAddr T x ix, ty, pos, aft, gd⟩ ρ A (.pointer (some ⟨p, j, none⟩)) := by
  have := g_elemB (P := P) (A := A) (dst := dst) (ty := ty) (pos := pos) (aft := aft) (gd := gd) (T := T) (e := e) (len := len) hx hi h1
  simpa using this
/-- a field's place, whatever the struct's own -/
theorem g_fieldR {x : Operand} {T f off ft o : Nat} {a : Addr} (hx : ev ρ x = .pointer (some (a.add o))) [h : TyF P T f off ft] :
    Gives P ⟨dst, .fieldAddr T x f, ty, pos, aft, gd⟩ ρ A (.pointer (some (a.add (o + off)))) := fun _ w _ => by
  obtain ⟨fs, fl, s, h1, h2, h3, h4, h5⟩ := h.eq
  subst h4 h3
  obtain ⟨i, hi, hs⟩ := Option.map_eq_some_iff.1 h5
  simp [execOp, hx, Instr.fieldAt, run_underlying h1, h2, Instr.sureAddr, fieldPlace, sizeOf, typeInfo, hi, hs, addr_add_add]
theorem g_load_rd {x : Operand} {t j : Nat} {ad : Option Addr} {vs : List Value} {v : Value} (hx : ev ρ x = .pointer (some ((adr ad).add j))) [h1 : Ty1 P t] [hr : Rd A ad vs] (hv : vs[j]? = some v) :
    Gives P ⟨dst, .load t x, ty, pos, aft, gd⟩ ρ A v := by
  refine g_congr ad (by intro h; rw [h] at hv; simp at hv) fun g hg => ?_
  subst hg
  exact g_load_at (a := g) (i := j) hx (hr.rd g rfl) hv
theorem g_load_rd0 {x : Operand} {t p i : Nat} {vs : List Value} {v : Value} (hx : ev ρ x = .pointer (some ⟨p, i, none⟩)) [h1 : Ty1 P t] [hr : Rd A (some ⟨p, 0, none⟩) vs] (hv : vs[i]? = some v) :
    Gives P ⟨dst, .load t x, ty, pos, aft, gd⟩ ρ A v := by
  have ha : (Addr.add ⟨p, 0, none⟩ i) = ⟨p, i, none⟩ := by unfold Addr.add; split <;> simp_all
  exact g_load_at (a := ⟨p, 0, none⟩) (i := i) (by rw [ha]; exact hx) (hr.rd _ rfl) hv
theorem g_load_rdc {x : Operand} {t p i : Nat} {v : Value} (hx : ev ρ x = .pointer (some ⟨p, i, none⟩)) [h1 : Ty1 P t] [hr : RdC A p i v] :
    Gives P ⟨dst, .load t x, ty, pos, aft, gd⟩ ρ A v := fun W0 w s => by
  have := run_loadVar_one (P := P) (t := t) (w := w) (hr.rd W0 w s)
  simp [execOp, hx, Instr.loadAt, Instr.sureAddr, this]
theorem Reads.sub {a : Addr} {vs us : List Value} {o : Nat} (h : Reads A a vs) (hu : ∀ j v, us[j]? = some v → vs[o + j]? = some v) : Reads A (a.add o) us := fun W0 w s j v e => by
  rw [addr_add_add]; exact h W0 w s (o + j) v (hu j v e)
theorem g_loadAgg_rd {x : Operand} {t j size : Nat} {ad : Option Addr} {vs us : List Value} (hx : ev ρ x = .pointer (some ((adr ad).add j))) [h1 : TyA P t size] [hr : Rd A ad vs] (hl : us.length = size) (hn : vs ≠ []) (hv : ∀ i v, us[i]? = some v → vs[j + i]? = some v) :
    Gives P ⟨dst, .load t x, ty, pos, aft, gd⟩ ρ A (.agg us.toArray) := by
  refine g_congr ad hn fun g hg => ?_
  subst hg
  exact g_load_agg (a := g.add j) hx hl ((hr.rd g rfl).sub hv)
/-- a whole struct or array out of a block -/
theorem g_loadAgg_blk {x : Operand} {t p size : Nat} {cs : List Value} {T : TypeId} (hx : ev ρ x = .pointer (some ⟨p, 0, none⟩)) [h1 : TyA P t size] [hb : FBlk A p cs T R] (hl : cs.length = size) :
    Gives P ⟨dst, .load t x, ty, pos, aft, gd⟩ ρ A (.agg cs.toArray) := g_load_agg hx hl (reads_blk (cs := cs) (T := T) (R := R) (by intro j v h; simpa using h))

/-- 'string(b)' -/
theorem g_convRd {x : Operand} {S T e : TypeId} {l c : Nat} {a : Option Addr} {ys xs : List UInt8} (hx : ev ρ x = .slice a l c) [hs : TyU P S (.slice e)] [he : TyU P e (.int .u8)] [ht : TyU P T .string] [hr : Rd A a (ys.map bv)] (hl : l ≤ ys.length) (hxs : ys.take l = xs) :
    Gives P ⟨dst, .convert S T x, ty, pos, aft, gd⟩ ρ A (.string ⟨xs.toArray⟩) := fun W0 w s => by
  subst hxs
  refine g_convS (A := A) hx (by simp; omega) (fun h => ?_) (fun g hg => ?_) W0 w s
  · have := hr.nil W0 w s h
    have : ys = [] := by simpa using this
    subst this; simp
  · have := (hr.rd g hg).take l
    rwa [← List.map_take] at this

/-- a cut of a slice, nil or not -/
theorem g_cutN {x lo hi : Operand} {T E l cap size bytes : Nat} {z : Value} {ad : Option Addr} {k k' : IntKind} {i i' : Int} {j j' : Nat} (hx : ev ρ x = .slice ad l cap) (hl : ev ρ lo = .int k i) (hh : ev ρ hi = .int k' i') [ht : TyU P T (.slice E)] [he : TyI P E size bytes z] [hj : NatI i j] [hj' : NatI i' j'] (h1 : j ≤ j') (h2 : j' ≤ cap) (hlc : l ≤ cap) (hn : ad = none → cap = 0) :
    Gives P ⟨dst, .slice T x (some lo) (some hi) none, ty, pos, aft, gd⟩ ρ A (.slice (ad.map fun g => cutAt g cap j size) (j' - j) (cap - j)) := by
  cases ad with
  | none =>
    obtain rfl := hn rfl
    obtain rfl : j' = 0 := by omega
    obtain rfl : j = 0 := by omega
    obtain rfl : l = 0 := by omega
    exact g_cut_lohi_nil hx hl hh hj.eq hj'.eq
  | some g => exact g_cut_lohi hx hl hh hj.nn (by rw [hj.eq, hj'.eq]; omega) (by rw [hj'.eq]; omega) hj.to hj'.to
theorem Rd.cut {A : HP} {ad : Option Addr} {vs : List Value} (h : Rd A ad vs) {cap j size : Nat} (hc : vs.length ≤ cap * size) : Rd A (ad.map fun g => cutAt g cap j size) (vs.drop (j * size)) := by
  refine ⟨fun W0 w s e => ?_, fun g e => ?_⟩
  · have : ad = none := by simpa using e
    rw [h.nil W0 w s this]; simp
  · cases ad with
    | none => simp at e
    | some a =>
      simp only [Option.map_some, Option.some.injEq] at e
      subst e
      unfold cutAt
      split
      · next hcj =>
        rw [List.drop_eq_nil_of_le (by rw [← hcj]; exact hc)]
        exact Reads.nil
      · exact (h.rd a rfl).drop _
/-- a struct or array within a block -/
theorem g_loadAgg_off {x : Operand} {t p i size : Nat} {cs us : List Value} {T : TypeId} (hx : ev ρ x = .pointer (some ⟨p, i, none⟩)) [h1 : TyA P t size] [hb : FBlk A p cs T R] (hu : (cs.drop i).take size = us) (hl : us.length = size) :
    Gives P ⟨dst, .load t x, ty, pos, aft, gd⟩ ρ A (.agg us.toArray) := g_load_agg hx hl (reads_blk (cs := cs) (T := T) (R := R) (by
      intro j v h
      subst hu
      rw [List.getElem?_take] at h
      split at h
      · rwa [List.getElem?_drop] at h
      · cases h))

/-! ### stores into rows -/
class FAr (A : HP) (ad : Option Addr) (E size cap : outParam Nat) (n : outParam Nat) (xs : outParam (List Value)) (R : outParam HP) : Prop where
  ent : Ent A (Arr E size ad cap n xs * R)
instance (priority := 1200) FAr.here (E size : Nat) (ad : Option Addr) (cap n : Nat) (xs : List Value) (B : HP) : FAr (Arr E size ad cap n xs * B) ad E size cap n xs B := ⟨Ent.refl _⟩
instance (priority := 1100) FAr.there (E size : Nat) (ad : Option Addr) (cap n : Nat) (xs : List Value) (B : HP) : FAr (B * Arr E size ad cap n xs) ad E size cap n xs B := ⟨Ent.comm _ _⟩
instance (priority := 1000) FAr.left (A R B : HP) (E size : Nat) (ad : Option Addr) (cap n : Nat) (xs : List Value) [h : FAr A ad E size cap n xs R] : FAr (A * B) ad E size cap n xs (R * B) := ⟨ent_left h.ent⟩
instance (priority := 900) FAr.right (A R B : HP) (E size : Nat) (ad : Option Addr) (cap n : Nat) (xs : List Value) [h : FAr B ad E size cap n xs R] : FAr (A * B) ad E size cap n xs (A * R) := ⟨ent_right h.ent⟩
instance (priority := 800) FAr.all (E size : Nat) (ad : Option Addr) (cap n : Nat) (xs : List Value) : FAr (Arr E size ad cap n xs) ad E size cap n xs emp := ⟨Ent.addEmp _⟩
theorem rt_ar (ad : Option Addr) {E size cap m : Nat} {xs : List Value} [hf : FAr A ad E size cap m xs R] (h : xs.length = m * size → (ad = none → m = 0 ∧ cap = 0) → m ≤ cap → cap ≤ maxLen → RT P ops Q n D W0 rest ρ A) : RT P ops Q n D W0 rest ρ A := fun a w ha s => by
  have hf' : FArr A E size ad cap m xs R := ⟨hf.ent⟩
  obtain ⟨h1, h2, h3, h4⟩ := arr_fact (E := E) (size := size) ad cap s
  exact h h1 h2 h3 h4 a w ha s
theorem ct_ar (ad : Option Addr) {c : Code} {E size cap m : Nat} {xs : List Value} [hf : FAr A ad E size cap m xs R] (h : xs.length = m * size → (ad = none → m = 0 ∧ cap = 0) → m ≤ cap → cap ≤ maxLen → CT P c Q n D W0 ρ A) : CT P c Q n D W0 ρ A := fun a w ha s => by
  have hf' : FArr A E size ad cap m xs R := ⟨hf.ent⟩
  obtain ⟨h1, h2, h3, h4⟩ := arr_fact (E := E) (size := size) ad cap s
  exact h h1 h2 h3 h4 a w ha s
theorem o_storeArr {x y : Operand} {t j E size cap m : Nat} {ad : Option Addr} {xs xs' : List Value} {v : Value} (hx : ev ρ x = .pointer (some ((adr ad).add j))) (hy : ev ρ y = v) (hv : v.oneCell' = true) [h1 : Ty1 P t] [hf : FAr A ad E size cap m xs R] (hj : j < xs.length) (hcs : xs.set j v = xs')
    (h : K ρ (Arr E size ad cap m xs' * R)) : OT P Q n D W0 ⟨none, .store t x y, ty, pos, aft, gd⟩ ρ A K :=
  o_do rfl (fun w s => by
    obtain ⟨hl, hc⟩ := (s.ent hf.ent).arr
    rcases hc with ⟨_, _, rfl⟩ | ⟨g, spare, rfl, h2, h3, h4, s'⟩
    · simp at hl; subst hl; simp at hj
    · have ha : (Addr.add ⟨g, 0, none⟩ j) = ⟨g, j, none⟩ := by unfold Addr.add; split <;> simp_all
      rw [adr_some, ha] at hx
      refine ⟨_, ?_, ((s'.set j v).ent (Ent.mul ?_ (Ent.refl _)))⟩
      · have := run_storeVar_one (P := P) (t := t) s' (i := j) (by simp; omega) hv
        simp [execOp, hx, hy, Instr.storeAt, Instr.sureAddr, this]
      · have e : (xs ++ spare).set j v = xs' ++ spare := by rw [List.set_append, if_pos hj, hcs]
        rw [e]
        have hl' : xs'.length = xs.length := by rw [← hcs]; simp
        exact arr_mk (by rw [hl', hl]) h2 h3 (by rw [hl', h4])) h

theorem o_storeI {x y : Operand} {t p i : Nat} {cs cs' : List Value} {T : TypeId} {v : Value}
    (hx : ev ρ x = .pointer (some ⟨p, i, none⟩)) (hy : ev ρ y = v) (hv : v.oneCell' = true) [h1 : Ty1 P t] [hb : FBlk A p cs T R] (hi : i < cs.length) (hcs : cs.set i v = cs')
    (h : K ρ (Blk p cs' T * R)) : OT P Q n D W0 ⟨none, .store t x y, ty, pos, aft, gd⟩ ρ A K := o_store hx hy hv (by simpa [Nat.blt_eq] using hi) hcs h
theorem o_storeAgg_off {x y : Operand} {t p i size : Nat} {cs cs' : List Value} {T : TypeId} {vs : Array Value} (hx : ev ρ x = .pointer (some ⟨p, i, none⟩)) (hy : ev ρ y = .agg vs) {vl : List Value} (hvl : vs.toList = vl) (hv : vl.all (·.oneCell') = true) [h1 : TyA P t size] [hb : FBlk A p cs T R] (hs : vl.length = size) (hi : i + size ≤ cs.length) (hcs : cs.take i ++ vl ++ cs.drop (i + size) = cs')
    (h : K ρ (Blk p cs' T * R)) : OT P Q n D W0 ⟨none, .store t x y, ty, pos, aft, gd⟩ ρ A K :=
  o_do rfl (fun w s => by
    have s' := s.ent hb.ent
    have e := run_storeCells_at P p i T vl 0 cs.toArray w s'.blk (by simp; omega) (fun v hm => List.all_eq_true.1 hv v hm)
    obtain ⟨inf, hinf, hsz⟩ := Option.map_eq_some_iff.1 h1.size
    have e2 : (storeVar t ⟨p, i, none⟩ (.agg vs)).run P w = .ok () (w.setRow p cs'.toArray) := by
      have hsz' : vs.size = size := by rw [← hs, ← hvl]; simp
      simp only [storeVar, Value.cells, sizeOf, typeInfo]
      simp [hinf, hsz, hsz', hvl]
      have e3 : cs.toArray.toList.take (i + 0) ++ vl ++ cs.toArray.toList.drop (i + 0 + vl.length) = cs' := by rw [← hcs, hs]; simp
      rw [e3] at e
      exact e
    exact ⟨_, by simp [execOp, hx, hy, Instr.storeAt, Instr.sureAddr, e2], s'.row (cs' := cs')⟩) h
/-! ### appends, make -/
/-- append, and what becomes of the elder row: it is the same one that grew, or it stays as it was -/
theorem run_append_arrK {T u E size bytes m k cap : Nat} {z : Value} {ad : Option Addr} {xs news : List Value} {x : Value} {w : World} {du : TypeDesc} [ht : TyU P T (.slice E)] [hu : TyU P u du] [he : TyI P E size bytes z] (hdu : (∃ e, du = .slice e) ∨ du = .string)
    (s : Sat W0 w (Arr E size ad cap m xs * R)) (hsrc : Src P (Arr E size ad cap m xs * R) size x k news) (h1 : ∀ v ∈ news, v.oneCell' = true) (h63 : m + k ≤ maxLen) (hb : (m + k) * bytes ≤ 140737488355328) :
    ∃ ad' cap' w' O, (Builtin.append_ #[T, u] ty #[.slice ad m cap, x]).run P w = .ok (.slice ad' (m + k) cap') w' ∧ ((ad' = ad ∧ cap' = cap) ∨ (ad' ≠ none ∧ Ent O (Arr E size ad cap m xs))) ∧ Sat W0 w' (Arr E size ad' cap' (m + k) (xs ++ news) * (O * R)) := by
  have hzs := he.cells
  have hsrc' := hsrc
  obtain ⟨hnl, hs⟩ := hsrc
  obtain ⟨hlen, hcells⟩ := hs W0 w s
  obtain ⟨i, hi, hie⟩ := Option.map_eq_some_iff.1 he.eq
  obtain ⟨hz0, hz1, hz2⟩ : i.zero = some z ∧ i.size = size ∧ i.bytes = bytes := by simpa using hie
  have hfull := hcells k (Nat.le_refl _)
  rw [List.take_of_length_le (by omega)] at hfull
  obtain ⟨hxl, hc⟩ := s.arr
  have hal : (xs ++ news).length = (m + k) * size := by rw [List.length_append, hxl, hnl, Nat.add_mul]
  by_cases hroom : m + k ≤ cap
  · rcases hc with ⟨rfl, rfl, rfl⟩ | ⟨g, spare, rfl, h2, h3, h4, s'⟩
    · obtain rfl : k = 0 := by omega
      have hn : news = [] := List.eq_nil_of_length_eq_zero (by simpa using hnl)
      have hx0 : xs = [] := List.eq_nil_of_length_eq_zero (by simpa using hxl)
      subst hn hx0
      refine ⟨none, 0, w, emp, ?_, .inl ⟨rfl, rfl⟩, ?_⟩
      · have hue := hu.eq
        rcases hdu with ⟨e, rfl⟩ | rfl <;> simp [Builtin.append_, run_underlying ht.eq, run_underlying hue, sizeOf, typeInfo, hi, hz1, hlen, hfull]
      · exact s.ent (Ent.mul (Ent.refl _) ((Ent.addEmp _).trans (Ent.comm _ _)))
    · have hst := run_storeCells_at P g (m * size) E news 0 (xs ++ spare).toArray w s'.blk (by
        simp only [List.size_toArray, List.length_append, h4, hnl, Nat.add_zero, ← Nat.add_mul]
        exact Nat.mul_le_mul_right _ hroom) h1
      have ha : (Addr.add ⟨g, 0, none⟩ (m * size)) = ⟨g, m * size, none⟩ := by unfold Addr.add; split <;> simp_all
      simp only [Nat.add_zero] at hst
      have e : ((xs ++ spare).toArray.toList.take (m * size) ++ news ++ (xs ++ spare).toArray.toList.drop (m * size + news.length)) = (xs ++ news) ++ spare.drop news.length := by
        simp only [List.toList_toArray]
        rw [← hxl, List.take_left, List.drop_append]
        simp
      rw [e] at hst
      refine ⟨some ⟨g, 0, none⟩, cap, _, emp, ?_, .inl ⟨rfl, rfl⟩, (s'.row (cs' := ((xs ++ news) ++ spare.drop news.length))).ent (Ent.mul (arr_mk hal hroom h3 ?_) ((Ent.addEmp _).trans (Ent.comm _ _)))⟩
      · have hue := hu.eq
        rcases hdu with ⟨e, rfl⟩ | rfl <;> simp [Builtin.append_, run_underlying ht.eq, run_underlying hue, sizeOf, typeInfo, hi, hz1, hlen, hfull, hroom, ha, hst]
      · have : news.length ≤ spare.length := by
          have := Nat.mul_le_mul_right size hroom
          rw [Nat.add_mul, ← hxl, ← hnl, ← h4] at this; omega
        simp only [List.length_append, List.length_drop]; omega
  · have hg : cap < m + k := by omega
    have hfit := growslice_fits hg hb
    have hn63 : ¬ (9223372036854775807 < ((m : Int) + (k : Int))) := by unfold maxLen at h63; omega
    have h48 : ¬ (281474976710656 < Builtin.nextslicecap (m + k) cap * bytes) := by omega
    have hcap1 := grownCap_ge w (m + k) cap E
    have hcap2 := grownCap_le_maxLen w (m + k) cap E h63
    have hcells' : (Builtin.firstCells size k x).run P w.drew = .ok news.toArray w.drew := by
      have := (hs W0 w.drew (s.drew)).2 k (Nat.le_refl _)
      rwa [List.take_of_length_le (by omega)] at this
    have hold : (Builtin.firstCells size m (.slice ad m cap)).run P w.drew = .ok xs.toArray w.drew := by
      rcases hc with ⟨rfl, rfl, rfl⟩ | ⟨g, spare, rfl, h2, h3, h4, s'⟩
      · have hx0 : xs = [] := List.eq_nil_of_length_eq_zero (by simpa using hxl)
        subst hx0; simp [Builtin.firstCells]
      · exact run_firstCells_some (P := P) w.drew size m _ m cap xs hxl fun j v e => (show Sat W0 w.drew _ from s.drew).arrCell j v e
    have s2 : Sat W0 w.drew (Arr E size ad cap m xs * R) := s.drew
    have s3 := s2.alloc ((xs ++ news) ++ (Builtin.zeroCells z.cells (grownCap w (m + k) cap E - (m + k))).toList).toArray E
    refine ⟨some ⟨w.heap.size, 0, none⟩, grownCap w (m + k) cap E, _, Arr E size ad cap m xs, ?_, .inr ⟨fun h => (by cases h), Ent.refl _⟩, s3.ent (Ent.mul (arr_mk hal hcap1 hcap2 ?_) (Ent.refl _))⟩
    · have hr : ∀ b : Nat, (askRoom b).run P w.drew = .ok () w.drew := fun b => by unfold askRoom; split <;> rfl
      have hue := hu.eq
      rcases hdu with ⟨e, rfl⟩ | rfl
      all_goals
        simp [Builtin.append_, run_underlying ht.eq, run_underlying hue, sizeOf, typeInfo, zeroValue, hi, hz0, hz1, hz2, hlen, hroom, hn63, h48, hold, hcells', newRow, hr, Question.forced, grownCap]
        congr 2
        apply Array.ext'
        simp [List.append_assoc]
    · rw [hal]
      simp only [Array.length_toList, size_zeroCells, hzs, ← Nat.add_mul]
      congr 1; omega
theorem o_appV {T u E size bytes m k cap : Nat} {z : Value} {x y : Operand} {ad : Option Addr} {v : Value} {xs news : List Value} {du : TypeDesc}
    (hd : Nat.blt d n = true) [ht : TyU P T (.slice E)] [hu : TyU P u du] [he : TyI P E size bytes z]
    (hx : ev ρ x = .slice ad m cap) (hy : ev ρ y = v) [hf : FArr A E size ad cap m xs R] (hsrc : ∀ W0 w, Sat W0 w R → news.length = k * size ∧ (Builtin.lenOf v).run P w = .ok k w ∧ (∀ i, i ≤ k → (Builtin.firstCells size i v).run P w = .ok (news.take (i * size)).toArray w)) (h1 : news.all Value.oneCell' = true) (h0 : Nat.blt 0 bytes = true) (hb : (m + k) * bytes ≤ 140737488355328)
    (hdu : (∃ e, du = .slice e) ∨ du = .string)
    (h : ∀ ad' cap', m + k ≤ cap' → (ad' = none → m + k = 0 ∧ ad = none) → K (upd ρ d (.slice ad' (m + k) cap')) (Arr E size ad' cap' (m + k) (xs ++ news) * R)) :
    OT P Q n D W0 ⟨some d, .call { callee := .builtin .append, args := #[x, y], argTypes := #[T, u] }, ty, pos, aft, gd⟩ ρ A K :=
  o_run rfl hd fun w s => by
    have s1 := s.ent hf.ent
    have hln := (hsrc W0 w (s1.ent (Ent.dropL _ _))).1
    obtain ⟨ad', cap', w', O, hr, hO, s'⟩ := run_append_arrK (P := P) (ty := ty) (T := T) (u := u) (z := z) hdu s1 (k := k) (news := news) (x := v) ⟨hln, fun W1 w1 t => (hsrc W1 w1 (t.ent (Ent.dropL _ _))).2⟩ (by simpa [List.all_eq_true] using h1) (max_of_bytes h0 hb) hb
    obtain ⟨_, f2, f3, _⟩ := arr_fact (E := E) (size := size) ad' cap' s'
    refine ⟨_, _, w', ?_, s'.ent (Ent.mul (Ent.refl _) (Ent.dropL _ _)), h ad' cap' f3 (fun e => ⟨(f2 e).1, hO.elim (fun x => by rw [← x.1]; exact e) fun x => absurd e x.1⟩)⟩
    simp [execOp, resolve, invoke, builtin, hx, hy, hr]
/-- append of a slice's elements -/
theorem o_appR {T u E E' size bytes m k cap c : Nat} {z : Value} {x y : Operand} {ad ad2 : Option Addr} {xs news : List Value}
    (hd : Nat.blt d n = true) [ht : TyU P T (.slice E)] [hu : TyU P u (.slice E')] [he : TyI P E size bytes z]
    (hx : ev ρ x = .slice ad m cap) (hy : ev ρ y = .slice ad2 k c) [hf : FArr A E size ad cap m xs R] [hr : Rd R ad2 news] (hl : news.length = k * size) (h1 : news.all Value.oneCell' = true) (h0 : Nat.blt 0 bytes = true) (h0' : Nat.blt 0 size = true) (hb : (m + k) * bytes ≤ 140737488355328)
    {mk : Nat} {ys : List Value} (hm : m + k = mk) (hys : xs ++ news = ys) (h : ∀ ad' cap', mk ≤ cap' → (ad' = none → mk = 0 ∧ ad = none) → K (upd ρ d (.slice ad' mk cap')) (Arr E size ad' cap' mk ys * R)) :
    OT P Q n D W0 ⟨some d, .call { callee := .builtin .append, args := #[x, y], argTypes := #[T, u] }, ty, pos, aft, gd⟩ ρ A K := by
  subst hm hys
  refine o_appV hd hx hy (fun W1 w s => ⟨hl, ?_⟩) h1 h0 hb (.inl ⟨_, rfl⟩) h
  cases ad2 with
  | none =>
    have hn := hr.nil W1 w s rfl
    subst hn
    have h0 : 0 < size := by simpa [Nat.blt_eq] using h0'
    simp only [List.length_nil] at hl
    have : k = 0 := by rcases Nat.eq_zero_or_pos k with h | h; exact h; have := Nat.mul_pos h h0; omega
    subst this
    exact (src_none (P := P) (A := R) (size := size)).2 W1 w s
  | some g => exact (src_slice (P := P) hl (hr.rd g rfl)).2 W1 w s
/-- append of a slice's elements, where more of it can be read -/
theorem o_appP {T u E E' size bytes m k cap c : Nat} {z : Value} {x y : Operand} {ad ad2 : Option Addr} {xs vs news : List Value}
    (hd : Nat.blt d n = true) [ht : TyU P T (.slice E)] [hu : TyU P u (.slice E')] [he : TyI P E size bytes z]
    (hx : ev ρ x = .slice ad m cap) (hy : ev ρ y = .slice ad2 k c) [hf : FArr A E size ad cap m xs R] [hr : Rd R ad2 vs] (hl : k * size ≤ vs.length) (hnews : vs.take (k * size) = news) (h1 : news.all Value.oneCell' = true) (h0 : Nat.blt 0 bytes = true) (h0' : Nat.blt 0 size = true) (hb : (m + k) * bytes ≤ 140737488355328)
    {mk : Nat} {ys : List Value} (hm : m + k = mk) (hys : xs ++ news = ys) (h : ∀ ad' cap', mk ≤ cap' → (ad' = none → mk = 0 ∧ ad = none) → K (upd ρ d (.slice ad' mk cap')) (Arr E size ad' cap' mk ys * R)) :
    OT P Q n D W0 ⟨some d, .call { callee := .builtin .append, args := #[x, y], argTypes := #[T, u] }, ty, pos, aft, gd⟩ ρ A K := by
  have hr' : Rd R ad2 news := by rw [← hnews]; exact hr.take _
  exact o_appR hd hx hy (by rw [← hnews, List.length_take]; omega) h1 h0 h0' hb hm hys h
theorem o_appS {T u E bytes m cap : Nat} {z : Value} {x y : Operand} {ad : Option Addr} {xs news : List Value} {str : ByteArray}
    (hd : Nat.blt d n = true) [ht : TyU P T (.slice E)] [hu : TyU P u .string] [he : TyI P E 1 bytes z]
    (hx : ev ρ x = .slice ad m cap) (hy : ev ρ y = .string str) [hf : FArr A E 1 ad cap m xs R] (hn : (str.data.toList.map bv) = news) (h0 : Nat.blt 0 bytes = true) (hb : (m + str.size) * bytes ≤ 140737488355328)
    {mk : Nat} {ys : List Value} (hm : m + str.size = mk) (hys : xs ++ news = ys) (h : ∀ ad' cap', mk ≤ cap' → (ad' = none → mk = 0 ∧ ad = none) → K (upd ρ d (.slice ad' mk cap')) (Arr E 1 ad' cap' mk ys * R)) :
    OT P Q n D W0 ⟨some d, .call { callee := .builtin .append, args := #[x, y], argTypes := #[T, u] }, ty, pos, aft, gd⟩ ρ A K := by
  subst hn hm hys
  exact o_appV hd hx hy (fun W1 w s => ⟨by simp, (src_string (P := P) (A := R) (s := str)).2 W1 w s⟩) (List.all_eq_true.2 fun v h => bvs_one v h) h0 hb (.inr rfl) h
/-- 's = append(s, v)' -/
theorem o_app2 {T E b size bytes m cap c : Nat} {z : Value} {x y : Operand} {ad : Option Addr} {vc xs : List Value} {T' : TypeId} {R1 : HP}
    (hd : Nat.blt d n = true) [ht : TyU P T (.slice E)] [he : TyI P E size bytes z]
    (hx : ev ρ x = .slice ad m cap) (hy : ev ρ y = .slice (some ⟨b, 0, none⟩) 1 c) [hb : FBlk A b vc T' R1] [hf : FArr R1 E size ad cap m xs R] (hl : vc.length = size) (h1 : vc.all Value.oneCell' = true) (h0 : Nat.blt 0 bytes = true) (hbig : (m + 1) * bytes ≤ 140737488355328)
    {mk : Nat} {ys : List Value} (hm : m + 1 = mk) (hys : xs ++ vc = ys) (h : ∀ ad' cap', mk ≤ cap' → ad' ≠ none → K (upd ρ d (.slice ad' mk cap')) (Arr E size ad' cap' mk ys * R)) :
    OT P Q n D W0 ⟨some d, .call { callee := .builtin .append, args := #[x, y], argTypes := #[T, T] }, ty, pos, aft, gd⟩ ρ A K :=
  o_run rfl hd fun w s => by
    subst hm hys
    have e1 : Ent A (Blk b vc T' * (Arr E size ad cap m xs * R)) := hb.ent.trans (Ent.mul (Ent.refl _) hf.ent)
    have e2 : Ent A (Arr E size ad cap m xs * (Blk b vc T' * R)) := e1.trans ((Ent.assoc' _ _ _).trans ((Ent.mul (Ent.comm _ _) (Ent.refl _)).trans (Ent.assoc _ _ _)))
    have hsrc : Src P (Arr E size ad cap m xs * (Blk b vc T' * R)) size (.slice (some ⟨b, 0, none⟩) 1 c) 1 vc :=
      src_slice (by omega) (Reads.mulR (Reads.mulL (fun _ w s j v e => (s.ent (Ent.addEmp _)).cellsFrom 0 (by intro j v h; simpa using h) j v e)))
    obtain ⟨ad', cap', w', hr, s'⟩ := run_append_arr (P := P) (ty := ty) (T := T) (u := T) (z := z) (.inl ⟨E, rfl⟩) (s.ent e2) hsrc (by simpa [List.all_eq_true] using h1) (max_of_bytes h0 hbig) hbig
    obtain ⟨_, f2, f3, _⟩ := arr_fact (E := E) (size := size) ad' cap' s'
    refine ⟨_, _, w', ?_, s'.ent (Ent.mul (Ent.refl _) (Ent.dropL _ _)), h ad' cap' f3 fun e => by have := (f2 e).1; omega⟩
    simp [execOp, resolve, invoke, builtin, hx, hy, hr]
/-- 'g = append(s, v)', where s is still wanted -/
theorem o_app2K {T E b size bytes m cap c : Nat} {z : Value} {x y : Operand} {ad : Option Addr} {vc xs : List Value} {T' : TypeId} {R1 : HP}
    (hd : Nat.blt d n = true) [ht : TyU P T (.slice E)] [he : TyI P E size bytes z]
    (hx : ev ρ x = .slice ad m cap) (hy : ev ρ y = .slice (some ⟨b, 0, none⟩) 1 c) [hb : FBlk A b vc T' R1] [hf : FArr R1 E size ad cap m xs R] (hl : vc.length = size) (h1 : vc.all Value.oneCell' = true) (h0 : Nat.blt 0 bytes = true) (hbig : (m + 1) * bytes ≤ 140737488355328)
    {mk : Nat} {ys : List Value} (hm : m + 1 = mk) (hys : xs ++ vc = ys) (h : ∀ ad' cap' O, mk ≤ cap' → ad' ≠ none → ((ad' = ad ∧ cap' = cap) ∨ Ent O (Arr E size ad cap m xs)) → K (upd ρ d (.slice ad' mk cap')) (Arr E size ad' cap' mk ys * (O * R))) :
    OT P Q n D W0 ⟨some d, .call { callee := .builtin .append, args := #[x, y], argTypes := #[T, T] }, ty, pos, aft, gd⟩ ρ A K :=
  o_run rfl hd fun w s => by
    subst hm hys
    have e1 : Ent A (Blk b vc T' * (Arr E size ad cap m xs * R)) := hb.ent.trans (Ent.mul (Ent.refl _) hf.ent)
    have e2 : Ent A (Arr E size ad cap m xs * (Blk b vc T' * R)) := e1.trans ((Ent.assoc' _ _ _).trans ((Ent.mul (Ent.comm _ _) (Ent.refl _)).trans (Ent.assoc _ _ _)))
    have hsrc : Src P (Arr E size ad cap m xs * (Blk b vc T' * R)) size (.slice (some ⟨b, 0, none⟩) 1 c) 1 vc :=
      src_slice (by omega) (Reads.mulR (Reads.mulL (fun _ w s j v e => (s.ent (Ent.addEmp _)).cellsFrom 0 (by intro j v h; simpa using h) j v e)))
    obtain ⟨ad', cap', w', O, hr, hO, s'⟩ := run_append_arrK (P := P) (ty := ty) (T := T) (u := T) (z := z) (.inl ⟨E, rfl⟩) (s.ent e2) hsrc (by simpa [List.all_eq_true] using h1) (max_of_bytes h0 hbig) hbig
    obtain ⟨_, f2, f3, _⟩ := arr_fact (E := E) (size := size) ad' cap' s'
    refine ⟨_, _, w', ?_, s'.ent (Ent.mul (Ent.refl _) (Ent.mul (Ent.refl _) (Ent.dropL _ _))), h ad' cap' O f3 (fun e => by have := (f2 e).1; omega) (hO.imp id fun x => x.2)⟩
    simp [execOp, resolve, invoke, builtin, hx, hy, hr]
theorem g_notT {x : Operand} {T : TypeId} (hx : ev ρ x = .bool true) : Gives P ⟨dst, .unOp .not T x, ty, pos, aft, gd⟩ ρ A (.bool false) := g_not hx
theorem g_notF {x : Operand} {T : TypeId} (hx : ev ρ x = .bool false) : Gives P ⟨dst, .unOp .not T x, ty, pos, aft, gd⟩ ρ A (.bool true) := g_not hx
theorem g_negN {x : Operand} {T : TypeId} {k : IntKind} {a : Int} (hx : ev ρ x = .int k a) (h : InK k (-a)) : Gives P ⟨dst, .unOp .neg T x, ty, pos, aft, gd⟩ ρ A (.int k (-a)) := by
  have := g_neg (P := P) (A := A) (dst := dst) (ty := ty) (pos := pos) (aft := aft) (gd := gd) (T := T) hx
  rwa [wrap_in h] at this
theorem g_buildZ {T k E s b s' b' : Nat} {z z' : Value} {zs : Array Value} [ht : TyU P T (.array k E)] [hT : TyI P T s b z] [hE : TyI P E s' b' z'] (hz : z = .agg zs) :
    Gives P ⟨dst, .build T #[], ty, pos, aft, gd⟩ ρ A (.agg zs) := by
  subst hz
  have := g_buildA0 (P := P) (ρ := ρ) (A := A) (dst := dst) (ty := ty) (pos := pos) (aft := aft) (gd := gd) (T := T) (k := k) (E := E) (zc := zs.toList) (by simp [Value.cells])
  simpa using this
theorem g_subNN {x y : Operand} {T T' : TypeId} {k : IntKind} {a b : Int} {i j : Nat} (hx : ev ρ x = .int k a) (hy : ev ρ y = .int k b) [ha : NatI a i] [hb : NatI b j] (h : j ≤ i) (hk : InK k (i : Int)) : Gives P ⟨dst, .binOp .sub T x y T', ty, pos, aft, gd⟩ ρ A (.int k ((i - j : Nat) : Int)) := by
  have e : a - b = ((i - j : Nat) : Int) := by rw [ha.eq, hb.eq]; omega
  have := g_subN (P := P) (A := A) (dst := dst) (ty := ty) (pos := pos) (aft := aft) (gd := gd) (T := T) (T' := T') hx hy (by rw [e]; cases k <;> simp only [InK] at hk ⊢ <;> omega)
  rwa [e] at this
theorem g_as {o : Oper} {v v' : Value} (e : v = v') (h : Gives P o ρ A v) : Gives P o ρ A v' := e ▸ h
/-- 'make([]T, l, c)' of elements of one cell -/
theorem o_make1 {T E bytes l c : Nat} {z : Value} {x y : Operand} {k k' : IntKind} {i i' : Int} (hd : Nat.blt d n = true) [ht : TyU P T (.slice E)] [he : TyI P E 1 bytes z] (hx : ev ρ x = .int k i) (hy : ev ρ y = .int k' i') [hl : NatI i l] [hc : NatI i' c] (hlc : l ≤ c) {z0 : Value} (hzc : z.cells = #[z0]) (h0 : Nat.blt 0 bytes = true) (hb : c * bytes ≤ 140737488355328)
    {zs : List Value} (hzs : List.replicate l z0 = zs) (h : ∀ b, K (upd ρ d (.slice (some ⟨b, 0, none⟩) l c)) (Arr E 1 (some ⟨b, 0, none⟩) c l zs * A)) :
    OT P Q n D W0 ⟨some d, .makeSlice T x y, ty, pos, aft, gd⟩ ρ A K :=
  o_run rfl hd fun w s => by
    subst hzs
    obtain ⟨inf, hi, hz, hs, hbb⟩ := tyI_parts he
    have hmax := max_of_bytes h0 hb
    have hmax' := hmax
    unfold maxLen at hmax
    have hbi : (inf.bytes : Int) * (c : Int) ≤ 281474976710656 := by
      rw [hbb, Int.mul_comm, ← Int.natCast_mul]; omega
    have e2 := run_make (P := P) w T E inf z ht.eq hi hz k k' i i' hl.nn (by rw [hl.eq, hc.eq]; omega) (by rw [hc.eq]; exact hbi) (by rw [hc.eq]; omega)
    rw [hl.to, hc.to, hs, Nat.mul_one] at e2
    have key : (madeCells z.cells c).toList = List.replicate l z0 ++ List.replicate (c - l) z0 := by
      rw [List.replicate_append_replicate, show l + (c - l) = c by omega]
      unfold madeCells
      simp only [Array.toList_map, Array.toList_range, hzc]
      apply List.ext_getElem
      · simp
      · intro a h1 h2; simp [Nat.mod_one]
    refine ⟨.slice (some ⟨w.heap.size, 0, none⟩) l c, _, _, ?_, (s.alloc (madeCells z.cells c) E).ent (Ent.mul (?_ : Ent _ (Arr E 1 (some ⟨w.heap.size, 0, none⟩) c l (List.replicate l z0))) (Ent.refl _)), h w.heap.size⟩
    · simp [execOp, hx, hy, e2]
    · rw [key]
      exact arr_mk (by simp) hlc hmax' (by simp; omega)

theorem ot_ent {o : Oper} (h : OT P Q n D W0 o ρ A fun ρ' A' => ∃ B, Ent A' B ∧ K ρ' B) : OT P Q n D W0 o ρ A K := fun a w ha s K' hK => h a w ha s K' fun ρ' A' a' w' ⟨_, e, k⟩ ha' s' => hK ρ' _ a' w' k ha' (s'.ent e)
/-- '[]T{}' -/
theorem o_build0 {T E size bytes : Nat} {z : Value} (hd : Nat.blt d n = true) [ht : TyU P T (.slice E)] [he : TyI P E size bytes z]
    (h : ∀ b, K (upd ρ d (.slice (some ⟨b, 0, none⟩) 0 0)) (Arr E size (some ⟨b, 0, none⟩) 0 0 [] * A)) : OT P Q n D W0 ⟨some d, .buildSlice T 0 #[], ty, pos, aft, gd⟩ ρ A K :=
  ot_ent (o_buildN (parts := []) (zl := []) (cs := []) hd rfl (by rw [Nat.zero_mul]; rfl) (by rw [Nat.zero_mul]; rfl) rfl fun b => ⟨_, Ent.mul (blk_arr size 0 (by simp) (by unfold maxLen; omega)) (Ent.refl _), h b⟩)

/-! ### splits -/
theorem upd_self {ρ : Env} {g : Nat} {v : Value} (h : ρ g = v) : upd ρ g v = ρ := by
  funext s
  simp only [upd]
  by_cases e : s = g
  · subst e; simp [h]
  · rw [beq_no e]; rfl
theorem rt_split (g : Nat) {p : Prop} [Decidable p] (hv : ρ g = .bool (decide p)) (ht : p → RT P ops Q n D W0 rest (upd ρ g (.bool true)) A) (hf : ¬ p → RT P ops Q n D W0 rest (upd ρ g (.bool false)) A) : RT P ops Q n D W0 rest ρ A := by
  by_cases h : p
  · have := ht h; rwa [upd_self (by rw [hv, decide_eq_true h])] at this
  · have := hf h; rwa [upd_self (by rw [hv, decide_eq_false h])] at this
theorem rt_splitB (g : Nat) {b : Bool} (hv : ρ g = .bool b) (ht : b = true → RT P ops Q n D W0 rest (upd ρ g (.bool true)) A) (hf : b = false → RT P ops Q n D W0 rest (upd ρ g (.bool false)) A) : RT P ops Q n D W0 rest ρ A := by
  cases h : b
  · have := hf h; rwa [upd_self (by rw [hv, h])] at this
  · have := ht h; rwa [upd_self (by rw [hv, h])] at this
theorem rq_split (g : Nat) {p : Prop} [Decidable p] (hv : ρ g = .bool (decide p)) (ht : p → RQ P ops Q n D W0 rest (upd ρ g (.bool true)) A) (hf : ¬ p → RQ P ops Q n D W0 rest (upd ρ g (.bool false)) A) : RQ P ops Q n D W0 rest ρ A := by
  by_cases h : p
  · have := ht h; rwa [upd_self (by rw [hv, decide_eq_true h])] at this
  · have := hf h; rwa [upd_self (by rw [hv, decide_eq_false h])] at this
theorem rq_splitB (g : Nat) {b : Bool} (hv : ρ g = .bool b) (ht : b = true → RQ P ops Q n D W0 rest (upd ρ g (.bool true)) A) (hf : b = false → RQ P ops Q n D W0 rest (upd ρ g (.bool false)) A) : RQ P ops Q n D W0 rest ρ A := by
  cases h : b
  · have := hf h; rwa [upd_self (by rw [hv, h])] at this
  · have := ht h; rwa [upd_self (by rw [hv, h])] at this

theorem any_split {l : List Oper} {e fuel : Nat} {listed : Array Bool} (g : Nat) {p : Prop} [Decidable p] (hv : ρ g = .bool (decide p)) (ht : p → AnyT P l.toArray Q n D W0 R e fuel listed (upd ρ g (.bool true)) A) (hf : ¬ p → AnyT P l.toArray Q n D W0 R e fuel listed (upd ρ g (.bool false)) A) : AnyT P l.toArray Q n D W0 R e fuel listed ρ A := by
  by_cases h : p
  · have := ht h; rwa [upd_self (by rw [hv, decide_eq_true h])] at this
  · have := hf h; rwa [upd_self (by rw [hv, decide_eq_false h])] at this
theorem any_splitB {l : List Oper} {e fuel : Nat} {listed : Array Bool} (g : Nat) {b : Bool} (hv : ρ g = .bool b) (ht : b = true → AnyT P l.toArray Q n D W0 R e fuel listed (upd ρ g (.bool true)) A) (hf : b = false → AnyT P l.toArray Q n D W0 R e fuel listed (upd ρ g (.bool false)) A) : AnyT P l.toArray Q n D W0 R e fuel listed ρ A := by
  cases h : b
  · have := hf h; rwa [upd_self (by rw [hv, h])] at this
  · have := ht h; rwa [upd_self (by rw [hv, h])] at this
theorem ct_anyA {id : Nat} {l : List Oper} [hm : Mixed P] (e : Nat) (h : AnyT P l.toArray Q n D W0 A e l.length (Array.replicate l.length false) ρ A) : CT P (.region id l.toArray true) Q n D W0 ρ A := ct_any A e h
theorem ct_anyP {id : Nat} {l : List Oper} {X : HP} [hm : Mixed P] (e : Nat) (_ : Ent A (X * R)) (h : AnyT P l.toArray Q n D W0 R e l.length (Array.replicate l.length false) ρ A) : CT P (.region id l.toArray true) Q n D W0 ρ A := ct_any R e h
/-- an operation that is wanted not, the only one that is ready -/
theorem any_oneSkip {l : List Oper} {o : Oper} {e fuel : Nat} {listed : Array Bool} {k j g : Nat} {b : Bool} (hr : Region.ready .any l.toArray listed = [k]) (hk : l[k]? = some o) (hgd : o.guard = some (j, b)) (hj : (l.toArray[j]?).bind (·.dst) = some g) (he : Nat.blt g n = true) (hv : ρ g = .bool (!b) ∨ ρ g = undef) (ho : o.dst = some d) (hd : Nat.blt d n = true)
    (h : ((listed.setIfInBounds k true).getD e false = true ∨ Ent A R) ∧ AnyT P l.toArray Q n D W0 R e fuel (listed.setIfInBounds k true) (upd ρ d undef) A) : AnyT P l.toArray Q n D W0 R e (fuel + 1) listed ρ A := fun a w ha s => by
  refine ⟨fun h0 => (by rw [h0] at hr; cases hr), fun i hi => ?_⟩
  rw [hr, List.mem_singleton] at hi
  subst hi
  unfold wpOp
  have ho' : l.toArray[i]? = some o := by simpa using hk
  simp only [ho', wants_not hgd hj he hv ha, Bool.false_eq_true, if_false]
  rw [ho]
  exact ⟨h.1.imp id s.ent, h.2 _ w (ha.put hd undef) s⟩

/-- code behind which little need be known -/
theorem ct_join {ι : Type} {x : Code} (S : ι → List (Nat × Value)) (I : ι → HP)
    (hx : CT P x (Exit.then (fun a w => ∃ i, (∃ ρ, At n D (updl (S i) ρ) a) ∧ Sat W0 w (I i)) Q) n D W0 ρ A)
    (hy : ∀ i ρ', QT Q .normal n D W0 (updl (S i) ρ') (I i)) : CT P x Q n D W0 ρ A := fun a w ha s =>
  wp_mono (hx a w ha s) fun e a w q => by
    cases e with
    | normal => obtain ⟨i, ⟨ρ', ha'⟩, s'⟩ := q; exact hy i ρ' a w ha' s'
    | exit id => exact q
    | goto l => exact q
    | ret => exact q
    | panic c => exact q
    | outgrown => exact q

/-! ### calls -/
theorem o_callE {ι : Type} {f : FuncId} {xs : List Operand} {ats : Array TypeId} {args : List Value} {ret : ι → Value} {Pre : HP} {B : ι → HP}
    (hd : Nat.blt d n = true) (hx : xs.map (ev ρ) = args) [hf : FnB P f] (e : Ent A Pre) (hs : Spec P f args Pre ret B) (h : ∀ i, K (upd ρ d (ret i)) (B i)) :
    OT P Q n D W0 ⟨some d, .call { callee := .value (.func f), args := xs.toArray, argTypes := ats }, ty, pos, aft, gd⟩ ρ A K := o_call hd hx (fun W0 w s => hs W0 w (s.ent e)) h
theorem rq_callE {ι : Type} {f : FuncId} {xs : List Operand} {ats : Array TypeId} {args : List Value} {ret : ι → Value} {Pre : HP} {B : ι → HP} {v : Value}
    (hw : Wants ops n D ⟨some d, .call { callee := .value (.func f), args := xs.toArray, argTypes := ats }, ty, pos, aft, gd⟩ ρ) (hd : Nat.blt d n = true) (hx : xs.map (ev ρ) = args) [hf : FnB P f] (e : Ent A Pre) (hs : Spec P f args Pre ret B) (hr : ∀ i, ret i = v) (hB : ∀ i, Ent (B i) A)
    (h : RQ P ops Q n D W0 rest (upd ρ d v) A) : RQ P ops Q n D W0 (⟨some d, .call { callee := .value (.func f), args := xs.toArray, argTypes := ats }, ty, pos, aft, gd⟩ :: rest) ρ A :=
  rq_call hw hd hx (fun W0 w s => hs W0 w (s.ent e)) hr hB h
theorem spec_conseq {ι κ : Type} {f : FuncId} {args : List Value} {A A' : HP} {ret : ι → Value} {ret' : κ → Value} {B : ι → HP} {B' : κ → HP} (h : Spec P f args A ret B) (e : Ent A' A) (k : ∀ i, ∃ j, ret i = ret' j ∧ Ent (B i) (B' j)) : Spec P f args A' ret' B' := fun W0 w s =>
  (h W0 w (s.ent e)).mono fun e w' ⟨i, he, s'⟩ => let ⟨j, h1, h2⟩ := k i; ⟨j, by rw [he, h1], s'.ent h2⟩
end

theorem ent_swap (X Y Z : HP) : Ent (X * (Y * Z)) (Y * (X * Z)) := (Ent.assoc' _ _ _).trans ((Ent.mul (Ent.comm _ _) (Ent.refl _)).trans (Ent.assoc _ _ _))
theorem arr_cast {E size cap n n' : Nat} {ad : Option Addr} {xs xs' : List Value} (h : n = n') (k : xs = xs') : Ent (Arr E size ad cap n xs) (Arr E size ad cap n' xs') := by subst h k; exact Ent.refl _

/-! ### what lists tell -/
theorem byte_at {xs : List UInt8} {i : Nat} (h : i < xs.length) : (xs.map bv)[i]? = some (bv (xs.getD i 0)) := by
  rw [List.getElem?_map, List.getElem?_eq_getElem h]
  simp [List.getD, List.getElem?_eq_getElem h]
theorem rep_at {n i : Nat} {m : UInt8} (h : i < n) : ((List.replicate n m).map bv)[i]? = some (bv m) := by
  rw [List.map_replicate, List.getElem?_replicate, if_pos h]
theorem pos_of_get {vs : List Value} {j : Nat} {v : Value} (h : vs[j]? = some v) : 0 < vs.length := by
  have := (List.getElem?_eq_some_iff.1 h).1; omega
theorem rep_set (m : UInt8) (xs : List UInt8) (i : Nat) (h : i < xs.length) : ((List.replicate i m ++ xs.drop i).map bv).set i (bv m) = (List.replicate (i + 1) m ++ xs.drop (i + 1)).map bv := by
  have e : xs.drop i = xs[i] :: xs.drop (i + 1) := List.drop_eq_getElem_cons h
  rw [e, List.map_append, List.map_cons, List.set_append, if_neg (by simp), List.length_map, List.length_replicate, Nat.sub_self, List.set_cons_zero, List.replicate_succ', List.map_append, List.map_append, List.append_assoc]
  rfl
theorem snoc_bv {xs : List UInt8} {z : Int} (n : Nat) (h : z = (n : Int)) (hn : n < 256) : xs.map bv ++ [.int .u8 z] = (xs ++ [UInt8.ofNat n]).map bv := by
  subst h
  rw [List.map_append]
  congr 1
  show [Value.int .u8 (n : Int)] = [Value.int .u8 (((UInt8.ofNat n).toNat : Nat) : Int)]
  rw [UInt8.toNat_ofNat_of_lt' (by show _ < 256; omega)]
theorem zeros_set (xs : List UInt8) (n i : Nat) (h : i < xs.length) (hn : i < n) : ((xs.take i ++ List.replicate (n - i) 0).map bv).set i (bv (xs.getD i 0)) = (xs.take (i + 1) ++ List.replicate (n - (i + 1)) 0).map bv := by
  obtain ⟨k, hk⟩ : ∃ k, n - i = k + 1 := ⟨n - i - 1, by omega⟩
  have hk2 : n - (i + 1) = k := by omega
  rw [hk, hk2, List.replicate_succ, List.map_append, List.map_cons, List.set_append, if_neg (by simp; omega), List.length_map, List.length_take, Nat.min_eq_left (by omega), Nat.sub_self, List.set_cons_zero, List.take_succ_eq_append_getElem h, List.map_append, List.map_append, List.append_assoc]
  simp [List.getD, List.getElem?_eq_getElem h]
theorem take_snoc (xs hs : List UInt8) (i : Nat) (h : i < hs.length) : (xs ++ hs.take i).map bv ++ [bv (hs.getD i 0)] = (xs ++ hs.take (i + 1)).map bv := by
  rw [List.take_succ_eq_append_getElem h, ← List.append_assoc, List.map_append (l₁ := xs ++ hs.take i)]
  simp only [List.map_cons, List.map_nil, List.getD, List.getElem?_eq_getElem h, Option.getD_some]
theorem int_at {k : IntKind} {zs : List Int} {i : Nat} (h : i < zs.length) : (zs.map (Value.int k))[i]? = some (.int k (zs.getD i 0)) := by
  rw [List.getElem?_map, List.getElem?_eq_getElem h]
  simp [List.getD, List.getElem?_eq_getElem h]
theorem bool_at {ts : List Bool} {i : Nat} (h : i < ts.length) : (ts.map Value.bool)[i]? = some (.bool (ts.getD i false)) := by
  rw [List.getElem?_map, List.getElem?_eq_getElem h]
  simp [List.getD, List.getElem?_eq_getElem h]
theorem bvsAll (l : List UInt8) : (l.map bv).all Value.oneCell' = true := List.all_eq_true.2 fun v h => bvs_one v h
theorem flat_get {α : Type} {f : α → List Value} {size : Nat} (hf : ∀ x, (f x).length = size) : ∀ (l : List α) (i j : Nat) (x : α), l[i]? = some x → j < size → (l.flatMap f)[i * size + j]? = (f x)[j]?
  | [], i, j, x, h, _ => by simp at h
  | a :: l, 0, j, x, h, hj => by
    simp at h; subst h
    rw [List.flatMap_cons, List.getElem?_append_left (by rw [hf]; omega)]; simp
  | a :: l, i + 1, j, x, h, hj => by
    rw [List.flatMap_cons, List.getElem?_append_right (by rw [hf, Nat.add_mul]; omega), hf]
    have e : (i + 1) * size + j - size = i * size + j := by rw [Nat.add_mul]; omega
    rw [e]; exact flat_get hf l i j x (by simpa using h) hj
theorem flat_len {α : Type} {f : α → List Value} {size : Nat} (hf : ∀ x, (f x).length = size) : ∀ (l : List α), (l.flatMap f).length = l.length * size
  | [] => by simp
  | a :: l => by rw [List.flatMap_cons, List.length_append, hf, flat_len hf l, List.length_cons, Nat.add_mul]; omega
end Go.Proofs.Ytijplicijmpknaa
