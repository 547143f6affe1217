/- What single operations give. Any program. -/
import Derived.Test.YtijplicijmpknaaSt
namespace Go.Proofs.Ytijplicijmpknaa
open Go.RowKit

section
variable {P : Program} {ops : Array Oper} {Q : Exit → Act → World → Prop} {n : Nat} {D : List Deferred} {W0 : World} {rest : List Oper} {ρ : Env} {A B R : HP}
variable {d : Nat} {dst : Option Tmp} {ty : TypeId} {pos : String} {aft : Array Edge} {gd : Option (Nat × Bool)}

theorem g_move {x : Operand} {v : Value} (hx : ev ρ x = v) : Gives P ⟨dst, .move x, ty, pos, aft, gd⟩ ρ A v := fun _ _ _ => by
  simp only [execOp, hx]; rfl
theorem g_assign {x : Operand} {v : Value} (hx : ev ρ x = v) : Gives P ⟨dst, .assign x, ty, pos, aft, gd⟩ ρ A v := fun _ _ _ => by
  simp only [execOp, hx]; rfl
theorem g_pick {c x y : Operand} {b : Bool} {v u : Value} (hc : ev ρ c = .bool b) (hx : ev ρ x = v) (hy : ev ρ y = u) : Gives P ⟨dst, .pick c x y, ty, pos, aft, gd⟩ ρ A (bif b then v else u) := fun _ _ _ => by
  simp only [execOp, hx, hy, hc]; cases b <;> rfl
theorem g_pick_t {c x y : Operand} {v : Value} (hc : ev ρ c = .bool true) (hx : ev ρ x = v) : Gives P ⟨dst, .pick c x y, ty, pos, aft, gd⟩ ρ A v := fun _ _ _ => by
  simp only [execOp, hx, hc]; rfl
theorem g_pick_f {c x y : Operand} {v : Value} (hc : ev ρ c = .bool false) (hx : ev ρ y = v) : Gives P ⟨dst, .pick c x y, ty, pos, aft, gd⟩ ρ A v := fun _ _ _ => by
  simp only [execOp, hx, hc]; rfl
theorem g_nil {x : Operand} {p : Addr} (hx : ev ρ x = .pointer (some p)) : Gives P ⟨dst, .nilCheck x, ty, pos, aft, gd⟩ ρ A (.pointer (some p)) := fun _ _ _ => by
  simp only [execOp, hx]; rfl
theorem g_field {x : Operand} {T f off ft p o : Nat} (hx : ev ρ x = .pointer (some ⟨p, o, none⟩)) [h : TyF P T f off ft] :
    Gives P ⟨dst, .fieldAddr T x f, ty, pos, aft, gd⟩ ρ A (.pointer (some ⟨p, o + off, none⟩)) := fun _ w _ => by
  obtain ⟨fs, fl, s, h1, h2, h3, h4, h5⟩ := h.eq
  subst h4 h3
  obtain ⟨i, hi, hs⟩ := Option.map_eq_some_iff.1 h5
  have : (Addr.add ⟨p, o, none⟩ fl.offset) = ⟨p, o + fl.offset, none⟩ := by unfold Addr.add; split <;> simp_all
  simp [execOp, hx, Instr.fieldAt, run_underlying h1, h2, Instr.sureAddr, fieldPlace, sizeOf, typeInfo, hi, hs, this]
theorem g_field0 {x : Operand} {T f off ft p : Nat} (hx : ev ρ x = .pointer (some ⟨p, 0, none⟩)) [TyF P T f off ft] :
    Gives P ⟨dst, .fieldAddr T x f, ty, pos, aft, gd⟩ ρ A (.pointer (some ⟨p, off, none⟩)) := by
  have := g_field (P := P) (ρ := ρ) (A := A) (dst := dst) (ty := ty) (pos := pos) (aft := aft) (gd := gd) (T := T) (f := f) (off := off) (ft := ft) hx
  simpa using this

theorem run_loadVar_one {t : TypeId} [h : Ty1 P t] {a : Addr} {v : Value} {w : World} (hc : w.cell? a = some v) : (loadVar t a).run P w = .ok v w := by
  obtain ⟨dd, hd, hp⟩ := h.plain
  have : (isAgg t).run P w = .ok false w := by
    simp only [isAgg]
    rw [Sem.run_bind, run_underlying hd]
    simp only [Result.andThen_ok]
    cases dd <;> first | rfl | exact absurd rfl (hp _ 0 0).1 | exact absurd rfl (hp #[] _ _).2
  simp [loadVar, this, load, Sem.run, hc]
theorem run_loadVar_agg {t size : Nat} [h : TyA P t size] {a : Addr} {vs : List Value} {w : World} (hl : vs.length = size) (hc : ∀ j v, vs[j]? = some v → w.cell? (a.add j) = some v) : (loadVar t a).run P w = .ok (.agg vs.toArray) w := by
  obtain ⟨dd, hd, hp⟩ := h.agg
  obtain ⟨i, hi, hs⟩ := Option.map_eq_some_iff.1 h.size
  have : (isAgg t).run P w = .ok true w := by
    simp only [isAgg]
    rw [Sem.run_bind, run_underlying hd]
    simp only [Result.andThen_ok]
    rcases hp with ⟨x, rfl⟩ | ⟨n, e, rfl⟩ <;> rfl
  have h2 := run_loadCells_list (P := P) (w := w) a vs hc
  rw [hl] at h2
  simp [loadVar, this, sizeOf, typeInfo, hi, hs, h2]

/-- a load out of a block that is known -/
theorem g_load {x : Operand} {t p i : Nat} {cs : List Value} {T : TypeId} {v : Value} (hx : ev ρ x = .pointer (some ⟨p, i, none⟩)) [h1 : Ty1 P t] [hb : FBlk A p cs T R] (hc : cs[i]? = some v) :
    Gives P ⟨dst, .load t x, ty, pos, aft, gd⟩ ρ A v := fun _ w s => by
  have := run_loadVar_one (P := P) (t := t) (((s.ent hb.ent).cell i).trans hc)
  simp [execOp, hx, Instr.loadAt, Instr.sureAddr, this]
/-- a load out of what was there -/
theorem g_load_old {W : World} {x : Operand} {t : Nat} {a : Addr} {v : Value} (hx : ev ρ x = .pointer (some a)) [h1 : Ty1 P t] (hc : W.cell? a = some v) [hb : Fr A (Old W) R] :
    Gives P ⟨dst, .load t x, ty, pos, aft, gd⟩ ρ A v := fun _ w s => by
  have := run_loadVar_one (P := P) (t := t) ((s.ent hb.ent).old hc)
  simp [execOp, hx, Instr.loadAt, Instr.sureAddr, this]

/-- cells that can be read: whatever the world, so long as A holds of it -/
def Reads (A : HP) (a : Addr) (vs : List Value) : Prop := ∀ W0 w, Sat W0 w A → ∀ j v, vs[j]? = some v → w.cell? (a.add j) = some v
theorem g_load_reads {x : Operand} {t : Nat} {a : Addr} {v : Value} {vs : List Value} (hx : ev ρ x = .pointer (some a)) [h1 : Ty1 P t] (hc : Reads A a (v :: vs)) :
    Gives P ⟨dst, .load t x, ty, pos, aft, gd⟩ ρ A v := fun W0 w s => by
  have := run_loadVar_one (P := P) (t := t) (w := w) (by simpa [Addr.add] using hc W0 w s 0 v rfl)
  simp [execOp, hx, Instr.loadAt, Instr.sureAddr, this]
theorem g_load_agg {x : Operand} {t size : Nat} {a : Addr} {vs : List Value} (hx : ev ρ x = .pointer (some a)) [h1 : TyA P t size] (hl : vs.length = size) (hc : Reads A a vs) :
    Gives P ⟨dst, .load t x, ty, pos, aft, gd⟩ ρ A (.agg vs.toArray) := fun W0 w s => by
  have := run_loadVar_agg (P := P) (t := t) (w := w) hl (hc W0 w s)
  simp [execOp, hx, Instr.loadAt, Instr.sureAddr, this]

theorem Sat.cellsFrom {w : World} {p : Nat} {cs : List Value} {T : TypeId} (s : Sat W0 w (Blk p cs T * R)) (i : Nat) {vs : List Value} (h : ∀ j v, vs[j]? = some v → cs[i + j]? = some v) :
    ∀ j v, vs[j]? = some v → w.cell? ((⟨p, i, none⟩ : Addr).add j) = some v := fun j v e => by
  have : (Addr.add ⟨p, i, none⟩ j) = ⟨p, i + j, none⟩ := by unfold Addr.add; split <;> simp_all
  rw [this, s.cell, h j v e]
theorem reads_blk {p i : Nat} {cs : List Value} {T : TypeId} {vs : List Value} [hb : FBlk A p cs T R] (h : ∀ j v, vs[j]? = some v → cs[i + j]? = some v) : Reads A ⟨p, i, none⟩ vs := fun _ _ s =>
  (s.ent hb.ent).cellsFrom i h
theorem reads_old {W : World} {a : Addr} {vs : List Value} (h : ∀ j v, vs[j]? = some v → W.cell? (a.add j) = some v) [hb : Fr A (Old W) R] : Reads A a vs := fun _ _ s j v e =>
  (s.ent hb.ent).old (h j v e)
theorem Reads.ent {a : Addr} {vs : List Value} (h : Reads B a vs) (e : Ent A B) : Reads A a vs := fun W0 w s => h W0 w (s.ent e)
theorem Reads.mulR {a : Addr} {vs : List Value} (h : Reads B a vs) : Reads (A * B) a vs := h.ent (Ent.dropL _ _)
theorem Reads.mulL {a : Addr} {vs : List Value} (h : Reads A a vs) : Reads (A * B) a vs := h.ent (Ent.dropR _ _)

theorem run_storeVar_one {t : TypeId} [h : Ty1 P t] {p i : Nat} {cs : List Value} {T : TypeId} {v : Value} {w : World} (s : Sat W0 w (Blk p cs T * R)) (hi : i < cs.length) (hv : v.oneCell' = true) :
    (storeVar t ⟨p, i, none⟩ v).run P w = .ok () (w.setCell ⟨p, i, none⟩ v) := by
  obtain ⟨inf, hinf, hs⟩ := Option.map_eq_some_iff.1 h.one
  have hc := s.cell i
  rw [List.getElem?_eq_getElem hi] at hc
  have hf := s.free i
  cases v <;> first
    | (exfalso; revert hv; simp [Value.oneCell']; done)
    | (clear hv; simp [storeVar, Value.cells, sizeOf, typeInfo, hinf, hs, storeCells, store, Addr.add, Sem.run, hc, hf]; done)

/-- a store into a block that is known -/
theorem o_store {K : Env → HP → Prop} {x y : Operand} {t p i : Nat} {cs cs' : List Value} {T : TypeId} {v : Value}
    (hx : ev ρ x = .pointer (some ⟨p, i, none⟩)) (hy : ev ρ y = v) (hv : v.oneCell' = true) [h1 : Ty1 P t] [hb : FBlk A p cs T R] (hi : Nat.blt i cs.length = true) (hcs : cs.set i v = cs')
    (h : K ρ (Blk p cs' T * R)) : OT P Q n D W0 ⟨none, .store t x y, ty, pos, aft, gd⟩ ρ A K :=
  o_do rfl (fun w s => by
    have s' := s.ent hb.ent
    refine ⟨_, ?_, hcs ▸ s'.set i v⟩
    have := run_storeVar_one (P := P) (t := t) s' (by simpa [Nat.blt_eq] using hi) hv
    simp [execOp, hx, hy, Instr.storeAt, Instr.sureAddr, this]) h

theorem g_bin {op : BinOp} {x y : Operand} {T T' : TypeId} {k : IntKind} {a b : Int} {v : Value} (hx : ev ρ x = .int k a) (hy : ev ρ y = .int k b) (h : ∀ w, (binOp op T (.int k a) (.int k b)).run P w = .ok v w) :
    Gives P ⟨dst, .binOp op T x y T', ty, pos, aft, gd⟩ ρ A v := fun _ w _ => by
  have hg : ∀ w, (eqGuard op T x y (.int k a) (.int k b)).run P w = .ok () w := fun w => by
    unfold eqGuard; split <;> rfl
  simp [execOp, hx, hy, hg, h]
theorem g_add {x y : Operand} {T T' : TypeId} {k : IntKind} {a b : Int} (hx : ev ρ x = .int k a) (hy : ev ρ y = .int k b) : Gives P ⟨dst, .binOp .add T x y T', ty, pos, aft, gd⟩ ρ A (.int k (k.wrap (a + b))) :=
  g_bin hx hy fun w => by cases k <;> simp [binOp, Op.intArith]
theorem g_sub {x y : Operand} {T T' : TypeId} {k : IntKind} {a b : Int} (hx : ev ρ x = .int k a) (hy : ev ρ y = .int k b) : Gives P ⟨dst, .binOp .sub T x y T', ty, pos, aft, gd⟩ ρ A (.int k (k.wrap (a - b))) :=
  g_bin hx hy fun w => by cases k <;> simp [binOp, Op.intArith]
theorem g_mul {x y : Operand} {T T' : TypeId} {k : IntKind} {a b : Int} (hx : ev ρ x = .int k a) (hy : ev ρ y = .int k b) : Gives P ⟨dst, .binOp .mul T x y T', ty, pos, aft, gd⟩ ρ A (.int k (k.wrap (a * b))) :=
  g_bin hx hy fun w => by cases k <;> simp [binOp, Op.intArith]

/-! ### what a kind holds -/
def InK : IntKind → Int → Prop
  | .i8, z => -128 ≤ z ∧ z ≤ 127
  | .i16, z => -32768 ≤ z ∧ z ≤ 32767
  | .i32, z => -2147483648 ≤ z ∧ z ≤ 2147483647
  | .i64, z => -9223372036854775808 ≤ z ∧ z ≤ 9223372036854775807
  | .u8, z => 0 ≤ z ∧ z ≤ 255
  | .u16, z => 0 ≤ z ∧ z ≤ 65535
  | .u32, z => 0 ≤ z ∧ z ≤ 4294967295
  | .u64, z => 0 ≤ z ∧ z ≤ 18446744073709551615
theorem wrap_in {k : IntKind} {z : Int} (h : InK k z) : k.wrap z = z := by
  cases k <;> simp only [InK] at h <;> simp only [IntKind.wrap, IntKind.bits, IntKind.signed] <;> simp <;> omega

theorem g_addN {x y : Operand} {T T' : TypeId} {k : IntKind} {a b : Int} (hx : ev ρ x = .int k a) (hy : ev ρ y = .int k b) (h : InK k (a + b)) : Gives P ⟨dst, .binOp .add T x y T', ty, pos, aft, gd⟩ ρ A (.int k (a + b)) := by
  have := g_add (P := P) (A := A) (dst := dst) (ty := ty) (pos := pos) (aft := aft) (gd := gd) (T := T) (T' := T') hx hy
  rwa [wrap_in h] at this
theorem g_subN {x y : Operand} {T T' : TypeId} {k : IntKind} {a b : Int} (hx : ev ρ x = .int k a) (hy : ev ρ y = .int k b) (h : InK k (a - b)) : Gives P ⟨dst, .binOp .sub T x y T', ty, pos, aft, gd⟩ ρ A (.int k (a - b)) := by
  have := g_sub (P := P) (A := A) (dst := dst) (ty := ty) (pos := pos) (aft := aft) (gd := gd) (T := T) (T' := T') hx hy
  rwa [wrap_in h] at this
theorem g_mulN {x y : Operand} {T T' : TypeId} {k : IntKind} {a b : Int} (hx : ev ρ x = .int k a) (hy : ev ρ y = .int k b) (h : InK k (a * b)) : Gives P ⟨dst, .binOp .mul T x y T', ty, pos, aft, gd⟩ ρ A (.int k (a * b)) := by
  have := g_mul (P := P) (A := A) (dst := dst) (ty := ty) (pos := pos) (aft := aft) (gd := gd) (T := T) (T' := T') hx hy
  rwa [wrap_in h] at this
theorem g_quo {x y : Operand} {T T' : TypeId} {k : IntKind} {a b : Int} (hx : ev ρ x = .int k a) (hy : ev ρ y = .int k b) (h : b ≠ 0) : Gives P ⟨dst, .binOp .quo T x y T', ty, pos, aft, gd⟩ ρ A (.int k (k.wrap (a.tdiv b))) :=
  g_bin hx hy fun w => by cases k <;> simp [binOp, Op.intDiv, h]
theorem g_rem {x y : Operand} {T T' : TypeId} {k : IntKind} {a b : Int} (hx : ev ρ x = .int k a) (hy : ev ρ y = .int k b) (h : b ≠ 0) : Gives P ⟨dst, .binOp .rem T x y T', ty, pos, aft, gd⟩ ρ A (.int k (a.tmod b)) :=
  g_bin hx hy fun w => by cases k <;> simp [binOp, Op.intDiv, h]
/-- the same where nothing is negative -/
theorem g_quoN {x y : Operand} {T T' : TypeId} {k : IntKind} {a b : Int} (hx : ev ρ x = .int k a) (hy : ev ρ y = .int k b) (h0 : 0 ≤ a) (h : 1 ≤ b) (hk : InK k a) : Gives P ⟨dst, .binOp .quo T x y T', ty, pos, aft, gd⟩ ρ A (.int k (a / b)) := by
  have hg := g_quo (P := P) (A := A) (dst := dst) (ty := ty) (pos := pos) (aft := aft) (gd := gd) (T := T) (T' := T') hx hy (by omega)
  rw [Int.tdiv_eq_ediv_of_nonneg h0] at hg
  have h1 : 0 ≤ a / b := Int.ediv_nonneg h0 (by omega)
  have h2 : a / b ≤ a := Int.ediv_le_self _ h0
  rwa [wrap_in (by cases k <;> simp only [InK] at hk ⊢ <;> omega)] at hg
theorem g_remN {x y : Operand} {T T' : TypeId} {k : IntKind} {a b : Int} (hx : ev ρ x = .int k a) (hy : ev ρ y = .int k b) (h0 : 0 ≤ a) (h : 1 ≤ b) : Gives P ⟨dst, .binOp .rem T x y T', ty, pos, aft, gd⟩ ρ A (.int k (a % b)) := by
  have hg := g_rem (P := P) (A := A) (dst := dst) (ty := ty) (pos := pos) (aft := aft) (gd := gd) (T := T) (T' := T') hx hy (by omega)
  rwa [Int.tmod_eq_emod_of_nonneg h0] at hg

theorem g_lss {x y : Operand} {T T' : TypeId} {k : IntKind} {a b : Int} (hx : ev ρ x = .int k a) (hy : ev ρ y = .int k b) : Gives P ⟨dst, .binOp .lss T x y T', ty, pos, aft, gd⟩ ρ A (.bool (decide (a < b))) :=
  g_bin hx hy fun w => by cases k <;> simp [binOp, Op.intCmp]
theorem g_leq {x y : Operand} {T T' : TypeId} {k : IntKind} {a b : Int} (hx : ev ρ x = .int k a) (hy : ev ρ y = .int k b) : Gives P ⟨dst, .binOp .leq T x y T', ty, pos, aft, gd⟩ ρ A (.bool (decide (a ≤ b))) :=
  g_bin hx hy fun w => by cases k <;> simp [binOp, Op.intCmp]
theorem g_gtr {x y : Operand} {T T' : TypeId} {k : IntKind} {a b : Int} (hx : ev ρ x = .int k a) (hy : ev ρ y = .int k b) : Gives P ⟨dst, .binOp .gtr T x y T', ty, pos, aft, gd⟩ ρ A (.bool (decide (b < a))) :=
  g_bin hx hy fun w => by cases k <;> simp [binOp, Op.intCmp]
theorem g_geq {x y : Operand} {T T' : TypeId} {k : IntKind} {a b : Int} (hx : ev ρ x = .int k a) (hy : ev ρ y = .int k b) : Gives P ⟨dst, .binOp .geq T x y T', ty, pos, aft, gd⟩ ρ A (.bool (decide (b ≤ a))) :=
  g_bin hx hy fun w => by cases k <;> simp [binOp, Op.intCmp]
theorem beq_dec (a b : Int) : (a == b) = decide (a = b) := by by_cases h : a = b <;> simp [h]
theorem bne_dec (a b : Int) : (a != b) = decide (a ≠ b) := by by_cases h : a = b <;> simp [h]
theorem g_eql {x y : Operand} {T T' : TypeId} {k : IntKind} {a b : Int} (hx : ev ρ x = .int k a) (hy : ev ρ y = .int k b) : Gives P ⟨dst, .binOp .eql T x y T', ty, pos, aft, gd⟩ ρ A (.bool (decide (a = b))) :=
  g_bin hx hy fun w => by rw [← beq_dec]; cases k <;> simp [binOp, Op.intCmp]
theorem g_neq {x y : Operand} {T T' : TypeId} {k : IntKind} {a b : Int} (hx : ev ρ x = .int k a) (hy : ev ρ y = .int k b) : Gives P ⟨dst, .binOp .neq T x y T', ty, pos, aft, gd⟩ ρ A (.bool (decide (a ≠ b))) :=
  g_bin hx hy fun w => by rw [← bne_dec]; cases k <;> simp [binOp, Op.intCmp]

theorem g_lssT {x y : Operand} {T T' : TypeId} {k : IntKind} {a b : Int} (hx : ev ρ x = .int k a) (hy : ev ρ y = .int k b) (h : a < b) : Gives P ⟨dst, .binOp .lss T x y T', ty, pos, aft, gd⟩ ρ A (.bool true) := by
  have := g_lss (P := P) (A := A) (dst := dst) (ty := ty) (pos := pos) (aft := aft) (gd := gd) (T := T) (T' := T') hx hy
  rwa [decide_eq_true h] at this
theorem g_lssF {x y : Operand} {T T' : TypeId} {k : IntKind} {a b : Int} (hx : ev ρ x = .int k a) (hy : ev ρ y = .int k b) (h : ¬ a < b) : Gives P ⟨dst, .binOp .lss T x y T', ty, pos, aft, gd⟩ ρ A (.bool false) := by
  have := g_lss (P := P) (A := A) (dst := dst) (ty := ty) (pos := pos) (aft := aft) (gd := gd) (T := T) (T' := T') hx hy
  rwa [decide_eq_false h] at this
theorem g_leqT {x y : Operand} {T T' : TypeId} {k : IntKind} {a b : Int} (hx : ev ρ x = .int k a) (hy : ev ρ y = .int k b) (h : a ≤ b) : Gives P ⟨dst, .binOp .leq T x y T', ty, pos, aft, gd⟩ ρ A (.bool true) := by
  have := g_leq (P := P) (A := A) (dst := dst) (ty := ty) (pos := pos) (aft := aft) (gd := gd) (T := T) (T' := T') hx hy
  rwa [decide_eq_true h] at this
theorem g_leqF {x y : Operand} {T T' : TypeId} {k : IntKind} {a b : Int} (hx : ev ρ x = .int k a) (hy : ev ρ y = .int k b) (h : ¬ a ≤ b) : Gives P ⟨dst, .binOp .leq T x y T', ty, pos, aft, gd⟩ ρ A (.bool false) := by
  have := g_leq (P := P) (A := A) (dst := dst) (ty := ty) (pos := pos) (aft := aft) (gd := gd) (T := T) (T' := T') hx hy
  rwa [decide_eq_false h] at this
theorem g_gtrT {x y : Operand} {T T' : TypeId} {k : IntKind} {a b : Int} (hx : ev ρ x = .int k a) (hy : ev ρ y = .int k b) (h : b < a) : Gives P ⟨dst, .binOp .gtr T x y T', ty, pos, aft, gd⟩ ρ A (.bool true) := by
  have := g_gtr (P := P) (A := A) (dst := dst) (ty := ty) (pos := pos) (aft := aft) (gd := gd) (T := T) (T' := T') hx hy
  rwa [decide_eq_true h] at this
theorem g_gtrF {x y : Operand} {T T' : TypeId} {k : IntKind} {a b : Int} (hx : ev ρ x = .int k a) (hy : ev ρ y = .int k b) (h : ¬ b < a) : Gives P ⟨dst, .binOp .gtr T x y T', ty, pos, aft, gd⟩ ρ A (.bool false) := by
  have := g_gtr (P := P) (A := A) (dst := dst) (ty := ty) (pos := pos) (aft := aft) (gd := gd) (T := T) (T' := T') hx hy
  rwa [decide_eq_false h] at this
theorem g_geqT {x y : Operand} {T T' : TypeId} {k : IntKind} {a b : Int} (hx : ev ρ x = .int k a) (hy : ev ρ y = .int k b) (h : b ≤ a) : Gives P ⟨dst, .binOp .geq T x y T', ty, pos, aft, gd⟩ ρ A (.bool true) := by
  have := g_geq (P := P) (A := A) (dst := dst) (ty := ty) (pos := pos) (aft := aft) (gd := gd) (T := T) (T' := T') hx hy
  rwa [decide_eq_true h] at this
theorem g_geqF {x y : Operand} {T T' : TypeId} {k : IntKind} {a b : Int} (hx : ev ρ x = .int k a) (hy : ev ρ y = .int k b) (h : ¬ b ≤ a) : Gives P ⟨dst, .binOp .geq T x y T', ty, pos, aft, gd⟩ ρ A (.bool false) := by
  have := g_geq (P := P) (A := A) (dst := dst) (ty := ty) (pos := pos) (aft := aft) (gd := gd) (T := T) (T' := T') hx hy
  rwa [decide_eq_false h] at this
theorem g_eqlT {x y : Operand} {T T' : TypeId} {k : IntKind} {a b : Int} (hx : ev ρ x = .int k a) (hy : ev ρ y = .int k b) (h : a = b) : Gives P ⟨dst, .binOp .eql T x y T', ty, pos, aft, gd⟩ ρ A (.bool true) := by
  have := g_eql (P := P) (A := A) (dst := dst) (ty := ty) (pos := pos) (aft := aft) (gd := gd) (T := T) (T' := T') hx hy
  rwa [decide_eq_true h] at this
theorem g_eqlF {x y : Operand} {T T' : TypeId} {k : IntKind} {a b : Int} (hx : ev ρ x = .int k a) (hy : ev ρ y = .int k b) (h : ¬ a = b) : Gives P ⟨dst, .binOp .eql T x y T', ty, pos, aft, gd⟩ ρ A (.bool false) := by
  have := g_eql (P := P) (A := A) (dst := dst) (ty := ty) (pos := pos) (aft := aft) (gd := gd) (T := T) (T' := T') hx hy
  rwa [decide_eq_false h] at this
theorem g_neqT {x y : Operand} {T T' : TypeId} {k : IntKind} {a b : Int} (hx : ev ρ x = .int k a) (hy : ev ρ y = .int k b) (h : a ≠ b) : Gives P ⟨dst, .binOp .neq T x y T', ty, pos, aft, gd⟩ ρ A (.bool true) := by
  have := g_neq (P := P) (A := A) (dst := dst) (ty := ty) (pos := pos) (aft := aft) (gd := gd) (T := T) (T' := T') hx hy
  rwa [decide_eq_true h] at this
theorem g_neqF {x y : Operand} {T T' : TypeId} {k : IntKind} {a b : Int} (hx : ev ρ x = .int k a) (hy : ev ρ y = .int k b) (h : ¬ a ≠ b) : Gives P ⟨dst, .binOp .neq T x y T', ty, pos, aft, gd⟩ ρ A (.bool false) := by
  have := g_neq (P := P) (A := A) (dst := dst) (ty := ty) (pos := pos) (aft := aft) (gd := gd) (T := T) (T' := T') hx hy
  rwa [decide_eq_false h] at this
def bOp (op : BinOp) (k : IntKind) (a b : Int) : Int :=
  match op with
  | .and => k.wrap (BitVec.ofInt k.bits a &&& BitVec.ofInt k.bits b).toNat
  | .or => k.wrap (BitVec.ofInt k.bits a ||| BitVec.ofInt k.bits b).toNat
  | .xor => k.wrap (BitVec.ofInt k.bits a ^^^ BitVec.ofInt k.bits b).toNat
  | .andNot => k.wrap (BitVec.ofInt k.bits a &&& ~~~BitVec.ofInt k.bits b).toNat
  | _ => 0
theorem g_and {x y : Operand} {T T' : TypeId} {k : IntKind} {a b : Int} (hx : ev ρ x = .int k a) (hy : ev ρ y = .int k b) : Gives P ⟨dst, .binOp .and T x y T', ty, pos, aft, gd⟩ ρ A (.int k (bOp .and k a b)) :=
  g_bin hx hy fun w => by simp only [bOp]; cases k <;> rfl
theorem g_or {x y : Operand} {T T' : TypeId} {k : IntKind} {a b : Int} (hx : ev ρ x = .int k a) (hy : ev ρ y = .int k b) : Gives P ⟨dst, .binOp .or T x y T', ty, pos, aft, gd⟩ ρ A (.int k (bOp .or k a b)) :=
  g_bin hx hy fun w => by simp only [bOp]; cases k <;> rfl
theorem g_xor {x y : Operand} {T T' : TypeId} {k : IntKind} {a b : Int} (hx : ev ρ x = .int k a) (hy : ev ρ y = .int k b) : Gives P ⟨dst, .binOp .xor T x y T', ty, pos, aft, gd⟩ ρ A (.int k (bOp .xor k a b)) :=
  g_bin hx hy fun w => by simp only [bOp]; cases k <;> rfl
theorem g_andNot {x y : Operand} {T T' : TypeId} {k : IntKind} {a b : Int} (hx : ev ρ x = .int k a) (hy : ev ρ y = .int k b) : Gives P ⟨dst, .binOp .andNot T x y T', ty, pos, aft, gd⟩ ρ A (.int k (bOp .andNot k a b)) :=
  g_bin hx hy fun w => by simp only [bOp]; cases k <;> rfl

theorem g_shl {x y : Operand} {T T' : TypeId} {k k' : IntKind} {a b : Int} (hx : ev ρ x = .int k a) (hy : ev ρ y = .int k' b) (h : 0 ≤ b) : Gives P ⟨dst, .binOp .shl T x y T', ty, pos, aft, gd⟩ ρ A (.int k (k.wrap (a * 2 ^ (min b.toNat k.bits)))) := fun _ w _ => by
  have hg : ∀ w, (eqGuard .shl T x y (.int k a) (.int k' b)).run P w = .ok () w := fun w => rfl
  have hn : ¬ b < 0 := by omega
  simp [execOp, hx, hy, hg, binOp, Op.shift, hn]
theorem g_shr {x y : Operand} {T T' : TypeId} {k k' : IntKind} {a b : Int} (hx : ev ρ x = .int k a) (hy : ev ρ y = .int k' b) (h : 0 ≤ b) : Gives P ⟨dst, .binOp .shr T x y T', ty, pos, aft, gd⟩ ρ A (.int k (a.fdiv (2 ^ (min b.toNat k.bits)))) := fun _ w _ => by
  have hg : ∀ w, (eqGuard .shr T x y (.int k a) (.int k' b)).run P w = .ok () w := fun w => rfl
  have hn : ¬ b < 0 := by omega
  simp [execOp, hx, hy, hg, binOp, Op.shift, hn]

theorem g_not {x : Operand} {T : TypeId} {b : Bool} (hx : ev ρ x = .bool b) : Gives P ⟨dst, .unOp .not T x, ty, pos, aft, gd⟩ ρ A (.bool (!b)) := fun _ _ _ => by
  simp [execOp, hx, Op.unary]
theorem g_notD {x : Operand} {T : TypeId} {p : Prop} [Decidable p] (hx : ev ρ x = .bool (decide p)) : Gives P ⟨dst, .unOp .not T x, ty, pos, aft, gd⟩ ρ A (.bool (decide (¬ p))) := fun _ _ _ => by
  simp [execOp, hx, Op.unary]
theorem g_neg {x : Operand} {T : TypeId} {k : IntKind} {a : Int} (hx : ev ρ x = .int k a) : Gives P ⟨dst, .unOp .neg T x, ty, pos, aft, gd⟩ ρ A (.int k (k.wrap (-a))) := fun _ _ _ => by
  simp [execOp, hx, Op.unary, Op.intArith]
theorem g_cpl {x : Operand} {T : TypeId} {k : IntKind} {a : Int} (hx : ev ρ x = .int k a) : Gives P ⟨dst, .unOp .xor T x, ty, pos, aft, gd⟩ ρ A (.int k (bOp .xor k (if k.signed then -1 else k.max) a)) := fun _ w _ => by
  simp only [execOp, hx, Op.unary, bOp]; cases k <;> rfl

theorem g_conv {x : Operand} {S T : TypeId} {k k' : IntKind} {a : Int} {ds : TypeDesc} (hx : ev ρ x = .int k a) [hs : TyU P S ds] [ht : TyU P T (.int k')] : Gives P ⟨dst, .convert S T x, ty, pos, aft, gd⟩ ρ A (.int k' (k'.wrap a)) := fun _ w _ => by
  simp [execOp, hx, convert, run_underlying hs.eq, run_underlying ht.eq, Conv.intToInt]
theorem g_convN {x : Operand} {S T : TypeId} {k k' : IntKind} {a : Int} {ds : TypeDesc} (hx : ev ρ x = .int k a) [hs : TyU P S ds] [ht : TyU P T (.int k')] (h : InK k' a) : Gives P ⟨dst, .convert S T x, ty, pos, aft, gd⟩ ρ A (.int k' a) := by
  have := g_conv (P := P) (A := A) (dst := dst) (ty := ty) (pos := pos) (aft := aft) (gd := gd) (S := S) (T := T) (k' := k') hx
  rwa [wrap_in h] at this

theorem g_iface {x : Operand} {T : TypeId} {v : Value} {dd : TypeDesc} (hx : ev ρ x = v) [ht : TyU P T dd] (hd : ∀ ms, dd ≠ .interface ms) : Gives P ⟨dst, .makeInterface T x, ty, pos, aft, gd⟩ ρ A (.iface T v) := fun _ w _ => by
  have : (Instr.makeInterface T v).run P w = .ok (.iface T v) w := by
    unfold Instr.makeInterface
    rw [Sem.run_bind, run_underlying ht.eq]
    simp only [Result.andThen_ok]
    cases dd <;> first | rfl | exact absurd rfl (hd _)
  simp [execOp, hx, this]
theorem g_extract {x : Operand} {i : Nat} {vs : Array Value} {v : Value} (hx : ev ρ x = .tuple vs) (hv : vs[i]? = some v) : Gives P ⟨dst, .extract x i, ty, pos, aft, gd⟩ ρ A v := fun _ w _ => by
  simp [execOp, hx, Instr.extract, hv]

theorem g_len_slice {x : Operand} {T e : TypeId} {a : Option Addr} {l c : Nat} (hx : ev ρ x = .slice a l c) [ht : TyU P T (.slice e)] :
    Gives P ⟨dst, .call { callee := .builtin .len, args := #[x], argTypes := #[T] }, ty, pos, aft, gd⟩ ρ A (.int .i64 (l : Int)) := fun _ w _ => by
  simp [execOp, resolve, invoke, builtin, hx, Builtin.len_, run_underlying ht.eq, goInt]
theorem g_len_string {x : Operand} {T : TypeId} {s : ByteArray} (hx : ev ρ x = .string s) [ht : TyU P T .string] :
    Gives P ⟨dst, .call { callee := .builtin .len, args := #[x], argTypes := #[T] }, ty, pos, aft, gd⟩ ρ A (.int .i64 (s.size : Int)) := fun _ w _ => by
  simp [execOp, resolve, invoke, builtin, hx, Builtin.len_, run_underlying ht.eq, goInt]

/-- an element's address -/
theorem g_elem {x ix : Operand} {T e size bytes : Nat} {z : Value} {p o l c : Nat} {k : IntKind} {i : Int} (hx : ev ρ x = .slice (some ⟨p, o, none⟩) l c) (hi : ev ρ ix = .int k i) [ht : TyU P T (.slice e)] [he : TyI P e size bytes z] (h0 : 0 ≤ i) (h1 : i < l) :
    Gives P ⟨dst, .indexAddr T x ix, ty, pos, aft, gd⟩ ρ A (.pointer (some ⟨p, o + i.toNat * size, none⟩)) := fun _ w _ => by
  obtain ⟨inf, hinf, hs⟩ := Option.map_eq_some_iff.1 he.eq
  have hs' : inf.size = size := by simpa using congrArg (fun x => x.2.1) hs
  have ha : (Addr.add ⟨p, o, none⟩ (i.toNat * size)) = ⟨p, o + i.toNat * size, none⟩ := by unfold Addr.add; split <;> simp_all
  simp [execOp, hx, hi, Instr.indexAt, asIntOf, run_underlying ht.eq, h0, h1, sizeOf, typeInfo, hinf, hs', ha]
/-- the same at one cell an element, from a row's head on -/
theorem g_elem1 {x ix : Operand} {T e bytes : Nat} {z : Value} {p l c j : Nat} {k : IntKind} {i : Int} (hx : ev ρ x = .slice (some ⟨p, 0, none⟩) l c) (hi : ev ρ ix = .int k i) [ht : TyU P T (.slice e)] [he : TyI P e 1 bytes z] (h0 : 0 ≤ i) (h1 : i < l) (hj : i.toNat = j) :
    Gives P ⟨dst, .indexAddr T x ix, ty, pos, aft, gd⟩ ρ A (.pointer (some ⟨p, j, none⟩)) := by
  have := g_elem (P := P) (A := A) (dst := dst) (ty := ty) (pos := pos) (aft := aft) (gd := gd) (T := T) (e := e) hx hi h0 h1
  simpa [hj] using this
/-- a place of an array that a variable holds -/
theorem g_elemA {x ix : Operand} {T e size bytes len : Nat} {z : Value} {p o : Nat} {k : IntKind} {i : Int} (hx : ev ρ x = .pointer (some ⟨p, o, none⟩)) (hi : ev ρ ix = .int k i) [ht : TyU P T (.array len e)] [he : TyI P e size bytes z] (h0 : 0 ≤ i) (h1 : i < len) :
    Gives P ⟨dst, .indexAddr T x ix, ty, pos, aft, gd⟩ ρ A (.pointer (some ⟨p, o + i.toNat * size, none⟩)) := fun _ w _ => by
  obtain ⟨inf, hinf, hs⟩ := Option.map_eq_some_iff.1 he.eq
  have hs' : inf.size = size := by simpa using congrArg (fun x => x.2.1) hs
  have ha : (Addr.add ⟨p, o, none⟩ (i.toNat * size)) = ⟨p, o + i.toNat * size, none⟩ := by unfold Addr.add; split <;> simp_all
  simp [execOp, hx, hi, Instr.indexAt, asIntOf, run_underlying ht.eq, h0, h1, sizeOf, typeInfo, hinf, hs', ha, Instr.sureAddr]
end
end Go.Proofs.Ytijplicijmpknaa
