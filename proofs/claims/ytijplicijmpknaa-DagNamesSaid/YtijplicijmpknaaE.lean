/- '==' and '!=' of arrays of bytes, structs of two numbers, errors that hold pointers. Any program. -/
import Derived.Test.YtijplicijmpknaaW
import Derived.Stop.BytesEq
import Derived.LaidEql
namespace Go.Proofs.Ytijplicijmpknaa
open Go.RowKit

section
variable {P : Program} {ops : Array Oper} {Q : Exit → Act → World → Prop} {n : Nat} {D : List Deferred} {W0 : World} {rest : List Oper} {ρ : Env} {A B R : HP}
variable {d : Nat} {dst : Option Tmp} {ty : TypeId} {pos : String} {aft : Array Edge} {gd : Option (Nat × Bool)}
theorem dec_beq (xs ys : List UInt8) : (xs == ys) = decide (xs = ys) := by by_cases h : xs = ys <;> simp [h]
theorem sizeOf_one {e bytes : Nat} {z : Value} (he : TyI P e 1 bytes z) (w : World) : (sizeOf e).run P w = .ok 1 w := by
  obtain ⟨i, hi, _, hs, _⟩ := tyI_parts he
  simp [sizeOf, typeInfo, hi, hs]
theorem g_eqH {x y : Operand} {T e T' m bytes : Nat} {z : Value} {xs ys : List UInt8} (hx : ev ρ x = .agg (xs.map bv).toArray) (hy : ev ρ y = .agg (ys.map bv).toArray) [ht : TyU P T (.array m e)] [he : TyU P e (.int .u8)] [hi : TyI P e 1 bytes z] (hg : P.eqGuardType P.depth T = false) (hl : xs.length = m) (hl' : ys.length = m) :
    Gives P ⟨dst, .binOp .eql T x y T', ty, pos, aft, gd⟩ ρ A (.bool (decide (xs = ys))) :=
  g_binEq hx hy (fun w => run_eqGuard_agg w .eql T x y _ _ hg) fun _ w _ => by
    have := run_eql_bytes (P := P) w T e m ht.eq he.eq (sizeOf_one hi) xs ys hl hl'
    rw [← dec_beq]; exact this
theorem g_neH {x y : Operand} {T e T' m bytes : Nat} {z : Value} {xs ys : List UInt8} (hx : ev ρ x = .agg (xs.map bv).toArray) (hy : ev ρ y = .agg (ys.map bv).toArray) [ht : TyU P T (.array m e)] [he : TyU P e (.int .u8)] [hi : TyI P e 1 bytes z] (hg : P.eqGuardType P.depth T = false) (hl : xs.length = m) (hl' : ys.length = m) :
    Gives P ⟨dst, .binOp .neq T x y T', ty, pos, aft, gd⟩ ρ A (.bool (decide (xs ≠ ys))) :=
  g_binEq hx hy (fun w => run_eqGuard_agg w .neq T x y _ _ hg) fun _ w _ => by
    have h1 := run_equalIn_bytes (P := P) w 9998 T e m ht.eq he.eq (sizeOf_one hi) xs ys hl hl'
    rw [run_neq_struct]
    have e1 : (Op.equalIn 10000 T (.agg (xs.map bv).toArray) (.agg (ys.map bv).toArray)).run P w = .ok (xs == ys) w := h1
    rw [e1]
    show Result.ok (Value.bool (!(xs == ys))) w = _
    rw [dec_beq]
    by_cases h : xs = ys <;> simp [h]
theorem g_eqHT {x y : Operand} {T e T' m bytes : Nat} {z : Value} {xs ys : List UInt8} (hx : ev ρ x = .agg (xs.map bv).toArray) (hy : ev ρ y = .agg (ys.map bv).toArray) [ht : TyU P T (.array m e)] [he : TyU P e (.int .u8)] [hi : TyI P e 1 bytes z] (hg : P.eqGuardType P.depth T = false) (hl : xs.length = m) (h : xs = ys) :
    Gives P ⟨dst, .binOp .eql T x y T', ty, pos, aft, gd⟩ ρ A (.bool true) := by
  have := g_eqH (P := P) (A := A) (dst := dst) (ty := ty) (pos := pos) (aft := aft) (gd := gd) (T' := T') hx hy hg hl (h ▸ hl)
  rwa [decide_eq_true h] at this
theorem g_neHF {x y : Operand} {T e T' m bytes : Nat} {z : Value} {xs ys : List UInt8} (hx : ev ρ x = .agg (xs.map bv).toArray) (hy : ev ρ y = .agg (ys.map bv).toArray) [ht : TyU P T (.array m e)] [he : TyU P e (.int .u8)] [hi : TyI P e 1 bytes z] (hg : P.eqGuardType P.depth T = false) (hl : xs.length = m) (h : xs = ys) :
    Gives P ⟨dst, .binOp .neq T x y T', ty, pos, aft, gd⟩ ρ A (.bool false) := by
  have := g_neH (P := P) (A := A) (dst := dst) (ty := ty) (pos := pos) (aft := aft) (gd := gd) (T' := T') hx hy hg hl (h ▸ hl)
  rwa [decide_eq_false (by simp [h])] at this

theorem fieldsOf_eq {T : TypeId} {fs : Array Field} (h : P.underlying T = some (.struct fs)) : P.fieldsOf T = fs := by
  simp [Program.fieldsOf, h]
theorem run_eq2 {T : TypeId} {f0 f1 : Field} {k k' : IntKind} {a b c e : Int} (ht : P.underlying T = some (.struct #[f0, f1])) (h0 : P.underlying f0.type = some (.int k)) (h1 : P.underlying f1.type = some (.int k')) (o0 : f0.offset = 0) (o1 : f1.offset = 1) (n0 : f0.name ≠ "_") (n1 : f1.name ≠ "_") (hp : P.stoodInHeld T = false) (dp : Nat) (w : World) :
    (Op.equalIn (dp + 2) T (.agg #[.int k a, .int k' b]) (.agg #[.int k c, .int k' e])).run P w = .ok (decide (a = c ∧ b = e)) w := by
  rw [run_equalIn_agg w (dp + 1) T _ _ (by rw [fieldsOf_eq ht]; exact ht) hp, fieldsOf_eq ht]
  have e0 : (Op.equalIn (dp + 1) f0.type (.int k a) (.int k c)).run P w = .ok (a == c) w := run_equalIn_int w dp _ k k a c h0
  have e1 : (Op.equalIn (dp + 1) f1.type (.int k' b) (.int k' e)).run P w = .ok (b == e) w := run_equalIn_int w dp _ k' k' b e h1
  simp [Op.eqFields, n0, n1, o0, o1, part, isAgg, run_underlying h0, run_underlying h1, e0, e1]
  by_cases h : a = c
  · by_cases h2 : b = e <;> simp [h, h2]
  · simp [h]
theorem g_eqS2 {x y : Operand} {T T' : TypeId} {f0 f1 : Field} {k k' : IntKind} {a b c e : Int} (hx : ev ρ x = .agg #[.int k a, .int k' b]) (hy : ev ρ y = .agg #[.int k c, .int k' e]) [ht : TyU P T (.struct #[f0, f1])] [h0 : TyU P f0.type (.int k)] [h1 : TyU P f1.type (.int k')] (ho : f0.offset = 0 ∧ f1.offset = 1 ∧ f0.name ≠ "_" ∧ f1.name ≠ "_") (hp : P.stoodInHeld T = false) (hg : P.eqGuardType P.depth T = false) :
    Gives P ⟨dst, .binOp .eql T x y T', ty, pos, aft, gd⟩ ρ A (.bool (decide (a = c ∧ b = e))) :=
  g_binEq hx hy (fun w => run_eqGuard_agg w .eql T x y _ _ hg) fun _ w _ => by
    rw [run_eql_struct, run_eq2 ht.eq h0.eq h1.eq ho.1 ho.2.1 ho.2.2.1 ho.2.2.2 hp 9998 w]; rfl
theorem g_neS2 {x y : Operand} {T T' : TypeId} {f0 f1 : Field} {k k' : IntKind} {a b c e : Int} (hx : ev ρ x = .agg #[.int k a, .int k' b]) (hy : ev ρ y = .agg #[.int k c, .int k' e]) [ht : TyU P T (.struct #[f0, f1])] [h0 : TyU P f0.type (.int k)] [h1 : TyU P f1.type (.int k')] (ho : f0.offset = 0 ∧ f1.offset = 1 ∧ f0.name ≠ "_" ∧ f1.name ≠ "_") (hp : P.stoodInHeld T = false) (hg : P.eqGuardType P.depth T = false) :
    Gives P ⟨dst, .binOp .neq T x y T', ty, pos, aft, gd⟩ ρ A (.bool (decide (¬ (a = c ∧ b = e)))) :=
  g_binEq hx hy (fun w => run_eqGuard_agg w .neq T x y _ _ hg) fun _ w _ => by
    rw [run_neq_struct, run_eq2 ht.eq h0.eq h1.eq ho.1 ho.2.1 ho.2.2.1 ho.2.2.2 hp 9998 w]
    show Result.ok (Value.bool (!decide (a = c ∧ b = e))) w = _
    by_cases h : a = c ∧ b = e <;> simp [h]
theorem g_eqS2T {x y : Operand} {T T' : TypeId} {f0 f1 : Field} {k k' : IntKind} {a b c e : Int} (hx : ev ρ x = .agg #[.int k a, .int k' b]) (hy : ev ρ y = .agg #[.int k c, .int k' e]) [ht : TyU P T (.struct #[f0, f1])] [h0 : TyU P f0.type (.int k)] [h1 : TyU P f1.type (.int k')] (ho : f0.offset = 0 ∧ f1.offset = 1 ∧ f0.name ≠ "_" ∧ f1.name ≠ "_") (hp : P.stoodInHeld T = false) (hg : P.eqGuardType P.depth T = false) (h : a = c ∧ b = e) :
    Gives P ⟨dst, .binOp .eql T x y T', ty, pos, aft, gd⟩ ρ A (.bool true) := by
  have := g_eqS2 (P := P) (A := A) (dst := dst) (ty := ty) (pos := pos) (aft := aft) (gd := gd) (T' := T') hx hy ho hp hg
  rwa [decide_eq_true h] at this
theorem g_neS2F {x y : Operand} {T T' : TypeId} {f0 f1 : Field} {k k' : IntKind} {a b c e : Int} (hx : ev ρ x = .agg #[.int k a, .int k' b]) (hy : ev ρ y = .agg #[.int k c, .int k' e]) [ht : TyU P T (.struct #[f0, f1])] [h0 : TyU P f0.type (.int k)] [h1 : TyU P f1.type (.int k')] (ho : f0.offset = 0 ∧ f1.offset = 1 ∧ f0.name ≠ "_" ∧ f1.name ≠ "_") (hp : P.stoodInHeld T = false) (hg : P.eqGuardType P.depth T = false) (h : a = c ∧ b = e) :
    Gives P ⟨dst, .binOp .neq T x y T', ty, pos, aft, gd⟩ ρ A (.bool false) := by
  have := g_neS2 (P := P) (A := A) (dst := dst) (ty := ty) (pos := pos) (aft := aft) (gd := gd) (T' := T') hx hy ho hp hg
  rwa [decide_eq_false (fun x => x h)] at this
/-- two errors that hold one and the same pointer -/
theorem g_ifpT {x y : Operand} {T U E T' : TypeId} {ms : Array (String × TypeId)} {a : Addr} {s b : Nat} {z : Value} (hx : ev ρ x = .iface U (.pointer (some a))) (hy : ev ρ y = .iface U (.pointer (some a))) [ht : TyU P T (.interface ms)] [hu : TyU P U (.pointer E)] [he : TyI P E s b z] (hc : (P.info? U).map (·.comparable) = some true) :
    Gives P ⟨dst, .binOp .eql T x y T', ty, pos, aft, gd⟩ ρ A (.bool true) :=
  g_binEq hx hy guard_iface fun _ w _ => by
    obtain ⟨i, hi, hcm⟩ := Option.map_eq_some_iff.1 hc
    obtain ⟨j, hj, _⟩ := tyI_parts he
    exact run_eql_iface_ptr_same (P := P) w a ht.eq hu.eq hi hcm hj
end
end Go.Proofs.Ytijplicijmpknaa
