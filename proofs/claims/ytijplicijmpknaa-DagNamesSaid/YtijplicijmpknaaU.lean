/- Words of 32 bits, bytes: operations in the form of UInt32 and UInt8. Any program. -/
import Derived.Test.YtijplicijmpknaaAny
namespace Go.Proofs.Ytijplicijmpknaa
open Go.RowKit

abbrev wv (x : UInt32) : Value := .int .u32 (x.toNat : Int)
abbrev bv (c : UInt8) : Value := .int .u8 (c.toNat : Int)
theorem bv32 (x : UInt32) : BitVec.ofInt 32 (x.toNat : Int) = x.toBitVec := by
  apply BitVec.eq_of_toNat_eq
  have := x.toNat_lt
  simp
theorem wrap32 (x : UInt32) : IntKind.u32.wrap (x.toNat : Int) = (x.toNat : Int) := by
  have := x.toNat_lt
  exact wrap_in (by constructor <;> omega)
theorem xor32 (x y : UInt32) : bOp .xor .u32 (x.toNat : Int) (y.toNat : Int) = ((x ^^^ y).toNat : Int) := by
  show IntKind.u32.wrap ((BitVec.ofInt 32 (x.toNat : Int) ^^^ BitVec.ofInt 32 (y.toNat : Int)).toNat : Int) = _
  rw [bv32, bv32]; exact wrap32 (x ^^^ y)
theorem and32 (x y : UInt32) : bOp .and .u32 (x.toNat : Int) (y.toNat : Int) = ((x &&& y).toNat : Int) := by
  show IntKind.u32.wrap ((BitVec.ofInt 32 (x.toNat : Int) &&& BitVec.ofInt 32 (y.toNat : Int)).toNat : Int) = _
  rw [bv32, bv32]; exact wrap32 (x &&& y)
theorem or32 (x y : UInt32) : bOp .or .u32 (x.toNat : Int) (y.toNat : Int) = ((x ||| y).toNat : Int) := by
  show IntKind.u32.wrap ((BitVec.ofInt 32 (x.toNat : Int) ||| BitVec.ofInt 32 (y.toNat : Int)).toNat : Int) = _
  rw [bv32, bv32]; exact wrap32 (x ||| y)
theorem wrapU32 (z : Int) : IntKind.u32.wrap z = z % 4294967296 := by simp [IntKind.wrap, IntKind.bits, IntKind.signed]
theorem add32 (x y : UInt32) : IntKind.u32.wrap ((x.toNat : Int) + (y.toNat : Int)) = ((x + y).toNat : Int) := by
  rw [wrapU32, UInt32.toNat_add]; omega
theorem cpl32 (x : UInt32) : bOp .xor .u32 4294967295 (x.toNat : Int) = ((~~~x).toNat : Int) := by
  have h : (4294967295 : Int) = ((4294967295 : UInt32).toNat : Int) := rfl
  rw [h, xor32]
  congr 2
theorem shl32 (x : UInt32) (n : Nat) (hn : n < 32) : IntKind.u32.wrap ((x.toNat : Int) * 2 ^ (min n 32)) = ((x <<< UInt32.ofNat n).toNat : Int) := by
  rw [wrapU32, UInt32.toNat_shiftLeft, Nat.shiftLeft_eq, UInt32.toNat_ofNat_of_lt' (by show _ < 4294967296; omega), Nat.mod_eq_of_lt hn, Nat.min_eq_left (by omega), Int.natCast_emod, Int.natCast_mul, Int.natCast_pow]
  rfl
theorem shr32 (x : UInt32) (n : Nat) (hn : n < 32) : (x.toNat : Int).fdiv (2 ^ (min n 32)) = ((x >>> UInt32.ofNat n).toNat : Int) := by
  rw [UInt32.toNat_shiftRight, Nat.shiftRight_eq_div_pow, UInt32.toNat_ofNat_of_lt' (by show _ < 4294967296; omega), Nat.mod_eq_of_lt hn, Nat.min_eq_left (by omega)]
  rw [Int.fdiv_eq_ediv_of_nonneg _ (Int.le_of_lt (Int.pow_pos (by omega))), Int.natCast_ediv, Int.natCast_pow]
  rfl
section
variable {P : Program} {ρ : Env} {A : HP} {dst : Option Nat} {ty : TypeId} {pos : String} {aft : Array Edge} {gd : Option (Nat × Bool)} {x y : Operand} {T T' : TypeId} {a b : UInt32}
theorem g_xor32 (hx : ev ρ x = wv a) (hy : ev ρ y = wv b) : Gives P ⟨dst, .binOp .xor T x y T', ty, pos, aft, gd⟩ ρ A (wv (a ^^^ b)) := by
  have := g_xor (P := P) (A := A) (dst := dst) (ty := ty) (pos := pos) (aft := aft) (gd := gd) (T := T) (T' := T') hx hy; rwa [xor32] at this
theorem g_and32 (hx : ev ρ x = wv a) (hy : ev ρ y = wv b) : Gives P ⟨dst, .binOp .and T x y T', ty, pos, aft, gd⟩ ρ A (wv (a &&& b)) := by
  have := g_and (P := P) (A := A) (dst := dst) (ty := ty) (pos := pos) (aft := aft) (gd := gd) (T := T) (T' := T') hx hy; rwa [and32] at this
theorem g_or32 (hx : ev ρ x = wv a) (hy : ev ρ y = wv b) : Gives P ⟨dst, .binOp .or T x y T', ty, pos, aft, gd⟩ ρ A (wv (a ||| b)) := by
  have := g_or (P := P) (A := A) (dst := dst) (ty := ty) (pos := pos) (aft := aft) (gd := gd) (T := T) (T' := T') hx hy; rwa [or32] at this
theorem g_add32 (hx : ev ρ x = wv a) (hy : ev ρ y = wv b) : Gives P ⟨dst, .binOp .add T x y T', ty, pos, aft, gd⟩ ρ A (wv (a + b)) := by
  have := g_add (P := P) (A := A) (dst := dst) (ty := ty) (pos := pos) (aft := aft) (gd := gd) (T := T) (T' := T') hx hy; rwa [add32] at this
theorem g_cpl32 (hx : ev ρ x = wv a) : Gives P ⟨dst, .unOp .xor T x, ty, pos, aft, gd⟩ ρ A (wv (~~~a)) := by
  have := g_cpl (P := P) (A := A) (dst := dst) (ty := ty) (pos := pos) (aft := aft) (gd := gd) (T := T) hx
  have e : bOp .xor .u32 (if IntKind.u32.signed then -1 else IntKind.u32.max) (a.toNat : Int) = ((~~~a).toNat : Int) := cpl32 a
  rwa [e] at this
theorem g_shl32 {k' : IntKind} {m : Int} {n : Nat} (hx : ev ρ x = wv a) (hy : ev ρ y = .int k' m) (hm : m.toNat = n) (h0 : 0 ≤ m) (hn : n < 32) : Gives P ⟨dst, .binOp .shl T x y T', ty, pos, aft, gd⟩ ρ A (wv (a <<< UInt32.ofNat n)) := by
  have := g_shl (P := P) (A := A) (dst := dst) (ty := ty) (pos := pos) (aft := aft) (gd := gd) (T := T) (T' := T') hx hy h0
  rw [hm] at this
  have e : IntKind.u32.wrap ((a.toNat : Int) * 2 ^ (min n IntKind.u32.bits)) = ((a <<< UInt32.ofNat n).toNat : Int) := shl32 a n hn
  rwa [e] at this
theorem g_shr32 {k' : IntKind} {m : Int} {n : Nat} (hx : ev ρ x = wv a) (hy : ev ρ y = .int k' m) (hm : m.toNat = n) (h0 : 0 ≤ m) (hn : n < 32) : Gives P ⟨dst, .binOp .shr T x y T', ty, pos, aft, gd⟩ ρ A (wv (a >>> UInt32.ofNat n)) := by
  have := g_shr (P := P) (A := A) (dst := dst) (ty := ty) (pos := pos) (aft := aft) (gd := gd) (T := T) (T' := T') hx hy h0
  rw [hm] at this
  have e : (a.toNat : Int).fdiv (2 ^ (min n IntKind.u32.bits)) = ((a >>> UInt32.ofNat n).toNat : Int) := shr32 a n hn
  rwa [e] at this
theorem g_convW {S : TypeId} {ds : TypeDesc} {c : UInt8} (hx : ev ρ x = bv c) [hs : TyU P S ds] [ht : TyU P T (.int .u32)] : Gives P ⟨dst, .convert S T x, ty, pos, aft, gd⟩ ρ A (wv c.toUInt32) := by
  have := g_conv (P := P) (A := A) (dst := dst) (ty := ty) (pos := pos) (aft := aft) (gd := gd) (S := S) (T := T) (k' := .u32) hx
  have e : IntKind.u32.wrap (c.toNat : Int) = (c.toUInt32.toNat : Int) := by
    have := c.toNat_lt
    rw [UInt8.toNat_toUInt32, wrap_in (by constructor <;> omega)]
  rwa [e] at this
theorem g_convB {S : TypeId} {ds : TypeDesc} (hx : ev ρ x = wv a) [hs : TyU P S ds] [ht : TyU P T (.int .u8)] : Gives P ⟨dst, .convert S T x, ty, pos, aft, gd⟩ ρ A (bv a.toUInt8) := by
  have := g_conv (P := P) (A := A) (dst := dst) (ty := ty) (pos := pos) (aft := aft) (gd := gd) (S := S) (T := T) (k' := .u8) hx
  have e : IntKind.u8.wrap (a.toNat : Int) = (a.toUInt8.toNat : Int) := by
    rw [UInt32.toNat_toUInt8]
    simp [IntKind.wrap, IntKind.bits, IntKind.signed]
  rwa [e] at this
end
theorem bvs_one {l : List UInt8} : ∀ v ∈ l.map bv, v.oneCell' = true := fun v h => by
  obtain ⟨c, _, rfl⟩ := List.mem_map.1 h; rfl
theorem wvs_one {l : List UInt32} : ∀ v ∈ l.map wv, v.oneCell' = true := fun v h => by
  obtain ⟨c, _, rfl⟩ := List.mem_map.1 h; rfl
theorem wvs_all (l : List UInt32) : (l.map wv).all (fun v => v.oneCell') = true := List.all_eq_true.2 fun v h => wvs_one v h
/-- what can be read as a slice of bytes -/
def RdB (A : HP) (a : Option Addr) (ys : List UInt8) : Prop := (a = none → ys = []) ∧ ∀ g, a = some g → Reads A g (ys.map bv)
theorem RdB.src {P : Program} {A : HP} {a : Option Addr} {c : Nat} {ys : List UInt8} (h : RdB A a ys) : Src P A 1 (.slice a ys.length c) ys.length (ys.map bv) := by
  cases a with
  | none => rw [h.1 rfl]; exact src_none
  | some g => exact src_slice (by simp) (h.2 g rfl)
theorem RdB.ent {A B : HP} {a : Option Addr} {ys : List UInt8} (h : RdB B a ys) (e : Ent A B) : RdB A a ys := ⟨h.1, fun g hg => (h.2 g hg).ent e⟩

theorem rdB_arrE {A R : HP} (E : Nat) {cap n : Nat} (ad : Option Addr) {ys : List UInt8} [hf : FArr A E 1 ad cap n (ys.map bv) R] (h : ad = none → ys = []) : RdB A ad ys := ⟨h, fun g e => by
  subst e; exact reads_arr (cap := cap) (E := E) (size := 1) (m := n) (R := R)⟩

theorem rdB_blk {A R : HP} {b : Nat} {xs : List UInt8} {cs : List Value} {T : TypeId} [hb : FBlk A b cs T R] (h : cs = xs.map bv) : RdB A (some ⟨b, 0, none⟩) xs := ⟨fun h => (by cases h), fun g e => by
  cases e
  exact reads_blk (by intro j v e; rw [h]; simpa using e)⟩
theorem rdB_take {A : HP} {a : Option Addr} {xs : List UInt8} (h : RdB A a xs) (n : Nat) : RdB A a (xs.take n) := ⟨fun e => by rw [h.1 e]; simp, fun g e => by rw [List.map_take]; exact (h.2 g e).take n⟩
end Go.Proofs.Ytijplicijmpknaa
