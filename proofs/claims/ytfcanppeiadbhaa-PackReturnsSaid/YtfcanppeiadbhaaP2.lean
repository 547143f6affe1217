/- pack.Out: the other methods. -/
import Derived.Test.YtfcanppeiadbhaaP1
namespace Go.Proofs.Ytfcanppeiadbhaa
open Go.RowKit
attribute [local irreducible] Gives RT CT QT Spec Wants Reads Src Ent OT RQ AnyT AnyOp Again Code.wp Post

/-! ### zigzag -/
def zig (x : Int) : Nat := if 0 ≤ x then 2 * x.toNat else 2 * (-(x + 1)).toNat + 1
theorem zig_lt {x : Int} (h : -9223372036854775808 ≤ x ∧ x ≤ 9223372036854775807) : zig x < 2 ^ 64 := by unfold zig; split <;> omega
theorem xor_zero64 (a : Int) (h : 0 ≤ a ∧ a < 18446744073709551616) : bOp .xor .u64 a 0 = a := by
  obtain ⟨n, rfl⟩ := Int.eq_ofNat_of_zero_le h.1
  have e : (BitVec.ofInt 64 (n : Int) ^^^ BitVec.ofInt 64 0).toNat = n := by
    have : BitVec.ofInt 64 0 = 0#64 := rfl
    rw [this, BitVec.xor_zero]
    simp; omega
  show IntKind.u64.wrap ((BitVec.ofInt 64 (n : Int) ^^^ BitVec.ofInt 64 0).toNat : Int) = _
  rw [e, wrap_in (by constructor <;> omega)]
theorem xor_ones64 (a : Int) (h : 0 ≤ a ∧ a < 18446744073709551616) : bOp .xor .u64 a 18446744073709551615 = 18446744073709551615 - a := by
  obtain ⟨n, rfl⟩ := Int.eq_ofNat_of_zero_le h.1
  have e : (BitVec.ofInt 64 (n : Int) ^^^ BitVec.ofInt 64 18446744073709551615).toNat = 18446744073709551615 - n := by
    have : BitVec.ofInt 64 18446744073709551615 = BitVec.allOnes 64 := rfl
    rw [this, BitVec.xor_allOnes, BitVec.toNat_not]
    simp; omega
  show IntKind.u64.wrap ((BitVec.ofInt 64 (n : Int) ^^^ BitVec.ofInt 64 18446744073709551615).toNat : Int) = _
  rw [e, wrap_in (by constructor <;> omega)]
  omega
theorem zig_word {x : Int} (h : -9223372036854775808 ≤ x ∧ x ≤ 9223372036854775807) :
    bOp .xor .u64 (IntKind.u64.wrap (IntKind.u64.wrap x * 2 ^ 1)) (IntKind.u64.wrap (x.fdiv (2 ^ 63))) = (zig x : Int) := by
  have hf : x.fdiv (2 ^ 63) = x / 9223372036854775808 := Int.fdiv_eq_ediv_of_nonneg x (by decide)
  rw [hf]
  have w1 : ∀ z : Int, IntKind.u64.wrap z = z % 18446744073709551616 := fun z => by simp [IntKind.wrap, IntKind.bits, IntKind.signed]
  simp only [w1]
  unfold zig
  split
  · have e2 : x / 9223372036854775808 % 18446744073709551616 = 0 := by omega
    rw [e2, xor_zero64 _ (by omega)]; omega
  · have e2 : x / 9223372036854775808 % 18446744073709551616 = 18446744073709551615 := by omega
    rw [e2, xor_ones64 _ (by omega)]; omega

theorem out_signed (R : HP) (p : Nat) (xs : List UInt8) (x : Int) (hx : -9223372036854775808 ≤ x ∧ x ≤ 9223372036854775807) (hl : xs.length + 10 ≤ 140737488355328) :
    Spec Try.prog 31 [.pointer (some ⟨p, 0, none⟩), .int .i64 x] (IsOut p xs * R) (fun _ : Unit => .tuple #[]) (fun _ => IsOut p (xs ++ numForm (zig x)) * R) := by
  refine spec_of Try.func31 rfl Try.ntmps31 rfl fun W0 => ?_
  repeat (first | (refine ct_region' rfl ?_; simp only [List.map, lite]) | refine rg rfl (g_move (by conv => lhs; whnf)) rfl rfl ?_ | refine rg rfl (g_conv rfl) rfl rfl ?_)
  refine rg rfl (g_shl rfl rfl (by omega)) rfl rfl ?_
  refine rg rfl (g_move (by conv => lhs; whnf)) rfl rfl ?_
  refine rg rfl (g_shr rfl rfl (by omega)) rfl rfl ?_
  repeat (first | refine rg rfl (g_conv rfl) rfl rfl ?_ | refine rg rfl (g_xor rfl rfl) rfl rfl ?_)
  refine rt_op (wants_none rfl) (o_callF rfl (by rw [← zig_word hx]; rfl) (out_number _ p xs (zig x) (zig_lt hx) hl) fun _ => ?_)
  refine rt_nil ?_
  exact q_ret0 Try.results31 () rfl (Ent.refl _) (.inl rfl)

theorem rdB_arr {A R : HP} {cap n : Nat} (ad : Option Addr) {ys : List UInt8} [hf : FArr A 5 1 ad cap n (ys.map bv) R] (h : ad = none → ys = []) : RdB A ad ys := rdB_arrE 5 (cap := cap) ad h

theorem out_raw (R : HP) (p : Nat) (xs ys : List UInt8) (a : Option Addr) (c : Nat) (hr : RdB R a ys) (hl : xs.length + ys.length ≤ 140737488355328) :
    Spec Try.prog 37 [.pointer (some ⟨p, 0, none⟩), .slice a ys.length c] (IsOut p xs * R) (fun _ : Unit => .tuple #[]) (fun _ => IsOut p (xs ++ ys) * R) := by
  refine spec_of Try.func37 rfl Try.ntmps37 rfl fun W0 => ?_
  refine ct_ex fun v => ?_
  repeat (first | (refine ct_region' rfl ?_; simp only [List.map, lite]) | refine rg rfl (g_move (by conv => lhs; whnf)) rfl rfl ?_ | refine rg rfl (g_nil rfl) rfl rfl ?_ | refine rg rfl (g_field0 rfl) rfl rfl ?_ | refine rg rfl (g_load rfl (by conv => lhs; whnf)) rfl rfl ?_)
  refine rt_op (wants_none rfl) (o_append rfl rfl rfl (hr.src.ent (Ent.dropL _ _)) bvs_one (by unfold maxLen; omega) (by omega) (.inl ⟨_, rfl⟩) fun ad' cap' => ?_)
  repeat (first | refine rg rfl (g_nil rfl) rfl rfl ?_ | refine rg rfl (g_field0 rfl) rfl rfl ?_)
  refine rt_op (wants_none rfl) (o_store rfl (by conv => lhs; whnf) rfl rfl (by first | (simp only [List.set_cons_zero, List.set_cons_succ]; rfl) | rfl) ?_)
  refine rt_nil ?_
  exact q_ret0 Try.results37 () rfl (isOut_mk _ _ _ _ (by simp) (by simp)) (.inl rfl)

theorem lay_bytes (R : HP) (p : Nat) (xs ys : List UInt8) (a : Option Addr) (c : Nat) (hr : RdB R a ys) (hy : ys.length < 2 ^ 64) (hl : xs.length + 10 + ys.length ≤ 140737488355328) :
    Spec Try.prog 62 [.pointer (some ⟨p, 0, none⟩), .slice a ys.length c] (IsOut p xs * R) (fun _ : Unit => .tuple #[]) (fun _ => IsOut p (xs ++ (numForm ys.length ++ ys)) * R) := by
  have h10 := numForm_ten hy
  refine spec_of Try.func62 rfl Try.ntmps62 rfl fun W0 => ?_
  repeat (first | refine ct_seq ?_ | (refine ct_region' rfl ?_; simp only [List.map, lite]) | refine rg rfl (g_move (by conv => lhs; whnf)) rfl rfl ?_ | (refine rg rfl (g_convN rfl ?_) rfl rfl ?_; (· (constructor <;> omega))) | refine rg rfl (g_len_slice rfl) rfl rfl ?_)
  refine rt_op (wants_none rfl) (o_callF rfl rfl (out_number _ p xs ys.length hy (by omega)) fun _ => ?_)
  repeat (first | (refine ct_region' rfl ?_; simp only [List.map, lite]) | refine rt_nil ?_ | refine q_then ?_ | refine rg rfl (g_move (by conv => lhs; whnf)) rfl rfl ?_ | refine rg rfl (g_nil rfl) rfl rfl ?_ | refine rg rfl (g_field0 rfl) rfl rfl ?_)
  refine rt_ex fun v => ?_
  repeat (first | refine rg rfl (g_move (by conv => lhs; whnf)) rfl rfl ?_ | refine rg rfl (g_load rfl (by conv => lhs; whnf)) rfl rfl ?_)
  refine rt_op (wants_none rfl) (o_append rfl rfl rfl (hr.src.ent (Ent.dropL _ _)) bvs_one (by simp; unfold maxLen; omega) (by simp; omega) (.inl ⟨_, rfl⟩) fun ad' cap' => ?_)
  repeat (first | refine rg rfl (g_nil rfl) rfl rfl ?_ | refine rg rfl (g_field0 rfl) rfl rfl ?_)
  refine rt_op (wants_none rfl) (o_store rfl (by conv => lhs; whnf) rfl rfl (by first | (simp only [List.set_cons_zero, List.set_cons_succ]; rfl) | rfl) ?_)
  refine rt_nil ?_
  exact q_ret0 Try.results62 () rfl (isOut_mk _ _ _ _ (by simp; omega) (by simp)) (.inl rfl)

theorem lay_text (R : HP) (p : Nat) (xs : List UInt8) (s : ByteArray) (hy : s.size < 2 ^ 64) (hl : xs.length + 10 + s.size ≤ 140737488355328) :
    Spec Try.prog 60 [.pointer (some ⟨p, 0, none⟩), .string s] (IsOut p xs * R) (fun _ : Unit => .tuple #[]) (fun _ => IsOut p (xs ++ (numForm s.size ++ s.data.toList)) * R) := by
  have h10 := numForm_ten hy
  refine spec_of Try.func60 rfl Try.ntmps60 rfl fun W0 => ?_
  repeat (first | refine ct_seq ?_ | (refine ct_region' rfl ?_; simp only [List.map, lite]) | refine rg rfl (g_move (by conv => lhs; whnf)) rfl rfl ?_ | (refine rg rfl (g_convN rfl ?_) rfl rfl ?_; (· (constructor <;> omega))) | refine rg rfl (g_len_string rfl) rfl rfl ?_)
  refine rt_op (wants_none rfl) (o_callF rfl rfl (out_number _ p xs s.size hy (by omega)) fun _ => ?_)
  repeat (first | (refine ct_region' rfl ?_; simp only [List.map, lite]) | refine rt_nil ?_ | refine q_then ?_ | refine rg rfl (g_move (by conv => lhs; whnf)) rfl rfl ?_ | refine rg rfl (g_nil rfl) rfl rfl ?_ | refine rg rfl (g_field0 rfl) rfl rfl ?_)
  refine rt_ex fun v => ?_
  repeat (first | refine rg rfl (g_move (by conv => lhs; whnf)) rfl rfl ?_ | refine rg rfl (g_load rfl (by conv => lhs; whnf)) rfl rfl ?_)
  refine rt_op (wants_none rfl) (o_append rfl rfl rfl src_string bvs_one (by simp; unfold maxLen; omega) (by simp; omega) (.inr rfl) fun ad' cap' => ?_)
  repeat (first | refine rg rfl (g_nil rfl) rfl rfl ?_ | refine rg rfl (g_field0 rfl) rfl rfl ?_)
  refine rt_op (wants_none rfl) (o_store rfl (by conv => lhs; whnf) rfl rfl (by first | (simp only [List.set_cons_zero, List.set_cons_succ]; rfl) | rfl) ?_)
  refine rt_nil ?_
  exact q_ret0 Try.results60 () rfl (isOut_mk _ _ _ _ (by simp; omega) (by simp)) (.inl rfl)

theorem out_bytes (R : HP) (p : Nat) (xs ys : List UInt8) (a : Option Addr) (c : Nat) (hr : RdB R a ys) (hy : ys.length < 2 ^ 64) (hl : xs.length + 10 + ys.length ≤ 140737488355328) :
    Spec Try.prog 38 [.pointer (some ⟨p, 0, none⟩), .slice a ys.length c] (IsOut p xs * R) (fun _ : Unit => .tuple #[]) (fun _ => IsOut p (xs ++ (numForm ys.length ++ ys)) * R) := by
  refine spec_of Try.func38 rfl Try.ntmps38 rfl fun W0 => ?_
  repeat (first | (refine ct_region' rfl ?_; simp only [List.map, lite]) | refine rg rfl (g_move (by conv => lhs; whnf)) rfl rfl ?_)
  refine rt_op (wants_none rfl) (o_callF rfl rfl (lay_bytes _ p xs ys a c hr hy hl) fun _ => ?_)
  refine rt_nil ?_
  exact q_ret0 Try.results38 () rfl (Ent.refl _) (.inl rfl)
theorem out_text (R : HP) (p : Nat) (xs : List UInt8) (s : ByteArray) (hy : s.size < 2 ^ 64) (hl : xs.length + 10 + s.size ≤ 140737488355328) :
    Spec Try.prog 32 [.pointer (some ⟨p, 0, none⟩), .string s] (IsOut p xs * R) (fun _ : Unit => .tuple #[]) (fun _ => IsOut p (xs ++ (numForm s.size ++ s.data.toList)) * R) := by
  refine spec_of Try.func32 rfl Try.ntmps32 rfl fun W0 => ?_
  repeat (first | (refine ct_region' rfl ?_; simp only [List.map, lite]) | refine rg rfl (g_move (by conv => lhs; whnf)) rfl rfl ?_)
  refine rt_op (wants_none rfl) (o_callF rfl rfl (lay_text _ p xs s hy hl) fun _ => ?_)
  refine rt_nil ?_
  exact q_ret0 Try.results32 () rfl (Ent.refl _) (.inl rfl)
end Go.Proofs.Ytfcanppeiadbhaa
