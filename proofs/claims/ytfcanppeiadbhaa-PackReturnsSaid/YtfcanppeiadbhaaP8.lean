/- pack.In: Signed, Bytes, Text, Hash, Raw, End. -/
import Derived.Test.YtfcanppeiadbhaaP7
namespace Go.Proofs.Ytfcanppeiadbhaa
open Go.RowKit
attribute [local irreducible] Gives RT CT QT Spec Wants Reads Src Ent OT RQ AnyT AnyOp Again Code.wp Post

/-! ### a signed number, read -/
def zag (x : Nat) : Int := if x % 2 = 0 then ((x / 2 : Nat) : Int) else -((x / 2 : Nat) : Int) - 1
theorem zag_in {x : Nat} (hx : x < 2 ^ 64) : -9223372036854775808 ≤ zag x ∧ zag x ≤ 9223372036854775807 := by unfold zag; split <;> omega
theorem zig_zag {x : Nat} (hx : x < 2 ^ 64) : zig (zag x) = x := by unfold zig zag; split <;> split <;> omega
theorem and1 {x : Nat} (hx : x < 2 ^ 64) : bOp .and .u64 (x : Int) 1 = ((x % 2 : Nat) : Int) := by
  have e : (BitVec.ofInt 64 (x : Int) &&& BitVec.ofInt 64 1).toNat = x % 2 := by
    rw [BitVec.toNat_and]
    have h1 : (BitVec.ofInt 64 (x : Int)).toNat = x := by simp [Nat.mod_eq_of_lt hx]
    have h2 : (BitVec.ofInt 64 1).toNat = 1 := by decide
    rw [h1, h2, Nat.and_one_is_mod]
  show IntKind.u64.wrap ((BitVec.ofInt 64 (x : Int) &&& BitVec.ofInt 64 1).toNat : Int) = _
  rw [e, wrap_in (by constructor <;> omega)]
theorem wrap_i64 (n : Nat) (h : 2 ^ 63 ≤ n) (h2 : n < 2 ^ 64) : IntKind.i64.wrap (n : Int) = (n : Int) - 2 ^ 64 := by
  simp only [IntKind.wrap, IntKind.bits, IntKind.signed]
  simp
  omega
theorem zag_word {x : Nat} (hx : x < 2 ^ 64) : bOp .xor .i64 (((x / 2 : Nat) : Int)) (-((x % 2 : Nat) : Int)) = zag x := by
  show IntKind.i64.wrap ((BitVec.ofInt 64 ((x / 2 : Nat) : Int) ^^^ BitVec.ofInt 64 (-((x % 2 : Nat) : Int))).toNat : Int) = _
  have ha : (BitVec.ofInt 64 ((x / 2 : Nat) : Int)).toNat = x / 2 := by simp; omega
  unfold zag
  by_cases h : x % 2 = 0
  · have e : (BitVec.ofInt 64 ((x / 2 : Nat) : Int) ^^^ BitVec.ofInt 64 (-((x % 2 : Nat) : Int))).toNat = x / 2 := by
      rw [h]
      have : BitVec.ofInt 64 (-((0 : Nat) : Int)) = 0#64 := rfl
      rw [this, BitVec.xor_zero, ha]
    rw [e, if_pos h, wrap_in (by constructor <;> omega)]
  · have h1 : x % 2 = 1 := by omega
    have e : (BitVec.ofInt 64 ((x / 2 : Nat) : Int) ^^^ BitVec.ofInt 64 (-((x % 2 : Nat) : Int))).toNat = 18446744073709551615 - x / 2 := by
      rw [h1]
      have : BitVec.ofInt 64 (-((1 : Nat) : Int)) = BitVec.allOnes 64 := rfl
      rw [this, BitVec.xor_allOnes, BitVec.toNat_not, ha]
    rw [e, if_neg h, wrap_i64 _ (by omega) (by omega)]
    omega

theorem in_signed_bad (R : HP) (p : Nat) (a : Option Addr) (cap : Nat) (xs : List UInt8) (pos q why : Nat) :
    Spec Try.prog 45 [.pointer (some ⟨p, 0, none⟩)] (InA p a cap xs pos (some (q, why)) * R) (fun _ : Unit => .tuple #[.int .i64 0, errV (some q)]) (fun _ => InA p a cap xs pos (some (q, why)) * R) := by
  refine spec_of Try.func45 rfl Try.ntmps45 rfl fun W0 => ?_
  repeat (first | refine ct_seq ?_ | (refine ct_region' rfl ?_; simp only [List.map, lite]) | refine rt_nil ?_ | refine q_then ?_ | refine rg rfl (g_move (by conv => lhs; whnf)) rfl rfl ?_ | refine rg rfl (g_assign (by conv => lhs; whnf)) rfl rfl ?_)
  refine rt_op (wants_none rfl) (o_callF rfl rfl (in_number_bad _ p a cap xs pos q why 18446744073709551615) fun _ => ?_)
  repeat (first | refine ct_seq ?_ | (refine ct_region' rfl ?_; simp only [List.map, lite]) | refine rt_nil ?_ | refine q_then ?_ | refine rg rfl (g_move (by conv => lhs; whnf)) rfl rfl ?_ | refine rg rfl (g_assign (by conv => lhs; whnf)) rfl rfl ?_ | (refine rg rfl (g_convN rfl ?_) rfl rfl ?_; (· (constructor <;> omega))) | refine rg rfl (g_conv rfl) rfl rfl ?_ | refine rg rfl (g_extract rfl (by conv => lhs; whnf)) rfl rfl ?_ | refine rg rfl (g_and rfl rfl) rfl rfl ?_ | (refine rg rfl (g_shrN rfl rfl ?_ ?_ (by simp [IntKind.bits]; rfl)) rfl rfl ?_; (· (omega)); (· (omega))))
  refine rg rfl (g_neg rfl) rfl rfl ?_
  repeat (first | refine rt_nil ?_ | refine ct_ret ?_ | refine q_then ?_ | refine rg rfl (g_move (by conv => lhs; whnf)) rfl rfl ?_ | refine rg rfl (g_assign (by conv => lhs; whnf)) rfl rfl ?_ | refine rg rfl (g_xor rfl rfl) rfl rfl ?_)
  exact q_ret2 Try.results45 rfl rfl () rfl (Ent.refl _)
theorem in_signed_fail (R : HP) (p : Nat) (a : Option Addr) (cap : Nat) (xs : List UInt8) (pos : Nat) (hp : pos ≤ xs.length) (hl : xs.length ≤ 140737488355328) (h : numWhy xs pos 18446744073709551615 ≠ 0) :
    Spec Try.prog 45 [.pointer (some ⟨p, 0, none⟩)] (InA p a cap xs pos none * R) (fun q : Nat => .tuple #[.int .i64 0, errV (some q)]) (fun q => InA p a cap xs pos (some (q, numWhy xs pos 18446744073709551615)) * R) := by
  refine spec_of Try.func45 rfl Try.ntmps45 rfl fun W0 => ?_
  repeat (first | refine ct_seq ?_ | (refine ct_region' rfl ?_; simp only [List.map, lite]) | refine rt_nil ?_ | refine q_then ?_ | refine rg rfl (g_move (by conv => lhs; whnf)) rfl rfl ?_ | refine rg rfl (g_assign (by conv => lhs; whnf)) rfl rfl ?_)
  refine rt_op (wants_none rfl) (o_callF rfl rfl (in_number_fail _ p a cap xs pos 18446744073709551615 hp hl h) fun q => ?_)
  repeat (first | refine ct_seq ?_ | (refine ct_region' rfl ?_; simp only [List.map, lite]) | refine rt_nil ?_ | refine q_then ?_ | refine rg rfl (g_move (by conv => lhs; whnf)) rfl rfl ?_ | refine rg rfl (g_assign (by conv => lhs; whnf)) rfl rfl ?_ | (refine rg rfl (g_convN rfl ?_) rfl rfl ?_; (· (constructor <;> omega))) | refine rg rfl (g_conv rfl) rfl rfl ?_ | refine rg rfl (g_extract rfl (by conv => lhs; whnf)) rfl rfl ?_ | refine rg rfl (g_and rfl rfl) rfl rfl ?_ | (refine rg rfl (g_shrN rfl rfl ?_ ?_ (by simp [IntKind.bits]; rfl)) rfl rfl ?_; (· (omega)); (· (omega))))
  refine rg rfl (g_neg rfl) rfl rfl ?_
  repeat (first | refine rt_nil ?_ | refine ct_ret ?_ | refine q_then ?_ | refine rg rfl (g_move (by conv => lhs; whnf)) rfl rfl ?_ | refine rg rfl (g_assign (by conv => lhs; whnf)) rfl rfl ?_ | refine rg rfl (g_xor rfl rfl) rfl rfl ?_)
  exact q_ret2 Try.results45 rfl rfl q rfl (Ent.refl _)
theorem numWhy_all {xs : List UInt8} {pos : Nat} (h : numWhy xs pos 18446744073709551615 = 0) : (numAt (xs.drop pos) 10 0 0).2.2 = 0 := by
  unfold numWhy at h
  split at h
  · cases h
  · exact h
theorem in_signed_ok (R : HP) (p : Nat) (a : Option Addr) (cap : Nat) (xs : List UInt8) (pos : Nat) (hp : pos ≤ xs.length) (hl : xs.length ≤ 140737488355328) (h : numWhy xs pos 18446744073709551615 = 0) :
    Spec Try.prog 45 [.pointer (some ⟨p, 0, none⟩)] (InA p a cap xs pos none * R) (fun _ : Unit => .tuple #[.int .i64 (zag (numAt (xs.drop pos) 10 0 0).1), .nilIface]) (fun _ => InA p a cap xs (pos + (numAt (xs.drop pos) 10 0 0).2.1) none * R) := by
  refine spec_of Try.func45 rfl Try.ntmps45 rfl fun W0 => ?_
  have hs := in_number_ok R p a cap xs pos 18446744073709551615 hp hl h
  have hx := (numAt_ok0 (numWhy_all h)).1
  generalize numAt (xs.drop pos) 10 0 0 = N at hs hx ⊢
  obtain ⟨x, m, why⟩ := N
  simp only at hs hx ⊢
  repeat (first | refine ct_seq ?_ | (refine ct_region' rfl ?_; simp only [List.map, lite]) | refine rt_nil ?_ | refine q_then ?_ | refine rg rfl (g_move (by conv => lhs; whnf)) rfl rfl ?_ | refine rg rfl (g_assign (by conv => lhs; whnf)) rfl rfl ?_)
  refine rt_op (wants_none rfl) (o_callF rfl rfl hs fun _ => ?_)
  repeat (first | refine ct_seq ?_ | (refine ct_region' rfl ?_; simp only [List.map, lite]) | refine rt_nil ?_ | refine q_then ?_ | refine rg rfl (g_move (by conv => lhs; whnf)) rfl rfl ?_ | refine rg rfl (g_assign (by conv => lhs; whnf)) rfl rfl ?_ | (refine rg rfl (g_convN rfl ?_) rfl rfl ?_; (· (constructor <;> omega))) | refine rg rfl (g_conv rfl) rfl rfl ?_ | refine rg rfl (g_extract rfl (by conv => lhs; whnf)) rfl rfl ?_ | refine rg rfl (g_and rfl rfl) rfl rfl ?_ | (refine rg rfl (g_shrN rfl rfl ?_ ?_ (by simp [IntKind.bits]; rfl)) rfl rfl ?_; (· (omega)); (· (omega))))
  have e1 : IntKind.i64.wrap (bOp .and .u64 (x : Int) 1) = ((x % 2 : Nat) : Int) := by rw [and1 hx, wrap_in (by constructor <;> omega)]
  rw [e1]
  have e2 : bOp .xor .i64 ((x : Int) / 2) (IntKind.i64.wrap (-((x % 2 : Nat) : Int))) = zag x := by rw [wrap_in (by constructor <;> omega)]; exact zag_word hx
  refine rg rfl (g_neg rfl) rfl rfl ?_
  repeat (first | refine rt_nil ?_ | refine ct_ret ?_ | refine q_then ?_ | refine rg rfl (g_move (by conv => lhs; whnf)) rfl rfl ?_ | refine rg rfl (g_assign (by conv => lhs; whnf)) rfl rfl ?_ | refine rg rfl (g_xor rfl rfl) rfl rfl ?_)
  exact q_ret2 Try.results45 (by conv => lhs; whnf) (by conv => lhs; whnf) () (by rw [e2]) (Ent.refl _)

theorem numWhy_zero {xs : List UInt8} {pos m : Nat} (h : numWhy xs pos m = 0) : (numAt (xs.drop pos) 10 0 0).2.2 = 0 := by
  unfold numWhy at h
  split at h
  · cases h
  · exact h
theorem numWhy_most {xs : List UInt8} {pos m : Nat} (h : numWhy xs pos m = 0) : (numAt (xs.drop pos) 10 0 0).1 ≤ m := by
  have h1 := numWhy_zero h
  unfold numWhy at h
  split at h
  · cases h
  · rename_i hc; exact Nat.le_of_not_lt fun x => hc ⟨h1, x⟩
theorem numOk_le {xs : List UInt8} {pos m : Nat} (h : numWhy xs pos m = 0) : (numAt (xs.drop pos) 10 0 0).2.1 ≤ xs.length - pos := by
  obtain ⟨_, h2, rest, h3⟩ := numAt_ok0 (numWhy_zero h)
  rw [h2, ← List.length_drop]
  conv => rhs; rw [h3]
  simp

theorem readB_bad (R : HP) (p : Nat) (a : Option Addr) (cap : Nat) (xs : List UInt8) (pos : Nat) (q why : Nat) (most : Int) (m : Nat) (hi : -9223372036854775808 ≤ most ∧ most ≤ 9223372036854775807) (hm : max 0 most = (m : Int)) :
    Spec Try.prog 64 [.pointer (some ⟨p, 0, none⟩), .int .i64 most] (InA p a cap xs pos (some (q, why)) * R) (fun _ : Unit => .tuple #[.slice none 0 0, errV (some q)]) (fun _ => InA p a cap xs pos (some (q, why)) * R) := by
  refine spec_of Try.func64 rfl Try.ntmps64 rfl fun W0 => ?_
  repeat (first | refine ct_seq ?_ | (refine ct_region' rfl ?_; simp only [List.map, lite]) | refine rt_nil ?_ | refine q_then ?_ | refine rg rfl (g_move (by conv => lhs; whnf)) rfl rfl ?_ | refine rg rfl (g_assign (by conv => lhs; whnf)) rfl rfl ?_ | (refine rg rfl (g_convN rfl ?_) rfl rfl ?_; (· (constructor <;> omega))) | refine rg rfl (g_max rfl rfl) rfl rfl ?_)
  rw [hm]
  refine rt_op (wants_none rfl) (o_callF rfl rfl (in_number_bad _ p a cap xs pos q why m) fun _ => ?_)
  repeat (first | refine ct_seq ?_ | (refine ct_region' rfl ?_; simp only [List.map, lite]) | refine rt_nil ?_ | refine ct_ret ?_ | refine q_then ?_ | refine q_then_ret ?_ | refine ct_true rfl ?_ | refine rg rfl (g_move (by conv => lhs; whnf)) rfl rfl ?_ | refine rg rfl (g_assign (by conv => lhs; whnf)) rfl rfl ?_ | refine rg rfl (g_extract rfl (by conv => lhs; whnf)) rfl rfl ?_ | refine rg rfl (g_err_ne (by conv => lhs; whnf) (by first | exact .inl rfl | exact .inr ⟨_, _, rfl⟩ | assumption)) rfl rfl ?_)
  exact q_ret2 Try.results64 rfl rfl () rfl (Ent.refl _)
theorem readB_fail (R : HP) (p : Nat) (a : Option Addr) (cap : Nat) (xs : List UInt8) (pos : Nat) (most : Int) (m : Nat) (hi : -9223372036854775808 ≤ most ∧ most ≤ 9223372036854775807) (hm : max 0 most = (m : Int)) (hp : pos ≤ xs.length) (hl : xs.length ≤ 140737488355328) (h : numWhy xs pos m ≠ 0) :
    Spec Try.prog 64 [.pointer (some ⟨p, 0, none⟩), .int .i64 most] (InA p a cap xs pos none * R) (fun q : Nat => .tuple #[.slice none 0 0, errV (some q)]) (fun q => InA p a cap xs pos (some (q, numWhy xs pos m)) * R) := by
  refine spec_of Try.func64 rfl Try.ntmps64 rfl fun W0 => ?_
  repeat (first | refine ct_seq ?_ | (refine ct_region' rfl ?_; simp only [List.map, lite]) | refine rt_nil ?_ | refine q_then ?_ | refine rg rfl (g_move (by conv => lhs; whnf)) rfl rfl ?_ | refine rg rfl (g_assign (by conv => lhs; whnf)) rfl rfl ?_ | (refine rg rfl (g_convN rfl ?_) rfl rfl ?_; (· (constructor <;> omega))) | refine rg rfl (g_max rfl rfl) rfl rfl ?_)
  rw [hm]
  refine rt_op (wants_none rfl) (o_callF rfl rfl (in_number_fail _ p a cap xs pos m hp hl h) fun q => ?_)
  repeat (first | refine ct_seq ?_ | (refine ct_region' rfl ?_; simp only [List.map, lite]) | refine rt_nil ?_ | refine ct_ret ?_ | refine q_then ?_ | refine q_then_ret ?_ | refine ct_true rfl ?_ | refine rg rfl (g_move (by conv => lhs; whnf)) rfl rfl ?_ | refine rg rfl (g_assign (by conv => lhs; whnf)) rfl rfl ?_ | refine rg rfl (g_extract rfl (by conv => lhs; whnf)) rfl rfl ?_ | refine rg rfl (g_err_ne (by conv => lhs; whnf) (by first | exact .inl rfl | exact .inr ⟨_, _, rfl⟩ | assumption)) rfl rfl ?_)
  exact q_ret2 Try.results64 rfl rfl q rfl (Ent.refl _)
theorem readB_short (R : HP) (p : Nat) (a : Option Addr) (cap : Nat) (xs : List UInt8) (pos : Nat) (most : Int) (m : Nat) (hi : -9223372036854775808 ≤ most ∧ most ≤ 9223372036854775807) (hm : max 0 most = (m : Int)) (hp : pos ≤ xs.length) (hl : xs.length ≤ 140737488355328) (h : numWhy xs pos m = 0) (hs : xs.length < pos + (numAt (xs.drop pos) 10 0 0).2.1 + (numAt (xs.drop pos) 10 0 0).1) :
    Spec Try.prog 64 [.pointer (some ⟨p, 0, none⟩), .int .i64 most] (InA p a cap xs pos none * R) (fun q : Nat => .tuple #[.slice none 0 0, errV (some q)]) (fun q => InA p a cap xs (pos + (numAt (xs.drop pos) 10 0 0).2.1) (some (q, 20)) * R) := by
  refine spec_of Try.func64 rfl Try.ntmps64 rfl fun W0 => ?_
  have hn := in_number_ok (p := p) (a := a) (cap := cap) (xs := xs) (pos := pos) (most := m) (hp := hp) (hl := hl) (h := h)
  have hk := numOk_le h
  have hx := (numAt_ok0 (numWhy_zero h)).1
  generalize numAt (xs.drop pos) 10 0 0 = N at hn hs hk hx ⊢
  obtain ⟨x, k, why⟩ := N
  simp only at hn hs hk hx ⊢
  repeat (first | refine ct_seq ?_ | (refine ct_region' rfl ?_; simp only [List.map, lite]) | refine rt_nil ?_ | refine q_then ?_ | refine rg rfl (g_move (by conv => lhs; whnf)) rfl rfl ?_ | refine rg rfl (g_assign (by conv => lhs; whnf)) rfl rfl ?_ | (refine rg rfl (g_convN rfl ?_) rfl rfl ?_; (· (constructor <;> omega))) | refine rg rfl (g_max rfl rfl) rfl rfl ?_)
  rw [hm]
  refine rt_op (wants_none rfl) (o_callF rfl rfl (hn _) fun _ => ?_)
  repeat (first | refine ct_seq ?_ | (refine ct_region' rfl ?_; simp only [List.map, lite]) | refine rt_nil ?_ | refine ct_skip ?_ | refine q_then ?_ | refine ct_false rfl ?_ | refine rg rfl (g_move (by conv => lhs; whnf)) rfl rfl ?_ | refine rg rfl (g_assign (by conv => lhs; whnf)) rfl rfl ?_ | refine rg rfl (g_extract rfl (by conv => lhs; whnf)) rfl rfl ?_ | refine rg rfl (g_err_ne (by conv => lhs; whnf) (by first | exact .inl rfl | exact .inr ⟨_, _, rfl⟩ | assumption)) rfl rfl ?_)
  refine rt_op (wants_none rfl) (o_callF rfl rfl (in_left _ p a cap xs (pos + k) none (by omega) hl) fun _ => ?_)
  repeat (first | refine ct_seq ?_ | (refine ct_region' rfl ?_; simp only [List.map, lite]) | refine rt_nil ?_ | refine q_then ?_ | refine ct_true rfl ?_ | refine rg rfl (g_move (by conv => lhs; whnf)) rfl rfl ?_ | refine rg rfl (g_nil rfl) rfl rfl ?_ | refine rg rfl (g_field0 rfl) rfl rfl ?_ | (refine rg rfl (g_gtrT rfl rfl ?_) rfl rfl ?_; (· (omega))) | (refine rg rfl (g_convN rfl ?_) rfl rfl ?_; (· (constructor <;> omega))))
  unfold InA
  simp only [Option.map_none]
  refine rg rfl (g_load rfl (by conv => lhs; whnf)) rfl rfl ?_
  refine rt_ent (B := InA p a cap xs (pos + k) none * R) ?_ (Ent.refl _)
  refine rt_op (wants_none rfl) (o_callF rfl rfl (in_fail _ p a cap xs (pos + k) 20) fun q => ?_)
  repeat (first | refine rt_nil ?_ | refine ct_ret ?_ | refine q_then ?_ | refine q_then_ret ?_ | refine rg rfl (g_assign (by conv => lhs; whnf)) rfl rfl ?_)
  exact q_ret2 Try.results64 rfl rfl q rfl (Ent.refl _)
theorem readB_ok (R : HP) (p : Nat) (a : Option Addr) (cap : Nat) (xs : List UInt8) (pos : Nat) (most : Int) (m : Nat) (hi : -9223372036854775808 ≤ most ∧ most ≤ 9223372036854775807) (hm : max 0 most = (m : Int)) (hp : pos ≤ xs.length) (hl : xs.length ≤ 140737488355328) (h : numWhy xs pos m = 0) (hs : pos + (numAt (xs.drop pos) 10 0 0).2.1 + (numAt (xs.drop pos) 10 0 0).1 ≤ xs.length) :
    Spec Try.prog 64 [.pointer (some ⟨p, 0, none⟩), .int .i64 most] (InA p a cap xs pos none * R) (fun i : Option Addr × Nat => .tuple #[.slice i.1 (numAt (xs.drop pos) 10 0 0).1 i.2, .nilIface]) (fun i => Arr 5 1 i.1 i.2 (numAt (xs.drop pos) 10 0 0).1 (((xs.drop (pos + (numAt (xs.drop pos) 10 0 0).2.1)).take (numAt (xs.drop pos) 10 0 0).1).map bv) * (InA p a cap xs (pos + (numAt (xs.drop pos) 10 0 0).2.1 + (numAt (xs.drop pos) 10 0 0).1) none * R)) := by
  refine spec_of Try.func64 rfl Try.ntmps64 rfl fun W0 => ?_
  refine ct_in fun h0 hcap => ?_
  have hn := in_number_ok (p := p) (a := a) (cap := cap) (xs := xs) (pos := pos) (most := m) (hp := hp) (hl := hl) (h := h)
  have hk := numOk_le h
  have hx := (numAt_ok0 (numWhy_zero h)).1
  generalize numAt (xs.drop pos) 10 0 0 = N at hn hs hk hx ⊢
  obtain ⟨x, k, why⟩ := N
  simp only at hn hs hk hx ⊢
  repeat (first | refine ct_seq ?_ | (refine ct_region' rfl ?_; simp only [List.map, lite]) | refine rt_nil ?_ | refine q_then ?_ | refine rg rfl (g_move (by conv => lhs; whnf)) rfl rfl ?_ | refine rg rfl (g_assign (by conv => lhs; whnf)) rfl rfl ?_ | (refine rg rfl (g_convN rfl ?_) rfl rfl ?_; (· (constructor <;> omega))) | refine rg rfl (g_max rfl rfl) rfl rfl ?_)
  rw [hm]
  refine rt_op (wants_none rfl) (o_callF rfl rfl (hn _) fun _ => ?_)
  repeat (first | refine ct_seq ?_ | (refine ct_region' rfl ?_; simp only [List.map, lite]) | refine rt_nil ?_ | refine ct_skip ?_ | refine q_then ?_ | refine ct_false rfl ?_ | refine rg rfl (g_move (by conv => lhs; whnf)) rfl rfl ?_ | refine rg rfl (g_assign (by conv => lhs; whnf)) rfl rfl ?_ | refine rg rfl (g_extract rfl (by conv => lhs; whnf)) rfl rfl ?_ | refine rg rfl (g_err_ne (by conv => lhs; whnf) (by first | exact .inl rfl | exact .inr ⟨_, _, rfl⟩ | assumption)) rfl rfl ?_)
  refine rt_op (wants_none rfl) (o_callF rfl rfl (in_left _ p a cap xs (pos + k) none (by omega) hl) fun _ => ?_)
  repeat (first | refine ct_seq ?_ | (refine ct_region' rfl ?_; simp only [List.map, lite]) | refine rt_nil ?_ | refine ct_skip ?_ | refine q_then ?_ | refine ct_false rfl ?_ | refine rg rfl (g_move (by conv => lhs; whnf)) rfl rfl ?_ | (refine rg rfl (g_gtrF rfl rfl ?_) rfl rfl ?_; (· (omega))) | (refine rg rfl (g_convN rfl ?_) rfl rfl ?_; (· (constructor <;> omega))))
  refine rt_op (wants_none rfl) (o_callF rfl rfl (in_next_ok _ p a cap xs (pos + k) x hl hs) fun _ => ?_)
  repeat (first | refine ct_seq ?_ | (refine ct_region' rfl ?_; simp only [List.map, lite]) | refine rt_nil ?_ | refine ct_skip ?_ | refine q_then ?_ | refine ct_false rfl ?_ | refine rg rfl (g_move (by conv => lhs; whnf)) rfl rfl ?_ | refine rg rfl (g_assign (by conv => lhs; whnf)) rfl rfl ?_ | refine rg rfl (g_extract rfl (by conv => lhs; whnf)) rfl rfl ?_ | refine rg rfl (g_err_ne (by conv => lhs; whnf) (by first | exact .inl rfl | exact .inr ⟨_, _, rfl⟩ | assumption)) rfl rfl ?_)
  have hrd := rdB_cut (R := R) (p := p) (pos' := pos + k + x) (e := none) x h0 hcap hs
  have hlen : ((xs.drop (pos + k)).take x).length = x := by simp; omega
  have hsrc := hrd.src (P := Try.prog) (c := cap - (pos + k))
  rw [hlen] at hsrc
  refine rt_op (wants_none rfl) (o_append rfl rfl rfl hsrc bvs_one (by unfold maxLen; omega) (by omega) (.inl ⟨_, rfl⟩) fun ad' cap' => ?_)
  simp only [Nat.zero_add, List.nil_append]
  repeat (first | refine rt_nil ?_ | refine ct_ret ?_ | refine q_then ?_ | refine rg rfl (g_assign (by conv => lhs; whnf)) rfl rfl ?_)
  exact q_ret2 Try.results64 rfl rfl (ad', cap') rfl (by first | exact En.ent | (simp only [Int.natCast_add, Int.natCast_one]; exact En.ent))

theorem readS_bad (R : HP) (p : Nat) (a : Option Addr) (cap : Nat) (xs : List UInt8) (pos : Nat) (q why : Nat) (most : Int) (m : Nat) (hi : -9223372036854775808 ≤ most ∧ most ≤ 9223372036854775807) (hm : max 0 most = (m : Int)) :
    Spec Try.prog 65 [.pointer (some ⟨p, 0, none⟩), .int .i64 most] (InA p a cap xs pos (some (q, why)) * R) (fun _ : Unit => .tuple #[.string ⟨#[]⟩, errV (some q)]) (fun _ => InA p a cap xs pos (some (q, why)) * R) := by
  refine spec_of Try.func65 rfl Try.ntmps65 rfl fun W0 => ?_
  repeat (first | refine ct_seq ?_ | (refine ct_region' rfl ?_; simp only [List.map, lite]) | refine rt_nil ?_ | refine q_then ?_ | refine rg rfl (g_move (by conv => lhs; whnf)) rfl rfl ?_ | refine rg rfl (g_assign (by conv => lhs; whnf)) rfl rfl ?_ | (refine rg rfl (g_convN rfl ?_) rfl rfl ?_; (· (constructor <;> omega))) | refine rg rfl (g_max rfl rfl) rfl rfl ?_)
  rw [hm]
  refine rt_op (wants_none rfl) (o_callF rfl rfl (in_number_bad _ p a cap xs pos q why m) fun _ => ?_)
  repeat (first | refine ct_seq ?_ | (refine ct_region' rfl ?_; simp only [List.map, lite]) | refine rt_nil ?_ | refine ct_ret ?_ | refine q_then ?_ | refine q_then_ret ?_ | refine ct_true rfl ?_ | refine rg rfl (g_move (by conv => lhs; whnf)) rfl rfl ?_ | refine rg rfl (g_assign (by conv => lhs; whnf)) rfl rfl ?_ | refine rg rfl (g_extract rfl (by conv => lhs; whnf)) rfl rfl ?_ | refine rg rfl (g_err_ne (by conv => lhs; whnf) (by first | exact .inl rfl | exact .inr ⟨_, _, rfl⟩ | assumption)) rfl rfl ?_)
  exact q_ret2 Try.results65 rfl rfl () rfl (Ent.refl _)
theorem readS_fail (R : HP) (p : Nat) (a : Option Addr) (cap : Nat) (xs : List UInt8) (pos : Nat) (most : Int) (m : Nat) (hi : -9223372036854775808 ≤ most ∧ most ≤ 9223372036854775807) (hm : max 0 most = (m : Int)) (hp : pos ≤ xs.length) (hl : xs.length ≤ 140737488355328) (h : numWhy xs pos m ≠ 0) :
    Spec Try.prog 65 [.pointer (some ⟨p, 0, none⟩), .int .i64 most] (InA p a cap xs pos none * R) (fun q : Nat => .tuple #[.string ⟨#[]⟩, errV (some q)]) (fun q => InA p a cap xs pos (some (q, numWhy xs pos m)) * R) := by
  refine spec_of Try.func65 rfl Try.ntmps65 rfl fun W0 => ?_
  repeat (first | refine ct_seq ?_ | (refine ct_region' rfl ?_; simp only [List.map, lite]) | refine rt_nil ?_ | refine q_then ?_ | refine rg rfl (g_move (by conv => lhs; whnf)) rfl rfl ?_ | refine rg rfl (g_assign (by conv => lhs; whnf)) rfl rfl ?_ | (refine rg rfl (g_convN rfl ?_) rfl rfl ?_; (· (constructor <;> omega))) | refine rg rfl (g_max rfl rfl) rfl rfl ?_)
  rw [hm]
  refine rt_op (wants_none rfl) (o_callF rfl rfl (in_number_fail _ p a cap xs pos m hp hl h) fun q => ?_)
  repeat (first | refine ct_seq ?_ | (refine ct_region' rfl ?_; simp only [List.map, lite]) | refine rt_nil ?_ | refine ct_ret ?_ | refine q_then ?_ | refine q_then_ret ?_ | refine ct_true rfl ?_ | refine rg rfl (g_move (by conv => lhs; whnf)) rfl rfl ?_ | refine rg rfl (g_assign (by conv => lhs; whnf)) rfl rfl ?_ | refine rg rfl (g_extract rfl (by conv => lhs; whnf)) rfl rfl ?_ | refine rg rfl (g_err_ne (by conv => lhs; whnf) (by first | exact .inl rfl | exact .inr ⟨_, _, rfl⟩ | assumption)) rfl rfl ?_)
  exact q_ret2 Try.results65 rfl rfl q rfl (Ent.refl _)
theorem readS_short (R : HP) (p : Nat) (a : Option Addr) (cap : Nat) (xs : List UInt8) (pos : Nat) (most : Int) (m : Nat) (hi : -9223372036854775808 ≤ most ∧ most ≤ 9223372036854775807) (hm : max 0 most = (m : Int)) (hp : pos ≤ xs.length) (hl : xs.length ≤ 140737488355328) (h : numWhy xs pos m = 0) (hs : xs.length < pos + (numAt (xs.drop pos) 10 0 0).2.1 + (numAt (xs.drop pos) 10 0 0).1) :
    Spec Try.prog 65 [.pointer (some ⟨p, 0, none⟩), .int .i64 most] (InA p a cap xs pos none * R) (fun q : Nat => .tuple #[.string ⟨#[]⟩, errV (some q)]) (fun q => InA p a cap xs (pos + (numAt (xs.drop pos) 10 0 0).2.1) (some (q, 20)) * R) := by
  refine spec_of Try.func65 rfl Try.ntmps65 rfl fun W0 => ?_
  have hn := in_number_ok (p := p) (a := a) (cap := cap) (xs := xs) (pos := pos) (most := m) (hp := hp) (hl := hl) (h := h)
  have hk := numOk_le h
  have hx := (numAt_ok0 (numWhy_zero h)).1
  generalize numAt (xs.drop pos) 10 0 0 = N at hn hs hk hx ⊢
  obtain ⟨x, k, why⟩ := N
  simp only at hn hs hk hx ⊢
  repeat (first | refine ct_seq ?_ | (refine ct_region' rfl ?_; simp only [List.map, lite]) | refine rt_nil ?_ | refine q_then ?_ | refine rg rfl (g_move (by conv => lhs; whnf)) rfl rfl ?_ | refine rg rfl (g_assign (by conv => lhs; whnf)) rfl rfl ?_ | (refine rg rfl (g_convN rfl ?_) rfl rfl ?_; (· (constructor <;> omega))) | refine rg rfl (g_max rfl rfl) rfl rfl ?_)
  rw [hm]
  refine rt_op (wants_none rfl) (o_callF rfl rfl (hn _) fun _ => ?_)
  repeat (first | refine ct_seq ?_ | (refine ct_region' rfl ?_; simp only [List.map, lite]) | refine rt_nil ?_ | refine ct_skip ?_ | refine q_then ?_ | refine ct_false rfl ?_ | refine rg rfl (g_move (by conv => lhs; whnf)) rfl rfl ?_ | refine rg rfl (g_assign (by conv => lhs; whnf)) rfl rfl ?_ | refine rg rfl (g_extract rfl (by conv => lhs; whnf)) rfl rfl ?_ | refine rg rfl (g_err_ne (by conv => lhs; whnf) (by first | exact .inl rfl | exact .inr ⟨_, _, rfl⟩ | assumption)) rfl rfl ?_)
  refine rt_op (wants_none rfl) (o_callF rfl rfl (in_left _ p a cap xs (pos + k) none (by omega) hl) fun _ => ?_)
  repeat (first | refine ct_seq ?_ | (refine ct_region' rfl ?_; simp only [List.map, lite]) | refine rt_nil ?_ | refine q_then ?_ | refine ct_true rfl ?_ | refine rg rfl (g_move (by conv => lhs; whnf)) rfl rfl ?_ | refine rg rfl (g_nil rfl) rfl rfl ?_ | refine rg rfl (g_field0 rfl) rfl rfl ?_ | (refine rg rfl (g_gtrT rfl rfl ?_) rfl rfl ?_; (· (omega))) | (refine rg rfl (g_convN rfl ?_) rfl rfl ?_; (· (constructor <;> omega))))
  unfold InA
  simp only [Option.map_none]
  refine rg rfl (g_load rfl (by conv => lhs; whnf)) rfl rfl ?_
  refine rt_ent (B := InA p a cap xs (pos + k) none * R) ?_ (Ent.refl _)
  refine rt_op (wants_none rfl) (o_callF rfl rfl (in_fail _ p a cap xs (pos + k) 20) fun q => ?_)
  repeat (first | refine rt_nil ?_ | refine ct_ret ?_ | refine q_then ?_ | refine q_then_ret ?_ | refine rg rfl (g_assign (by conv => lhs; whnf)) rfl rfl ?_)
  exact q_ret2 Try.results65 rfl rfl q rfl (Ent.refl _)
theorem readS_ok (R : HP) (p : Nat) (a : Option Addr) (cap : Nat) (xs : List UInt8) (pos : Nat) (most : Int) (m : Nat) (hi : -9223372036854775808 ≤ most ∧ most ≤ 9223372036854775807) (hm : max 0 most = (m : Int)) (hp : pos ≤ xs.length) (hl : xs.length ≤ 140737488355328) (h : numWhy xs pos m = 0) (hs : pos + (numAt (xs.drop pos) 10 0 0).2.1 + (numAt (xs.drop pos) 10 0 0).1 ≤ xs.length) :
    Spec Try.prog 65 [.pointer (some ⟨p, 0, none⟩), .int .i64 most] (InA p a cap xs pos none * R) (fun _ : Unit => .tuple #[.string ⟨((xs.drop (pos + (numAt (xs.drop pos) 10 0 0).2.1)).take (numAt (xs.drop pos) 10 0 0).1).toArray⟩, .nilIface]) (fun _ => InA p a cap xs (pos + (numAt (xs.drop pos) 10 0 0).2.1 + (numAt (xs.drop pos) 10 0 0).1) none * R) := by
  refine spec_of Try.func65 rfl Try.ntmps65 rfl fun W0 => ?_
  refine ct_in fun h0 hcap => ?_
  have hn := in_number_ok (p := p) (a := a) (cap := cap) (xs := xs) (pos := pos) (most := m) (hp := hp) (hl := hl) (h := h)
  have hk := numOk_le h
  have hx := (numAt_ok0 (numWhy_zero h)).1
  generalize numAt (xs.drop pos) 10 0 0 = N at hn hs hk hx ⊢
  obtain ⟨x, k, why⟩ := N
  simp only at hn hs hk hx ⊢
  repeat (first | refine ct_seq ?_ | (refine ct_region' rfl ?_; simp only [List.map, lite]) | refine rt_nil ?_ | refine q_then ?_ | refine rg rfl (g_move (by conv => lhs; whnf)) rfl rfl ?_ | refine rg rfl (g_assign (by conv => lhs; whnf)) rfl rfl ?_ | (refine rg rfl (g_convN rfl ?_) rfl rfl ?_; (· (constructor <;> omega))) | refine rg rfl (g_max rfl rfl) rfl rfl ?_)
  rw [hm]
  refine rt_op (wants_none rfl) (o_callF rfl rfl (hn _) fun _ => ?_)
  repeat (first | refine ct_seq ?_ | (refine ct_region' rfl ?_; simp only [List.map, lite]) | refine rt_nil ?_ | refine ct_skip ?_ | refine q_then ?_ | refine ct_false rfl ?_ | refine rg rfl (g_move (by conv => lhs; whnf)) rfl rfl ?_ | refine rg rfl (g_assign (by conv => lhs; whnf)) rfl rfl ?_ | refine rg rfl (g_extract rfl (by conv => lhs; whnf)) rfl rfl ?_ | refine rg rfl (g_err_ne (by conv => lhs; whnf) (by first | exact .inl rfl | exact .inr ⟨_, _, rfl⟩ | assumption)) rfl rfl ?_)
  refine rt_op (wants_none rfl) (o_callF rfl rfl (in_left _ p a cap xs (pos + k) none (by omega) hl) fun _ => ?_)
  repeat (first | refine ct_seq ?_ | (refine ct_region' rfl ?_; simp only [List.map, lite]) | refine rt_nil ?_ | refine ct_skip ?_ | refine q_then ?_ | refine ct_false rfl ?_ | refine rg rfl (g_move (by conv => lhs; whnf)) rfl rfl ?_ | (refine rg rfl (g_gtrF rfl rfl ?_) rfl rfl ?_; (· (omega))) | (refine rg rfl (g_convN rfl ?_) rfl rfl ?_; (· (constructor <;> omega))))
  refine rt_op (wants_none rfl) (o_callF rfl rfl (in_next_ok _ p a cap xs (pos + k) x hl hs) fun _ => ?_)
  repeat (first | refine ct_seq ?_ | (refine ct_region' rfl ?_; simp only [List.map, lite]) | refine rt_nil ?_ | refine ct_skip ?_ | refine q_then ?_ | refine ct_false rfl ?_ | refine rg rfl (g_move (by conv => lhs; whnf)) rfl rfl ?_ | refine rg rfl (g_assign (by conv => lhs; whnf)) rfl rfl ?_ | refine rg rfl (g_extract rfl (by conv => lhs; whnf)) rfl rfl ?_ | refine rg rfl (g_err_ne (by conv => lhs; whnf) (by first | exact .inl rfl | exact .inr ⟨_, _, rfl⟩ | assumption)) rfl rfl ?_)
  have hrd := rdB_cut (R := R) (p := p) (pos' := pos + k + x) (e := none) x h0 hcap hs
  have hlen : ((xs.drop (pos + k)).take x).length = x := by simp; omega
  have hsrc := hrd.src (P := Try.prog) (c := cap - (pos + k))
  rw [hlen] at hsrc
  refine rt_op (wants_none rfl) (o_append rfl rfl rfl hsrc bvs_one (by unfold maxLen; omega) (by omega) (.inl ⟨_, rfl⟩) fun ad' cap' => ?_)
  simp only [Nat.zero_add, List.nil_append]
  repeat (first | refine rt_nil ?_ | refine ct_ret ?_ | refine q_then ?_ | refine rg rfl (g_assign (by conv => lhs; whnf)) rfl rfl ?_ | refine rg rfl (g_convA rfl rfl rfl) rfl rfl ?_)
  exact q_ret2 Try.results65 rfl rfl () rfl (Ent.dropL _ _)
end Go.Proofs.Ytfcanppeiadbhaa
