/- pack: again, and the law PackOneForm. -/
import Derived.Test.YtfcanppeiadbhaaP9
namespace Go.Proofs.Ytfcanppeiadbhaa
open Go.RowKit
attribute [local irreducible] Gives RT CT QT Spec Wants Reads Src Ent OT RQ AnyT AnyOp Again Code.wp Post

theorem take_app {xs ys rest : List UInt8} {pos : Nat} (h : xs.drop pos = ys ++ rest) : xs.take pos ++ ys = xs.take (pos + ys.length) := by
  rw [List.take_add, h, List.take_append_of_le_length (Nat.le_refl _), List.take_length]
theorem take_num {xs : List UInt8} {pos : Nat} (h : (numAt (xs.drop pos) 10 0 0).2.2 = 0) : xs.take pos ++ numForm (numAt (xs.drop pos) 10 0 0).1 = xs.take (pos + (numAt (xs.drop pos) 10 0 0).2.1) := by
  obtain ⟨_, h2, rest, h3⟩ := numAt_ok0 h
  rw [take_app h3, ← h2]
theorem take_take {xs : List UInt8} {pos n : Nat} : xs.take pos ++ (xs.drop pos).take n = xs.take (pos + n) := by rw [List.take_add]

/-- behind 'again': read and laid, or told that it can't be read -/
def AgainB (p : Nat) (a : Option Addr) (cap : Nat) (xs : List UInt8) (q pos : Nat) (R : HP) (i : Bool × Nat × Nat × Nat) : HP :=
  match i with
  | (true, pos', _, _) => InA p a cap xs pos' none * (IsOut q (xs.take pos') * R)
  | (false, pos', e, why) => InA p a cap xs pos' (some (e, why)) * (IsOut q (xs.take pos) * R)
theorem again_t {p : Nat} {a : Option Addr} {cap : Nat} {xs : List UInt8} {q pos : Nat} {R A : HP} (pos' : Nat) (h : Ent A (InA p a cap xs pos' none * (IsOut q (xs.take pos') * R))) : Ent A (AgainB p a cap xs q pos R (true, pos', 0, 0)) := h
theorem again_f {p : Nat} {a : Option Addr} {cap : Nat} {xs : List UInt8} {q pos : Nat} {R A : HP} (pos' e why : Nat) (h : Ent A (InA p a cap xs pos' (some (e, why)) * (IsOut q (xs.take pos) * R))) : Ent A (AgainB p a cap xs q pos R (false, pos', e, why)) := h

theorem again_spec (R : HP) (p : Nat) (a : Option Addr) (cap : Nat) (xs : List UInt8) (q pos : Nat) (kind : Int) (hp : pos ≤ xs.length) (hl : xs.length ≤ 140737488351232) :
    Spec Try.prog 21 [.pointer (some ⟨p, 0, none⟩), .pointer (some ⟨q, 0, none⟩), .int .i64 kind] (InA p a cap xs pos none * (IsOut q (xs.take pos) * R))
      (fun i : { i : Bool × Nat × Nat × Nat // pos ≤ i.2.1 ∧ i.2.1 ≤ xs.length } => .bool i.1.1) (fun i => AgainB p a cap xs q pos R i.1) := by
  have hl0 : xs.length ≤ 140737488355328 := by omega
  have htl : (xs.take pos).length = pos := by simp; omega
  refine spec_of Try.func21 rfl Try.ntmps21 rfl fun W0 => ?_
  by_cases k0 : kind = 0
  · subst k0
    by_cases hlt : pos < xs.length
    · obtain ⟨c, hc⟩ : ∃ c, xs[pos]? = some c := ⟨xs[pos], List.getElem?_eq_getElem hlt⟩
      repeat (first | refine ct_seq ?_ | refine ct_block ?_ | (refine ct_region' rfl ?_; simp only [List.map, lite]) | refine rt_nil ?_ | refine q_then ?_ | refine ct_true rfl ?_ | refine rg rfl (g_move (by conv => lhs; whnf)) rfl rfl ?_ | refine rg rfl (g_assign (by conv => lhs; whnf)) rfl rfl ?_ | (refine rg rfl (g_eqlT rfl rfl ?_) rfl rfl ?_; (· (omega))))
      refine rt_op (wants_none rfl) (o_callF rfl rfl (in_byte_ok _ p a cap xs pos c hl0 hc) fun _ => ?_)
      repeat (first | refine ct_seq ?_ | (refine ct_region' rfl ?_; simp only [List.map, lite]) | refine rt_nil ?_ | refine ct_skip ?_ | refine q_then ?_ | refine ct_false rfl ?_ | refine rg rfl (g_move (by conv => lhs; whnf)) rfl rfl ?_ | refine rg rfl (g_assign (by conv => lhs; whnf)) rfl rfl ?_ | refine rg rfl (g_extract rfl (by conv => lhs; whnf)) rfl rfl ?_ | refine rg rfl (g_err_ne (by conv => lhs; whnf) (by first | exact .inl rfl | exact .inr ⟨_, _, rfl⟩ | assumption)) rfl rfl ?_)
      refine rt_op (wants_none rfl) (o_callF rfl rfl (out_byte _ q (xs.take pos) c (by omega)) fun _ => ?_)
      repeat (first | refine ct_seq ?_ | (refine ct_region' rfl ?_; simp only [List.map, lite]) | refine rt_nil ?_ | refine ct_ret ?_ | refine q_then ?_ | refine q_block ?_ | refine rg rfl (g_assign (by conv => lhs; whnf)) rfl rfl ?_)
      refine q_ret1 Try.results21 rfl ⟨(true, pos + 1, 0, 0), by simp only; omega⟩ rfl (again_t (pos + 1) ?_)
      have : xs.take pos ++ [c] = xs.take (pos + 1) := take_app (rest := xs.drop (pos + 1)) (drop_cons hc)
      rw [this]; exact En.ent
    · repeat (first | refine ct_seq ?_ | refine ct_block ?_ | (refine ct_region' rfl ?_; simp only [List.map, lite]) | refine rt_nil ?_ | refine q_then ?_ | refine ct_true rfl ?_ | refine rg rfl (g_move (by conv => lhs; whnf)) rfl rfl ?_ | refine rg rfl (g_assign (by conv => lhs; whnf)) rfl rfl ?_ | (refine rg rfl (g_eqlT rfl rfl ?_) rfl rfl ?_; (· (omega))))
      refine rt_op (wants_none rfl) (o_callF rfl rfl (in_byte_short _ p a cap xs pos hl0 (by omega)) fun e => ?_)
      repeat (first | refine ct_seq ?_ | (refine ct_region' rfl ?_; simp only [List.map, lite]) | refine rt_nil ?_ | refine ct_ret ?_ | refine q_then ?_ | refine q_then_ret ?_ | refine q_block_ret ?_ | refine ct_true rfl ?_ | refine rg rfl (g_move (by conv => lhs; whnf)) rfl rfl ?_ | refine rg rfl (g_assign (by conv => lhs; whnf)) rfl rfl ?_ | refine rg rfl (g_extract rfl (by conv => lhs; whnf)) rfl rfl ?_ | refine rg rfl (g_err_ne (by conv => lhs; whnf) (by first | exact .inl rfl | exact .inr ⟨_, _, rfl⟩ | assumption)) rfl rfl ?_)
      exact q_ret1 Try.results21 rfl ⟨(false, pos, e, 20), by simp only; omega⟩ rfl (again_f pos e 20 En.ent)
  by_cases k1 : kind = 1
  · subst k1
    by_cases hw : numWhy xs pos 18446744073709551615 = 0
    · have hn := in_number_ok (p := p) (a := a) (cap := cap) (hp := hp) (hl := hl0) (h := hw)
      have ht := take_num (numWhy_zero hw)
      have hx := (numAt_ok0 (numWhy_zero hw)).1
      have hk := numOk_le hw
      generalize numAt (xs.drop pos) 10 0 0 = N at hn ht hx hk
      obtain ⟨x, n, why⟩ := N
      simp only at hn ht hx hk
      repeat (first | refine ct_seq ?_ | refine ct_block ?_ | (refine ct_region' rfl ?_; simp only [List.map, lite]) | refine rt_nil ?_ | refine q_then ?_ | refine ct_true rfl ?_ | refine ct_false rfl ?_ | refine rg rfl (g_move (by conv => lhs; whnf)) rfl rfl ?_ | refine rg rfl (g_assign (by conv => lhs; whnf)) rfl rfl ?_ | (refine rg rfl (g_eqlT rfl rfl ?_) rfl rfl ?_; (· (omega))) | (refine rg rfl (g_eqlF rfl rfl ?_) rfl rfl ?_; (· (omega))))
      refine rt_op (wants_none rfl) (o_callF rfl rfl (hn _) fun _ => ?_)
      repeat (first | refine ct_seq ?_ | (refine ct_region' rfl ?_; simp only [List.map, lite]) | refine rt_nil ?_ | refine ct_skip ?_ | refine q_then ?_ | refine ct_false rfl ?_ | refine rg rfl (g_move (by conv => lhs; whnf)) rfl rfl ?_ | refine rg rfl (g_assign (by conv => lhs; whnf)) rfl rfl ?_ | refine rg rfl (g_extract rfl (by conv => lhs; whnf)) rfl rfl ?_ | refine rg rfl (g_err_ne (by conv => lhs; whnf) (by first | exact .inl rfl | exact .inr ⟨_, _, rfl⟩ | assumption)) rfl rfl ?_)
      refine rt_op (wants_none rfl) (o_callF rfl rfl (out_number _ q (xs.take pos) x hx (by omega)) fun _ => ?_)
      repeat (first | refine ct_seq ?_ | (refine ct_region' rfl ?_; simp only [List.map, lite]) | refine rt_nil ?_ | refine ct_ret ?_ | refine q_then ?_ | refine q_block ?_ | refine rg rfl (g_assign (by conv => lhs; whnf)) rfl rfl ?_)
      refine q_ret1 Try.results21 rfl ⟨(true, pos + n, 0, 0), by simp only; omega⟩ rfl (again_t (pos + n) ?_)
      rw [ht]; exact En.ent
    · repeat (first | refine ct_seq ?_ | refine ct_block ?_ | (refine ct_region' rfl ?_; simp only [List.map, lite]) | refine rt_nil ?_ | refine q_then ?_ | refine ct_true rfl ?_ | refine ct_false rfl ?_ | refine rg rfl (g_move (by conv => lhs; whnf)) rfl rfl ?_ | refine rg rfl (g_assign (by conv => lhs; whnf)) rfl rfl ?_ | (refine rg rfl (g_eqlT rfl rfl ?_) rfl rfl ?_; (· (omega))) | (refine rg rfl (g_eqlF rfl rfl ?_) rfl rfl ?_; (· (omega))))
      refine rt_op (wants_none rfl) (o_callF rfl rfl (in_number_fail _ p a cap xs pos 18446744073709551615 hp hl0 hw) fun e => ?_)
      repeat (first | refine ct_seq ?_ | (refine ct_region' rfl ?_; simp only [List.map, lite]) | refine rt_nil ?_ | refine ct_ret ?_ | refine q_then ?_ | refine q_then_ret ?_ | refine q_block_ret ?_ | refine ct_true rfl ?_ | refine rg rfl (g_move (by conv => lhs; whnf)) rfl rfl ?_ | refine rg rfl (g_assign (by conv => lhs; whnf)) rfl rfl ?_ | refine rg rfl (g_extract rfl (by conv => lhs; whnf)) rfl rfl ?_ | refine rg rfl (g_err_ne (by conv => lhs; whnf) (by first | exact .inl rfl | exact .inr ⟨_, _, rfl⟩ | assumption)) rfl rfl ?_)
      exact q_ret1 Try.results21 rfl ⟨(false, pos, e, numWhy xs pos 18446744073709551615), by simp only; omega⟩ rfl (again_f pos e _ En.ent)
  by_cases k2 : kind = 2
  · subst k2
    by_cases hw : numWhy xs pos 18446744073709551615 = 0
    · have hn := in_signed_ok (p := p) (a := a) (cap := cap) (hp := hp) (hl := hl0) (h := hw)
      have ht := take_num (numWhy_zero hw)
      have hx := (numAt_ok0 (numWhy_zero hw)).1
      have hk := numOk_le hw
      generalize numAt (xs.drop pos) 10 0 0 = N at hn ht hx hk
      obtain ⟨x, n, why⟩ := N
      simp only at hn ht hx hk
      repeat (first | refine ct_seq ?_ | refine ct_block ?_ | (refine ct_region' rfl ?_; simp only [List.map, lite]) | refine rt_nil ?_ | refine q_then ?_ | refine ct_true rfl ?_ | refine ct_false rfl ?_ | refine rg rfl (g_move (by conv => lhs; whnf)) rfl rfl ?_ | refine rg rfl (g_assign (by conv => lhs; whnf)) rfl rfl ?_ | (refine rg rfl (g_eqlT rfl rfl ?_) rfl rfl ?_; (· (omega))) | (refine rg rfl (g_eqlF rfl rfl ?_) rfl rfl ?_; (· (omega))))
      refine rt_op (wants_none rfl) (o_callF rfl rfl (hn _) fun _ => ?_)
      repeat (first | refine ct_seq ?_ | (refine ct_region' rfl ?_; simp only [List.map, lite]) | refine rt_nil ?_ | refine ct_skip ?_ | refine q_then ?_ | refine ct_false rfl ?_ | refine rg rfl (g_move (by conv => lhs; whnf)) rfl rfl ?_ | refine rg rfl (g_assign (by conv => lhs; whnf)) rfl rfl ?_ | refine rg rfl (g_extract rfl (by conv => lhs; whnf)) rfl rfl ?_ | refine rg rfl (g_err_ne (by conv => lhs; whnf) (by first | exact .inl rfl | exact .inr ⟨_, _, rfl⟩ | assumption)) rfl rfl ?_)
      refine rt_op (wants_none rfl) (o_callF rfl rfl (out_signed _ q (xs.take pos) (zag x) (zag_in hx) (by omega)) fun _ => ?_)
      repeat (first | refine ct_seq ?_ | (refine ct_region' rfl ?_; simp only [List.map, lite]) | refine rt_nil ?_ | refine ct_ret ?_ | refine q_then ?_ | refine q_block ?_ | refine rg rfl (g_assign (by conv => lhs; whnf)) rfl rfl ?_)
      refine q_ret1 Try.results21 rfl ⟨(true, pos + n, 0, 0), by simp only; omega⟩ rfl (again_t (pos + n) ?_)
      rw [zig_zag hx, ht]; exact En.ent
    · repeat (first | refine ct_seq ?_ | refine ct_block ?_ | (refine ct_region' rfl ?_; simp only [List.map, lite]) | refine rt_nil ?_ | refine q_then ?_ | refine ct_true rfl ?_ | refine ct_false rfl ?_ | refine rg rfl (g_move (by conv => lhs; whnf)) rfl rfl ?_ | refine rg rfl (g_assign (by conv => lhs; whnf)) rfl rfl ?_ | (refine rg rfl (g_eqlT rfl rfl ?_) rfl rfl ?_; (· (omega))) | (refine rg rfl (g_eqlF rfl rfl ?_) rfl rfl ?_; (· (omega))))
      refine rt_op (wants_none rfl) (o_callF rfl rfl (in_signed_fail _ p a cap xs pos hp hl0 hw) fun e => ?_)
      repeat (first | refine ct_seq ?_ | (refine ct_region' rfl ?_; simp only [List.map, lite]) | refine rt_nil ?_ | refine ct_ret ?_ | refine q_then ?_ | refine q_then_ret ?_ | refine q_block_ret ?_ | refine ct_true rfl ?_ | refine rg rfl (g_move (by conv => lhs; whnf)) rfl rfl ?_ | refine rg rfl (g_assign (by conv => lhs; whnf)) rfl rfl ?_ | refine rg rfl (g_extract rfl (by conv => lhs; whnf)) rfl rfl ?_ | refine rg rfl (g_err_ne (by conv => lhs; whnf) (by first | exact .inl rfl | exact .inr ⟨_, _, rfl⟩ | assumption)) rfl rfl ?_)
      exact q_ret1 Try.results21 rfl ⟨(false, pos, e, numWhy xs pos 18446744073709551615), by simp only; omega⟩ rfl (again_f pos e _ En.ent)
  by_cases k4 : kind = 4
  · subst k4
    have hi : -9223372036854775808 ≤ (1099511627776 : Int) ∧ (1099511627776 : Int) ≤ 9223372036854775807 := by omega
    have hm : max 0 (1099511627776 : Int) = ((1099511627776 : Nat) : Int) := by decide
    by_cases hw : numWhy xs pos 1099511627776 = 0
    · by_cases hs : pos + (numAt (xs.drop pos) 10 0 0).2.1 + (numAt (xs.drop pos) 10 0 0).1 ≤ xs.length
      · have hn := in_bytes_ok (p := p) (a := a) (cap := cap) (most := 1099511627776) (hi := hi) (hm := hm) (hp := hp) (hl := hl0) (h := hw) (hs := hs)
        have ht := take_num (numWhy_zero hw)
        have hx := (numAt_ok0 (numWhy_zero hw)).1
        generalize numAt (xs.drop pos) 10 0 0 = N at hn ht hx hs
        obtain ⟨x, n, why⟩ := N
        simp only at hn ht hx hs
        have hlen : ((xs.drop (pos + n)).take x).length = x := by simp; omega
        have hz : ((xs.drop (pos + n)).take x).length = 0 → (xs.drop (pos + n)).take x = [] := List.eq_nil_of_length_eq_zero
        repeat (first | refine ct_seq ?_ | refine ct_block ?_ | (refine ct_region' rfl ?_; simp only [List.map, lite]) | refine rt_nil ?_ | refine q_then ?_ | refine ct_true rfl ?_ | refine ct_false rfl ?_ | refine rg rfl (g_move (by conv => lhs; whnf)) rfl rfl ?_ | refine rg rfl (g_assign (by conv => lhs; whnf)) rfl rfl ?_ | (refine rg rfl (g_eqlT rfl rfl ?_) rfl rfl ?_; (· (omega))) | (refine rg rfl (g_eqlF rfl rfl ?_) rfl rfl ?_; (· (omega))))
        refine rt_op (wants_none rfl) (o_callF rfl rfl (hn _) fun i => ?_)
        repeat (first | refine ct_seq ?_ | (refine ct_region' rfl ?_; simp only [List.map, lite]) | refine rt_nil ?_ | refine ct_skip ?_ | refine q_then ?_ | refine ct_false rfl ?_ | refine rg rfl (g_move (by conv => lhs; whnf)) rfl rfl ?_ | refine rg rfl (g_assign (by conv => lhs; whnf)) rfl rfl ?_ | refine rg rfl (g_extract rfl (by conv => lhs; whnf)) rfl rfl ?_ | refine rg rfl (g_err_ne (by conv => lhs; whnf) (by first | exact .inl rfl | exact .inr ⟨_, _, rfl⟩ | assumption)) rfl rfl ?_)
        refine rt_arr 5 1 i.1 i.2 fun _ h0 _ _ => ?_
        have ho := fun R hr => out_bytes R q (xs.take pos) ((xs.drop (pos + n)).take x) i.1 i.2 hr (by omega) (by omega)
        simp only [hlen] at ho
        refine rt_op (wants_none rfl) (o_callF rfl rfl (ho _ (rdB_arr (cap := i.2) i.1 fun h => hz (by rw [hlen]; exact (h0 h).1))) fun _ => ?_)
        repeat (first | refine ct_seq ?_ | (refine ct_region' rfl ?_; simp only [List.map, lite]) | refine rt_nil ?_ | refine ct_ret ?_ | refine q_then ?_ | refine q_block ?_ | refine rg rfl (g_assign (by conv => lhs; whnf)) rfl rfl ?_)
        refine q_ret1 Try.results21 rfl ⟨(true, pos + n + x, 0, 0), by simp only; omega⟩ rfl (again_t (pos + n + x) ?_)
        rw [← List.append_assoc, ht, take_take]; exact En.ent
      · repeat (first | refine ct_seq ?_ | refine ct_block ?_ | (refine ct_region' rfl ?_; simp only [List.map, lite]) | refine rt_nil ?_ | refine q_then ?_ | refine ct_true rfl ?_ | refine ct_false rfl ?_ | refine rg rfl (g_move (by conv => lhs; whnf)) rfl rfl ?_ | refine rg rfl (g_assign (by conv => lhs; whnf)) rfl rfl ?_ | (refine rg rfl (g_eqlT rfl rfl ?_) rfl rfl ?_; (· (omega))) | (refine rg rfl (g_eqlF rfl rfl ?_) rfl rfl ?_; (· (omega))))
        refine rt_op (wants_none rfl) (o_callF rfl rfl (in_bytes_short _ p a cap xs pos 1099511627776 1099511627776 hi hm hp hl0 hw (by omega)) fun e => ?_)
        repeat (first | refine ct_seq ?_ | (refine ct_region' rfl ?_; simp only [List.map, lite]) | refine rt_nil ?_ | refine ct_ret ?_ | refine q_then ?_ | refine q_then_ret ?_ | refine q_block_ret ?_ | refine ct_true rfl ?_ | refine rg rfl (g_move (by conv => lhs; whnf)) rfl rfl ?_ | refine rg rfl (g_assign (by conv => lhs; whnf)) rfl rfl ?_ | refine rg rfl (g_extract rfl (by conv => lhs; whnf)) rfl rfl ?_ | refine rg rfl (g_err_ne (by conv => lhs; whnf) (by first | exact .inl rfl | exact .inr ⟨_, _, rfl⟩ | assumption)) rfl rfl ?_)
        have hk := numOk_le hw
        exact q_ret1 Try.results21 rfl ⟨(false, pos + (numAt (xs.drop pos) 10 0 0).2.1, e, 20), by simp only; omega⟩ rfl (again_f _ e 20 En.ent)
    · repeat (first | refine ct_seq ?_ | refine ct_block ?_ | (refine ct_region' rfl ?_; simp only [List.map, lite]) | refine rt_nil ?_ | refine q_then ?_ | refine ct_true rfl ?_ | refine ct_false rfl ?_ | refine rg rfl (g_move (by conv => lhs; whnf)) rfl rfl ?_ | refine rg rfl (g_assign (by conv => lhs; whnf)) rfl rfl ?_ | (refine rg rfl (g_eqlT rfl rfl ?_) rfl rfl ?_; (· (omega))) | (refine rg rfl (g_eqlF rfl rfl ?_) rfl rfl ?_; (· (omega))))
      refine rt_op (wants_none rfl) (o_callF rfl rfl (in_bytes_fail _ p a cap xs pos 1099511627776 1099511627776 hi hm hp hl0 hw) fun e => ?_)
      repeat (first | refine ct_seq ?_ | (refine ct_region' rfl ?_; simp only [List.map, lite]) | refine rt_nil ?_ | refine ct_ret ?_ | refine q_then ?_ | refine q_then_ret ?_ | refine q_block_ret ?_ | refine ct_true rfl ?_ | refine rg rfl (g_move (by conv => lhs; whnf)) rfl rfl ?_ | refine rg rfl (g_assign (by conv => lhs; whnf)) rfl rfl ?_ | refine rg rfl (g_extract rfl (by conv => lhs; whnf)) rfl rfl ?_ | refine rg rfl (g_err_ne (by conv => lhs; whnf) (by first | exact .inl rfl | exact .inr ⟨_, _, rfl⟩ | assumption)) rfl rfl ?_)
      exact q_ret1 Try.results21 rfl ⟨(false, pos, e, numWhy xs pos 1099511627776), by simp only; omega⟩ rfl (again_f pos e _ En.ent)
  by_cases k5 : kind = 5
  · subst k5
    have hi : -9223372036854775808 ≤ (1099511627776 : Int) ∧ (1099511627776 : Int) ≤ 9223372036854775807 := by omega
    have hm : max 0 (1099511627776 : Int) = ((1099511627776 : Nat) : Int) := by decide
    by_cases hw : numWhy xs pos 1099511627776 = 0
    · by_cases hs : pos + (numAt (xs.drop pos) 10 0 0).2.1 + (numAt (xs.drop pos) 10 0 0).1 ≤ xs.length
      · have hn := in_text_ok (p := p) (a := a) (cap := cap) (most := 1099511627776) (hi := hi) (hm := hm) (hp := hp) (hl := hl0) (h := hw) (hs := hs)
        have ht := take_num (numWhy_zero hw)
        have hx := (numAt_ok0 (numWhy_zero hw)).1
        generalize numAt (xs.drop pos) 10 0 0 = N at hn ht hx hs
        obtain ⟨x, n, why⟩ := N
        simp only at hn ht hx hs
        have hlen : ((xs.drop (pos + n)).take x).length = x := by simp; omega
        have hsz : (ByteArray.mk ((xs.drop (pos + n)).take x).toArray).size = x := hlen
        repeat (first | refine ct_seq ?_ | refine ct_block ?_ | (refine ct_region' rfl ?_; simp only [List.map, lite]) | refine rt_nil ?_ | refine q_then ?_ | refine ct_true rfl ?_ | refine ct_false rfl ?_ | refine rg rfl (g_move (by conv => lhs; whnf)) rfl rfl ?_ | refine rg rfl (g_assign (by conv => lhs; whnf)) rfl rfl ?_ | (refine rg rfl (g_eqlT rfl rfl ?_) rfl rfl ?_; (· (omega))) | (refine rg rfl (g_eqlF rfl rfl ?_) rfl rfl ?_; (· (omega))))
        refine rt_op (wants_none rfl) (o_callF rfl rfl (hn _) fun i => ?_)
        repeat (first | refine ct_seq ?_ | (refine ct_region' rfl ?_; simp only [List.map, lite]) | refine rt_nil ?_ | refine ct_skip ?_ | refine q_then ?_ | refine ct_false rfl ?_ | refine rg rfl (g_move (by conv => lhs; whnf)) rfl rfl ?_ | refine rg rfl (g_assign (by conv => lhs; whnf)) rfl rfl ?_ | refine rg rfl (g_extract rfl (by conv => lhs; whnf)) rfl rfl ?_ | refine rg rfl (g_err_ne (by conv => lhs; whnf) (by first | exact .inl rfl | exact .inr ⟨_, _, rfl⟩ | assumption)) rfl rfl ?_)
        refine rt_op (wants_none rfl) (o_callF rfl rfl (out_text _ q (xs.take pos) ⟨((xs.drop (pos + n)).take x).toArray⟩ (by omega) (by omega)) fun _ => ?_)
        repeat (first | refine ct_seq ?_ | (refine ct_region' rfl ?_; simp only [List.map, lite]) | refine rt_nil ?_ | refine ct_ret ?_ | refine q_then ?_ | refine q_block ?_ | refine rg rfl (g_assign (by conv => lhs; whnf)) rfl rfl ?_)
        refine q_ret1 Try.results21 rfl ⟨(true, pos + n + x, 0, 0), by simp only; omega⟩ rfl (again_t (pos + n + x) ?_)
        rw [hsz, ← List.append_assoc, ht]
        show Ent (IsOut q (xs.take (pos + n) ++ (xs.drop (pos + n)).take x) * _) _
        rw [take_take]; exact En.ent
      · repeat (first | refine ct_seq ?_ | refine ct_block ?_ | (refine ct_region' rfl ?_; simp only [List.map, lite]) | refine rt_nil ?_ | refine q_then ?_ | refine ct_true rfl ?_ | refine ct_false rfl ?_ | refine rg rfl (g_move (by conv => lhs; whnf)) rfl rfl ?_ | refine rg rfl (g_assign (by conv => lhs; whnf)) rfl rfl ?_ | (refine rg rfl (g_eqlT rfl rfl ?_) rfl rfl ?_; (· (omega))) | (refine rg rfl (g_eqlF rfl rfl ?_) rfl rfl ?_; (· (omega))))
        refine rt_op (wants_none rfl) (o_callF rfl rfl (in_text_short _ p a cap xs pos 1099511627776 1099511627776 hi hm hp hl0 hw (by omega)) fun e => ?_)
        repeat (first | refine ct_seq ?_ | (refine ct_region' rfl ?_; simp only [List.map, lite]) | refine rt_nil ?_ | refine ct_ret ?_ | refine q_then ?_ | refine q_then_ret ?_ | refine q_block_ret ?_ | refine ct_true rfl ?_ | refine rg rfl (g_move (by conv => lhs; whnf)) rfl rfl ?_ | refine rg rfl (g_assign (by conv => lhs; whnf)) rfl rfl ?_ | refine rg rfl (g_extract rfl (by conv => lhs; whnf)) rfl rfl ?_ | refine rg rfl (g_err_ne (by conv => lhs; whnf) (by first | exact .inl rfl | exact .inr ⟨_, _, rfl⟩ | assumption)) rfl rfl ?_)
        have hk := numOk_le hw
        exact q_ret1 Try.results21 rfl ⟨(false, pos + (numAt (xs.drop pos) 10 0 0).2.1, e, 20), by simp only; omega⟩ rfl (again_f _ e 20 En.ent)
    · repeat (first | refine ct_seq ?_ | refine ct_block ?_ | (refine ct_region' rfl ?_; simp only [List.map, lite]) | refine rt_nil ?_ | refine q_then ?_ | refine ct_true rfl ?_ | refine ct_false rfl ?_ | refine rg rfl (g_move (by conv => lhs; whnf)) rfl rfl ?_ | refine rg rfl (g_assign (by conv => lhs; whnf)) rfl rfl ?_ | (refine rg rfl (g_eqlT rfl rfl ?_) rfl rfl ?_; (· (omega))) | (refine rg rfl (g_eqlF rfl rfl ?_) rfl rfl ?_; (· (omega))))
      refine rt_op (wants_none rfl) (o_callF rfl rfl (in_text_fail _ p a cap xs pos 1099511627776 1099511627776 hi hm hp hl0 hw) fun e => ?_)
      repeat (first | refine ct_seq ?_ | (refine ct_region' rfl ?_; simp only [List.map, lite]) | refine rt_nil ?_ | refine ct_ret ?_ | refine q_then ?_ | refine q_then_ret ?_ | refine q_block_ret ?_ | refine ct_true rfl ?_ | refine rg rfl (g_move (by conv => lhs; whnf)) rfl rfl ?_ | refine rg rfl (g_assign (by conv => lhs; whnf)) rfl rfl ?_ | refine rg rfl (g_extract rfl (by conv => lhs; whnf)) rfl rfl ?_ | refine rg rfl (g_err_ne (by conv => lhs; whnf) (by first | exact .inl rfl | exact .inr ⟨_, _, rfl⟩ | assumption)) rfl rfl ?_)
      exact q_ret1 Try.results21 rfl ⟨(false, pos, e, numWhy xs pos 1099511627776), by simp only; omega⟩ rfl (again_f pos e _ En.ent)
  by_cases k6 : kind = 6
  · subst k6
    by_cases hs : pos + 32 ≤ xs.length
    · have hlen : ((xs.drop pos).take 32).length = 32 := by simp; omega
      repeat (first | refine ct_seq ?_ | refine ct_block ?_ | (refine ct_region' rfl ?_; simp only [List.map, lite]) | refine rt_nil ?_ | refine q_then ?_ | refine ct_true rfl ?_ | refine ct_false rfl ?_ | refine rg rfl (g_move (by conv => lhs; whnf)) rfl rfl ?_ | refine rg rfl (g_assign (by conv => lhs; whnf)) rfl rfl ?_ | (refine rg rfl (g_eqlT rfl rfl ?_) rfl rfl ?_; (· (omega))) | (refine rg rfl (g_eqlF rfl rfl ?_) rfl rfl ?_; (· (omega))))
      refine rt_op (wants_none rfl) (o_callF rfl rfl (in_hash_ok _ p a cap xs pos hl0 hs) fun _ => ?_)
      repeat (first | refine rg rfl (g_move (by conv => lhs; whnf)) rfl rfl ?_ | refine rg rfl (g_extract rfl (by conv => lhs; whnf)) rfl rfl ?_)
      refine rt_op (wants_none rfl) (o_alloc rfl (by conv => lhs; whnf) fun b => ?_)
      skip
      refine rt_op (wants_none rfl) (o_storeAgg rfl (by conv => lhs; whnf) rfl (bvs_all _) (by rw [List.length_map]; exact hlen) (by rfl) ?_)
      repeat (first | refine ct_seq ?_ | (refine ct_region' rfl ?_; simp only [List.map, lite]) | refine rt_nil ?_ | refine ct_skip ?_ | refine q_then ?_ | refine ct_false rfl ?_ | refine rg rfl (g_move (by conv => lhs; whnf)) rfl rfl ?_ | refine rg rfl (g_assign (by conv => lhs; whnf)) rfl rfl ?_ | refine rg rfl (g_err_ne (by conv => lhs; whnf) (by first | exact .inl rfl | exact .inr ⟨_, _, rfl⟩ | assumption)) rfl rfl ?_)
      have hl2 : (((xs.drop pos).take 32).map bv).length = 32 := by rw [List.length_map, hlen]
      refine rg rfl (g_load_agg rfl hl2 (reads_blk (by intro j v h; simpa using h))) rfl rfl ?_
      skip
      refine rt_op (wants_none rfl) (o_callF rfl rfl (out_hash _ q (xs.take pos) ((xs.drop pos).take 32) hlen (by omega)) fun _ => ?_)
      repeat (first | refine ct_seq ?_ | (refine ct_region' rfl ?_; simp only [List.map, lite]) | refine rt_nil ?_ | refine ct_ret ?_ | refine q_then ?_ | refine q_block ?_ | refine rg rfl (g_assign (by conv => lhs; whnf)) rfl rfl ?_)
      refine q_ret1 Try.results21 rfl ⟨(true, pos + 32, 0, 0), by simp only; omega⟩ rfl (again_t (pos + 32) ?_)
      rw [take_take]; exact En.ent
    · repeat (first | refine ct_seq ?_ | refine ct_block ?_ | (refine ct_region' rfl ?_; simp only [List.map, lite]) | refine rt_nil ?_ | refine q_then ?_ | refine ct_true rfl ?_ | refine ct_false rfl ?_ | refine rg rfl (g_move (by conv => lhs; whnf)) rfl rfl ?_ | refine rg rfl (g_assign (by conv => lhs; whnf)) rfl rfl ?_ | (refine rg rfl (g_eqlT rfl rfl ?_) rfl rfl ?_; (· (omega))) | (refine rg rfl (g_eqlF rfl rfl ?_) rfl rfl ?_; (· (omega))))
      refine rt_op (wants_none rfl) (o_callF rfl rfl (in_hash_short _ p a cap xs pos hp hl0 (by omega)) fun e => ?_)
      repeat (first | refine rg rfl (g_move (by conv => lhs; whnf)) rfl rfl ?_ | refine rg rfl (g_extract rfl (by conv => lhs; whnf)) rfl rfl ?_)
      refine rt_op (wants_none rfl) (o_alloc rfl (by conv => lhs; whnf) fun b => ?_)
      skip
      refine rt_op (wants_none rfl) (o_storeAgg rfl (by conv => lhs; whnf) rfl (bvs_all _) (by rfl) (by rfl) ?_)
      repeat (first | refine ct_seq ?_ | (refine ct_region' rfl ?_; simp only [List.map, lite]) | refine rt_nil ?_ | refine ct_ret ?_ | refine q_then ?_ | refine q_then_ret ?_ | refine q_block_ret ?_ | refine ct_true rfl ?_ | refine rg rfl (g_move (by conv => lhs; whnf)) rfl rfl ?_ | refine rg rfl (g_assign (by conv => lhs; whnf)) rfl rfl ?_ | refine rg rfl (g_err_ne (by conv => lhs; whnf) (by first | exact .inl rfl | exact .inr ⟨_, _, rfl⟩ | assumption)) rfl rfl ?_)
      exact q_ret1 Try.results21 rfl ⟨(false, pos, e, 20), by simp only; omega⟩ rfl (again_f pos e _ En.ent)
  repeat (first | refine ct_seq ?_ | refine ct_block ?_ | (refine ct_region' rfl ?_; simp only [List.map, lite]) | refine rt_nil ?_ | refine ct_skip ?_ | refine ct_ret ?_ | refine q_then ?_ | refine q_block ?_ | refine ct_false rfl ?_ | refine rg rfl (g_move (by conv => lhs; whnf)) rfl rfl ?_ | refine rg rfl (g_assign (by conv => lhs; whnf)) rfl rfl ?_ | (refine rg rfl (g_eqlF rfl rfl ?_) rfl rfl ?_; (· (omega))))
  exact q_ret1 Try.results21 rfl ⟨(true, pos, 0, 0), by simp only; omega⟩ rfl (again_t pos En.ent)

theorem rdB_take {A : HP} {a : Option Addr} {xs : List UInt8} (h : RdB A a xs) (n : Nat) : RdB A a (xs.take n) := ⟨fun e => by rw [h.1 e]; simp, fun g e => by rw [List.map_take]; exact (h.2 g e).take n⟩
/-- a slice of numbers that can be read -/
def RdI (A : HP) (k : IntKind) (a : Option Addr) (ks : List Int) : Prop := (a = none → ks = []) ∧ ∀ g, a = some g → Reads A g (ks.map (Value.int k))
theorem RdI.ent {A B : HP} {k : IntKind} {a : Option Addr} {ks : List Int} (h : RdI B k a ks) (e : Ent A B) : RdI A k a ks := ⟨h.1, fun g hg => (h.2 g hg).ent e⟩

theorem packOneForm_spec (R : HP) (a : Option Addr) (cap : Nat) (xs : List UInt8) (b : Option Addr) (cap' : Nat) (ks : List Int) (hr : RdB R a xs) (hk : RdI R .i64 b ks) (hc : xs.length ≤ cap) (hl : xs.length ≤ 140737488351232) (hkl : ks.length ≤ 9223372036854775806) :
    Spec Try.prog 5 [.slice a xs.length cap, .slice b ks.length cap'] R (fun _ : Unit => .bool true) (fun _ => R) := by
  have hl0 : xs.length ≤ 140737488355328 := by omega
  refine spec_of Try.func5 rfl Try.ntmps5 rfl fun W0 => ?_
  repeat (first | refine ct_seq ?_ | (refine ct_region' rfl ?_; simp only [List.map, lite]) | refine rt_nil ?_ | refine q_then ?_ | refine rg rfl (g_assign (by conv => lhs; whnf)) rfl rfl ?_)
  refine rt_op (wants_none rfl) (o_call rfl rfl (awake_spec R) fun _ => ?_)
  repeat (first | refine ct_seq ?_ | (refine ct_region' rfl ?_; simp only [List.map, lite]) | refine rt_nil ?_ | refine ct_skip ?_ | refine q_then ?_ | refine ct_false rfl ?_ | refine rg rfl (g_move (by conv => lhs; whnf)) rfl rfl ?_ | refine rg rfl (g_not (b := true) rfl) rfl rfl ?_)
  refine rt_op (wants_none rfl) (o_call rfl rfl (newIn_spec R xs a cap hr hl0) fun i => ?_)
  obtain ⟨p, ia, ic⟩ := i
  repeat (first | refine ct_seq ?_ | (refine ct_region' rfl ?_; simp only [List.map, lite]) | refine rt_nil ?_ | refine q_then ?_ | refine rg rfl (g_assign (by conv => lhs; whnf)) rfl rfl ?_)
  refine rt_op (wants_none rfl) (o_call rfl rfl (newOut_spec _) fun q => ?_)
  repeat (first | refine ct_seq ?_ | (refine ct_region' rfl ?_; simp only [List.map, lite]) | refine rt_nil ?_ | refine q_then ?_ | refine rg rfl (g_move (by conv => lhs; whnf)) rfl rfl ?_ | refine rg rfl (g_assign (by conv => lhs; whnf)) rfl rfl ?_ | refine rg rfl (g_ptr_eq rfl) rfl rfl ?_ | refine rg rfl (g_pick_f rfl (by conv => lhs; whnf)) rfl rfl ?_ | refine rgw rfl rfl rfl rfl (g_move (by conv => lhs; whnf)) rfl rfl ?_ | refine rgw rfl rfl rfl rfl (g_ptr_eq rfl) rfl rfl ?_)
  refine rt_op (wants_some rfl rfl rfl rfl) (o_callF rfl rfl (in_at _ p ia ic xs 0 none) fun _ => ?_)
  repeat (first | refine ct_seq ?_ | refine ct_block ?_ | (refine ct_region' rfl ?_; simp only [List.map, lite]) | refine rt_nil ?_ | refine ct_skip ?_ | refine q_then ?_ | refine ct_false rfl ?_ | refine rg rfl (g_move (by conv => lhs; whnf)) rfl rfl ?_ | refine rg rfl (g_len_slice rfl) rfl rfl ?_ | refine rg rfl (g_pick_f rfl (by conv => lhs; whnf)) rfl rfl ?_ | (refine rgw rfl rfl rfl rfl (g_neqF rfl rfl ?_) rfl rfl ?_; (· (omega))))
  refine ct_loop (ι := { i : Nat × Nat // i.1 ≤ ks.length ∧ i.2 ≤ xs.length }) (fun i => [(0, .slice a xs.length cap), (5, .pointer (some ⟨p, 0, none⟩)), (6, .pointer (some ⟨q, 0, none⟩)), (27, .slice b ks.length cap'), (28, .int .i64 (ks.length : Int)), (29, .int .i64 (i.1.1 : Int))]) (fun i => InA p ia ic xs i.1.2 none * (IsOut q (xs.take i.1.2) * R)) (fun i => ks.length - i.1.1)
    ⟨(0, 0), by simp⟩ ⟨rfl, rfl, rfl, rfl, rfl, rfl, trivial⟩ (by simp only [List.take_zero]; exact En.ent) fun i ρ' => ?_
  obtain ⟨⟨j, pos⟩, hj, hp⟩ := i
  simp only at hj hp ⊢
  have htl : (xs.take pos).length = pos := by simp; omega
  by_cases hjl : j < ks.length
  · obtain ⟨kd, hkd⟩ : ∃ kd, ks[j]? = some kd := ⟨ks[j], List.getElem?_eq_getElem hjl⟩
    have hkd' : (ks.map (Value.int .i64))[j]? = some (.int .i64 kd) := by rw [List.getElem?_map, hkd]; rfl
    cases b with
    | none => rw [hk.1 rfl] at hjl; simp at hjl
    | some g =>
      have hrk : Reads (InA p ia ic xs pos none * (IsOut q (xs.take pos) * R)) g (ks.map (Value.int .i64)) := ((hk.2 g rfl).ent (Ent.dropL _ _)).ent (Ent.dropL _ _)
      repeat (first | refine ct_seq ?_ | refine ct_block ?_ | (refine ct_region' rfl ?_; simp only [List.map, lite]) | refine rt_nil ?_ | refine ct_skip ?_ | refine q_then ?_ | refine ct_true rfl ?_ | (refine rg rfl (g_lssT rfl rfl ?_) rfl rfl ?_; (· (omega))))
      refine rg rfl (g_elemR (j := j) rfl rfl (by omega) (by omega) (by omega)) rfl rfl ?_
      refine rg rfl (g_load_at (i := j) (by rw [Nat.mul_one]; rfl) hrk hkd') rfl rfl ?_
      repeat (first | refine ct_seq ?_ | (refine ct_region' rfl ?_; simp only [List.map, lite]) | refine rt_nil ?_ | refine q_then ?_ | refine rg rfl (g_move (by conv => lhs; whnf)) rfl rfl ?_ | refine rg rfl (g_assign (by conv => lhs; whnf)) rfl rfl ?_)
      refine rt_op (wants_none rfl) (o_callF rfl rfl (in_at _ p ia ic xs pos none) fun _ => ?_)
      repeat (first | refine ct_seq ?_ | (refine ct_region' rfl ?_; simp only [List.map, lite]) | refine rt_nil ?_ | refine q_then ?_ | refine rg rfl (g_move (by conv => lhs; whnf)) rfl rfl ?_ | refine rg rfl (g_assign (by conv => lhs; whnf)) rfl rfl ?_)
      refine rt_op (wants_none rfl) (o_call rfl rfl (again_spec R p ia ic xs q pos kd hp hl) fun i => ?_)
      obtain ⟨⟨ok, pos', e, why⟩, hi1, hi2⟩ := i
      simp only at hi1 hi2 ⊢
      cases ok with
      | false =>
        show RT _ _ _ _ _ _ _ _ (InA p ia ic xs pos' (some (e, why)) * (IsOut q (xs.take pos) * R))
        repeat (first | refine ct_seq ?_ | (refine ct_region' rfl ?_; simp only [List.map, lite]) | refine rt_nil ?_ | refine q_then ?_ | refine ct_true rfl ?_ | refine rg rfl (g_move (by conv => lhs; whnf)) rfl rfl ?_ | refine rg rfl (g_assign (by conv => lhs; whnf)) rfl rfl ?_ | refine rg rfl (g_not (b := false) rfl) rfl rfl ?_)
        have hrt : RdB (InA p ia ic xs pos' (some (e, why)) * (IsOut q (xs.take pos) * R)) a (xs.take pos) := rdB_take (hr.ent ((Ent.dropL _ _).trans (Ent.dropL _ _))) pos
        refine ct_any (InA p ia ic xs pos' (some (e, why)) * (IsOut q (xs.take pos) * R)) 99 ?_
        refine any_take 0 rfl (by kernel_rfl) En.ent (wants_none rfl) (g_move (by conv => lhs; whnf)) rfl rfl ?_
        refine any_take 2 rfl (by kernel_rfl) En.ent (wants_none rfl) (g_move (by conv => lhs; whnf)) rfl rfl ?_
        refine any_one 1 (by kernel_rfl) rfl (wants_none rfl) (o_callF rfl rfl (in_at _ p ia ic xs pos' (some (e, why))) fun _ => ⟨.inr En.ent, ?_⟩)
        (refine any_take 3 rfl (by kernel_rfl) En.ent (wants_none rfl) (g_geqT rfl rfl ?_) rfl rfl ?_; (· (omega)))
        refine any_take 4 rfl (by kernel_rfl) En.ent (wants_none rfl) (g_move (by conv => lhs; whnf)) rfl rfl ?_
        refine any_take 5 rfl (by kernel_rfl) En.ent (wants_some rfl rfl rfl rfl) (g_move (by conv => lhs; whnf)) rfl rfl ?_
        refine any_take 8 rfl (by kernel_rfl) En.ent (wants_some rfl rfl rfl rfl) (g_move (by conv => lhs; whnf)) rfl rfl ?_
        refine any_take 9 rfl (by kernel_rfl) En.ent (wants_some rfl rfl rfl rfl) (g_move (by conv => lhs; whnf)) rfl rfl ?_
        refine any_take 10 rfl (by kernel_rfl) En.ent (wants_some rfl rfl rfl rfl) (g_cut_hi (j := pos) rfl rfl (by omega) (by omega) (by omega)) rfl rfl ?_
        refine any_take 11 rfl (by kernel_rfl) En.ent (wants_some rfl rfl rfl rfl) (g_convS (xs := xs.take pos) rfl htl hrt.1 hrt.2) rfl rfl ?_
        refine any_one 6 (by kernel_rfl) rfl (wants_some rfl rfl rfl rfl) (o_callF rfl rfl (out_done _ q (xs.take pos) (by omega)) fun k => ⟨.inr En.ent, ?_⟩)
        refine any_one 7 (by kernel_rfl) rfl (wants_some rfl rfl rfl rfl) (o_give (g_convA rfl rfl rfl) rfl rfl ⟨.inr En.ent, ?_⟩)
        (refine any_one 12 (by kernel_rfl) rfl (wants_some rfl rfl rfl rfl) (o_give (g_eqsT rfl rfl ?_) rfl rfl ⟨.inr En.ent, ?_⟩); (· (first | rfl | assumption)))
        refine any_one 13 (by kernel_rfl) rfl (wants_none rfl) (o_give (g_pick_t rfl (by conv => lhs; whnf)) rfl rfl ⟨.inr En.ent, ?_⟩)
        refine any_one 14 (by kernel_rfl) rfl (wants_none rfl) (o_give (g_assign (by conv => lhs; whnf)) rfl rfl ⟨.inr En.ent, ?_⟩)
        refine any_done (by kernel_rfl) ?_
        repeat (first | refine ct_ret ?_ | refine q_then ?_ | refine q_then_ret ?_ | refine q_block_ret ?_)
        exact q_ret1 Try.results5 rfl () rfl (by exact En.ent)
      | true =>
        show RT _ _ _ _ _ _ _ _ (InA p ia ic xs pos' none * (IsOut q (xs.take pos') * R))
        have htl' : (xs.take pos').length = pos' := by simp; omega
        repeat (first | refine ct_seq ?_ | (refine ct_region' rfl ?_; simp only [List.map, lite]) | refine rt_nil ?_ | refine ct_skip ?_ | refine q_then ?_ | refine ct_false rfl ?_ | refine rg rfl (g_move (by conv => lhs; whnf)) rfl rfl ?_ | refine rg rfl (g_assign (by conv => lhs; whnf)) rfl rfl ?_ | refine rg rfl (g_not (b := true) rfl) rfl rfl ?_)
        refine rt_op (wants_none rfl) (o_callF rfl rfl (in_at _ p ia ic xs pos' none) fun _ => ?_)
        refine rg rfl (g_move (by conv => lhs; whnf)) rfl rfl ?_
        refine rt_op (wants_none rfl) (o_callF rfl rfl (out_len _ q (xs.take pos')) fun _ => ?_)
        repeat (first | refine rg rfl (g_move (by conv => lhs; whnf)) rfl rfl ?_ | (refine rg rfl (g_neqF rfl rfl ?_) rfl rfl ?_; (· (omega))) | refine rgw rfl rfl rfl rfl (g_move (by conv => lhs; whnf)) rfl rfl ?_)
        refine rt_op (wants_some rfl rfl rfl rfl) (o_callF rfl rfl (in_at _ p ia ic xs pos' none) fun _ => ?_)
        repeat (first | refine rg rfl (g_move (by conv => lhs; whnf)) rfl rfl ?_ | refine rg rfl (g_pick_f rfl (by conv => lhs; whnf)) rfl rfl ?_ | refine rgw rfl rfl rfl rfl (g_move (by conv => lhs; whnf)) rfl rfl ?_ | (refine rgw rfl rfl rfl rfl (g_gtrF rfl rfl ?_) rfl rfl ?_; (· (omega))) | refine rgw rfl rfl rfl rfl (g_len_slice rfl) rfl rfl ?_)
        refine rt_op (wants_some rfl rfl rfl rfl) (o_callF rfl rfl (in_left _ p ia ic xs pos' none hi2 hl0) fun _ => ?_)
        repeat (first | refine rgw rfl rfl rfl rfl (g_move (by conv => lhs; whnf)) rfl rfl ?_ | refine rgw rfl rfl rfl rfl (g_len_slice rfl) rfl rfl ?_)
        refine rt_op (wants_some rfl rfl rfl rfl) (o_callF rfl rfl (in_at _ p ia ic xs pos' none) fun _ => ?_)
        repeat (first | (refine ct_region' rfl ?_; simp only [List.map, lite]) | refine rt_nil ?_ | refine ct_skip ?_ | refine q_then ?_ | refine q_block ?_ | refine ct_false rfl ?_ | refine rg rfl (g_move (by conv => lhs; whnf)) rfl rfl ?_ | (refine rg rfl (g_addN rfl rfl ?_) rfl rfl ?_; (· (constructor <;> omega))) | refine rg rfl (g_pick_f rfl (by conv => lhs; whnf)) rfl rfl ?_ | (refine rgw rfl rfl rfl rfl (g_subN rfl rfl ?_) rfl rfl ?_; (· (constructor <;> omega))) | (refine rgw rfl rfl rfl rfl (g_neqF rfl rfl ?_) rfl rfl ?_; (· (omega))))
        refine q_again ⟨(j + 1, pos'), by simp only; omega⟩ (by show ks.length - (j + 1) < ks.length - j; omega) ⟨rfl, rfl, rfl, rfl, rfl, rfl, trivial⟩ (by first | exact En.ent | (simp only [Int.natCast_add, Int.natCast_one]; exact En.ent))
  · repeat (first | refine ct_seq ?_ | (refine ct_region' rfl ?_; simp only [List.map, lite]) | refine rt_nil ?_ | refine ct_exit ?_ | refine q_then ?_ | refine q_then_exit ?_ | refine q_block_exit ?_ | refine ct_false rfl ?_ | (refine rg rfl (g_lssF rfl rfl ?_) rfl rfl ?_; (· (omega))))
    have hrt : RdB (InA p ia ic xs pos none * (IsOut q (xs.take pos) * R)) a (xs.take pos) := rdB_take (hr.ent ((Ent.dropL _ _).trans (Ent.dropL _ _))) pos
    refine ct_any (InA p ia ic xs pos none * (IsOut q (xs.take pos) * R)) 99 ?_
    refine any_take 0 rfl (by kernel_rfl) En.ent (wants_none rfl) (g_move (by conv => lhs; whnf)) rfl rfl ?_
    refine any_take 3 rfl (by kernel_rfl) En.ent (wants_none rfl) (g_move (by conv => lhs; whnf)) rfl rfl ?_
    refine any_take 4 rfl (by kernel_rfl) En.ent (wants_none rfl) (g_move (by conv => lhs; whnf)) rfl rfl ?_
    refine any_one 1 (by kernel_rfl) rfl (wants_none rfl) (o_callF rfl rfl (out_done _ q (xs.take pos) (by omega)) fun k => ⟨.inr En.ent, ?_⟩)
    refine any_more (Arr 5 1 k.1 k.2 (xs.take pos).length ((xs.take pos).map bv) * (InA p ia ic xs pos none * (IsOut q (xs.take pos) * R))) (Ent.dropL _ _) ?_
    have hrt' := hrt.ent (Ent.dropL (Arr 5 1 k.1 k.2 (xs.take pos).length ((xs.take pos).map bv)) _)
    refine any_take 2 rfl (by kernel_rfl) En.ent (wants_none rfl) (g_convA rfl rfl rfl) rfl rfl ?_
    refine any_one 5 (by kernel_rfl) rfl (wants_none rfl) (o_callF rfl rfl (in_at _ p ia ic xs pos none) fun _ => ⟨.inr En.ent, ?_⟩)
    refine any_take 6 rfl (by kernel_rfl) En.ent (wants_none rfl) (g_cut_hi (j := pos) rfl rfl (by omega) (by omega) (by omega)) rfl rfl ?_
    refine any_take 7 rfl (by kernel_rfl) En.ent (wants_none rfl) (g_convS (xs := xs.take pos) rfl htl hrt'.1 hrt'.2) rfl rfl ?_
    (refine any_one 8 (by kernel_rfl) rfl (wants_none rfl) (o_give (g_eqsT rfl rfl ?_) rfl rfl ⟨.inr En.ent, ?_⟩); (· (first | rfl | assumption)))
    refine any_one 9 (by kernel_rfl) rfl (wants_none rfl) (o_give (g_assign (by conv => lhs; whnf)) rfl rfl ⟨.inr En.ent, ?_⟩)
    refine any_done (by kernel_rfl) ?_
    repeat (first | refine ct_ret ?_ | refine q_then ?_)
    exact q_ret1 Try.results5 rfl () rfl (by exact En.ent)
end Go.Proofs.Ytfcanppeiadbhaa
