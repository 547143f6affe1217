/- The reference's forms of numbers, bytes, hashes. -/
import Derived.Test.YtfcanppeiadbhaaB2
namespace Go.Proofs.Ytfcanppeiadbhaa
open Go.RowKit
attribute [local irreducible] Gives RT CT QT Spec Wants Reads Src Ent OT RQ AnyT AnyOp Again Code.wp Post

/-- a row of bytes that was made longer -/
abbrev Rw (n : Nat) := { i : Option Addr × Nat // i.1 ≠ none ∧ n ≤ i.2 }
theorem refNumber_spec (R : HP) (a : Option Addr) (c : Nat) (xs : List UInt8) (x : Nat) (hx : x < 2 ^ 64) (hl : xs.length + 10 ≤ 140737488355328) :
    Spec Try.prog 35 [.slice a xs.length c, .int .u64 (x : Int)] (Arr 5 1 a c xs.length (xs.map bv) * R) (fun i : Rw (xs ++ numForm x).length => .slice i.1.1 (xs ++ numForm x).length i.1.2) (fun i => Arr 5 1 i.1.1 i.1.2 (xs ++ numForm x).length ((xs ++ numForm x).map bv) * R) := by
  refine spec_of Try.func35 rfl Try.ntmps35 rfl fun W0 => ?_
  have h10 := numForm_ten hx
  have hT : (xs ++ numForm x).length ≤ 140737488355328 := by rw [List.length_append]; omega
  generalize hE : xs ++ numForm x = T at hT ⊢
  focus
    refine ct_seq ?_
    (refine ct_region' rfl ?_; simp only [List.map, lite])
    (refine rg rfl (g_assign (by conv => lhs; whnf)) rfl rfl ?_)
    refine rt_nil ?_
    refine q_then ?_
    refine ct_seq ?_
    refine ct_block ?_
    rotate_left
  refine ct_loop (ι := { i : (Option Addr × Nat) × List UInt8 × Nat // T = i.2.1 ++ numForm i.2.2 ∧ i.2.2 < 2 ^ 64 }) (fun i => [(0, .slice i.1.1.1 i.1.2.1.length i.1.1.2), (1, .int .u64 (i.1.2.2 : Int))]) (fun i => Arr 5 1 i.1.1.1 i.1.1.2 i.1.2.1.length (i.1.2.1.map bv) * R) (fun i => i.1.2.2)
    ⟨((a, c), xs, x), hE.symm, hx⟩ ⟨rfl, rfl, trivial⟩ (Ent.refl _) fun i ρ' => ?_
  obtain ⟨⟨⟨a, c⟩, ys, y⟩, h1, h2⟩ := i
  dsimp only at h1 h2 ⊢
  have hpos := numForm_pos y
  have hlen : ys.length + (numForm y).length ≤ 140737488355328 := by
    rw [h1, List.length_append] at hT; exact hT
  by_cases hc : y < 128
  · focus
      refine ct_seq ?_
      refine ct_seq ?_
      (refine ct_region' rfl ?_; simp only [List.map, lite])
      (refine rg rfl (g_move (by conv => lhs; whnf)) rfl rfl ?_)
      (refine rg rfl (g_geqF rfl rfl ?_) rfl rfl ?_; (· (omega)))
      refine rt_nil ?_
      refine q_then ?_
      refine ct_false rfl ?_
      refine ct_exit ?_
      refine q_then_exit ?_
      refine q_then_exit ?_
      refine q_block_exit ?_
      refine q_then ?_
      refine ct_seq ?_
      (refine ct_region' rfl ?_; simp only [List.map, lite])
      (refine rg rfl (g_move (by conv => lhs; whnf)) rfl rfl ?_)
      (refine rg rfl (g_move (by conv => lhs; whnf)) rfl rfl ?_)
      (refine rg rfl (g_convN rfl ?_) rfl rfl ?_; (· (constructor <;> omega)))
      (refine rt_op (wants_none rfl) (o_build1 rfl (by conv => lhs; whnf) (by rfl) (by rfl) (by rfl) (by conv => lhs; whnf) fun b19 => ?_))
      (refine rt_op (wants_none rfl) (o_app2 rfl rfl rfl (by rfl) (by first | rfl | exact bvsAll _ | exact wvs_all _ | assumption) (by rfl) ?_ (by first | with_reducible exact Nat.zero_add _ | exact rfl) (by first | with_reducible exact List.nil_append _ | exact List.map_append.symm | exact rfl) fun ad20 cap20 hc20 hn20 => ?_); (· (first | omega | decide)))
      (refine rg rfl (g_assign (by conv => lhs; whnf)) rfl rfl ?_)
      refine rt_nil ?_
      refine q_then ?_
      refine ct_ret ?_
      rotate_left
    rw [numForm_small hc] at h1
    subst h1
    refine q_ret1 rfl rfl ⟨(ad20, cap20), hn20, by simpa using hc20⟩ (by simp; rfl) ?_
    exact Ent.mul (arr_cast (by simp) (snoc_bv y rfl (by omega))) (Ent.refl _)
  · focus
      refine ct_seq ?_
      refine ct_seq ?_
      (refine ct_region' rfl ?_; simp only [List.map, lite])
      (refine rg rfl (g_move (by conv => lhs; whnf)) rfl rfl ?_)
      (refine rg rfl (g_geqT rfl rfl ?_) rfl rfl ?_; (· (omega)))
      refine rt_nil ?_
      refine q_then ?_
      refine ct_true rfl ?_
      refine ct_skip ?_
      refine q_then ?_
      refine ct_block ?_
      refine ct_seq ?_
      (refine ct_region' rfl ?_; simp only [List.map, lite])
      (refine rg rfl (g_move (by conv => lhs; whnf)) rfl rfl ?_)
      (refine rg rfl (g_move (by conv => lhs; whnf)) rfl rfl ?_)
      (refine rg rfl (g_remN rfl rfl ?_ ?_) rfl rfl ?_; (· (omega)); (· (omega)))
      (refine rg rfl (g_convN rfl ?_) rfl rfl ?_; (· (constructor <;> omega)))
      (refine rg rfl (g_addN rfl rfl ?_) rfl rfl ?_; (· (constructor <;> omega)))
      (refine rt_op (wants_none rfl) (o_build1 rfl (by conv => lhs; whnf) (by rfl) (by rfl) (by rfl) (by conv => lhs; whnf) fun b12 => ?_))
      (refine rt_op (wants_none rfl) (o_app2 rfl rfl rfl (by rfl) (by first | rfl | exact bvsAll _ | exact wvs_all _ | assumption) (by rfl) ?_ (by first | with_reducible exact Nat.zero_add _ | exact rfl) (by first | with_reducible exact List.nil_append _ | exact List.map_append.symm | exact rfl) fun ad13 cap13 hc13 hn13 => ?_); (· (first | omega | decide)))
      (refine rg rfl (g_assign (by conv => lhs; whnf)) rfl rfl ?_)
      refine rt_nil ?_
      refine q_then ?_
      (refine ct_region' rfl ?_; simp only [List.map, lite])
      (refine rg rfl (g_move (by conv => lhs; whnf)) rfl rfl ?_)
      (refine rg rfl (g_quoN rfl rfl ?_ ?_ ?_) rfl rfl ?_; (· (omega)); (· (omega)); (· (constructor <;> omega)))
      (refine rg rfl (g_assign (by conv => lhs; whnf)) rfl rfl ?_)
      refine rt_nil ?_
      refine q_block ?_
      rotate_left
    rw [numForm_big hc] at h1
    refine q_again ⟨((ad13, cap13), ys ++ [UInt8.ofNat (y % 128 + 128)], y / 128), by simpa using h1, by show y / 128 < _; omega⟩ (by show y / 128 < y; omega) ⟨by simp; rfl, rfl, trivial⟩ ?_
    rw [snoc_bv (y % 128 + 128) (by omega) (by omega)]
    simp only [List.length_append, List.length_cons, List.length_nil]
    exact Ent.refl _
theorem refZig_spec (R : HP) (x : Int) (hx : -9223372036854775808 ≤ x ∧ x ≤ 9223372036854775807) :
    Spec Try.prog 36 [.int .i64 x] R (fun _ : Unit => .int .u64 (zig x : Int)) (fun _ => R) := by
  refine spec_of Try.func36 rfl Try.ntmps36 rfl fun W0 => ?_
  obtain ⟨h1, h2⟩ := hx
  have hz : (zig x : Int) = if 0 ≤ x then 2 * x else 2 * (-(x + 1)) + 1 := by unfold zig; split <;> omega
  by_cases h : 0 ≤ x
  · rw [if_pos h] at hz
    focus
      refine ct_seq ?_
      (refine ct_region' rfl ?_; simp only [List.map, lite])
      (refine rg rfl (g_assign (by conv => lhs; whnf)) rfl rfl ?_)
      refine rt_nil ?_
      refine q_then ?_
      refine ct_seq ?_
      refine ct_seq ?_
      (refine ct_region' rfl ?_; simp only [List.map, lite])
      (refine rg rfl (g_move (by conv => lhs; whnf)) rfl rfl ?_)
      (refine rg rfl (g_geqT rfl rfl ?_) rfl rfl ?_; (· (omega)))
      refine rt_nil ?_
      refine q_then ?_
      refine ct_true rfl ?_
      refine ct_seq ?_
      (refine ct_region' rfl ?_; simp only [List.map, lite])
      (refine rg rfl (g_move (by conv => lhs; whnf)) rfl rfl ?_)
      (refine rg rfl (g_convN rfl ?_) rfl rfl ?_; (· (constructor <;> omega)))
      (refine rg rfl (g_mulN rfl rfl ?_) rfl rfl ?_; (· (constructor <;> omega)))
      (refine rg rfl (g_assign (by conv => lhs; whnf)) rfl rfl ?_)
      refine rt_nil ?_
      refine q_then ?_
      refine ct_ret ?_
      refine q_then_ret ?_
      rotate_left
    exact q_ret1 rfl rfl () (congrArg (Value.int .u64) (by omega)) (Ent.refl _)
  · rw [if_neg h] at hz
    focus
      refine ct_seq ?_
      (refine ct_region' rfl ?_; simp only [List.map, lite])
      (refine rg rfl (g_assign (by conv => lhs; whnf)) rfl rfl ?_)
      refine rt_nil ?_
      refine q_then ?_
      refine ct_seq ?_
      refine ct_seq ?_
      (refine ct_region' rfl ?_; simp only [List.map, lite])
      (refine rg rfl (g_move (by conv => lhs; whnf)) rfl rfl ?_)
      (refine rg rfl (g_geqF rfl rfl ?_) rfl rfl ?_; (· (omega)))
      refine rt_nil ?_
      refine q_then ?_
      refine ct_false rfl ?_
      refine ct_skip ?_
      refine q_then ?_
      refine ct_seq ?_
      (refine ct_region' rfl ?_; simp only [List.map, lite])
      (refine rg rfl (g_move (by conv => lhs; whnf)) rfl rfl ?_)
      (refine rg rfl (g_addN rfl rfl ?_) rfl rfl ?_; (· (constructor <;> omega)))
      (refine rg rfl (g_negN rfl ?_) rfl rfl ?_; (· (constructor <;> omega)))
      (refine rg rfl (g_convN rfl ?_) rfl rfl ?_; (· (constructor <;> omega)))
      (refine rg rfl (g_mulN rfl rfl ?_) rfl rfl ?_; (· (constructor <;> omega)))
      (refine rg rfl (g_addN rfl rfl ?_) rfl rfl ?_; (· (constructor <;> omega)))
      (refine rg rfl (g_assign (by conv => lhs; whnf)) rfl rfl ?_)
      refine rt_nil ?_
      refine q_then ?_
      refine ct_ret ?_
      rotate_left
    exact q_ret1 rfl rfl () (congrArg (Value.int .u64) (by omega)) (Ent.refl _)
theorem refSize_spec (R : HP) (x : Nat) (hx : x < 2 ^ 64) : Spec Try.prog 14 [.int .u64 (x : Int)] R (fun _ : Unit => .int .i64 ((numForm x).length : Int)) (fun _ => R) := by
  refine spec_of Try.func14 rfl Try.ntmps14 rfl fun W0 => ?_
  have h10 := numForm_ten hx
  focus
    refine ct_seq ?_
    (refine ct_region' rfl ?_; simp only [List.map, lite])
    (refine rg rfl (g_assign (by conv => lhs; whnf)) rfl rfl ?_)
    refine rt_nil ?_
    refine q_then ?_
    refine ct_seq ?_
    (refine ct_region' rfl ?_; simp only [List.map, lite])
    (refine rg rfl (g_assign (by conv => lhs; whnf)) rfl rfl ?_)
    refine rt_nil ?_
    refine q_then ?_
    refine ct_seq ?_
    refine ct_block ?_
    rotate_left
  refine ct_loop (ι := { i : Nat × Nat // (numForm x).length = i.2 - 1 + (numForm i.1).length ∧ i.1 < 2 ^ 64 ∧ 1 ≤ i.2 }) (fun i => [(0, .int .u64 (i.1.1 : Int)), (3, .int .i64 (i.1.2 : Int))]) (fun _ => R) (fun i => i.1.1)
    ⟨(x, 1), by simp, hx, by simp⟩ ⟨rfl, rfl, trivial⟩ (Ent.refl _) fun i ρ' => ?_
  obtain ⟨⟨y, k⟩, h1, h2, h3⟩ := i
  dsimp only at h1 h2 h3 ⊢
  have hpos := numForm_pos y
  by_cases hc : y < 128
  · rw [numForm_small hc] at h1
    simp only [List.length_singleton] at h1
    focus
      refine ct_seq ?_
      refine ct_seq ?_
      (refine ct_region' rfl ?_; simp only [List.map, lite])
      (refine rg rfl (g_move (by conv => lhs; whnf)) rfl rfl ?_)
      (refine rg rfl (g_geqF rfl rfl ?_) rfl rfl ?_; (· (omega)))
      refine rt_nil ?_
      refine q_then ?_
      refine ct_false rfl ?_
      refine ct_exit ?_
      refine q_then_exit ?_
      refine q_then_exit ?_
      refine q_block_exit ?_
      refine q_then ?_
      refine ct_seq ?_
      (refine ct_region' rfl ?_; simp only [List.map, lite])
      (refine rg rfl (g_move (by conv => lhs; whnf)) rfl rfl ?_)
      (refine rg rfl (g_assign (by conv => lhs; whnf)) rfl rfl ?_)
      refine rt_nil ?_
      refine q_then ?_
      refine ct_ret ?_
      rotate_left
    exact q_ret1 rfl rfl () (congrArg (Value.int .i64) (by omega)) (Ent.refl _)
  · rw [numForm_big hc] at h1 hpos
    simp only [List.length_cons] at h1 hpos
    focus
      refine ct_seq ?_
      refine ct_seq ?_
      (refine ct_region' rfl ?_; simp only [List.map, lite])
      (refine rg rfl (g_move (by conv => lhs; whnf)) rfl rfl ?_)
      (refine rg rfl (g_geqT rfl rfl ?_) rfl rfl ?_; (· (omega)))
      refine rt_nil ?_
      refine q_then ?_
      refine ct_true rfl ?_
      refine ct_skip ?_
      refine q_then ?_
      refine ct_block ?_
      refine ct_seq ?_
      (refine ct_region' rfl ?_; simp only [List.map, lite])
      (refine rg rfl (g_move (by conv => lhs; whnf)) rfl rfl ?_)
      (refine rg rfl (g_quoN rfl rfl ?_ ?_ ?_) rfl rfl ?_; (· (omega)); (· (omega)); (· (constructor <;> omega)))
      (refine rg rfl (g_assign (by conv => lhs; whnf)) rfl rfl ?_)
      refine rt_nil ?_
      refine q_then ?_
      (refine ct_region' rfl ?_; simp only [List.map, lite])
      (refine rg rfl (g_move (by conv => lhs; whnf)) rfl rfl ?_)
      (refine rg rfl (g_addN rfl rfl ?_) rfl rfl ?_; (· (constructor <;> omega)))
      (refine rg rfl (g_assign (by conv => lhs; whnf)) rfl rfl ?_)
      refine rt_nil ?_
      refine q_block ?_
      rotate_left
    exact q_again ⟨(y / 128, k + 1), by dsimp only; omega, by dsimp only; omega, by simp⟩ (by show y / 128 < y; omega) ⟨rfl, rfl, trivial⟩ (Ent.refl _)
end Go.Proofs.Ytfcanppeiadbhaa
