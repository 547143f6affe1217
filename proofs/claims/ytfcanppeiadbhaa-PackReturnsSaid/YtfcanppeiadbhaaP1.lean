/- pack.Out, method by method. -/
import Derived.Test.YtfcanppeiadbhaaU
import Derived.Test.YtfcanppeiadbhaaTy
namespace Go.Proofs.Ytfcanppeiadbhaa
open Go.RowKit
attribute [local irreducible] Gives RT CT QT Spec Wants Reads Src Ent OT RQ AnyT AnyOp Again Code.wp Post

/-! ### the form of a number -/
def numForm (x : Nat) : List UInt8 := if x < 128 then [UInt8.ofNat x] else UInt8.ofNat (x % 128 + 128) :: numForm (x / 128)
theorem numForm_small {x : Nat} (h : x < 128) : numForm x = [UInt8.ofNat x] := by rw [numForm, if_pos h]
theorem numForm_big {x : Nat} (h : ¬ x < 128) : numForm x = UInt8.ofNat (x % 128 + 128) :: numForm (x / 128) := by rw [numForm, if_neg h]
theorem numForm_len : ∀ (k x : Nat), x < 128 ^ (k + 1) → (numForm x).length ≤ k + 1
  | 0, x, h => by rw [numForm_small (by simpa using h)]; simp
  | k + 1, x, h => by
    by_cases hx : x < 128
    · rw [numForm_small hx]; simp
    · rw [numForm_big hx]
      have : x / 128 < 128 ^ (k + 1) := by
        rw [Nat.div_lt_iff_lt_mul (by omega), ← Nat.pow_succ]; exact h
      have := numForm_len k _ this
      simp only [List.length_cons]; omega
theorem numForm_ten {x : Nat} (h : x < 2 ^ 64) : (numForm x).length ≤ 10 := numForm_len 9 x (by omega)
theorem numForm_pos (x : Nat) : 1 ≤ (numForm x).length := by
  by_cases h : x < 128
  · rw [numForm_small h]; simp
  · rw [numForm_big h]; simp
theorem u8_ofNat {x : Nat} (h : x < 256) : ((UInt8.ofNat x).toNat : Int) = (x : Int) := by
  rw [UInt8.toNat_ofNat_of_lt' (by simpa using h)]

theorem or128 (x : Nat) : bOp .or .u8 (IntKind.u8.wrap (x : Int)) 128 = ((x % 128 + 128 : Nat) : Int) := by
  have key : ∀ y : Fin 256, bOp .or .u8 ((y.val : Nat) : Int) 128 = ((y.val % 128 + 128 : Nat) : Int) := by decide +kernel
  have h : IntKind.u8.wrap (x : Int) = (((x % 256 : Nat)) : Int) := by
    simp [IntKind.wrap, IntKind.bits, IntKind.signed]
  rw [h]
  have := key ⟨x % 256, Nat.mod_lt _ (by omega)⟩
  simp only at this
  rw [this]
  congr 2; omega

def IsOut (p : Nat) (xs : List UInt8) : HP := ex fun (v : Option Addr × Nat) => Blk p [.slice v.1 xs.length v.2] 77 * Arr 5 1 v.1 v.2 xs.length (xs.map bv)
theorem isOut_mk (p : Nat) (xs : List UInt8) (ad : Option Addr) (cap : Nat) {n : Nat} {vs : List Value} {R : HP} (hn : n = xs.length) (hv : vs = xs.map bv) :
    Ent (Blk p [.slice ad n cap] 77 * (Arr 5 1 ad cap n vs * R)) (IsOut p xs * R) := by
  subst hn hv
  exact (Ent.assoc' _ _ _).trans (Ent.mul (Ent.ex (f := fun (v : Option Addr × Nat) => Blk p [.slice v.1 xs.length v.2] 77 * Arr 5 1 v.1 v.2 xs.length (xs.map bv)) (ad, cap)) (Ent.refl _))

theorem newOut_spec (R : HP) : Spec Try.prog 11 [] R (fun p : Nat => .pointer (some ⟨p, 0, none⟩)) (fun p => IsOut p [] * R) := by
  refine spec_of Try.func11 rfl Try.ntmps11 rfl fun W0 => ?_
  repeat (first | refine ct_seq ?_ | (refine ct_region' rfl ?_; simp only [List.map, lite]) | refine rt_nil ?_ | refine q_then ?_ | refine rg rfl (g_assign (by conv => lhs; whnf)) rfl rfl ?_ | refine rg rfl (g_build (by simp only [ev, upd, updl, argl, nat_beq_def, Nat.reduceBEq, cond_true, cond_false, List.map_cons, List.map_nil]; rfl) (by simp [fillL, Value.cells]; rfl)) rfl rfl ?_)
  refine rt_op (wants_none rfl) (o_box rfl (by conv => lhs; whnf) (by conv => lhs; whnf) fun b => ?_)
  repeat (first | refine rt_nil ?_ | refine ct_ret ?_ | refine q_then ?_ | refine rg rfl (g_assign (by conv => lhs; whnf)) rfl rfl ?_)
  refine q_ret1 Try.results11 rfl b rfl ?_
  exact (Ent.mul (Ent.refl _) (arr_nil _ _ _)).trans (isOut_mk _ _ _ _ rfl rfl)

theorem out_byte (R : HP) (p : Nat) (xs : List UInt8) (c : UInt8) (hl : xs.length + 1 ≤ 140737488355328) :
    Spec Try.prog 34 [.pointer (some ⟨p, 0, none⟩), bv c] (IsOut p xs * R) (fun _ : Unit => .tuple #[]) (fun _ => IsOut p (xs ++ [c]) * R) := by
  refine spec_of Try.func34 rfl Try.ntmps34 rfl fun W0 => ?_
  refine ct_ex fun v => ?_
  repeat (first | (refine ct_region' rfl ?_; simp only [List.map, lite]) | refine rg rfl (g_move (by conv => lhs; whnf)) rfl rfl ?_ | refine rg rfl (g_nil rfl) rfl rfl ?_ | refine rg rfl (g_field0 rfl) rfl rfl ?_ | refine rg rfl (g_load rfl (by conv => lhs; whnf)) rfl rfl ?_)
  refine rt_op (wants_none rfl) (o_build1 rfl (by conv => lhs; whnf) (by rfl) (by rfl) (by rfl) (by conv => lhs; whnf) fun b => ?_)
  refine rt_op (wants_none rfl) (o_app1 rfl rfl rfl (by rfl) (by rfl) (by rfl) (by omega) fun ad' cap' => ?_)
  repeat (first | refine rg rfl (g_nil rfl) rfl rfl ?_ | refine rg rfl (g_field0 rfl) rfl rfl ?_)
  refine rt_op (wants_none rfl) (o_store rfl (by conv => lhs; whnf) rfl rfl (by first | (simp only [List.set_cons_zero, List.set_cons_succ]; rfl) | rfl) ?_)
  refine rt_nil ?_
  exact q_ret0 Try.results34 () rfl (isOut_mk _ _ _ _ (by simp) (by simp)) (.inl rfl)

theorem out_number (R : HP) (p : Nat) (xs : List UInt8) (x : Nat) (hx : x < 2 ^ 64) (hl : xs.length + 10 ≤ 140737488355328) :
    Spec Try.prog 30 [.pointer (some ⟨p, 0, none⟩), .int .u64 (x : Int)] (IsOut p xs * R) (fun _ : Unit => .tuple #[]) (fun _ => IsOut p (xs ++ numForm x) * R) := by
  refine spec_of Try.func30 rfl Try.ntmps30 rfl fun W0 => ?_
  have h10 := numForm_ten hx
  repeat (first | refine ct_seq ?_ | refine ct_block ?_)
  refine ct_loop (ι := { i : Nat × List UInt8 // numForm x = i.2 ++ numForm i.1 ∧ i.1 < 2 ^ 64 }) (fun i => [(0, .pointer (some ⟨p, 0, none⟩)), (1, .int .u64 (i.1.1 : Int))]) (fun i => IsOut p (xs ++ i.1.2) * R) (fun i => i.1.1)
    ⟨(x, []), by simp, hx⟩ ⟨rfl, rfl, trivial⟩ (by simp only [List.append_nil]; exact Ent.refl _) fun i ρ' => ?_
  obtain ⟨⟨y, ys⟩, h1, h2⟩ := i
  have hlen : ys.length + (numForm y).length ≤ 10 := by rw [h1] at h10; simpa using h10
  have hpos := numForm_pos y
  refine ct_ex fun v => ?_
  repeat (first | refine ct_seq ?_ | (refine ct_region' rfl ?_; simp only [List.map, lite]) | refine rt_nil ?_ | refine q_then ?_ | refine rg rfl (g_move (by conv => lhs; whnf)) rfl rfl ?_ | refine rg rfl (g_geq rfl rfl) rfl rfl ?_)
  refine ct_if rfl (fun hc => ?_) (fun hc => ?_)
  · repeat (first | refine ct_seq ?_ | refine ct_block ?_ | (refine ct_region' rfl ?_; simp only [List.map, lite]) | refine ct_skip ?_ | refine q_then ?_ | refine rg rfl (g_move (by conv => lhs; whnf)) rfl rfl ?_ | refine rg rfl (g_nil rfl) rfl rfl ?_ | refine rg rfl (g_field0 rfl) rfl rfl ?_ | refine rg rfl (g_load rfl (by conv => lhs; whnf)) rfl rfl ?_ | refine rg rfl (g_conv rfl) rfl rfl ?_ | refine rg rfl (g_or rfl rfl) rfl rfl ?_)
    have e13 : bOp .or .u8 (IntKind.u8.wrap (y : Int)) 128 = ((UInt8.ofNat (y % 128 + 128)).toNat : Int) := by rw [or128, u8_ofNat (by omega)]
    rw [e13]
    refine rt_op (wants_none rfl) (o_build1 rfl (by conv => lhs; whnf) (by rfl) (by rfl) (by rfl) (by conv => lhs; whnf) fun b => ?_)
    have hl' : (xs ++ ys).length + 1 ≤ 140737488355328 := by simp; omega
    refine rt_op (wants_none rfl) (o_app1 rfl rfl rfl (by rfl) (by rfl) (by rfl) (by omega) fun ad' cap' => ?_)
    repeat (first | refine rg rfl (g_nil rfl) rfl rfl ?_ | refine rg rfl (g_field0 rfl) rfl rfl ?_)
    refine rt_op (wants_none rfl) (o_store rfl (by conv => lhs; whnf) rfl rfl (by first | (simp only [List.set_cons_zero, List.set_cons_succ]; rfl) | rfl) ?_)
    repeat (first | (refine ct_region' rfl ?_; simp only [List.map, lite]) | refine rt_nil ?_ | refine q_then ?_ | refine q_block ?_ | refine rg rfl (g_move (by conv => lhs; whnf)) rfl rfl ?_ | refine rg rfl (g_assign (by conv => lhs; whnf)) rfl rfl ?_ | (refine rg rfl (g_shrN rfl rfl ?_ ?_ (by simp [IntKind.bits]; rfl)) rfl rfl ?_; (· (omega)); (· (omega))))
    have hnb : ¬ y < 128 := by omega
    rw [numForm_big hnb] at h1
    refine q_again ⟨(y / 128, ys ++ [UInt8.ofNat (y % 128 + 128)]), by simpa using h1, by show y / 128 < _; omega⟩ (by show y / 128 < y; omega) ⟨rfl, rfl, trivial⟩ ?_
    exact isOut_mk _ _ _ _ (by simp; omega) (by simp)
  · repeat (first | (refine ct_region' rfl ?_; simp only [List.map, lite]) | refine ct_exit ?_ | refine q_then ?_ | refine q_then_exit ?_ | refine q_block_exit ?_ | refine rg rfl (g_move (by conv => lhs; whnf)) rfl rfl ?_ | refine rg rfl (g_nil rfl) rfl rfl ?_ | refine rg rfl (g_field0 rfl) rfl rfl ?_ | refine rg rfl (g_load rfl (by conv => lhs; whnf)) rfl rfl ?_ | (refine rg rfl (g_convN rfl ?_) rfl rfl ?_; (· (constructor <;> omega))))
    have e : (y : Int) = ((UInt8.ofNat y).toNat : Int) := (u8_ofNat (by omega)).symm
    rw [show Value.int .u8 (y : Int) = bv (UInt8.ofNat y) from congrArg _ e]
    refine rt_op (wants_none rfl) (o_build1 rfl (by conv => lhs; whnf) (by rfl) (by rfl) (by rfl) (by conv => lhs; whnf) fun b => ?_)
    have hl' : (xs ++ ys).length + 1 ≤ 140737488355328 := by simp; omega
    refine rt_op (wants_none rfl) (o_app1 rfl rfl rfl (by rfl) (by rfl) (by rfl) (by omega) fun ad' cap' => ?_)
    repeat (first | refine rg rfl (g_nil rfl) rfl rfl ?_ | refine rg rfl (g_field0 rfl) rfl rfl ?_)
    refine rt_op (wants_none rfl) (o_store rfl (by conv => lhs; whnf) rfl rfl (by first | (simp only [List.set_cons_zero, List.set_cons_succ]; rfl) | rfl) ?_)
    refine rt_nil ?_
    rw [numForm_small (x := y) (by omega)] at h1
    exact q_ret0 Try.results30 () rfl (isOut_mk _ _ _ _ (by rw [h1]; simp; omega) (by rw [h1]; simp)) (.inl rfl)
end Go.Proofs.Ytfcanppeiadbhaa
