/- pack.Out: Hash, Len, Done; Size. -/
import Derived.Test.YtfcanppeiadbhaaP2
namespace Go.Proofs.Ytfcanppeiadbhaa
open Go.RowKit
attribute [local irreducible] Gives RT CT QT Spec Wants Reads Src Ent OT RQ AnyT AnyOp Again Code.wp Post

theorem out_len (R : HP) (p : Nat) (xs : List UInt8) :
    Spec Try.prog 17 [.pointer (some ⟨p, 0, none⟩)] (IsOut p xs * R) (fun _ : Unit => .int .i64 (xs.length : Int)) (fun _ => IsOut p xs * R) := by
  refine spec_of Try.func17 rfl Try.ntmps17 rfl fun W0 => ?_
  refine ct_ex fun v => ?_
  repeat (first | refine ct_seq ?_ | (refine ct_region' rfl ?_; simp only [List.map, lite]) | refine rt_nil ?_ | refine ct_ret ?_ | refine q_then ?_ | refine rg rfl (g_move (by conv => lhs; whnf)) rfl rfl ?_ | refine rg rfl (g_assign (by conv => lhs; whnf)) rfl rfl ?_ | refine rg rfl (g_nil rfl) rfl rfl ?_ | refine rg rfl (g_field0 rfl) rfl rfl ?_ | refine rg rfl (g_load rfl (by conv => lhs; whnf)) rfl rfl ?_ | refine rg rfl (g_len_slice rfl) rfl rfl ?_)
  exact q_ret1 Try.results17 rfl () rfl ((Ent.assoc _ _ _).trans (isOut_mk _ _ _ _ rfl rfl))

/-- new memory with these bytes: what Done tells -/
theorem out_done (R : HP) (p : Nat) (xs : List UInt8) (hl : xs.length ≤ 140737488355328) :
    Spec Try.prog 15 [.pointer (some ⟨p, 0, none⟩)] (IsOut p xs * R) (fun i : Option Addr × Nat => .slice i.1 xs.length i.2) (fun i => Arr 5 1 i.1 i.2 xs.length (xs.map bv) * (IsOut p xs * R)) := by
  refine spec_of Try.func15 rfl Try.ntmps15 rfl fun W0 => ?_
  refine ct_ex fun v => ?_
  repeat (first | refine ct_seq ?_ | (refine ct_region' rfl ?_; simp only [List.map, lite]) | refine rt_nil ?_ | refine q_then ?_ | refine rg rfl (g_move (by conv => lhs; whnf)) rfl rfl ?_ | refine rg rfl (g_assign (by conv => lhs; whnf)) rfl rfl ?_ | refine rg rfl (g_nil rfl) rfl rfl ?_ | refine rg rfl (g_field0 rfl) rfl rfl ?_ | refine rg rfl (g_load rfl (by conv => lhs; whnf)) rfl rfl ?_)
  refine rt_arr 5 1 v.1 v.2 fun _ h0 _ _ => ?_
  have hrd : RdB (Blk p [.slice v.1 xs.length v.2] 77 * Arr 5 1 v.1 v.2 xs.length (xs.map bv) * R) v.1 xs := rdB_arr (cap := v.2) v.1 fun h => List.eq_nil_of_length_eq_zero (h0 h).1
  refine rt_op (wants_none rfl) (o_append rfl rfl rfl hrd.src bvs_one (by unfold maxLen; omega) (by omega) (.inl ⟨_, rfl⟩) fun ad' cap' => ?_)
  repeat (first | refine rt_nil ?_ | refine ct_ret ?_ | refine q_then ?_ | refine rg rfl (g_assign (by conv => lhs; whnf)) rfl rfl ?_)
  simp only [Nat.zero_add, List.nil_append]
  refine q_ret1 Try.results15 rfl (ad', cap') rfl ?_
  exact Ent.mul (Ent.refl _) ((Ent.assoc _ _ _).trans (isOut_mk _ _ _ _ rfl rfl))

theorem size_spec (R : HP) (x : Nat) (hx : x < 2 ^ 64) : Spec Try.prog 13 [.int .u64 (x : Int)] R (fun _ : Unit => .int .i64 ((numForm x).length : Int)) (fun _ => R) := by
  refine spec_of Try.func13 rfl Try.ntmps13 rfl fun W0 => ?_
  have h10 := numForm_ten hx
  repeat (first | refine ct_seq ?_ | refine ct_block ?_ | (refine ct_region' rfl ?_; simp only [List.map, lite]) | refine rt_nil ?_ | refine q_then ?_ | refine rg rfl (g_assign (by conv => lhs; whnf)) rfl rfl ?_)
  refine ct_loop (ι := { i : Nat × Nat // (numForm x).length = i.2 - 1 + (numForm i.1).length ∧ i.1 < 2 ^ 64 ∧ 1 ≤ i.2 }) (fun i => [(0, .int .u64 (i.1.1 : Int)), (3, .int .i64 (i.1.2 : Int))]) (fun _ => R) (fun i => i.1.1)
    ⟨(x, 1), by simp, hx, by simp⟩ ⟨rfl, rfl, trivial⟩ (Ent.refl _) fun i ρ' => ?_
  obtain ⟨⟨y, k⟩, h1, h2, h3⟩ := i
  simp only at h1 h2 h3
  have hpos := numForm_pos y
  repeat (first | refine ct_seq ?_ | (refine ct_region' rfl ?_; simp only [List.map, lite]) | refine rt_nil ?_ | refine q_then ?_ | refine rg rfl (g_move (by conv => lhs; whnf)) rfl rfl ?_ | refine rg rfl (g_geq rfl rfl) rfl rfl ?_)
  refine ct_if rfl (fun hc => ?_) (fun hc => ?_)
  · repeat (first | refine ct_seq ?_ | refine ct_block ?_ | (refine ct_region' rfl ?_; simp only [List.map, lite]) | refine rt_nil ?_ | refine ct_skip ?_ | refine q_then ?_ | refine q_block ?_ | refine rg rfl (g_move (by conv => lhs; whnf)) rfl rfl ?_ | refine rg rfl (g_assign (by conv => lhs; whnf)) rfl rfl ?_ | (refine rg rfl (g_addN rfl rfl ?_) rfl rfl ?_; (· (constructor <;> omega))) | (refine rg rfl (g_shrN rfl rfl ?_ ?_ (by simp [IntKind.bits]; rfl)) rfl rfl ?_; (· (omega)); (· (omega))))
    rw [numForm_big (x := y) (by omega)] at h1 hpos
    simp only [List.length_cons] at h1 hpos
    refine q_again ⟨(y / 128, k + 1), by simp only; omega, by simp only; omega, by simp⟩ (by show y / 128 < y; omega) ⟨rfl, ?_, trivial⟩ (Ent.refl _)
    rfl
  · repeat (first | refine ct_seq ?_ | (refine ct_region' rfl ?_; simp only [List.map, lite]) | refine rt_nil ?_ | refine ct_ret ?_ | refine ct_exit ?_ | refine q_then ?_ | refine q_then_exit ?_ | refine q_block_exit ?_ | refine rg rfl (g_move (by conv => lhs; whnf)) rfl rfl ?_ | refine rg rfl (g_assign (by conv => lhs; whnf)) rfl rfl ?_)
    rw [numForm_small (x := y) (by omega)] at h1
    simp only [List.length_singleton] at h1
    exact q_ret1 Try.results13 rfl () (congrArg (Value.int .i64) (by rw [h1]; omega)) (Ent.refl _)

theorem out_hash (R : HP) (p : Nat) (xs hs : List UInt8) (hh : hs.length = 32) (hl : xs.length + 32 ≤ 140737488355328) :
    Spec Try.prog 40 [.pointer (some ⟨p, 0, none⟩), .agg (hs.map bv).toArray] (IsOut p xs * R) (fun _ : Unit => .tuple #[]) (fun _ => IsOut p (xs ++ hs) * R) := by
  refine spec_of Try.func40 rfl Try.ntmps40 rfl fun W0 => ?_
  refine ct_ex fun v => ?_
  repeat (first | refine ct_seq ?_ | (refine ct_region' rfl ?_; simp only [List.map, lite]))
  refine rt_op (wants_none rfl) (o_box rfl (by conv => lhs; whnf) (by conv => lhs; whnf) fun b => ?_)
  repeat (first | refine rt_nil ?_ | refine q_then ?_)
  refine ct_any (Blk p [.slice v.1 xs.length v.2] 77 * Blk b (hs.map bv) 84) 9 ?_
  refine any_take 0 rfl (by kernel_rfl) En.ent (wants_none rfl) (g_move (by conv => lhs; whnf)) rfl rfl ?_
  refine any_take 1 rfl (by kernel_rfl) En.ent (wants_none rfl) (g_move (by conv => lhs; whnf)) rfl rfl ?_
  refine any_take 2 rfl (by kernel_rfl) En.ent (wants_none rfl) (g_nil rfl) rfl rfl ?_
  refine any_take 3 rfl (by kernel_rfl) En.ent (wants_none rfl) (g_field0 rfl) rfl rfl ?_
  refine any_take 4 rfl (by kernel_rfl) En.ent (wants_none rfl) (g_load rfl (by conv => lhs; whnf)) rfl rfl ?_
  refine any_take 5 rfl (by kernel_rfl) En.ent (wants_none rfl) (g_cutA rfl) rfl rfl ?_
  refine any_one 6 (by kernel_rfl) rfl (wants_none rfl) (o_append rfl rfl rfl (src_slice (news := hs.map bv) (by simp [hh]) (reads_blk (by intro j v h; simpa using h))) bvs_one (by unfold maxLen; omega) (by omega) (.inl ⟨_, rfl⟩) fun ad' cap' => ⟨.inr En.ent, ?_⟩)
  refine any_one 7 (by kernel_rfl) rfl (wants_none rfl) (o_give (g_nil rfl) rfl rfl ⟨.inr En.ent, ?_⟩)
  refine any_one 8 (by kernel_rfl) rfl (wants_none rfl) (o_give (g_field0 rfl) rfl rfl ⟨.inr En.ent, ?_⟩)
  refine any_one 9 (by kernel_rfl) rfl (wants_none rfl) (o_store rfl (by conv => lhs; whnf) rfl rfl (by simp only [List.set_cons_zero, List.set_cons_succ]; rfl) ⟨.inl (by kernel_rfl), ?_⟩)
  refine any_done (by kernel_rfl) ?_
  skip
  exact q_ret0 Try.results40 () rfl ((Ent.mul (Ent.refl _) (Ent.mul (Ent.refl _) (Ent.dropL _ _))).trans (isOut_mk _ _ _ _ (by simp [hh]) (by simp))) (.inl rfl)
end Go.Proofs.Ytfcanppeiadbhaa
