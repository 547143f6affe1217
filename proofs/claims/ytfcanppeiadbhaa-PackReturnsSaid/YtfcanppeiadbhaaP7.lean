/- pack: told, Unwrap, awake. -/
import Derived.Test.YtfcanppeiadbhaaP6
namespace Go.Proofs.Ytfcanppeiadbhaa
open Go.RowKit
attribute [local irreducible] Gives RT CT QT Spec Wants Reads Src Ent OT RQ AnyT AnyOp Again Code.wp Post

theorem unwrap_spec (R : HP) (b : Nat) (why at' : Int) :
    Spec Try.prog 8 [.pointer (some ⟨b, 0, none⟩)] (Blk b [.int .i64 why, .int .i64 at'] 25 * R) (fun _ : Unit => .iface 23 (.int .i64 why)) (fun _ => Blk b [.int .i64 why, .int .i64 at'] 25 * R) := by
  refine spec_of Try.func8 rfl Try.ntmps8 rfl fun W0 => ?_
  repeat (first | refine ct_seq ?_ | (refine ct_region' rfl ?_; simp only [List.map, lite]) | refine rt_nil ?_ | refine ct_ret ?_ | refine q_then ?_ | refine rg rfl (g_move (by conv => lhs; whnf)) rfl rfl ?_ | refine rg rfl (g_assign (by conv => lhs; whnf)) rfl rfl ?_ | refine rg rfl (g_nil rfl) rfl rfl ?_ | refine rg rfl (g_field0 rfl) rfl rfl ?_ | refine rg rfl (g_load rfl (by conv => lhs; whnf)) rfl rfl ?_ | refine rg rfl (g_iface (by conv => lhs; whnf) (fun _ h => by cases h)) rfl rfl ?_)
  exact q_ret1 Try.results8 rfl () rfl (Ent.refl _)

theorem told_none (R : HP) :
    Spec Try.prog 28 [.nilIface] R (fun _ : Unit => .tuple #[.agg #[.int .i64 0, .int .i64 0], .bool true]) (fun _ => R) := by
  refine spec_of Try.func28 rfl Try.ntmps28 rfl fun W0 => ?_
  repeat (first | refine ct_seq ?_ | (refine ct_region' rfl ?_; simp only [List.map, lite]))
  refine rt_op (wants_none rfl) (o_alloc rfl (by conv => lhs; whnf) fun b => ?_)
  repeat (first | refine ct_seq ?_ | (refine ct_region' rfl ?_; simp only [List.map, lite]) | refine rt_nil ?_ | refine q_then ?_ | refine ct_true rfl ?_ | refine rg rfl (g_move (by conv => lhs; whnf)) rfl rfl ?_ | refine rg rfl (g_assign (by conv => lhs; whnf)) rfl rfl ?_ | refine rg rfl (g_err_eq (by conv => lhs; whnf) (by first | exact .inl rfl | exact .inr ⟨_, _, rfl⟩ | assumption)) rfl rfl ?_ | refine rg rfl (g_build (by simp only [ev, upd, updl, argl, nat_beq_def, Nat.reduceBEq, cond_true, cond_false, List.map_cons, List.map_nil]; rfl) (by simp [fillL, Value.cells]; rfl)) rfl rfl ?_)
  refine rt_op (wants_none rfl) (o_storeAgg rfl (by conv => lhs; whnf) (by rfl) (by rfl) (by rfl) (by rfl) ?_)
  repeat (first | refine rt_nil ?_ | refine ct_ret ?_ | refine q_then ?_ | refine q_then_ret ?_ | refine rg rfl (g_assign (by conv => lhs; whnf)) rfl rfl ?_)
  exact q_retCT Try.results28 (cell_agg (by conv => lhs; whnf) (by rfl) (reads_blk (by intro j v h; simpa using h))) rfl () rfl (Ent.dropL _ _)
theorem told_bad (R : HP) (q why pos : Nat) (hw : why ≠ 0) :
    Spec Try.prog 28 [errV (some q)] (BadAt (some (q, why)) pos * R) (fun _ : Unit => .tuple #[.agg #[.int .i64 (why : Int), .int .i64 (pos : Int)], .bool true]) (fun _ => BadAt (some (q, why)) pos * R) := by
  refine spec_of Try.func28 rfl Try.ntmps28 rfl fun W0 => ?_
  unfold BadAt errV
  repeat (first | refine ct_seq ?_ | (refine ct_region' rfl ?_; simp only [List.map, lite]))
  refine rt_op (wants_none rfl) (o_alloc rfl (by conv => lhs; whnf) fun b => ?_)
  repeat (first | refine ct_seq ?_ | (refine ct_region' rfl ?_; simp only [List.map, lite]) | refine rt_nil ?_ | refine ct_skip ?_ | refine q_then ?_ | refine ct_false rfl ?_ | refine rg rfl (g_move (by conv => lhs; whnf)) rfl rfl ?_ | refine rg rfl (g_assign (by conv => lhs; whnf)) rfl rfl ?_ | refine rg rfl (g_not (b := true) rfl) rfl rfl ?_ | refine rg rfl (g_extract rfl (by conv => lhs; whnf)) rfl rfl ?_ | refine rg rfl (g_err_eq (by conv => lhs; whnf) (by first | exact .inl rfl | exact .inr ⟨_, _, rfl⟩ | assumption)) rfl rfl ?_ | refine rg rfl (g_assert (by conv => lhs; whnf) (fun _ h => by cases h)) rfl rfl ?_ | refine rg rfl (g_pick_f rfl (by conv => lhs; whnf)) rfl rfl ?_ | refine rgw rfl rfl rfl rfl (g_move (by conv => lhs; whnf)) rfl rfl ?_ | refine rgw rfl rfl rfl rfl (g_nil rfl) rfl rfl ?_ | refine rgw rfl rfl rfl rfl (g_field0 rfl) rfl rfl ?_ | refine rgw rfl rfl rfl rfl (g_load rfl (by conv => lhs; whnf)) rfl rfl ?_ | (refine rgw rfl rfl rfl rfl (g_eqlF rfl rfl ?_) rfl rfl ?_; (· (omega))) | refine rgw rfl rfl rfl rfl (g_ptr_eq rfl) rfl rfl ?_)
  refine ct_any (Blk q [.int .i64 (why : Int), .int .i64 (pos : Int)] 25 * R) 99 ?_
  refine any_take 0 rfl (by kernel_rfl) En.ent (wants_none rfl) (g_move (by conv => lhs; whnf)) rfl rfl ?_
  refine any_take 1 rfl (by kernel_rfl) En.ent (wants_none rfl) (g_nil rfl) rfl rfl ?_
  refine any_take 2 rfl (by kernel_rfl) En.ent (wants_none rfl) (g_field0 rfl) rfl rfl ?_
  refine any_take 3 rfl (by kernel_rfl) En.ent (wants_none rfl) (g_load rfl (by conv => lhs; whnf)) rfl rfl ?_
  refine any_take 4 rfl (by kernel_rfl) En.ent (wants_none rfl) (g_move (by conv => lhs; whnf)) rfl rfl ?_
  refine any_take 5 rfl (by kernel_rfl) En.ent (wants_none rfl) (g_nil rfl) rfl rfl ?_
  refine any_take 6 rfl (by kernel_rfl) En.ent (wants_none rfl) (g_field0 rfl) rfl rfl ?_
  refine any_take 7 rfl (by kernel_rfl) En.ent (wants_none rfl) (g_load rfl (by conv => lhs; whnf)) rfl rfl ?_
  refine any_take 8 rfl (by kernel_rfl) En.ent (wants_none rfl) (g_build (by simp only [ev, upd, updl, argl, nat_beq_def, Nat.reduceBEq, cond_true, cond_false, List.map_cons, List.map_nil]; rfl) (by simp [fillL, Value.cells]; rfl)) rfl rfl ?_
  refine any_one 9 (by kernel_rfl) rfl (wants_none rfl) (o_storeAgg rfl (by conv => lhs; whnf) (by rfl) (by rfl) (by rfl) (by rfl) ⟨.inr En.ent, ?_⟩)
  refine any_one 10 (by kernel_rfl) rfl (wants_none rfl) (o_give (g_assign (by conv => lhs; whnf)) rfl rfl ⟨.inr En.ent, ?_⟩)
  refine any_done (by kernel_rfl) ?_
  repeat (first | refine ct_ret ?_ | refine q_then ?_)
  exact q_retCT Try.results28 (cell_agg (by conv => lhs; whnf) (by rfl) (reads_blk (by intro j v h; simpa using h))) rfl () rfl (Ent.dropL _ _)

theorem awake_spec (R : HP) : Spec Try.prog 9 [] R (fun _ : Unit => .bool true) (fun _ => R) := by
  have e1 : numAt (([172, 2, 128] : List UInt8).drop 0) 10 0 0 = (300, 2, 0) := by decide
  have e2 : numAt (([172, 2, 128] : List UInt8).drop 2) 10 0 0 = (0, 0, 20) := by decide
  have w1 : numWhy [172, 2, 128] 0 300 = 0 := by decide
  have w2 : numWhy [172, 2, 128] 2 9 = 20 := by decide
  refine spec_of Try.func9 rfl Try.ntmps9 rfl fun W0 => ?_
  repeat (first | refine ct_seq ?_ | (refine ct_region' rfl ?_; simp only [List.map, lite]) | refine rt_nil ?_ | refine q_then ?_ | refine rg rfl (g_assign (by conv => lhs; whnf)) rfl rfl ?_)
  refine rt_op (wants_none rfl) (o_call rfl rfl (newOut_spec R) fun o => ?_)
  repeat (first | refine ct_seq ?_ | (refine ct_region' rfl ?_; simp only [List.map, lite]) | refine rt_nil ?_ | refine q_then ?_ | refine rg rfl (g_assign (by conv => lhs; whnf)) rfl rfl ?_)
  refine rt_op (wants_none rfl) (o_buildN rfl (by simp only [ev, upd, updl, argl, nat_beq_def, Nat.reduceBEq, cond_true, cond_false, List.map_cons, List.map_nil]; rfl) rfl (by rfl) (by simp [fillL, Value.cells, List.range, List.range.loop]; rfl) fun b => ?_)
  skip
  refine rt_op (wants_none rfl) (o_call rfl rfl (newIn_spec _ [172, 2, 128] (some ⟨b, 0, none⟩) 3 (rdB_blk rfl) (by decide)) fun i => ?_)
  repeat (first | refine ct_seq ?_ | (refine ct_region' rfl ?_; simp only [List.map, lite]) | refine rt_nil ?_ | refine ct_skip ?_ | refine q_then ?_ | refine ct_false rfl ?_ | refine rg rfl (g_move (by conv => lhs; whnf)) rfl rfl ?_ | refine rg rfl (g_assign (by conv => lhs; whnf)) rfl rfl ?_ | refine rg rfl (g_ptr_eq rfl) rfl rfl ?_ | refine rg rfl (g_pick_f rfl (by conv => lhs; whnf)) rfl rfl ?_ | refine rgw rfl rfl rfl rfl (g_move (by conv => lhs; whnf)) rfl rfl ?_ | refine rgw rfl rfl rfl rfl (g_ptr_eq rfl) rfl rfl ?_)
  have n1 : numForm 300 = [172, 2] := by rw [numForm_big (by decide), numForm_small (by decide)]; rfl
  have n2 : numForm (zig (-1)) = [1] := by rw [show zig (-1) = 1 from rfl, numForm_small (by decide)]; rfl
  have n3 : numForm 2 = [2] := by rw [numForm_small (by decide)]; rfl
  have s3 := fun R => out_number R o [] 300 (by decide) (by decide)
  rw [n1] at s3
  simp only [List.nil_append, List.cons_append] at s3
  refine rt_op (wants_none rfl) (o_callF rfl rfl (s3 _) fun _ => ?_)
  repeat (first | refine ct_seq ?_ | (refine ct_region' rfl ?_; simp only [List.map, lite]) | refine rt_nil ?_ | refine q_then ?_ | refine rg rfl (g_move (by conv => lhs; whnf)) rfl rfl ?_)
  have s4 := fun R => out_signed R o [172, 2] (-1) (by decide) (by decide)
  rw [n2] at s4
  simp only [List.nil_append, List.cons_append] at s4
  refine rt_op (wants_none rfl) (o_callF rfl rfl (s4 _) fun _ => ?_)
  repeat (first | refine ct_seq ?_ | (refine ct_region' rfl ?_; simp only [List.map, lite]) | refine rt_nil ?_ | refine q_then ?_ | refine rg rfl (g_move (by conv => lhs; whnf)) rfl rfl ?_)
  have s5 := fun R => out_text R o [172, 2, 1] ⟨#[97, 98]⟩ (by decide) (by decide)
  rw [show (ByteArray.mk #[97, 98]).size = 2 from rfl, n3, show (ByteArray.mk #[97, 98]).data.toList = [97, 98] from rfl] at s5
  simp only [List.nil_append, List.cons_append] at s5
  refine rt_op (wants_none rfl) (o_callF rfl rfl (s5 _) fun _ => ?_)
  repeat (first | refine ct_seq ?_ | (refine ct_region' rfl ?_; simp only [List.map, lite]) | refine rt_nil ?_ | refine q_then ?_ | refine rg rfl (g_move (by conv => lhs; whnf)) rfl rfl ?_)
  have s1 := fun R => in_number_ok R i.1 i.2.1 i.2.2 [172, 2, 128] 0 300 (by decide) (by decide) w1
  rw [e1] at s1
  refine rt_op (wants_none rfl) (o_callF rfl rfl (s1 _) fun _ => ?_)
  repeat (first | refine ct_seq ?_ | (refine ct_region' rfl ?_; simp only [List.map, lite]) | refine rt_nil ?_ | refine q_then ?_ | refine rg rfl (g_move (by conv => lhs; whnf)) rfl rfl ?_ | refine rg rfl (g_assign (by conv => lhs; whnf)) rfl rfl ?_ | refine rg rfl (g_extract rfl (by conv => lhs; whnf)) rfl rfl ?_)
  have s2 := fun R => in_number_fail R i.1 i.2.1 i.2.2 [172, 2, 128] 2 9 (by decide) (by decide) (by rw [w2]; decide)
  rw [w2] at s2
  refine rt_op (wants_none rfl) (o_callF rfl rfl (s2 _) fun q => ?_)
  repeat (first | refine ct_seq ?_ | (refine ct_region' rfl ?_; simp only [List.map, lite]) | refine rt_nil ?_ | refine q_then ?_ | refine rg rfl (g_move (by conv => lhs; whnf)) rfl rfl ?_ | refine rg rfl (g_assign (by conv => lhs; whnf)) rfl rfl ?_ | refine rg rfl (g_extract rfl (by conv => lhs; whnf)) rfl rfl ?_)
  unfold InA
  refine rt_op (wants_none rfl) (o_callF rfl rfl (told_bad _ q 20 2 (by decide)) fun _ => ?_)
  repeat (first | refine rg rfl (g_move (by conv => lhs; whnf)) rfl rfl ?_ | refine rg rfl (g_extract rfl (by conv => lhs; whnf)) rfl rfl ?_)
  refine rt_op (wants_none rfl) (o_alloc rfl (by conv => lhs; whnf) fun b => ?_)
  skip
  refine rt_op (wants_none rfl) (o_storeAgg rfl (by conv => lhs; whnf) (by rfl) (by rfl) (by rfl) (by rfl) ?_)
  repeat (first | refine ct_seq ?_ | (refine ct_region' rfl ?_; simp only [List.map, lite]) | refine rt_nil ?_ | refine q_then ?_ | refine rg rfl (g_move (by conv => lhs; whnf)) rfl rfl ?_ | refine rg rfl (g_assign (by conv => lhs; whnf)) rfl rfl ?_)
  have s6 := fun R => out_done R o [172, 2, 1, 2, 97, 98] (by decide)
  refine rt_op (wants_none rfl) (o_callF rfl rfl (s6 _) fun k => ?_)
  repeat (first | refine rt_nil ?_ | refine ct_ret ?_ | refine q_then ?_ | refine rg rfl (g_move (by conv => lhs; whnf)) rfl rfl ?_ | refine rg rfl (g_assign (by conv => lhs; whnf)) rfl rfl ?_ | (refine rg rfl (g_eqsT rfl rfl ?_) rfl rfl ?_; (· (first | rfl | assumption))) | refine rg rfl (g_convA rfl rfl rfl) rfl rfl ?_ | refine rg rfl (g_pick_t rfl (by conv => lhs; whnf)) rfl rfl ?_ | refine rgw rfl rfl rfl rfl (g_move (by conv => lhs; whnf)) rfl rfl ?_ | refine rgw rfl rfl rfl rfl (g_field0 rfl) rfl rfl ?_ | refine rgw rfl rfl rfl rfl (g_load rfl (by conv => lhs; whnf)) rfl rfl ?_ | (refine rgw rfl rfl rfl rfl (g_eqlT rfl rfl ?_) rfl rfl ?_; (· (omega))) | refine rgw rfl rfl rfl rfl (g_err_eq (by conv => lhs; whnf) (by first | exact .inl rfl | exact .inr ⟨_, _, rfl⟩ | assumption)) rfl rfl ?_)
  exact q_ret1 Try.results9 rfl () rfl (by first | exact En.ent | (simp only [Int.natCast_add, Int.natCast_one]; exact En.ent))
end Go.Proofs.Ytfcanppeiadbhaa
