/- The law PackNames. -/
import Derived.Test.YtfcanppeiadbhaaP7
namespace Go.Proofs.Ytfcanppeiadbhaa
open Go.RowKit
attribute [local irreducible] Gives RT CT QT Spec Wants Reads Src Ent OT RQ AnyT AnyOp Again Code.wp Post

theorem packNames_spec (R : HP) : Spec Try.prog 3 [] R (fun _ : Unit => .bool true) (fun _ => R) := by
  refine spec_of Try.func3 rfl Try.ntmps3 rfl fun W0 => ?_
  repeat (first | refine ct_seq ?_ | (refine ct_region' rfl ?_; simp only [List.map, lite]) | refine rt_nil ?_ | refine q_then ?_ | refine rg rfl (g_assign (by conv => lhs; whnf)) rfl rfl ?_ | refine rg rfl (g_build (by simp only [ev, upd, updl, argl, nat_beq_def, Nat.reduceBEq, cond_true, cond_false, List.map_cons, List.map_nil]; rfl) (by simp [fillL, Value.cells]; rfl)) rfl rfl ?_)
  refine rt_op (wants_none rfl) (o_box rfl (by conv => lhs; whnf) (by conv => lhs; whnf) fun b => ?_)
  repeat (first | refine ct_seq ?_ | (refine ct_region' rfl ?_; simp only [List.map, lite]) | refine rt_nil ?_ | refine q_then ?_ | refine rg rfl (g_move (by conv => lhs; whnf)) rfl rfl ?_ | refine rg rfl (g_assign (by conv => lhs; whnf)) rfl rfl ?_ | refine rgw rfl rfl rfl rfl (g_move (by conv => lhs; whnf)) rfl rfl ?_)
  refine rt_op (wants_some rfl rfl rfl rfl) (o_callF rfl rfl (unwrap_spec _ b 22 3) fun _ => ?_)
  repeat (first | refine rg rfl (g_move (by conv => lhs; whnf)) rfl rfl ?_ | refine rg rfl (g_pick_t rfl (by conv => lhs; whnf)) rfl rfl ?_ | refine rgw rfl rfl rfl rfl (g_iface (by conv => lhs; whnf) (fun _ h => by cases h)) rfl rfl ?_ | (refine rgw rfl rfl rfl rfl (g_ifeqT (by conv => lhs; whnf) (by conv => lhs; whnf) (by kernel_rfl) ?_) rfl rfl ?_; (· (omega))))
  refine rt_op (wants_some rfl rfl rfl rfl) (o_call rfl rfl (awake_spec _) fun _ => ?_)
  repeat (first | refine rt_nil ?_ | refine ct_ret ?_ | refine q_then ?_ | refine rg rfl (g_assign (by conv => lhs; whnf)) rfl rfl ?_ | refine rg rfl (g_pick_t rfl (by conv => lhs; whnf)) rfl rfl ?_)
  exact q_ret1 Try.results3 rfl () rfl (by first | exact En.ent | (simp only [Int.natCast_add, Int.natCast_one]; exact En.ent))
end Go.Proofs.Ytfcanppeiadbhaa
