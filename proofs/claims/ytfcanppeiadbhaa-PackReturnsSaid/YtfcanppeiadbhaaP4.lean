/- pack.In: fail, At, Left, next, Byte. -/
import Derived.Test.YtfcanppeiadbhaaP3
namespace Go.Proofs.Ytfcanppeiadbhaa
open Go.RowKit
attribute [local irreducible] Gives RT CT QT Spec Wants Reads Src Ent OT RQ AnyT AnyOp Again Code.wp Post

/-! ### a reader in memory: all its bytes, how far it is, what was wrong -/
def errV : Option Nat → Value
  | none => .nilIface
  | some q => .iface 22 (.pointer (some ⟨q, 0, none⟩))
def BadAt : Option (Nat × Nat) → Nat → HP
  | none, _ => emp
  | some (q, why), pos => Blk q [.int .i64 (why : Int), .int .i64 (pos : Int)] 25
theorem badAt_none (pos : Nat) : BadAt none pos = emp := rfl
def InA (p : Nat) (a : Option Addr) (cap : Nat) (xs : List UInt8) (pos : Nat) (e : Option (Nat × Nat)) : HP :=
  Blk p [.slice a xs.length cap, .int .i64 (pos : Int), errV (e.map Prod.fst)] 90 * (Arr 5 1 a cap xs.length (xs.map bv) * BadAt e pos)
theorem errV_iface (e : Option Nat) : IsIface (errV e) := by cases e <;> first | exact .inl rfl | exact .inr ⟨_, _, rfl⟩
theorem isErr_errV (e : Option Nat) : isErr (errV e) = e.isSome := by cases e <;> rfl

theorem in_fail (R : HP) (p : Nat) (a : Option Addr) (cap : Nat) (xs : List UInt8) (pos why : Nat) :
    Spec Try.prog 59 [.pointer (some ⟨p, 0, none⟩), .int .i64 (why : Int), .int .i64 (pos : Int)] (InA p a cap xs pos none * R) (fun q : Nat => errV (some q)) (fun q => InA p a cap xs pos (some (q, why)) * R) := by
  refine spec_of Try.func59 rfl Try.ntmps59 rfl fun W0 => ?_
  show CT _ _ _ _ _ _ _ (Blk p [.slice a xs.length cap, .int .i64 (pos : Int), .nilIface] 90 * (Arr 5 1 a cap xs.length (xs.map bv) * emp) * R)
  repeat (first | refine ct_seq ?_ | (refine ct_region' rfl ?_; simp only [List.map, lite]) | refine rt_nil ?_ | refine q_then ?_ | refine rg rfl (g_move (by conv => lhs; whnf)) rfl rfl ?_ | refine rg rfl (g_assign (by conv => lhs; whnf)) rfl rfl ?_ | refine rg rfl (g_build (by simp only [ev, upd, updl, argl, nat_beq_def, Nat.reduceBEq, cond_true, cond_false, List.map_cons, List.map_nil]; rfl) (by simp [fillL, Value.cells]; rfl)) rfl rfl ?_)
  refine rt_op (wants_none rfl) (o_box rfl (by conv => lhs; whnf) (by conv => lhs; whnf) fun b => ?_)
  repeat (first | refine rg rfl (g_nil rfl) rfl rfl ?_ | refine rg rfl (g_field0 rfl) rfl rfl ?_ | refine rg rfl (g_iface (by conv => lhs; whnf) (fun _ h => by cases h)) rfl rfl ?_)
  refine rt_op (wants_none rfl) (o_store rfl (by conv => lhs; whnf) rfl rfl (by first | (simp only [List.set_cons_zero, List.set_cons_succ]; rfl) | rfl) ?_)
  repeat (first | refine ct_seq ?_ | (refine ct_region' rfl ?_; simp only [List.map, lite]) | refine rt_nil ?_ | refine q_then ?_ | refine rg rfl (g_move (by conv => lhs; whnf)) rfl rfl ?_ | refine rg rfl (g_nil rfl) rfl rfl ?_ | refine rg rfl (g_field0 rfl) rfl rfl ?_)
  refine rt_op (wants_none rfl) (o_store rfl (by conv => lhs; whnf) rfl rfl (by first | (simp only [List.set_cons_zero, List.set_cons_succ]; rfl) | rfl) ?_)
  repeat (first | refine ct_seq ?_ | (refine ct_region' rfl ?_; simp only [List.map, lite]) | refine rt_nil ?_ | refine ct_ret ?_ | refine q_then ?_ | refine rg rfl (g_move (by conv => lhs; whnf)) rfl rfl ?_ | refine rg rfl (g_assign (by conv => lhs; whnf)) rfl rfl ?_ | refine rg rfl (g_nil rfl) rfl rfl ?_ | refine rg rfl (g_field0 rfl) rfl rfl ?_ | refine rg rfl (g_load rfl (by conv => lhs; whnf)) rfl rfl ?_)
  refine q_ret1 Try.results59 rfl b rfl ?_
  show Ent _ (Blk p [.slice a xs.length cap, .int .i64 (pos : Int), .iface 22 (.pointer (some ⟨b, 0, none⟩))] 90 * (Arr 5 1 a cap xs.length (xs.map bv) * Blk b [.int .i64 (why : Int), .int .i64 (pos : Int)] 25) * R)
  exact En.ent
theorem in_at (R : HP) (p : Nat) (a : Option Addr) (cap : Nat) (xs : List UInt8) (pos : Nat) (e : Option (Nat × Nat)) :
    Spec Try.prog 20 [.pointer (some ⟨p, 0, none⟩)] (InA p a cap xs pos e * R) (fun _ : Unit => .int .i64 (pos : Int)) (fun _ => InA p a cap xs pos e * R) := by
  refine spec_of Try.func20 rfl Try.ntmps20 rfl fun W0 => ?_
  unfold InA
  repeat (first | refine ct_seq ?_ | (refine ct_region' rfl ?_; simp only [List.map, lite]) | refine rt_nil ?_ | refine ct_ret ?_ | refine q_then ?_ | refine rg rfl (g_move (by conv => lhs; whnf)) rfl rfl ?_ | refine rg rfl (g_assign (by conv => lhs; whnf)) rfl rfl ?_ | refine rg rfl (g_nil rfl) rfl rfl ?_ | refine rg rfl (g_field0 rfl) rfl rfl ?_ | refine rg rfl (g_load rfl (by conv => lhs; whnf)) rfl rfl ?_)
  exact q_ret1 Try.results20 rfl () rfl (Ent.refl _)
theorem in_left (R : HP) (p : Nat) (a : Option Addr) (cap : Nat) (xs : List UInt8) (pos : Nat) (e : Option (Nat × Nat)) (hp : pos ≤ xs.length) (hl : xs.length ≤ 140737488355328) :
    Spec Try.prog 22 [.pointer (some ⟨p, 0, none⟩)] (InA p a cap xs pos e * R) (fun _ : Unit => .int .i64 ((xs.length - pos : Nat) : Int)) (fun _ => InA p a cap xs pos e * R) := by
  refine spec_of Try.func22 rfl Try.ntmps22 rfl fun W0 => ?_
  unfold InA
  repeat (first | refine ct_seq ?_ | (refine ct_region' rfl ?_; simp only [List.map, lite]) | refine rt_nil ?_ | refine q_then ?_ | refine rg rfl (g_assign (by conv => lhs; whnf)) rfl rfl ?_)
  refine ct_quiet (by kernel_rfl) rfl ?_
  simp only [List.map, lite]
  repeat (first | refine rq_nil ?_ | refine qg rfl (g_move (by conv => lhs; whnf)) rfl rfl ?_ | refine qg rfl (g_assign (by conv => lhs; whnf)) rfl rfl ?_ | refine qg rfl (g_nil rfl) rfl rfl ?_ | refine qg rfl (g_field0 rfl) rfl rfl ?_ | refine qg rfl (g_load rfl (by conv => lhs; whnf)) rfl rfl ?_ | (refine qg rfl (g_subN rfl rfl ?_) rfl rfl ?_; (· (constructor <;> omega))) | refine qg rfl (g_len_slice rfl) rfl rfl ?_)
  repeat (first | refine ct_ret ?_ | refine q_then ?_)
  exact q_ret1 Try.results22 rfl () (congrArg (Value.int .i64) (by omega)) (Ent.refl _)
end Go.Proofs.Ytfcanppeiadbhaa
