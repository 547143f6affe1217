/- sha: turned, begins, rounds. -/
import Derived.Test.YtmhddmenmkjdlaaU
import Derived.Test.YtmhddmenmkjdlaaTy
namespace Go.Proofs.Ytmhddmenmkjdlaa
open Go.RowKit
attribute [local irreducible] Gives RT CT QT Spec Wants Reads Src Ent OT RQ AnyT AnyOp Again Code.wp Post

def rotr (x : UInt32) (n : Nat) : UInt32 := (x >>> UInt32.ofNat n) ||| (x <<< UInt32.ofNat (32 - n))
theorem turned_spec (R : HP) (x : UInt32) (n : Nat) (h0 : 0 < n) (hn : n < 32) : Spec Try.prog 58 [wv x, .int .i64 (n : Int)] R (fun _ : Unit => wv (rotr x n)) (fun _ => R) := by
  refine spec_of Try.func58 rfl Try.ntmps58 rfl fun W0 => ?_
  repeat (first | refine ct_seq ?_ | (refine ct_region' rfl ?_; simp only [List.map, lite]) | refine rt_nil ?_ | refine q_then ?_ | refine rg rfl (g_assign (by conv => lhs; whnf)) rfl rfl ?_)
  refine ct_quiet (by kernel_rfl) rfl ?_
  simp only [List.map, lite]
  repeat (first | refine qg rfl (g_move (by conv => lhs; whnf)) rfl rfl ?_ | (refine qg rfl (g_subN rfl rfl ?_) rfl rfl ?_; (· (constructor <;> omega))) | (refine qg rfl (g_shr32 rfl rfl (by conv => lhs; whnf) ?_ ?_) rfl rfl ?_; (· (omega)); (· (omega))))
  refine qg rfl (g_shl32 (n := 32 - n) rfl rfl ?_ ?_ ?_) rfl rfl ?_; (· omega); (· omega); (· omega)
  repeat (first | refine rq_nil ?_ | refine qg rfl (g_or32 rfl rfl) rfl rfl ?_ | refine qg rfl (g_assign (by conv => lhs; whnf)) rfl rfl ?_)
  repeat (first | refine ct_ret ?_ | refine q_then ?_)
  exact q_ret1 Try.results58 rfl () rfl (Ent.refl _)
theorem turnedR_spec (R : HP) (x : UInt32) (n : Nat) (h0 : 0 < n) (hn : n < 32) : Spec Try.prog 52 [wv x, .int .i64 (n : Int)] R (fun _ : Unit => wv (rotr x n)) (fun _ => R) := by
  refine spec_of Try.func52 rfl Try.ntmps52 rfl fun W0 => ?_
  repeat (first | refine ct_seq ?_ | (refine ct_region' rfl ?_; simp only [List.map, lite]) | refine rt_nil ?_ | refine q_then ?_ | refine rg rfl (g_assign (by conv => lhs; whnf)) rfl rfl ?_)
  refine ct_quiet (by kernel_rfl) rfl ?_
  simp only [List.map, lite]
  repeat (first | refine qg rfl (g_move (by conv => lhs; whnf)) rfl rfl ?_ | (refine qg rfl (g_subN rfl rfl ?_) rfl rfl ?_; (· (constructor <;> omega))) | (refine qg rfl (g_shr32 rfl rfl (by conv => lhs; whnf) ?_ ?_) rfl rfl ?_; (· (omega)); (· (omega))))
  refine qg rfl (g_shl32 (n := 32 - n) rfl rfl ?_ ?_ ?_) rfl rfl ?_; (· omega); (· omega); (· omega)
  repeat (first | refine rq_nil ?_ | refine qg rfl (g_or32 rfl rfl) rfl rfl ?_ | refine qg rfl (g_assign (by conv => lhs; whnf)) rfl rfl ?_)
  repeat (first | refine ct_ret ?_ | refine q_then ?_)
  exact q_ret1 Try.results52 rfl () rfl (Ent.refl _)

def begins0 : List UInt32 := [0x6a09e667, 0xbb67ae85, 0x3c6ef372, 0xa54ff53a, 0x510e527f, 0x9b05688c, 0x1f83d9ab, 0x5be0cd19]
def rounds0 : List UInt32 := [0x428a2f98, 0x71374491, 0xb5c0fbcf, 0xe9b5dba5, 0x3956c25b, 0x59f111f1, 0x923f82a4, 0xab1c5ed5, 0xd807aa98, 0x12835b01, 0x243185be, 0x550c7dc3, 0x72be5d74, 0x80deb1fe, 0x9bdc06a7, 0xc19bf174, 0xe49b69c1, 0xefbe4786, 0x0fc19dc6, 0x240ca1cc, 0x2de92c6f, 0x4a7484aa, 0x5cb0a9dc, 0x76f988da, 0x983e5152, 0xa831c66d, 0xb00327c8, 0xbf597fc7, 0xc6e00bf3, 0xd5a79147, 0x06ca6351, 0x14292967, 0x27b70a85, 0x2e1b2138, 0x4d2c6dfc, 0x53380d13, 0x650a7354, 0x766a0abb, 0x81c2c92e, 0x92722c85, 0xa2bfe8a1, 0xa81a664b, 0xc24b8b70, 0xc76c51a3, 0xd192e819, 0xd6990624, 0xf40e3585, 0x106aa070, 0x19a4c116, 0x1e376c08, 0x2748774c, 0x34b0bcb5, 0x391c0cb3, 0x4ed8aa4a, 0x5b9cca4f, 0x682e6ff3, 0x748f82ee, 0x78a5636f, 0x84c87814, 0x8cc70208, 0x90befffa, 0xa4506ceb, 0xbef9a3f7, 0xc67178f2]
theorem begins_spec (R : HP) : Spec Try.prog 41 [] R (fun _ : Unit => .agg (begins0.map wv).toArray) (fun _ => R) := by
  refine spec_of Try.func41 rfl Try.ntmps41 rfl fun W0 => ?_
  repeat (first | refine ct_seq ?_ | (refine ct_region' rfl ?_; simp only [List.map, lite]))
  refine rt_op (wants_none rfl) (o_alloc rfl (by conv => lhs; whnf) fun b => ?_)
  repeat (first | refine ct_seq ?_ | (refine ct_region' rfl ?_; simp only [List.map, lite]) | refine rt_nil ?_ | refine q_then ?_)
  refine rg rfl (g_buildA (cells := begins0.map wv) (by simp only [ev, upd, updl, argl, nat_beq_def, Nat.reduceBEq, cond_true, cond_false, List.map_cons, List.map_nil]; rfl) (by kernel_rfl)) rfl rfl ?_
  skip
  refine rt_op (wants_none rfl) (o_storeAgg rfl rfl rfl (by rfl) (by rfl) (by rfl) ?_)
  repeat (first | refine rt_nil ?_ | refine ct_ret ?_ | refine q_then ?_)
  exact q_retC Try.results41 (cell_blk rfl (by rfl)) () rfl (Ent.dropL _ _)
theorem beginsR_spec (R : HP) : Spec Try.prog 38 [] R (fun _ : Unit => .agg (begins0.map wv).toArray) (fun _ => R) := by
  refine spec_of Try.func38 rfl Try.ntmps38 rfl fun W0 => ?_
  repeat (first | refine ct_seq ?_ | (refine ct_region' rfl ?_; simp only [List.map, lite]))
  refine rt_op (wants_none rfl) (o_alloc rfl (by conv => lhs; whnf) fun b => ?_)
  repeat (first | refine ct_seq ?_ | (refine ct_region' rfl ?_; simp only [List.map, lite]) | refine rt_nil ?_ | refine q_then ?_)
  refine rg rfl (g_buildA (cells := begins0.map wv) (by simp only [ev, upd, updl, argl, nat_beq_def, Nat.reduceBEq, cond_true, cond_false, List.map_cons, List.map_nil]; rfl) (by kernel_rfl)) rfl rfl ?_
  skip
  refine rt_op (wants_none rfl) (o_storeAgg rfl rfl rfl (by rfl) (by rfl) (by rfl) ?_)
  repeat (first | refine rt_nil ?_ | refine ct_ret ?_ | refine q_then ?_)
  exact q_retC Try.results38 (cell_blk rfl (by rfl)) () rfl (Ent.dropL _ _)
theorem rounds_spec (R : HP) : Spec Try.prog 57 [] R (fun _ : Unit => .agg (rounds0.map wv).toArray) (fun _ => R) := by
  refine spec_of Try.func57 rfl Try.ntmps57 rfl fun W0 => ?_
  repeat (first | refine ct_seq ?_ | (refine ct_region' rfl ?_; simp only [List.map, lite]))
  refine rt_op (wants_none rfl) (o_alloc rfl (by conv => lhs; whnf) fun b => ?_)
  repeat (first | refine ct_seq ?_ | (refine ct_region' rfl ?_; simp only [List.map, lite]) | refine rt_nil ?_ | refine q_then ?_)
  refine rg rfl (g_buildA (cells := rounds0.map wv) (by simp only [ev, upd, updl, argl, nat_beq_def, Nat.reduceBEq, cond_true, cond_false, List.map_cons, List.map_nil]; rfl) (by kernel_rfl)) rfl rfl ?_
  skip
  refine rt_op (wants_none rfl) (o_storeAgg rfl rfl rfl (by rfl) (by rfl) (by rfl) ?_)
  repeat (first | refine rt_nil ?_ | refine ct_ret ?_ | refine q_then ?_)
  exact q_retC Try.results57 (cell_blk rfl (by rfl)) () rfl (Ent.dropL _ _)
theorem roundsR_spec (R : HP) : Spec Try.prog 39 [] R (fun _ : Unit => .agg (rounds0.map wv).toArray) (fun _ => R) := by
  refine spec_of Try.func39 rfl Try.ntmps39 rfl fun W0 => ?_
  repeat (first | refine ct_seq ?_ | (refine ct_region' rfl ?_; simp only [List.map, lite]))
  refine rt_op (wants_none rfl) (o_alloc rfl (by conv => lhs; whnf) fun b => ?_)
  repeat (first | refine ct_seq ?_ | (refine ct_region' rfl ?_; simp only [List.map, lite]) | refine rt_nil ?_ | refine q_then ?_)
  refine rg rfl (g_buildA (cells := rounds0.map wv) (by simp only [ev, upd, updl, argl, nat_beq_def, Nat.reduceBEq, cond_true, cond_false, List.map_cons, List.map_nil]; rfl) (by kernel_rfl)) rfl rfl ?_
  skip
  refine rt_op (wants_none rfl) (o_storeAgg rfl rfl rfl (by rfl) (by rfl) (by rfl) ?_)
  repeat (first | refine rt_nil ?_ | refine ct_ret ?_ | refine q_then ?_)
  exact q_retC Try.results39 (cell_blk rfl (by rfl)) () rfl (Ent.dropL _ _)
end Go.Proofs.Ytmhddmenmkjdlaa
