/- sha: the words of a piece. -/
import Derived.Test.YtmhddmenmkjdlaaS1
import Derived.Test.YtmhddmenmkjdlaaTail
namespace Go.Proofs.Ytmhddmenmkjdlaa
open Go.RowKit
attribute [local irreducible] Gives RT CT QT Spec Wants Reads Src Ent OT RQ AnyT AnyOp Again Code.wp Post

def byteAt (b : List UInt8) (i : Nat) : UInt8 := (b[i]?).getD 0
def w0 (b : List UInt8) (t : Nat) : UInt32 := ((((byteAt b (4 * t)).toUInt32 <<< UInt32.ofNat 24) ||| ((byteAt b (4 * t + 1)).toUInt32 <<< UInt32.ofNat 16)) ||| ((byteAt b (4 * t + 2)).toUInt32 <<< UInt32.ofNat 8)) ||| (byteAt b (4 * t + 3)).toUInt32
def sg0 (x : UInt32) : UInt32 := (rotr x 7 ^^^ rotr x 18) ^^^ (x >>> UInt32.ofNat 3)
def sg1 (y : UInt32) : UInt32 := (rotr y 17 ^^^ rotr y 19) ^^^ (y >>> UInt32.ofNat 10)
def wAt (l : List UInt32) (i : Nat) : UInt32 := (l[i]?).getD 0
def wNext (b : List UInt8) (l : List UInt32) (t : Nat) : UInt32 := if t < 16 then w0 b t else ((wAt l (t - 16) + sg0 (wAt l (t - 15))) + wAt l (t - 7)) + sg1 (wAt l (t - 2))
def wsUpto (b : List UInt8) : Nat → List UInt32
  | 0 => []
  | t + 1 => wsUpto b t ++ [wNext b (wsUpto b t) t]
theorem wsUpto_len (b : List UInt8) : ∀ t, (wsUpto b t).length = t
  | 0 => rfl
  | t + 1 => by rw [wsUpto, List.length_append, wsUpto_len b t]; rfl
/-- the array, so far -/
def wRow (b : List UInt8) (t : Nat) : List Value := (wsUpto b t ++ List.replicate (64 - t) 0).map wv
theorem wRow_set (b : List UInt8) (t : Nat) (h : t < 64) : (wRow b t).set t (wv (wNext b (wsUpto b t) t)) = wRow b (t + 1) := by
  unfold wRow
  rw [← List.map_set, List.set_append, if_neg (by rw [wsUpto_len]; omega), wsUpto_len, Nat.sub_self, show 64 - t = (64 - (t + 1)) + 1 by omega, List.replicate_succ, List.set_cons_zero, wsUpto, List.append_assoc]
  rfl
theorem wRow_get (b : List UInt8) (t i : Nat) (h : i < t) : (wRow b t)[i]? = some (wv (wAt (wsUpto b t) i)) := by
  unfold wRow
  rw [List.getElem?_map, List.getElem?_append_left (by rw [wsUpto_len]; exact h)]
  unfold wAt
  have : i < (wsUpto b t).length := by rw [wsUpto_len]; exact h
  rw [List.getElem?_eq_getElem this]; rfl
theorem wRow_len (b : List UInt8) (t : Nat) (h : t ≤ 64) : (wRow b t).length = 64 := by
  unfold wRow
  rw [List.length_map, List.length_append, wsUpto_len, List.length_replicate]; omega
theorem byte_get {b : List UInt8} {i : Nat} (h : i < b.length) : (b.map bv)[i]? = some (bv (byteAt b i)) := by
  unfold byteAt
  rw [List.getElem?_map, List.getElem?_eq_getElem h]; rfl

theorem words_spec (R : HP) (xs : List UInt8) (g : Addr) (c : Nat) (hr : Reads R g (xs.map bv)) (hx : xs.length = 64) :
    Spec Try.prog 51 [.slice (some g) 64 c] R (fun _ : Unit => .agg (wRow xs 64).toArray) (fun _ => R) := by
  refine spec_of Try.func51 rfl Try.ntmps51 rfl fun W0 => ?_
  repeat (first | refine ct_seq ?_ | (refine ct_region' rfl ?_; simp only [List.map, lite]))
  refine rt_op (wants_none rfl) (o_alloc (zc := wRow xs 0) rfl (by rfl) fun q => ?_)
  repeat (first | refine ct_seq ?_ | (refine ct_region' rfl ?_; simp only [List.map, lite]) | refine rt_nil ?_ | refine q_then ?_)
  refine rg rfl (g_buildA0 (zc := wRow xs 0) (by rfl)) rfl rfl ?_
  skip
  refine rt_op (wants_none rfl) (o_alloc (zc := wRow xs 0) rfl (by rfl) fun p => ?_)
  skip
  refine rt_op (wants_none rfl) (o_storeAgg (vl := wRow xs 0) rfl rfl (by rfl) (wvs_all _) (wRow_len xs 0 (by omega)) (by rfl) ?_)
  repeat (first | refine ct_seq ?_ | refine ct_block ?_ | (refine ct_region' rfl ?_; simp only [List.map, lite]) | refine rt_nil ?_ | refine q_then ?_ | refine rg rfl (g_assign (by conv => lhs; whnf)) rfl rfl ?_)
  refine ct_loop (ι := { t : Nat // t ≤ 16 }) (fun t => [(0, .slice (some g) 64 c), (2, .pointer (some ⟨q, 0, none⟩)), (3, .pointer (some ⟨p, 0, none⟩)), (4, .int .i64 (t.1 : Int))]) (fun t => Blk p (wRow xs t.1) 63 * (Blk q (wRow xs 0) 63 * R)) (fun t => 16 - t.1)
    ⟨0, by omega⟩ ⟨rfl, rfl, rfl, rfl, trivial⟩ (by exact En.ent) fun t ρ' => ?_
  obtain ⟨t, ht⟩ := t
  simp only
  by_cases hlt : t < 16
  · have hrd : Reads (Blk p (wRow xs t) 63 * (Blk q (wRow xs 0) 63 * R)) g (xs.map bv) := (hr.ent (Ent.dropL _ _)).ent (Ent.dropL _ _)
    repeat (first | refine ct_seq ?_ | refine ct_block ?_ | (refine ct_region' rfl ?_; simp only [List.map, lite]) | refine rt_nil ?_ | refine ct_skip ?_ | refine q_then ?_ | refine ct_true rfl ?_ | refine rg rfl (g_move (by conv => lhs; whnf)) rfl rfl ?_ | (refine rg rfl (g_lssT rfl rfl ?_) rfl rfl ?_; (· (omega))))
    refine ct_tail 35 (by kernel_rfl) rfl ?_
    simp only [List.map, lite, List.take, List.drop]
    repeat (first | refine qg rfl (g_move (by conv => lhs; whnf)) rfl rfl ?_ | (refine qg rfl (g_mulN rfl rfl ?_) rfl rfl ?_; (· (constructor <;> omega))))
    refine qg rfl (g_elemR1 (j := 4 * t) rfl rfl ?_ ?_ ?_) rfl rfl ?_; (· omega); (· omega); (· omega)
    refine qg rfl (g_load_at (i := 4 * t) rfl hrd (byte_get (by omega))) rfl rfl ?_
    repeat (first | refine qg rfl (g_convW rfl) rfl rfl ?_ | (refine qg rfl (g_shl32 rfl rfl (by conv => lhs; whnf) ?_ ?_) rfl rfl ?_; (· (first | omega | decide)); (· (first | omega | decide))) | refine qg rfl (g_move (by conv => lhs; whnf)) rfl rfl ?_ | (refine qg rfl (g_addN rfl rfl ?_) rfl rfl ?_; (· (constructor <;> omega))) | (refine qg rfl (g_mulN rfl rfl ?_) rfl rfl ?_; (· (constructor <;> omega))))
    refine qg rfl (g_elemR1 (j := 4 * t + 1) rfl rfl ?_ ?_ ?_) rfl rfl ?_; (· omega); (· omega); (· omega)
    refine qg rfl (g_load_at (i := 4 * t + 1) rfl hrd (byte_get (by omega))) rfl rfl ?_
    repeat (first | refine qg rfl (g_or32 rfl rfl) rfl rfl ?_ | refine qg rfl (g_convW rfl) rfl rfl ?_ | (refine qg rfl (g_shl32 rfl rfl (by conv => lhs; whnf) ?_ ?_) rfl rfl ?_; (· (first | omega | decide)); (· (first | omega | decide))) | refine qg rfl (g_move (by conv => lhs; whnf)) rfl rfl ?_ | (refine qg rfl (g_addN rfl rfl ?_) rfl rfl ?_; (· (constructor <;> omega))) | (refine qg rfl (g_mulN rfl rfl ?_) rfl rfl ?_; (· (constructor <;> omega))))
    refine qg rfl (g_elemR1 (j := 4 * t + 2) rfl rfl ?_ ?_ ?_) rfl rfl ?_; (· omega); (· omega); (· omega)
    refine qg rfl (g_load_at (i := 4 * t + 2) rfl hrd (byte_get (by omega))) rfl rfl ?_
    repeat (first | refine qg rfl (g_or32 rfl rfl) rfl rfl ?_ | refine qg rfl (g_convW rfl) rfl rfl ?_ | (refine qg rfl (g_shl32 rfl rfl (by conv => lhs; whnf) ?_ ?_) rfl rfl ?_; (· (first | omega | decide)); (· (first | omega | decide))) | refine qg rfl (g_move (by conv => lhs; whnf)) rfl rfl ?_ | (refine qg rfl (g_addN rfl rfl ?_) rfl rfl ?_; (· (constructor <;> omega))) | (refine qg rfl (g_mulN rfl rfl ?_) rfl rfl ?_; (· (constructor <;> omega))))
    refine qg rfl (g_elemR1 (j := 4 * t + 3) rfl rfl ?_ ?_ ?_) rfl rfl ?_; (· omega); (· omega); (· omega)
    refine qg rfl (g_load_at (i := 4 * t + 3) rfl hrd (byte_get (by omega))) rfl rfl ?_
    repeat (first | refine qg rfl (g_or32 rfl rfl) rfl rfl ?_ | refine qg rfl (g_convW rfl) rfl rfl ?_)
    refine qg rfl (g_elemA1 (j := t) rfl rfl ?_ ?_ ?_) rfl rfl ?_; (· omega); (· omega); (· omega)
    refine rq_tail ?_
    have hset := wRow_set xs t (by omega)
    rw [wNext, if_pos hlt] at hset
    refine rt_op (wants_none rfl) (o_store (v := wv (w0 xs t)) rfl rfl rfl (by rw [wRow_len xs t (by omega)]; simp [Nat.blt_eq]; omega) hset ?_)
    repeat (first | (refine ct_region' rfl ?_; simp only [List.map, lite]) | refine rt_nil ?_ | refine q_then ?_ | refine q_block ?_ | refine rg rfl (g_move (by conv => lhs; whnf)) rfl rfl ?_ | refine rg rfl (g_assign (by conv => lhs; whnf)) rfl rfl ?_ | (refine rg rfl (g_addN rfl rfl ?_) rfl rfl ?_; (· (constructor <;> omega))))
    refine q_again ⟨t + 1, by omega⟩ (by show 16 - (t + 1) < 16 - t; omega) ⟨rfl, rfl, rfl, rfl, trivial⟩ (by exact En.ent)
  · obtain rfl : t = 16 := by omega
    repeat (first | refine ct_seq ?_ | refine ct_block ?_ | (refine ct_region' rfl ?_; simp only [List.map, lite]) | refine rt_nil ?_ | refine ct_exit ?_ | refine q_then ?_ | refine q_then_exit ?_ | refine q_block_exit ?_ | refine ct_false rfl ?_ | refine rg rfl (g_move (by conv => lhs; whnf)) rfl rfl ?_ | refine rg rfl (g_assign (by conv => lhs; whnf)) rfl rfl ?_ | (refine rg rfl (g_lssF rfl rfl ?_) rfl rfl ?_; (· (omega))))
    refine ct_loop (ι := { t : Nat // 16 ≤ t ∧ t ≤ 64 }) (fun t => [(0, .slice (some g) 64 c), (2, .pointer (some ⟨q, 0, none⟩)), (3, .pointer (some ⟨p, 0, none⟩)), (5, .int .i64 (t.1 : Int))]) (fun t => Blk p (wRow xs t.1) 63 * (Blk q (wRow xs 0) 63 * R)) (fun t => 64 - t.1)
      ⟨16, by omega⟩ ⟨rfl, rfl, rfl, rfl, trivial⟩ (by exact En.ent) fun t ρ' => ?_
    obtain ⟨t, ht1, ht2⟩ := t
    simp only
    by_cases hlt : t < 64
    · repeat (first | refine ct_seq ?_ | refine ct_block ?_ | (refine ct_region' rfl ?_; simp only [List.map, lite]) | refine rt_nil ?_ | refine ct_skip ?_ | refine q_then ?_ | refine ct_true rfl ?_ | refine rg rfl (g_move (by conv => lhs; whnf)) rfl rfl ?_ | (refine rg rfl (g_lssT rfl rfl ?_) rfl rfl ?_; (· (omega))))
      refine ct_quiet (by kernel_rfl) rfl ?_
      simp only [List.map, lite]
      repeat (first | refine qg rfl (g_move (by conv => lhs; whnf)) rfl rfl ?_ | (refine qg rfl (g_subN rfl rfl ?_) rfl rfl ?_; (· (constructor <;> omega))))
      refine qg rfl (g_elemA1 (j := t - 15) rfl rfl ?_ ?_ ?_) rfl rfl ?_; (· omega); (· omega); (· omega)
      refine qg rfl (g_load rfl (wRow_get xs t (t - 15) (by omega))) rfl rfl ?_
      repeat (first | refine qg rfl (g_move (by conv => lhs; whnf)) rfl rfl ?_ | (refine qg rfl (g_subN rfl rfl ?_) rfl rfl ?_; (· (constructor <;> omega))))
      refine qg rfl (g_elemA1 (j := t - 2) rfl rfl ?_ ?_ ?_) rfl rfl ?_; (· omega); (· omega); (· omega)
      refine qg rfl (g_load rfl (wRow_get xs t (t - 2) (by omega))) rfl rfl ?_
      repeat (first | refine rq_nil ?_ | refine qg rfl (g_assign (by conv => lhs; whnf)) rfl rfl ?_)
      repeat (first | refine ct_seq ?_ | (refine ct_region' rfl ?_; simp only [List.map, lite]) | refine q_then ?_ | refine rg rfl (g_move (by conv => lhs; whnf)) rfl rfl ?_)
      refine rt_op (wants_none rfl) (o_call rfl rfl (turnedR_spec _ (wAt (wsUpto xs t) (t - 15)) 7 (by decide) (by decide)) fun _ => ?_)
      refine rg rfl (g_move (by conv => lhs; whnf)) rfl rfl ?_
      refine rt_op (wants_none rfl) (o_call rfl rfl (turnedR_spec _ (wAt (wsUpto xs t) (t - 15)) 18 (by decide) (by decide)) fun _ => ?_)
      repeat (first | refine ct_seq ?_ | (refine ct_region' rfl ?_; simp only [List.map, lite]) | refine rt_nil ?_ | refine q_then ?_ | refine rg rfl (g_xor32 rfl rfl) rfl rfl ?_ | (refine rg rfl (g_shr32 rfl rfl (by conv => lhs; whnf) ?_ ?_) rfl rfl ?_; (· (first | omega | decide)); (· (first | omega | decide))) | refine rg rfl (g_move (by conv => lhs; whnf)) rfl rfl ?_ | refine rg rfl (g_assign (by conv => lhs; whnf)) rfl rfl ?_)
      refine rt_op (wants_none rfl) (o_call rfl rfl (turnedR_spec _ (wAt (wsUpto xs t) (t - 2)) 17 (by decide) (by decide)) fun _ => ?_)
      refine rg rfl (g_move (by conv => lhs; whnf)) rfl rfl ?_
      refine rt_op (wants_none rfl) (o_call rfl rfl (turnedR_spec _ (wAt (wsUpto xs t) (t - 2)) 19 (by decide) (by decide)) fun _ => ?_)
      repeat (first | refine rt_nil ?_ | refine q_then ?_ | refine rg rfl (g_xor32 rfl rfl) rfl rfl ?_ | (refine rg rfl (g_shr32 rfl rfl (by conv => lhs; whnf) ?_ ?_) rfl rfl ?_; (· (first | omega | decide)); (· (first | omega | decide))) | refine rg rfl (g_move (by conv => lhs; whnf)) rfl rfl ?_ | refine rg rfl (g_assign (by conv => lhs; whnf)) rfl rfl ?_)
      refine ct_tail 15 (by kernel_rfl) rfl ?_
      simp only [List.map, lite, List.take, List.drop]
      repeat (first | refine qg rfl (g_move (by conv => lhs; whnf)) rfl rfl ?_ | (refine qg rfl (g_subN rfl rfl ?_) rfl rfl ?_; (· (constructor <;> omega))))
      refine qg rfl (g_elemA1 (j := t - 16) rfl rfl ?_ ?_ ?_) rfl rfl ?_; (· omega); (· omega); (· omega)
      refine qg rfl (g_load rfl (wRow_get xs t (t - 16) (by omega))) rfl rfl ?_
      repeat (first | refine qg rfl (g_add32 rfl rfl) rfl rfl ?_ | refine qg rfl (g_move (by conv => lhs; whnf)) rfl rfl ?_ | (refine qg rfl (g_subN rfl rfl ?_) rfl rfl ?_; (· (constructor <;> omega))))
      refine qg rfl (g_elemA1 (j := t - 7) rfl rfl ?_ ?_ ?_) rfl rfl ?_; (· omega); (· omega); (· omega)
      refine qg rfl (g_load rfl (wRow_get xs t (t - 7) (by omega))) rfl rfl ?_
      repeat (first | refine qg rfl (g_add32 rfl rfl) rfl rfl ?_ | refine qg rfl (g_move (by conv => lhs; whnf)) rfl rfl ?_)
      refine qg rfl (g_elemA1 (j := t) rfl rfl ?_ ?_ ?_) rfl rfl ?_; (· omega); (· omega); (· omega)
      refine rq_tail ?_
      have hset := wRow_set xs t hlt
      rw [wNext, if_neg (by omega)] at hset
      refine rt_op (wants_none rfl) (o_store (v := wv (((wAt (wsUpto xs t) (t - 16) + sg0 (wAt (wsUpto xs t) (t - 15))) + wAt (wsUpto xs t) (t - 7)) + sg1 (wAt (wsUpto xs t) (t - 2)))) rfl rfl rfl (by rw [wRow_len xs t (by omega)]; simp [Nat.blt_eq]; omega) hset ?_)
      repeat (first | (refine ct_region' rfl ?_; simp only [List.map, lite]) | refine rt_nil ?_ | refine q_then ?_ | refine q_block ?_ | refine rg rfl (g_move (by conv => lhs; whnf)) rfl rfl ?_ | refine rg rfl (g_assign (by conv => lhs; whnf)) rfl rfl ?_ | (refine rg rfl (g_addN rfl rfl ?_) rfl rfl ?_; (· (constructor <;> omega))))
      refine q_again ⟨t + 1, by omega⟩ (by show 64 - (t + 1) < 64 - t; omega) ⟨rfl, rfl, rfl, rfl, trivial⟩ (by exact En.ent)
    · have h64 : t = 64 := by omega
      have hlen := wRow_len xs t ht2
      repeat (first | refine ct_seq ?_ | (refine ct_region' rfl ?_; simp only [List.map, lite]) | refine rt_nil ?_ | refine ct_exit ?_ | refine q_then ?_ | refine q_then_exit ?_ | refine q_block_exit ?_ | refine ct_false rfl ?_ | refine rg rfl (g_move (by conv => lhs; whnf)) rfl rfl ?_ | (refine rg rfl (g_lssF rfl rfl ?_) rfl rfl ?_; (· (omega))))
      refine rg rfl (g_load_agg rfl hlen (reads_blk (p := p) (cs := wRow xs t) (by intro j v h; simpa using h))) rfl rfl ?_
      skip
      refine rt_op (wants_none rfl) (o_storeAgg (vl := wRow xs t) rfl rfl (by rfl) (wvs_all _) hlen (wRow_len xs 0 (by omega)) ?_)
      repeat (first | refine rt_nil ?_ | refine ct_ret ?_ | refine q_then ?_)
      exact q_retC Try.results51 (cell_blk rfl hlen) () (by rw [h64]) En.ent
end Go.Proofs.Ytmhddmenmkjdlaa
