/- The reference's reader: Wrong, Left, Byte, Zag. -/
import Derived.Test.YtfcanppeiadbhaaB6
import Derived.Test.YtfcanppeiadbhaaE
namespace Go.Proofs.Ytfcanppeiadbhaa
open Go.RowKit
attribute [local irreducible] Gives RT CT QT Spec Wants Reads Src Ent OT RQ AnyT AnyOp Again Code.wp Post

def atOf (why pos : Nat) : Nat := if why = 0 then 0 else pos
theorem atOf_zero (pos : Nat) : atOf 0 pos = 0 := rfl
theorem atOf_pos {why : Nat} (h : why ≠ 0) (pos : Nat) : atOf why pos = pos := if_neg h
abbrev RinA (x : Nat) (a : Option Addr) (c n pos why : Nat) : HP := Blk x [.slice a n c, .int .i64 (pos : Int), .int .i64 (why : Int), .int .i64 (atOf why pos : Nat)] 61
abbrev errR (why pos : Nat) : Value := .agg #[.int .i64 (why : Int), .int .i64 (atOf why pos : Nat)]

theorem refWrong_new (R : HP) (x : Nat) (a : Option Addr) (c n pos why : Nat) (hw : why ≠ 0) :
    Spec Try.prog 66 [.pointer (some ⟨x, 0, none⟩), .int .i64 (why : Int), .int .i64 (pos : Int)] (RinA x a c n pos 0 * R) (fun _ : Unit => errR why pos) (fun _ => RinA x a c n pos why * R) := by
  refine spec_of Try.func66 rfl Try.ntmps66 rfl fun W0 => ?_
  have hat : atOf why pos = pos := if_neg hw
  unfold RinA errR
  rw [hat]
  focus
    refine ct_seq ?_
    (refine ct_region' rfl ?_; simp only [List.map, lite])
    (refine rt_op (wants_none rfl) (o_alloc rfl (by conv => lhs; whnf) fun b6 => ?_))
    refine rt_nil ?_
    refine q_then ?_
    refine ct_seq ?_
    refine ct_seq ?_
    (refine ct_region' rfl ?_; simp only [List.map, lite])
    (refine rg rfl (g_move (by conv => lhs; whnf)) rfl rfl ?_)
    (refine rg rfl (g_nil rfl) rfl rfl ?_)
    (refine rg rfl (g_field0 rfl) rfl rfl ?_)
    (refine rg rfl (g_field rfl) rfl rfl ?_)
    (refine rg rfl (g_load rfl (by conv => lhs; whnf)) rfl rfl ?_)
    (refine rg rfl (g_eqlT rfl rfl ?_) rfl rfl ?_; (· (omega)))
    refine rt_nil ?_
    refine q_then ?_
    refine ct_true rfl ?_
    refine ct_seq ?_
    (refine ct_region' rfl ?_; simp only [List.map, lite])
    (refine rg rfl (g_move (by conv => lhs; whnf)) rfl rfl ?_)
    (refine rg rfl (g_move (by conv => lhs; whnf)) rfl rfl ?_)
    (refine rg rfl (g_move (by conv => lhs; whnf)) rfl rfl ?_)
    (refine rg rfl (g_build (by simp only [ev, upd, updl, argl, nat_beq_def, Nat.reduceBEq, cond_true, cond_false, List.map_cons, List.map_nil]; rfl) (by simp [fillL, Value.cells]; rfl)) rfl rfl ?_)
    (refine rg rfl (g_nil rfl) rfl rfl ?_)
    (refine rg rfl (g_field0 rfl) rfl rfl ?_)
    (refine rt_op (wants_none rfl) (o_storeAgg_off rfl (by conv => lhs; whnf) (by conv => lhs; whnf) (by first | rfl | exact bvsAll _ | exact wvs_all _ | assumption) (by first | rfl | assumption | (simp; done) | (simp; omega)) (by simp) (by simp only [List.drop_succ_cons, List.drop_zero, List.take_succ_cons, List.take_zero, List.cons_append, List.nil_append, List.append_nil]; exact rfl) ?_))
    refine rt_nil ?_
    refine q_then ?_
    (refine ct_region' rfl ?_; simp only [List.map, lite])
    (refine rg rfl (g_move (by conv => lhs; whnf)) rfl rfl ?_)
    (refine rg rfl (g_move (by conv => lhs; whnf)) rfl rfl ?_)
    (refine rg rfl (g_nil rfl) rfl rfl ?_)
    (refine rg rfl (g_field0 rfl) rfl rfl ?_)
    (refine rt_op (wants_none rfl) (o_store rfl (by conv => lhs; whnf) rfl rfl (by first | (simp only [List.set_cons_zero, List.set_cons_succ]; exact rfl) | exact rfl) ?_))
    refine rt_nil ?_
    refine q_then ?_
    refine ct_seq ?_
    (refine ct_region' rfl ?_; simp only [List.map, lite])
    (refine rg rfl (g_move (by conv => lhs; whnf)) rfl rfl ?_)
    (refine rg rfl (g_nil rfl) rfl rfl ?_)
    (refine rg rfl (g_field0 rfl) rfl rfl ?_)
    (refine rg rfl (g_loadAgg_off rfl (by simp only [List.drop_succ_cons, List.drop_zero, List.take_succ_cons, List.take_zero]; exact rfl) (by rfl)) rfl rfl ?_)
    (refine rt_op (wants_none rfl) (o_storeAgg rfl (by conv => lhs; whnf) (by conv => lhs; whnf) (by first | rfl | exact bvsAll _ | exact wvs_all _ | assumption) (by first | rfl | assumption | (simp; done) | (simp; omega)) (by first | rfl | assumption | (simp; done) | (simp; omega)) ?_))
    refine rt_nil ?_
    refine q_then ?_
    refine ct_ret ?_
    exact q_retC rfl (cell_blk rfl (by first | rfl | assumption | (simp; done) | (simp; omega))) () rfl En.ent
theorem refLeft_spec (R : HP) (x : Nat) (a : Option Addr) (c n pos why : Nat) (hp : pos ≤ n) (hn : n ≤ 140737488355328) :
    Spec Try.prog 26 [.pointer (some ⟨x, 0, none⟩)] (RinA x a c n pos why * R) (fun _ : Unit => .int .i64 ((n - pos : Nat) : Int)) (fun _ => RinA x a c n pos why * R) := by
  refine spec_of Try.func26 rfl Try.ntmps26 rfl fun W0 => ?_
  focus
    refine ct_seq ?_
    (refine ct_region' rfl ?_; simp only [List.map, lite])
    (refine rg rfl (g_assign (by conv => lhs; whnf)) rfl rfl ?_)
    refine rt_nil ?_
    refine q_then ?_
    refine ct_seq ?_
    refine ct_quiet (by kernel_rfl) rfl ?_
    simp only [List.map, lite]
    (refine qg rfl (g_move (by conv => lhs; whnf)) rfl rfl ?_)
    (refine qg rfl (g_nil rfl) rfl rfl ?_)
    (refine qg rfl (g_field0 rfl) rfl rfl ?_)
    (refine qg rfl (g_load rfl (by conv => lhs; whnf)) rfl rfl ?_)
    (refine qg rfl (g_len_slice rfl) rfl rfl ?_)
    (refine qg rfl (g_move (by conv => lhs; whnf)) rfl rfl ?_)
    (refine qg rfl (g_nil rfl) rfl rfl ?_)
    (refine qg rfl (g_field0 rfl) rfl rfl ?_)
    (refine qg rfl (g_load rfl (by conv => lhs; whnf)) rfl rfl ?_)
    (refine qg rfl (g_subNN rfl rfl ?_ ?_) rfl rfl ?_; (· (omega)); (· (constructor <;> omega)))
    (refine qg rfl (g_assign (by conv => lhs; whnf)) rfl rfl ?_)
    refine rq_nil ?_
    refine q_then ?_
    refine ct_ret ?_
    exact q_ret1 rfl rfl () rfl En.ent
theorem refZag_spec (R : HP) (x : Nat) (hx : x < 2 ^ 64) : Spec Try.prog 68 [.int .u64 (x : Int)] R (fun _ : Unit => .int .i64 (zag x)) (fun _ => R) := by
  refine spec_of Try.func68 rfl Try.ntmps68 rfl fun W0 => ?_
  have hz : zag x = if x % 2 = 0 then ((x / 2 : Nat) : Int) else -((x / 2 : Nat) : Int) - 1 := rfl
  by_cases h : x % 2 = 0
  · rw [if_pos h] at hz
    focus
      refine ct_seq ?_
      (refine ct_region' rfl ?_; simp only [List.map, lite])
      (refine rg rfl (g_assign (by conv => lhs; whnf)) rfl rfl ?_)
      refine rt_nil ?_
      refine q_then ?_
      refine ct_seq ?_
      refine ct_seq ?_
      (refine ct_region' rfl ?_; simp only [List.map, lite])
      (refine rg rfl (g_move (by conv => lhs; whnf)) rfl rfl ?_)
      (refine rg rfl (g_remN rfl rfl ?_ ?_) rfl rfl ?_; (· (omega)); (· (omega)))
      (refine rg rfl (g_eqlT rfl rfl ?_) rfl rfl ?_; (· (omega)))
      refine rt_nil ?_
      refine q_then ?_
      refine ct_true rfl ?_
      refine ct_seq ?_
      (refine ct_region' rfl ?_; simp only [List.map, lite])
      (refine rg rfl (g_move (by conv => lhs; whnf)) rfl rfl ?_)
      (refine rg rfl (g_quoN rfl rfl ?_ ?_ ?_) rfl rfl ?_; (· (omega)); (· (omega)); (· (constructor <;> omega)))
      (refine rg rfl (g_convN rfl ?_) rfl rfl ?_; (· (constructor <;> omega)))
      (refine rg rfl (g_assign (by conv => lhs; whnf)) rfl rfl ?_)
      refine rt_nil ?_
      refine q_then ?_
      refine ct_ret ?_
      refine q_then_ret ?_
      exact q_ret1 rfl (by conv => lhs; whnf) () (congrArg (Value.int _) (by omega)) En.ent
  · rw [if_neg h] at hz
    focus
      refine ct_seq ?_
      (refine ct_region' rfl ?_; simp only [List.map, lite])
      (refine rg rfl (g_assign (by conv => lhs; whnf)) rfl rfl ?_)
      refine rt_nil ?_
      refine q_then ?_
      refine ct_seq ?_
      refine ct_seq ?_
      (refine ct_region' rfl ?_; simp only [List.map, lite])
      (refine rg rfl (g_move (by conv => lhs; whnf)) rfl rfl ?_)
      (refine rg rfl (g_remN rfl rfl ?_ ?_) rfl rfl ?_; (· (omega)); (· (omega)))
      (refine rg rfl (g_eqlF rfl rfl ?_) rfl rfl ?_; (· (omega)))
      refine rt_nil ?_
      refine q_then ?_
      refine ct_false rfl ?_
      refine ct_skip ?_
      refine q_then ?_
      refine ct_seq ?_
      (refine ct_region' rfl ?_; simp only [List.map, lite])
      (refine rg rfl (g_move (by conv => lhs; whnf)) rfl rfl ?_)
      (refine rg rfl (g_quoN rfl rfl ?_ ?_ ?_) rfl rfl ?_; (· (omega)); (· (omega)); (· (constructor <;> omega)))
      (refine rg rfl (g_convN rfl ?_) rfl rfl ?_; (· (constructor <;> omega)))
      (refine rg rfl (g_negN rfl ?_) rfl rfl ?_; (· (constructor <;> omega)))
      (refine rg rfl (g_subN rfl rfl ?_) rfl rfl ?_; (· (constructor <;> omega)))
      (refine rg rfl (g_assign (by conv => lhs; whnf)) rfl rfl ?_)
      refine rt_nil ?_
      refine q_then ?_
      refine ct_ret ?_
      exact q_ret1 rfl (by conv => lhs; whnf) () (congrArg (Value.int _) (by omega)) En.ent
/-- a byte: what is read, where it stands then, what is wrong then -/
def byteS (xs : List UInt8) (pos why : Nat) : UInt8 × Nat × Nat := if why ≠ 0 then (0, pos, why) else if xs.length ≤ pos then (0, pos, 20) else (xs.getD pos 0, pos + 1, 0)
theorem refByte_spec (R : HP) (x : Nat) (a : Option Addr) (c : Nat) (xs : List UInt8) (pos why : Nat) [hr : Rd R a (xs.map bv)] (hp : pos ≤ xs.length) (hn : xs.length ≤ 140737488355328) :
    Spec Try.prog 49 [.pointer (some ⟨x, 0, none⟩)] (RinA x a c xs.length pos why * R) (fun _ : Unit => .tuple #[bv (byteS xs pos why).1, errR (byteS xs pos why).2.2 (byteS xs pos why).2.1]) (fun _ => RinA x a c xs.length (byteS xs pos why).2.1 (byteS xs pos why).2.2 * R) := by
  refine spec_of Try.func49 rfl Try.ntmps49 rfl fun W0 => ?_
  by_cases hw : why = 0
  · subst hw
    by_cases hs : xs.length ≤ pos
    · have e : byteS xs pos 0 = (0, pos, 20) := by unfold byteS; simp [hs]
      rw [e]
      focus
        refine ct_seq ?_
        (refine ct_region' rfl ?_; simp only [List.map, lite])
        (refine rg rfl (g_assign (by conv => lhs; whnf)) rfl rfl ?_)
        (refine rt_op (wants_none rfl) (o_alloc rfl (by conv => lhs; whnf) fun b3 => ?_))
        refine rt_nil ?_
        refine q_then ?_
        refine ct_seq ?_
        refine ct_seq ?_
        (refine ct_region' rfl ?_; simp only [List.map, lite])
        (refine rg rfl (g_move (by conv => lhs; whnf)) rfl rfl ?_)
        (refine rg rfl (g_nil rfl) rfl rfl ?_)
        (refine rg rfl (g_field0 rfl) rfl rfl ?_)
        (refine rg rfl (g_field rfl) rfl rfl ?_)
        (refine rg rfl (g_load rfl (by conv => lhs; whnf)) rfl rfl ?_)
        (refine rg rfl (g_neqF rfl rfl ?_) rfl rfl ?_; (· (omega)))
        refine rt_nil ?_
        refine q_then ?_
        refine ct_false rfl ?_
        refine ct_skip ?_
        refine q_then ?_
        refine ct_seq ?_
        refine ct_seq ?_
        (refine ct_region' rfl ?_; simp only [List.map, lite])
        (refine rg rfl (g_move (by conv => lhs; whnf)) rfl rfl ?_)
        (refine rt_op (wants_none rfl) (o_callE rfl rfl (ent_right (Ent.refl _)) (Go.Proofs.Ytfcanppeiadbhaa.refLeft_spec _ _ _ _ _ _ _ ?_ ?_) fun i15 => ?_); (· (first | assumption | omega | rfl | decide | (simp; done) | (simp; omega) | (simp only [*]; done))); (· (first | assumption | omega | rfl | decide | (simp; done) | (simp; omega) | (simp only [*]; done))))
        (refine rg rfl (g_lssT rfl rfl ?_) rfl rfl ?_; (· (omega)))
        refine rt_nil ?_
        refine q_then ?_
        refine ct_true rfl ?_
        refine ct_seq ?_
        (refine ct_region' rfl ?_; simp only [List.map, lite])
        (refine rg rfl (g_move (by conv => lhs; whnf)) rfl rfl ?_)
        (refine rg rfl (g_move (by conv => lhs; whnf)) rfl rfl ?_)
        (refine rg rfl (g_nil rfl) rfl rfl ?_)
        (refine rg rfl (g_field0 rfl) rfl rfl ?_)
        (refine rg rfl (g_load rfl (by conv => lhs; whnf)) rfl rfl ?_)
        (refine rt_op (wants_none rfl) (o_callE rfl rfl (Ent.refl _) (Go.Proofs.Ytfcanppeiadbhaa.refWrong_new _ _ _ _ _ _ _ ?_) fun i22 => ?_); (· (first | assumption | omega | rfl | decide | (simp; done) | (simp; omega) | (simp only [*]; done))))
        (refine rg rfl (g_assign (by conv => lhs; whnf)) rfl rfl ?_)
        (refine rt_op (wants_none rfl) (o_storeAgg rfl (by conv => lhs; whnf) (by conv => lhs; whnf) (by first | rfl | exact bvsAll _ | exact wvs_all _ | assumption) (by first | rfl | assumption | (simp; done) | (simp; omega)) (by first | rfl | assumption | (simp; done) | (simp; omega)) ?_))
        refine rt_nil ?_
        refine q_then ?_
        refine ct_ret ?_
        refine q_then_ret ?_
        exact q_retTC rfl rfl (cell_blk rfl (by first | rfl | assumption | (simp; done) | (simp; omega))) () rfl En.ent
    · have e : byteS xs pos 0 = (xs.getD pos 0, pos + 1, 0) := by unfold byteS; simp [hs]
      rw [e]
      focus
        refine ct_seq ?_
        (refine ct_region' rfl ?_; simp only [List.map, lite])
        (refine rg rfl (g_assign (by conv => lhs; whnf)) rfl rfl ?_)
        (refine rt_op (wants_none rfl) (o_alloc rfl (by conv => lhs; whnf) fun b3 => ?_))
        refine rt_nil ?_
        refine q_then ?_
        refine ct_seq ?_
        refine ct_seq ?_
        (refine ct_region' rfl ?_; simp only [List.map, lite])
        (refine rg rfl (g_move (by conv => lhs; whnf)) rfl rfl ?_)
        (refine rg rfl (g_nil rfl) rfl rfl ?_)
        (refine rg rfl (g_field0 rfl) rfl rfl ?_)
        (refine rg rfl (g_field rfl) rfl rfl ?_)
        (refine rg rfl (g_load rfl (by conv => lhs; whnf)) rfl rfl ?_)
        (refine rg rfl (g_neqF rfl rfl ?_) rfl rfl ?_; (· (omega)))
        refine rt_nil ?_
        refine q_then ?_
        refine ct_false rfl ?_
        refine ct_skip ?_
        refine q_then ?_
        refine ct_seq ?_
        refine ct_seq ?_
        (refine ct_region' rfl ?_; simp only [List.map, lite])
        (refine rg rfl (g_move (by conv => lhs; whnf)) rfl rfl ?_)
        (refine rt_op (wants_none rfl) (o_callE rfl rfl (ent_right (Ent.refl _)) (Go.Proofs.Ytfcanppeiadbhaa.refLeft_spec _ _ _ _ _ _ _ ?_ ?_) fun i15 => ?_); (· (first | assumption | omega | rfl | decide | (simp; done) | (simp; omega) | (simp only [*]; done))); (· (first | assumption | omega | rfl | decide | (simp; done) | (simp; omega) | (simp only [*]; done))))
        (refine rg rfl (g_lssF rfl rfl ?_) rfl rfl ?_; (· (omega)))
        refine rt_nil ?_
        refine q_then ?_
        refine ct_false rfl ?_
        refine ct_skip ?_
        refine q_then ?_
        refine ct_seq ?_
        (refine ct_region' rfl ?_; simp only [List.map, lite])
        (refine rg rfl (g_move (by conv => lhs; whnf)) rfl rfl ?_)
        (refine rg rfl (g_nil rfl) rfl rfl ?_)
        (refine rg rfl (g_field0 rfl) rfl rfl ?_)
        (refine rg rfl (g_load rfl (by conv => lhs; whnf)) rfl rfl ?_)
        (refine rg rfl (g_addN rfl rfl ?_) rfl rfl ?_; (· (constructor <;> omega)))
        (refine rg rfl (g_nil rfl) rfl rfl ?_)
        (refine rg rfl (g_field0 rfl) rfl rfl ?_)
        (refine rt_op (wants_none rfl) (o_store rfl (by conv => lhs; whnf) rfl rfl (by first | (simp only [List.set_cons_zero, List.set_cons_succ]; exact rfl) | exact rfl) ?_))
        refine rt_nil ?_
        refine q_then ?_
        refine ct_seq ?_
        refine ct_tail 13 (by kernel_rfl) rfl ?_
        simp only [List.map, lite, List.take, List.drop]
        (refine qg rfl (g_move (by conv => lhs; whnf)) rfl rfl ?_)
        (refine qg rfl (g_nil rfl) rfl rfl ?_)
        (refine qg rfl (g_field0 rfl) rfl rfl ?_)
        (refine qg rfl (g_load rfl (by conv => lhs; whnf)) rfl rfl ?_)
        (refine qg rfl (g_move (by conv => lhs; whnf)) rfl rfl ?_)
        (refine qg rfl (g_nil rfl) rfl rfl ?_)
        (refine qg rfl (g_field0 rfl) rfl rfl ?_)
        (refine qg rfl (g_load rfl (by conv => lhs; whnf)) rfl rfl ?_)
        (refine qg rfl (g_subNN rfl rfl ?_ ?_) rfl rfl ?_; (· (omega)); (· (constructor <;> omega)))
        (refine qg rfl (g_elemO1 rfl rfl ?_ ?_) rfl rfl ?_; (· (first | omega | decide)); (· (first | omega | decide | (exact pos_of_get (by assumption)) | (simp only [List.length_map, List.length_append, List.length_replicate, List.length_set, List.length_cons, List.length_nil]; omega) | (simp; omega))))
        (refine qg rfl (g_load_rd rfl (byte_at ?_)) rfl rfl ?_; (· (first | omega | decide | (exact pos_of_get (by assumption)) | (simp only [List.length_map, List.length_append, List.length_replicate, List.length_set, List.length_cons, List.length_nil]; omega) | (simp; omega))))
        (refine qg rfl (g_build (by simp only [ev, upd, updl, argl, nat_beq_def, Nat.reduceBEq, cond_true, cond_false, List.map_cons, List.map_nil]; rfl) (by simp [fillL, Value.cells]; rfl)) rfl rfl ?_)
        (refine qg rfl (g_assign (by conv => lhs; whnf)) rfl rfl ?_)
        refine rq_tail ?_
        (refine rt_op (wants_none rfl) (o_storeAgg rfl (by conv => lhs; whnf) (by conv => lhs; whnf) (by first | rfl | exact bvsAll _ | exact wvs_all _ | assumption) (by first | rfl | assumption | (simp; done) | (simp; omega)) (by first | rfl | assumption | (simp; done) | (simp; omega)) ?_))
        refine rt_nil ?_
        refine q_then ?_
        refine ct_ret ?_
        exact q_retTC rfl rfl (cell_blk rfl (by first | rfl | assumption | (simp; done) | (simp; omega))) () rfl (Ent.dropL _ _)
  · have e : byteS xs pos why = (0, pos, why) := by unfold byteS; simp [hw]
    rw [e]
    focus
      refine ct_seq ?_
      (refine ct_region' rfl ?_; simp only [List.map, lite])
      (refine rg rfl (g_assign (by conv => lhs; whnf)) rfl rfl ?_)
      (refine rt_op (wants_none rfl) (o_alloc rfl (by conv => lhs; whnf) fun b3 => ?_))
      refine rt_nil ?_
      refine q_then ?_
      refine ct_seq ?_
      refine ct_seq ?_
      (refine ct_region' rfl ?_; simp only [List.map, lite])
      (refine rg rfl (g_move (by conv => lhs; whnf)) rfl rfl ?_)
      (refine rg rfl (g_nil rfl) rfl rfl ?_)
      (refine rg rfl (g_field0 rfl) rfl rfl ?_)
      (refine rg rfl (g_field rfl) rfl rfl ?_)
      (refine rg rfl (g_load rfl (by conv => lhs; whnf)) rfl rfl ?_)
      (refine rg rfl (g_neqT rfl rfl ?_) rfl rfl ?_; (· (omega)))
      refine rt_nil ?_
      refine q_then ?_
      refine ct_true rfl ?_
      refine ct_seq ?_
      refine ct_tail 5 (by kernel_rfl) rfl ?_
      simp only [List.map, lite, List.take, List.drop]
      (refine qg rfl (g_move (by conv => lhs; whnf)) rfl rfl ?_)
      (refine qg rfl (g_nil rfl) rfl rfl ?_)
      (refine qg rfl (g_field0 rfl) rfl rfl ?_)
      (refine qg rfl (g_loadAgg_off rfl (by simp only [List.drop_succ_cons, List.drop_zero, List.take_succ_cons, List.take_zero]; exact rfl) (by rfl)) rfl rfl ?_)
      (refine qg rfl (g_assign (by conv => lhs; whnf)) rfl rfl ?_)
      refine rq_tail ?_
      (refine rt_op (wants_none rfl) (o_storeAgg rfl (by conv => lhs; whnf) (by conv => lhs; whnf) (by first | rfl | exact bvsAll _ | exact wvs_all _ | assumption) (by first | rfl | assumption | (simp; done) | (simp; omega)) (by first | rfl | assumption | (simp; done) | (simp; omega)) ?_))
      refine rt_nil ?_
      refine q_then ?_
      refine ct_ret ?_
      refine q_then_ret ?_
      exact q_retTC rfl rfl (cell_blk rfl (by first | rfl | assumption | (simp; done) | (simp; omega))) () rfl En.ent
end Go.Proofs.Ytfcanppeiadbhaa
