/- The reference's reader: Raw, Bytes, Text, Hash, End. -/
import Derived.Test.YtfcanppeiadbhaaR2
namespace Go.Proofs.Ytfcanppeiadbhaa
open Go.RowKit
attribute [local irreducible] Gives RT CT QT Spec Wants Reads Src Ent OT RQ AnyT AnyOp Again Code.wp Post

/-- so many bytes: what is read, where it stands then, what is wrong then -/
def rawS (xs : List UInt8) (pos why : Nat) (n : Int) : List UInt8 × Nat × Nat := if why ≠ 0 then ([], pos, why) else if n < 0 then ([], pos, 1) else if xs.length < pos + n.toNat then ([], pos, 20) else ((xs.drop pos).take n.toNat, pos + n.toNat, 0)
theorem rawS_len (xs : List UInt8) (pos why : Nat) (n : Int) : (rawS xs pos why n).1.length ≤ xs.length := by
  unfold rawS
  split
  · simp
  · split
    · simp
    · split
      · simp
      · simp; omega
theorem rawS_pos (xs : List UInt8) (pos why : Nat) (n : Int) (hp : pos ≤ xs.length) : (rawS xs pos why n).2.1 ≤ xs.length := by
  unfold rawS
  split
  · exact hp
  · split
    · exact hp
    · split
      · exact hp
      · dsimp only; omega
/-- a slice that is nil, or new memory -/
theorem refRaw_spec (R : HP) (x : Nat) (a : Option Addr) (c : Nat) (xs : List UInt8) (pos why : Nat) (n : Int) [hr : Rd R a (xs.map bv)] (hp : pos ≤ xs.length) (hn : xs.length ≤ 140737488355328) (hi : -9223372036854775808 ≤ n ∧ n ≤ 9223372036854775807) (hc : xs.length ≤ c) (hcn : a = none → c = 0) :
    Spec Try.prog 54 [.pointer (some ⟨x, 0, none⟩), .int .i64 n] (RinA x a c xs.length pos why * R) (fun i : Option Addr × Nat => .tuple #[.slice i.1 (rawS xs pos why n).1.length i.2, errR (rawS xs pos why n).2.2 (rawS xs pos why n).2.1])
      (fun i => Arr 5 1 i.1 i.2 (rawS xs pos why n).1.length ((rawS xs pos why n).1.map bv) * (RinA x a c xs.length (rawS xs pos why n).2.1 (rawS xs pos why n).2.2 * R)) := by
  refine spec_of Try.func54 rfl Try.ntmps54 rfl fun W0 => ?_
  by_cases hw : why = 0
  · subst hw
    by_cases h0 : n < 0
    · have e : rawS xs pos 0 n = ([], pos, 1) := by unfold rawS; simp [h0]
      rw [e]
      focus
        refine ct_seq ?_
        (refine ct_region' rfl ?_; simp only [List.map, lite])
        (refine rg rfl (g_assign (by conv => lhs; whnf)) rfl rfl ?_)
        (refine rt_op (wants_none rfl) (o_alloc rfl (by conv => lhs; whnf) fun b5 => ?_))
        refine rt_nil ?_
        refine q_then ?_
        refine ct_seq ?_
        refine ct_seq ?_
        (refine ct_region' rfl ?_; simp only [List.map, lite])
        (refine rg rfl (g_move (by conv => lhs; whnf)) rfl rfl ?_)
        (refine rg rfl (g_nil rfl) rfl rfl ?_)
        (refine rg rfl (g_field0 rfl) rfl rfl ?_)
        (refine rg rfl (g_field rfl) rfl rfl ?_)
        (refine rg rfl (g_load rfl (by conv => lhs; whnf)) rfl rfl ?_)
        (refine rg rfl (g_neqF rfl rfl ?_) rfl rfl ?_; (· (omega)))
        refine rt_nil ?_
        refine q_then ?_
        refine ct_false rfl ?_
        refine ct_skip ?_
        refine q_then ?_
        refine ct_seq ?_
        refine ct_seq ?_
        (refine ct_region' rfl ?_; simp only [List.map, lite])
        (refine rg rfl (g_move (by conv => lhs; whnf)) rfl rfl ?_)
        (refine rg rfl (g_lssT rfl rfl ?_) rfl rfl ?_; (· (omega)))
        refine rt_nil ?_
        refine q_then ?_
        refine ct_true rfl ?_
        refine ct_seq ?_
        (refine ct_region' rfl ?_; simp only [List.map, lite])
        (refine rg rfl (g_move (by conv => lhs; whnf)) rfl rfl ?_)
        (refine rg rfl (g_move (by conv => lhs; whnf)) rfl rfl ?_)
        (refine rg rfl (g_nil rfl) rfl rfl ?_)
        (refine rg rfl (g_field0 rfl) rfl rfl ?_)
        (refine rg rfl (g_load rfl (by conv => lhs; whnf)) rfl rfl ?_)
        (refine rt_op (wants_none rfl) (o_callE rfl rfl (ent_right (Ent.refl _)) (Go.Proofs.Ytfcanppeiadbhaa.refWrong_new _ _ _ _ _ _ _ ?_) fun i24 => ?_); (· (first | assumption | omega | rfl | decide | infer_instance | (simp; done) | (simp; omega) | (simp only [*]; done))))
        (refine rg rfl (g_assign (by conv => lhs; whnf)) rfl rfl ?_)
        (refine rt_op (wants_none rfl) (o_storeAgg rfl (by conv => lhs; whnf) (by conv => lhs; whnf) (by first | rfl | exact bvsAll _ | exact wvs_all _ | assumption) (by first | rfl | assumption | (simp; done) | (simp; omega)) (by first | rfl | assumption | (simp; done) | (simp; omega)) ?_))
        refine rt_nil ?_
        refine q_then ?_
        refine ct_ret ?_
        refine q_then_ret ?_
        rotate_left
      exact q_retTC rfl rfl (cell_blk rfl (by rfl)) (none, 0) rfl (by simp only [List.map_nil, List.length_nil]; exact En.ent)
    · obtain ⟨m, rfl⟩ : ∃ m : Nat, n = (m : Int) := ⟨n.toNat, by omega⟩
      by_cases hs : xs.length < pos + m
      · have e : rawS xs pos 0 (m : Int) = ([], pos, 20) := by unfold rawS; rw [if_neg (by simp), if_neg (by omega), if_pos (by simpa using hs)]
        rw [e]
        focus
          refine ct_seq ?_
          (refine ct_region' rfl ?_; simp only [List.map, lite])
          (refine rg rfl (g_assign (by conv => lhs; whnf)) rfl rfl ?_)
          (refine rt_op (wants_none rfl) (o_alloc rfl (by conv => lhs; whnf) fun b5 => ?_))
          refine rt_nil ?_
          refine q_then ?_
          refine ct_seq ?_
          refine ct_seq ?_
          (refine ct_region' rfl ?_; simp only [List.map, lite])
          (refine rg rfl (g_move (by conv => lhs; whnf)) rfl rfl ?_)
          (refine rg rfl (g_nil rfl) rfl rfl ?_)
          (refine rg rfl (g_field0 rfl) rfl rfl ?_)
          (refine rg rfl (g_field rfl) rfl rfl ?_)
          (refine rg rfl (g_load rfl (by conv => lhs; whnf)) rfl rfl ?_)
          (refine rg rfl (g_neqF rfl rfl ?_) rfl rfl ?_; (· (omega)))
          refine rt_nil ?_
          refine q_then ?_
          refine ct_false rfl ?_
          refine ct_skip ?_
          refine q_then ?_
          refine ct_seq ?_
          refine ct_seq ?_
          (refine ct_region' rfl ?_; simp only [List.map, lite])
          (refine rg rfl (g_move (by conv => lhs; whnf)) rfl rfl ?_)
          (refine rg rfl (g_lssF rfl rfl ?_) rfl rfl ?_; (· (omega)))
          refine rt_nil ?_
          refine q_then ?_
          refine ct_false rfl ?_
          refine ct_skip ?_
          refine q_then ?_
          refine ct_seq ?_
          refine ct_seq ?_
          (refine ct_region' rfl ?_; simp only [List.map, lite])
          (refine rg rfl (g_move (by conv => lhs; whnf)) rfl rfl ?_)
          (refine rg rfl (g_move (by conv => lhs; whnf)) rfl rfl ?_)
          (refine rt_op (wants_none rfl) (o_callE rfl rfl (ent_right (Ent.refl _)) (Go.Proofs.Ytfcanppeiadbhaa.refLeft_spec _ _ _ _ _ _ _ ?_ ?_) fun i27 => ?_); (· (first | assumption | omega | rfl | decide | infer_instance | (simp; done) | (simp; omega) | (simp only [*]; done))); (· (first | assumption | omega | rfl | decide | infer_instance | (simp; done) | (simp; omega) | (simp only [*]; done))))
          (refine rg rfl (g_gtrT rfl rfl ?_) rfl rfl ?_; (· (omega)))
          refine rt_nil ?_
          refine q_then ?_
          refine ct_true rfl ?_
          refine ct_seq ?_
          (refine ct_region' rfl ?_; simp only [List.map, lite])
          (refine rg rfl (g_move (by conv => lhs; whnf)) rfl rfl ?_)
          (refine rg rfl (g_move (by conv => lhs; whnf)) rfl rfl ?_)
          (refine rg rfl (g_nil rfl) rfl rfl ?_)
          (refine rg rfl (g_field0 rfl) rfl rfl ?_)
          (refine rg rfl (g_load rfl (by conv => lhs; whnf)) rfl rfl ?_)
          (refine rt_op (wants_none rfl) (o_callE rfl rfl (Ent.refl _) (Go.Proofs.Ytfcanppeiadbhaa.refWrong_new _ _ _ _ _ _ _ ?_) fun i34 => ?_); (· (first | assumption | omega | rfl | decide | infer_instance | (simp; done) | (simp; omega) | (simp only [*]; done))))
          (refine rg rfl (g_assign (by conv => lhs; whnf)) rfl rfl ?_)
          (refine rt_op (wants_none rfl) (o_storeAgg rfl (by conv => lhs; whnf) (by conv => lhs; whnf) (by first | rfl | exact bvsAll _ | exact wvs_all _ | assumption) (by first | rfl | assumption | (simp; done) | (simp; omega)) (by first | rfl | assumption | (simp; done) | (simp; omega)) ?_))
          refine rt_nil ?_
          refine q_then ?_
          refine ct_ret ?_
          refine q_then_ret ?_
          rotate_left
        exact q_retTC rfl rfl (cell_blk rfl (by rfl)) (none, 0) rfl (by simp only [List.map_nil, List.length_nil]; exact En.ent)
      · have e : rawS xs pos 0 (m : Int) = ((xs.drop pos).take m, pos + m, 0) := by unfold rawS; rw [if_neg (by simp), if_neg (by omega), if_neg (by simpa using hs)]; simp
        rw [e]
        have hcut : ∀ (A' : HP) [Rd A' a (xs.map bv)], Rd A' (a.map fun g => cutAt g c pos 1) ((xs.drop pos).map bv) := fun A' h => by
          have := h.cut (cap := c) (j := pos) (size := 1) (by simpa using hc)
          rwa [Nat.mul_one, ← List.map_drop] at this
        have hnews : ((xs.drop pos).map bv).take ((pos + m - pos) * 1) = ((xs.drop pos).take m).map bv := by
          rw [Nat.mul_one, show pos + m - pos = m by omega, List.map_take]
        have hlm : ((xs.drop pos).take m).length = m := by rw [List.length_take, List.length_drop]; omega
        focus
          refine ct_seq ?_
          (refine ct_region' rfl ?_; simp only [List.map, lite])
          (refine rg rfl (g_assign (by conv => lhs; whnf)) rfl rfl ?_)
          (refine rt_op (wants_none rfl) (o_alloc rfl (by conv => lhs; whnf) fun b5 => ?_))
          refine rt_nil ?_
          refine q_then ?_
          refine ct_seq ?_
          refine ct_seq ?_
          (refine ct_region' rfl ?_; simp only [List.map, lite])
          (refine rg rfl (g_move (by conv => lhs; whnf)) rfl rfl ?_)
          (refine rg rfl (g_nil rfl) rfl rfl ?_)
          (refine rg rfl (g_field0 rfl) rfl rfl ?_)
          (refine rg rfl (g_field rfl) rfl rfl ?_)
          (refine rg rfl (g_load rfl (by conv => lhs; whnf)) rfl rfl ?_)
          (refine rg rfl (g_neqF rfl rfl ?_) rfl rfl ?_; (· (omega)))
          refine rt_nil ?_
          refine q_then ?_
          refine ct_false rfl ?_
          refine ct_skip ?_
          refine q_then ?_
          refine ct_seq ?_
          refine ct_seq ?_
          (refine ct_region' rfl ?_; simp only [List.map, lite])
          (refine rg rfl (g_move (by conv => lhs; whnf)) rfl rfl ?_)
          (refine rg rfl (g_lssF rfl rfl ?_) rfl rfl ?_; (· (omega)))
          refine rt_nil ?_
          refine q_then ?_
          refine ct_false rfl ?_
          refine ct_skip ?_
          refine q_then ?_
          refine ct_seq ?_
          refine ct_seq ?_
          (refine ct_region' rfl ?_; simp only [List.map, lite])
          (refine rg rfl (g_move (by conv => lhs; whnf)) rfl rfl ?_)
          (refine rg rfl (g_move (by conv => lhs; whnf)) rfl rfl ?_)
          (refine rt_op (wants_none rfl) (o_callE rfl rfl (ent_right (Ent.refl _)) (Go.Proofs.Ytfcanppeiadbhaa.refLeft_spec _ _ _ _ _ _ _ ?_ ?_) fun i27 => ?_); (· (first | assumption | omega | rfl | decide | infer_instance | (simp; done) | (simp; omega) | (simp only [*]; done))); (· (first | assumption | omega | rfl | decide | infer_instance | (simp; done) | (simp; omega) | (simp only [*]; done))))
          (refine rg rfl (g_gtrF rfl rfl ?_) rfl rfl ?_; (· (omega)))
          refine rt_nil ?_
          refine q_then ?_
          refine ct_false rfl ?_
          refine ct_skip ?_
          refine q_then ?_
          refine ct_seq ?_
          (refine ct_region' rfl ?_; simp only [List.map, lite])
          (refine rt_op (wants_none rfl) (o_build0 rfl fun b35 => ?_))
          (refine rg rfl (g_assign (by conv => lhs; whnf)) rfl rfl ?_)
          refine rt_nil ?_
          refine q_then ?_
          refine ct_seq ?_
          refine ct_tail 16 (by kernel_rfl) rfl ?_
          simp only [List.map, lite, List.take, List.drop]
          (refine qg rfl (g_move (by conv => lhs; whnf)) rfl rfl ?_)
          (refine qg rfl (g_move (by conv => lhs; whnf)) rfl rfl ?_)
          (refine qg rfl (g_nil rfl) rfl rfl ?_)
          (refine qg rfl (g_field0 rfl) rfl rfl ?_)
          (refine qg rfl (g_load rfl (by conv => lhs; whnf)) rfl rfl ?_)
          (refine qg rfl (g_move (by conv => lhs; whnf)) rfl rfl ?_)
          (refine qg rfl (g_nil rfl) rfl rfl ?_)
          (refine qg rfl (g_field0 rfl) rfl rfl ?_)
          (refine qg rfl (g_load rfl (by conv => lhs; whnf)) rfl rfl ?_)
          (refine qg rfl (g_move (by conv => lhs; whnf)) rfl rfl ?_)
          (refine qg rfl (g_nil rfl) rfl rfl ?_)
          (refine qg rfl (g_field0 rfl) rfl rfl ?_)
          (refine qg rfl (g_load rfl (by conv => lhs; whnf)) rfl rfl ?_)
          (refine qg rfl (g_move (by conv => lhs; whnf)) rfl rfl ?_)
          (refine qg rfl (g_addN rfl rfl ?_) rfl rfl ?_; (· (constructor <;> omega)))
          (refine qg rfl (g_cutN rfl rfl rfl ?_ ?_ ?_ ?_) rfl rfl ?_; (· (omega)); (· (omega)); (· (omega)); (· (first | assumption | (intro h; omega) | (intro h; cases h))))
          refine rq_tail ?_
          (refine rt_op (wants_none rfl) (o_appP rfl rfl rfl (by first | omega | (simp; omega)) (by first | assumption | (simp; done) | rfl) (by first | rfl | exact bvsAll _ | exact wvs_all _ | assumption) (by rfl) (by rfl) ?_ (by first | with_reducible exact Nat.zero_add _ | exact rfl) (by first | with_reducible exact List.nil_append _ | exact List.map_append.symm | exact rfl) fun ad52 cap52 hc52 hn52 => ?_); (· (first | omega | decide)))
          (refine rg rfl (g_assign (by conv => lhs; whnf)) rfl rfl ?_)
          refine rt_nil ?_
          refine q_then ?_
          refine ct_seq ?_
          (refine ct_region' rfl ?_; simp only [List.map, lite])
          (refine rg rfl (g_move (by conv => lhs; whnf)) rfl rfl ?_)
          (refine rg rfl (g_nil rfl) rfl rfl ?_)
          (refine rg rfl (g_field0 rfl) rfl rfl ?_)
          (refine rg rfl (g_load rfl (by conv => lhs; whnf)) rfl rfl ?_)
          (refine rg rfl (g_move (by conv => lhs; whnf)) rfl rfl ?_)
          (refine rg rfl (g_addN rfl rfl ?_) rfl rfl ?_; (· (constructor <;> omega)))
          (refine rg rfl (g_nil rfl) rfl rfl ?_)
          (refine rg rfl (g_field0 rfl) rfl rfl ?_)
          (refine rt_op (wants_none rfl) (o_store rfl (by conv => lhs; whnf) rfl rfl (by first | (simp only [List.set_cons_zero, List.set_cons_succ]; exact rfl) | exact rfl) ?_))
          refine rt_nil ?_
          refine q_then ?_
          refine ct_seq ?_
          (refine ct_region' rfl ?_; simp only [List.map, lite])
          (refine rg rfl (g_move (by conv => lhs; whnf)) rfl rfl ?_)
          (refine rg rfl (g_build (by simp only [ev, upd, updl, argl, nat_beq_def, Nat.reduceBEq, cond_true, cond_false, List.map_cons, List.map_nil]; rfl) (by simp [fillL, Value.cells]; rfl)) rfl rfl ?_)
          (refine rg rfl (g_assign (by conv => lhs; whnf)) rfl rfl ?_)
          (refine rt_op (wants_none rfl) (o_storeAgg rfl (by conv => lhs; whnf) (by conv => lhs; whnf) (by first | rfl | exact bvsAll _ | exact wvs_all _ | assumption) (by first | rfl | assumption | (simp; done) | (simp; omega)) (by first | rfl | assumption | (simp; done) | (simp; omega)) ?_))
          refine rt_nil ?_
          refine q_then ?_
          refine ct_ret ?_
          rotate_left
        refine q_retTC rfl (by conv => lhs; whnf) (cell_blk rfl (by rfl)) (ad52, cap52) (by rw [hlm, show pos + m - pos = m by omega]; rfl) ((Ent.dropL _ _).trans ?_)
        refine (Ent.mul (?_ : Ent _ (RinA x a c xs.length (pos + m) 0)) (Ent.mul (arr_cast (by rw [hlm]; omega) rfl) (Ent.refl _))).trans (ent_swap _ _ _)
        exact Ent.refl _
  · have e : rawS xs pos why n = ([], pos, why) := by unfold rawS; simp [hw]
    rw [e]
    focus
      refine ct_seq ?_
      (refine ct_region' rfl ?_; simp only [List.map, lite])
      (refine rg rfl (g_assign (by conv => lhs; whnf)) rfl rfl ?_)
      (refine rt_op (wants_none rfl) (o_alloc rfl (by conv => lhs; whnf) fun b5 => ?_))
      refine rt_nil ?_
      refine q_then ?_
      refine ct_seq ?_
      refine ct_seq ?_
      (refine ct_region' rfl ?_; simp only [List.map, lite])
      (refine rg rfl (g_move (by conv => lhs; whnf)) rfl rfl ?_)
      (refine rg rfl (g_nil rfl) rfl rfl ?_)
      (refine rg rfl (g_field0 rfl) rfl rfl ?_)
      (refine rg rfl (g_field rfl) rfl rfl ?_)
      (refine rg rfl (g_load rfl (by conv => lhs; whnf)) rfl rfl ?_)
      (refine rg rfl (g_neqT rfl rfl ?_) rfl rfl ?_; (· (omega)))
      refine rt_nil ?_
      refine q_then ?_
      refine ct_true rfl ?_
      refine ct_seq ?_
      refine ct_tail 5 (by kernel_rfl) rfl ?_
      simp only [List.map, lite, List.take, List.drop]
      (refine qg rfl (g_move (by conv => lhs; whnf)) rfl rfl ?_)
      (refine qg rfl (g_nil rfl) rfl rfl ?_)
      (refine qg rfl (g_field0 rfl) rfl rfl ?_)
      (refine qg rfl (g_loadAgg_off rfl (by simp only [List.drop_succ_cons, List.drop_zero, List.take_succ_cons, List.take_zero]; exact rfl) (by rfl)) rfl rfl ?_)
      (refine qg rfl (g_assign (by conv => lhs; whnf)) rfl rfl ?_)
      refine rq_tail ?_
      (refine rt_op (wants_none rfl) (o_storeAgg rfl (by conv => lhs; whnf) (by conv => lhs; whnf) (by first | rfl | exact bvsAll _ | exact wvs_all _ | assumption) (by first | rfl | assumption | (simp; done) | (simp; omega)) (by first | rfl | assumption | (simp; done) | (simp; omega)) ?_))
      refine rt_nil ?_
      refine q_then ?_
      refine ct_ret ?_
      refine q_then_ret ?_
      rotate_left
    exact q_retTC rfl rfl (cell_blk rfl (by rfl)) (none, 0) rfl (by simp only [List.map_nil, List.length_nil]; exact En.ent)
/-- is all read? -/
def endS (xs : List UInt8) (pos why : Nat) : Nat × Nat := if why ≠ 0 then (pos, why) else if pos < xs.length then (pos, 23) else (pos, 0)
theorem refEnd_spec (R : HP) (x : Nat) (a : Option Addr) (c : Nat) (xs : List UInt8) (pos why : Nat) (hp : pos ≤ xs.length) (hn : xs.length ≤ 140737488355328) :
    Spec Try.prog 58 [.pointer (some ⟨x, 0, none⟩)] (RinA x a c xs.length pos why * R) (fun _ : Unit => errR (endS xs pos why).2 (endS xs pos why).1) (fun _ => RinA x a c xs.length (endS xs pos why).1 (endS xs pos why).2 * R) := by
  refine spec_of Try.func58 rfl Try.ntmps58 rfl fun W0 => ?_
  by_cases hw : why = 0
  · subst hw
    by_cases hs : pos < xs.length
    · have e : endS xs pos 0 = (pos, 23) := by unfold endS; simp [hs]
      rw [e]
      focus
        refine ct_seq ?_
        (refine ct_region' rfl ?_; simp only [List.map, lite])
        (refine rt_op (wants_none rfl) (o_alloc rfl (by conv => lhs; whnf) fun b2 => ?_))
        refine rt_nil ?_
        refine q_then ?_
        refine ct_seq ?_
        refine ct_seq ?_
        (refine ct_region' rfl ?_; simp only [List.map, lite])
        (refine rg rfl (g_move (by conv => lhs; whnf)) rfl rfl ?_)
        (refine rg rfl (g_nil rfl) rfl rfl ?_)
        (refine rg rfl (g_field0 rfl) rfl rfl ?_)
        (refine rg rfl (g_field rfl) rfl rfl ?_)
        (refine rg rfl (g_load rfl (by conv => lhs; whnf)) rfl rfl ?_)
        (refine rg rfl (g_neqF rfl rfl ?_) rfl rfl ?_; (· (omega)))
        refine rt_nil ?_
        refine q_then ?_
        refine ct_false rfl ?_
        refine ct_skip ?_
        refine q_then ?_
        refine ct_seq ?_
        refine ct_seq ?_
        (refine ct_region' rfl ?_; simp only [List.map, lite])
        (refine rg rfl (g_move (by conv => lhs; whnf)) rfl rfl ?_)
        (refine rt_op (wants_none rfl) (o_callE rfl rfl (ent_right (Ent.refl _)) (Go.Proofs.Ytfcanppeiadbhaa.refLeft_spec _ _ _ _ _ _ _ ?_ ?_) fun i14 => ?_); (· (first | assumption | omega | rfl | decide | infer_instance | (simp; done) | (simp; omega) | (simp only [*]; done))); (· (first | assumption | omega | rfl | decide | infer_instance | (simp; done) | (simp; omega) | (simp only [*]; done))))
        (refine rg rfl (g_gtrT rfl rfl ?_) rfl rfl ?_; (· (omega)))
        refine rt_nil ?_
        refine q_then ?_
        refine ct_true rfl ?_
        refine ct_seq ?_
        (refine ct_region' rfl ?_; simp only [List.map, lite])
        (refine rg rfl (g_move (by conv => lhs; whnf)) rfl rfl ?_)
        (refine rg rfl (g_move (by conv => lhs; whnf)) rfl rfl ?_)
        (refine rg rfl (g_nil rfl) rfl rfl ?_)
        (refine rg rfl (g_field0 rfl) rfl rfl ?_)
        (refine rg rfl (g_load rfl (by conv => lhs; whnf)) rfl rfl ?_)
        (refine rt_op (wants_none rfl) (o_callE rfl rfl (Ent.refl _) (Go.Proofs.Ytfcanppeiadbhaa.refWrong_new _ _ _ _ _ _ _ ?_) fun i21 => ?_); (· (first | assumption | omega | rfl | decide | infer_instance | (simp; done) | (simp; omega) | (simp only [*]; done))))
        (refine rt_op (wants_none rfl) (o_storeAgg rfl (by conv => lhs; whnf) (by conv => lhs; whnf) (by first | rfl | exact bvsAll _ | exact wvs_all _ | assumption) (by first | rfl | assumption | (simp; done) | (simp; omega)) (by first | rfl | assumption | (simp; done) | (simp; omega)) ?_))
        refine rt_nil ?_
        refine q_then ?_
        refine ct_ret ?_
        refine q_then_ret ?_
        exact q_retC rfl (cell_blk rfl (by first | rfl | assumption | (simp; done) | (simp; omega))) () rfl En.ent
    · have e : endS xs pos 0 = (pos, 0) := by unfold endS; simp [hs]
      rw [e]
      focus
        refine ct_seq ?_
        (refine ct_region' rfl ?_; simp only [List.map, lite])
        (refine rt_op (wants_none rfl) (o_alloc rfl (by conv => lhs; whnf) fun b2 => ?_))
        refine rt_nil ?_
        refine q_then ?_
        refine ct_seq ?_
        refine ct_seq ?_
        (refine ct_region' rfl ?_; simp only [List.map, lite])
        (refine rg rfl (g_move (by conv => lhs; whnf)) rfl rfl ?_)
        (refine rg rfl (g_nil rfl) rfl rfl ?_)
        (refine rg rfl (g_field0 rfl) rfl rfl ?_)
        (refine rg rfl (g_field rfl) rfl rfl ?_)
        (refine rg rfl (g_load rfl (by conv => lhs; whnf)) rfl rfl ?_)
        (refine rg rfl (g_neqF rfl rfl ?_) rfl rfl ?_; (· (omega)))
        refine rt_nil ?_
        refine q_then ?_
        refine ct_false rfl ?_
        refine ct_skip ?_
        refine q_then ?_
        refine ct_seq ?_
        refine ct_seq ?_
        (refine ct_region' rfl ?_; simp only [List.map, lite])
        (refine rg rfl (g_move (by conv => lhs; whnf)) rfl rfl ?_)
        (refine rt_op (wants_none rfl) (o_callE rfl rfl (ent_right (Ent.refl _)) (Go.Proofs.Ytfcanppeiadbhaa.refLeft_spec _ _ _ _ _ _ _ ?_ ?_) fun i14 => ?_); (· (first | assumption | omega | rfl | decide | infer_instance | (simp; done) | (simp; omega) | (simp only [*]; done))); (· (first | assumption | omega | rfl | decide | infer_instance | (simp; done) | (simp; omega) | (simp only [*]; done))))
        (refine rg rfl (g_gtrF rfl rfl ?_) rfl rfl ?_; (· (omega)))
        refine rt_nil ?_
        refine q_then ?_
        refine ct_false rfl ?_
        refine ct_skip ?_
        refine q_then ?_
        refine ct_seq ?_
        (refine ct_region' rfl ?_; simp only [List.map, lite])
        (refine rg rfl (g_build (by simp only [ev, upd, updl, argl, nat_beq_def, Nat.reduceBEq, cond_true, cond_false, List.map_cons, List.map_nil]; rfl) (by simp [fillL, Value.cells]; rfl)) rfl rfl ?_)
        (refine rt_op (wants_none rfl) (o_storeAgg rfl (by conv => lhs; whnf) (by conv => lhs; whnf) (by first | rfl | exact bvsAll _ | exact wvs_all _ | assumption) (by first | rfl | assumption | (simp; done) | (simp; omega)) (by first | rfl | assumption | (simp; done) | (simp; omega)) ?_))
        refine rt_nil ?_
        refine q_then ?_
        refine ct_ret ?_
        exact q_retC rfl (cell_blk rfl (by first | rfl | assumption | (simp; done) | (simp; omega))) () rfl En.ent
  · have e : endS xs pos why = (pos, why) := by unfold endS; simp [hw]
    rw [e]
    focus
      refine ct_seq ?_
      (refine ct_region' rfl ?_; simp only [List.map, lite])
      (refine rt_op (wants_none rfl) (o_alloc rfl (by conv => lhs; whnf) fun b2 => ?_))
      refine rt_nil ?_
      refine q_then ?_
      refine ct_seq ?_
      refine ct_seq ?_
      (refine ct_region' rfl ?_; simp only [List.map, lite])
      (refine rg rfl (g_move (by conv => lhs; whnf)) rfl rfl ?_)
      (refine rg rfl (g_nil rfl) rfl rfl ?_)
      (refine rg rfl (g_field0 rfl) rfl rfl ?_)
      (refine rg rfl (g_field rfl) rfl rfl ?_)
      (refine rg rfl (g_load rfl (by conv => lhs; whnf)) rfl rfl ?_)
      (refine rg rfl (g_neqT rfl rfl ?_) rfl rfl ?_; (· (omega)))
      refine rt_nil ?_
      refine q_then ?_
      refine ct_true rfl ?_
      refine ct_seq ?_
      (refine ct_region' rfl ?_; simp only [List.map, lite])
      (refine rg rfl (g_move (by conv => lhs; whnf)) rfl rfl ?_)
      (refine rg rfl (g_nil rfl) rfl rfl ?_)
      (refine rg rfl (g_field0 rfl) rfl rfl ?_)
      (refine rg rfl (g_loadAgg_off rfl (by simp only [List.drop_succ_cons, List.drop_zero, List.take_succ_cons, List.take_zero]; exact rfl) (by rfl)) rfl rfl ?_)
      (refine rt_op (wants_none rfl) (o_storeAgg rfl (by conv => lhs; whnf) (by conv => lhs; whnf) (by first | rfl | exact bvsAll _ | exact wvs_all _ | assumption) (by first | rfl | assumption | (simp; done) | (simp; omega)) (by first | rfl | assumption | (simp; done) | (simp; omega)) ?_))
      refine rt_nil ?_
      refine q_then ?_
      refine ct_ret ?_
      refine q_then_ret ?_
      exact q_retC rfl (cell_blk rfl (by first | rfl | assumption | (simp; done) | (simp; omega))) () rfl En.ent
def bytesS (xs : List UInt8) (pos why : Nat) (most : Int) : List UInt8 × Nat × Nat := let N := numberS xs pos why (max 0 most).toNat; if N.2.2 ≠ 0 then ([], N.2.1, N.2.2) else rawS xs N.2.1 N.2.2 (N.1 : Int)
theorem bytesS_len (xs : List UInt8) (pos why : Nat) (n : Int) : (bytesS xs pos why n).1.length ≤ xs.length := by
  unfold bytesS
  dsimp only
  split
  · simp
  · exact rawS_len _ _ _ _
theorem bytesS_pos (xs : List UInt8) (pos why : Nat) (n : Int) (hp : pos ≤ xs.length) : (bytesS xs pos why n).2.1 ≤ xs.length := by
  unfold bytesS
  dsimp only
  split
  · exact numberS_pos _ _ _ _ hp
  · exact rawS_pos _ _ _ _ (numberS_pos _ _ _ _ hp)
theorem refInBytes_spec (R : HP) (x : Nat) (a : Option Addr) (c : Nat) (xs : List UInt8) (pos why : Nat) (most : Int) [hr : Rd R a (xs.map bv)] (hp : pos ≤ xs.length) (hn : xs.length ≤ 140737488355328) (hi : -9223372036854775808 ≤ most ∧ most ≤ 9223372036854775807) (hc : xs.length ≤ c) (hcn : a = none → c = 0) :
    Spec Try.prog 55 [.pointer (some ⟨x, 0, none⟩), .int .i64 most] (RinA x a c xs.length pos why * R) (fun i : Option Addr × Nat => .tuple #[.slice i.1 (bytesS xs pos why most).1.length i.2, errR (bytesS xs pos why most).2.2 (bytesS xs pos why most).2.1])
      (fun i => Arr 5 1 i.1 i.2 (bytesS xs pos why most).1.length ((bytesS xs pos why most).1.map bv) * (RinA x a c xs.length (bytesS xs pos why most).2.1 (bytesS xs pos why most).2.2 * R)) := by
  refine spec_of Try.func55 rfl Try.ntmps55 rfl fun W0 => ?_
  obtain ⟨m, hm, hm2⟩ : ∃ m : Nat, max 0 most = (m : Int) ∧ (max 0 most).toNat = m := ⟨(max 0 most).toNat, by omega, rfl⟩
  have hb : bytesS xs pos why most = if (numberS xs pos why m).2.2 ≠ 0 then ([], (numberS xs pos why m).2.1, (numberS xs pos why m).2.2) else rawS xs (numberS xs pos why m).2.1 (numberS xs pos why m).2.2 ((numberS xs pos why m).1 : Int) := by unfold bytesS; rw [hm2]
  have hpos := numberS_pos xs pos why m hp
  have hwy := numberS_why xs pos why m
  focus
    refine ct_seq ?_
    (refine ct_region' rfl ?_; simp only [List.map, lite])
    (refine rg rfl (g_assign (by conv => lhs; whnf)) rfl rfl ?_)
    (refine rt_op (wants_none rfl) (o_alloc rfl (by conv => lhs; whnf) fun b5 => ?_))
    refine rt_nil ?_
    refine q_then ?_
    rotate_left
  refine ct_cut (ι := Unit) (fun _ => [(0, .pointer (some ⟨x, 0, none⟩)), (1, .int .i64 (m : Int)), (5, .pointer (some ⟨b5, 0, none⟩))]) (fun _ => Blk b5 [.int .i64 0, .int .i64 0] 59 * (RinA x a c xs.length pos why * R)) ?_ ?_
  · focus
      refine ct_seq ?_
      (refine ct_region' rfl ?_; simp only [List.map, lite])
      (refine rg rfl (g_move (by conv => lhs; whnf)) rfl rfl ?_)
      (refine rg rfl (g_lss rfl rfl) rfl rfl ?_)
      refine rt_nil ?_
      refine q_then ?_
      refine ct_if rfl (fun h9 => ?_) (fun h9 => ?_)
      (refine ct_region' rfl ?_; simp only [List.map, lite])
      (refine rg rfl (g_assign (by conv => lhs; whnf)) rfl rfl ?_)
      refine rt_nil ?_
      rotate_left
      refine ct_skip ?_
      rotate_left
    · exact q_cut () ⟨rfl, congrArg (Value.int .i64) (by omega), rfl, trivial⟩ (Ent.refl _)
    · exact q_cut () ⟨rfl, congrArg (Value.int .i64) (by omega), rfl, trivial⟩ (Ent.refl _)
  · intro _ ρ'
    by_cases hw : (numberS xs pos why m).2.2 = 0
    · rw [if_neg (by simp [hw])] at hb
      obtain ⟨h1, h2, _⟩ := hwy hw
      rw [hb]
      focus
        refine ct_seq ?_
        (refine ct_region' rfl ?_; simp only [List.map, lite])
        (refine rg rfl (g_move (by conv => lhs; whnf)) rfl rfl ?_)
        (refine rg rfl (g_move (by conv => lhs; whnf)) rfl rfl ?_)
        (refine rg rfl (g_convN rfl ?_) rfl rfl ?_; (· (constructor <;> omega)))
        (refine rt_op (wants_none rfl) (o_callE rfl rfl (ent_right (Ent.refl _)) (Go.Proofs.Ytfcanppeiadbhaa.refInNumber_spec _ _ _ _ _ _ _ _ ?_ ?_) fun i14 => ?_); (· (first | assumption | omega | rfl | decide | infer_instance | (simp; done) | (simp; omega) | (simp only [*]; done))); (· (first | assumption | omega | rfl | decide | infer_instance | (simp; done) | (simp; omega) | (simp only [*]; done))))
        (refine rg rfl (g_move (by conv => lhs; whnf)) rfl rfl ?_)
        (refine rg rfl (g_extract rfl (by conv => lhs; whnf)) rfl rfl ?_)
        (refine rg rfl (g_extract rfl (by conv => lhs; whnf)) rfl rfl ?_)
        (refine rt_op (wants_none rfl) (o_alloc rfl (by conv => lhs; whnf) fun b7 => ?_))
        (refine rg rfl (g_assign (by conv => lhs; whnf)) rfl rfl ?_)
        (refine rt_op (wants_none rfl) (o_storeAgg rfl (by conv => lhs; whnf) (by conv => lhs; whnf) (by first | rfl | exact bvsAll _ | exact wvs_all _ | assumption) (by first | rfl | assumption | (simp; done) | (simp; omega)) (by first | rfl | assumption | (simp; done) | (simp; omega)) ?_))
        refine rt_nil ?_
        refine q_then ?_
        refine ct_seq ?_
        refine ct_seq ?_
        (refine ct_region' rfl ?_; simp only [List.map, lite])
        (refine rg rfl (g_field0 rfl) rfl rfl ?_)
        (refine rg rfl (g_load rfl (by conv => lhs; whnf)) rfl rfl ?_)
        (refine rg rfl (g_neqF rfl rfl ?_) rfl rfl ?_; (· (omega)))
        refine rt_nil ?_
        refine q_then ?_
        refine ct_false rfl ?_
        refine ct_skip ?_
        refine q_then ?_
        refine ct_seq ?_
        (refine ct_region' rfl ?_; simp only [List.map, lite])
        (refine rg rfl (g_move (by conv => lhs; whnf)) rfl rfl ?_)
        (refine rg rfl (g_move (by conv => lhs; whnf)) rfl rfl ?_)
        (refine rg rfl (g_convN rfl ?_) rfl rfl ?_; (· (constructor <;> omega)))
        (refine rt_op (wants_none rfl) (o_callE rfl rfl (ent_right (Ent.refl _)) (Go.Proofs.Ytfcanppeiadbhaa.refRaw_spec _ _ _ _ _ _ _ _ ?_ ?_ ?_ ?_ ?_) fun i24 => ?_); (· (first | assumption | omega | rfl | decide | infer_instance | (simp; done) | (simp; omega) | (simp only [*]; done))); (· (first | assumption | omega | rfl | decide | infer_instance | (simp; done) | (simp; omega) | (simp only [*]; done))); (· (first | assumption | omega | rfl | decide | infer_instance | (simp; done) | (simp; omega) | (simp only [*]; done))); (· (first | assumption | omega | rfl | decide | infer_instance | (simp; done) | (simp; omega) | (simp only [*]; done))); (· (first | assumption | omega | rfl | decide | infer_instance | (simp; done) | (simp; omega) | (simp only [*]; done))))
        (refine rg rfl (g_extract rfl (by conv => lhs; whnf)) rfl rfl ?_)
        (refine rg rfl (g_extract rfl (by conv => lhs; whnf)) rfl rfl ?_)
        (refine rg rfl (g_assign (by conv => lhs; whnf)) rfl rfl ?_)
        (refine rt_op (wants_none rfl) (o_storeAgg rfl (by conv => lhs; whnf) (by conv => lhs; whnf) (by first | rfl | exact bvsAll _ | exact wvs_all _ | assumption) (by first | rfl | assumption | (simp; done) | (simp; omega)) (by first | rfl | assumption | (simp; done) | (simp; omega)) ?_))
        refine rt_nil ?_
        refine q_then ?_
        refine ct_ret ?_
        rotate_left
      exact q_retTC rfl rfl (cell_blk rfl (by rfl)) i24 rfl (by exact En.ent)
    · rw [if_pos hw] at hb
      rw [hb]
      focus
        refine ct_seq ?_
        (refine ct_region' rfl ?_; simp only [List.map, lite])
        (refine rg rfl (g_move (by conv => lhs; whnf)) rfl rfl ?_)
        (refine rg rfl (g_move (by conv => lhs; whnf)) rfl rfl ?_)
        (refine rg rfl (g_convN rfl ?_) rfl rfl ?_; (· (constructor <;> omega)))
        (refine rt_op (wants_none rfl) (o_callE rfl rfl (ent_right (Ent.refl _)) (Go.Proofs.Ytfcanppeiadbhaa.refInNumber_spec _ _ _ _ _ _ _ _ ?_ ?_) fun i14 => ?_); (· (first | assumption | omega | rfl | decide | infer_instance | (simp; done) | (simp; omega) | (simp only [*]; done))); (· (first | assumption | omega | rfl | decide | infer_instance | (simp; done) | (simp; omega) | (simp only [*]; done))))
        (refine rg rfl (g_move (by conv => lhs; whnf)) rfl rfl ?_)
        (refine rg rfl (g_extract rfl (by conv => lhs; whnf)) rfl rfl ?_)
        (refine rg rfl (g_extract rfl (by conv => lhs; whnf)) rfl rfl ?_)
        (refine rt_op (wants_none rfl) (o_alloc rfl (by conv => lhs; whnf) fun b7 => ?_))
        (refine rg rfl (g_assign (by conv => lhs; whnf)) rfl rfl ?_)
        (refine rt_op (wants_none rfl) (o_storeAgg rfl (by conv => lhs; whnf) (by conv => lhs; whnf) (by first | rfl | exact bvsAll _ | exact wvs_all _ | assumption) (by first | rfl | assumption | (simp; done) | (simp; omega)) (by first | rfl | assumption | (simp; done) | (simp; omega)) ?_))
        refine rt_nil ?_
        refine q_then ?_
        refine ct_seq ?_
        refine ct_seq ?_
        (refine ct_region' rfl ?_; simp only [List.map, lite])
        (refine rg rfl (g_field0 rfl) rfl rfl ?_)
        (refine rg rfl (g_load rfl (by conv => lhs; whnf)) rfl rfl ?_)
        (refine rg rfl (g_neqT rfl rfl ?_) rfl rfl ?_; (· (omega)))
        refine rt_nil ?_
        refine q_then ?_
        refine ct_true rfl ?_
        refine ct_seq ?_
        refine ct_tail 2 (by kernel_rfl) rfl ?_
        simp only [List.map, lite, List.take, List.drop]
        (refine qg rfl (g_loadAgg_blk rfl (by first | rfl | assumption | (simp; done) | (simp; omega))) rfl rfl ?_)
        (refine qg rfl (g_assign (by conv => lhs; whnf)) rfl rfl ?_)
        refine rq_tail ?_
        (refine rt_op (wants_none rfl) (o_storeAgg rfl (by conv => lhs; whnf) (by conv => lhs; whnf) (by first | rfl | exact bvsAll _ | exact wvs_all _ | assumption) (by first | rfl | assumption | (simp; done) | (simp; omega)) (by first | rfl | assumption | (simp; done) | (simp; omega)) ?_))
        refine rt_nil ?_
        refine q_then ?_
        refine ct_ret ?_
        refine q_then_ret ?_
        rotate_left
      exact q_retTC rfl rfl (cell_blk rfl (by rfl)) (none, 0) rfl (by simp only [List.map_nil, List.length_nil]; exact En.ent)
theorem refText_spec (R : HP) (x : Nat) (a : Option Addr) (c : Nat) (xs : List UInt8) (pos why : Nat) (most : Int) [hr : Rd R a (xs.map bv)] (hp : pos ≤ xs.length) (hn : xs.length ≤ 140737488355328) (hi : -9223372036854775808 ≤ most ∧ most ≤ 9223372036854775807) (hc : xs.length ≤ c) (hcn : a = none → c = 0) :
    Spec Try.prog 56 [.pointer (some ⟨x, 0, none⟩), .int .i64 most] (RinA x a c xs.length pos why * R) (fun _ : Unit => .tuple #[.string ⟨(bytesS xs pos why most).1.toArray⟩, errR (bytesS xs pos why most).2.2 (bytesS xs pos why most).2.1])
      (fun _ => RinA x a c xs.length (bytesS xs pos why most).2.1 (bytesS xs pos why most).2.2 * R) := by
  refine spec_of Try.func56 rfl Try.ntmps56 rfl fun W0 => ?_
  focus
    refine ct_seq ?_
    (refine ct_region' rfl ?_; simp only [List.map, lite])
    (refine rg rfl (g_assign (by conv => lhs; whnf)) rfl rfl ?_)
    (refine rt_op (wants_none rfl) (o_alloc rfl (by conv => lhs; whnf) fun b5 => ?_))
    refine rt_nil ?_
    refine q_then ?_
    refine ct_seq ?_
    (refine ct_region' rfl ?_; simp only [List.map, lite])
    (refine rg rfl (g_move (by conv => lhs; whnf)) rfl rfl ?_)
    (refine rg rfl (g_move (by conv => lhs; whnf)) rfl rfl ?_)
    (refine rt_op (wants_none rfl) (o_callE rfl rfl (ent_right (Ent.refl _)) (Go.Proofs.Ytfcanppeiadbhaa.refInBytes_spec _ _ _ _ _ _ _ _ ?_ ?_ ?_ ?_ ?_) fun i11 => ?_); (· (first | assumption | omega | rfl | decide | infer_instance | (simp; done) | (simp; omega) | (simp only [*]; done))); (· (first | assumption | omega | rfl | decide | infer_instance | (simp; done) | (simp; omega) | (simp only [*]; done))); (· (first | assumption | omega | rfl | decide | infer_instance | (simp; done) | (simp; omega) | (simp only [*]; done))); (· (first | assumption | omega | rfl | decide | infer_instance | (simp; done) | (simp; omega) | (simp only [*]; done))); (· (first | assumption | omega | rfl | decide | infer_instance | (simp; done) | (simp; omega) | (simp only [*]; done))))
    (refine rg rfl (g_move (by conv => lhs; whnf)) rfl rfl ?_)
    (refine rg rfl (g_extract rfl (by conv => lhs; whnf)) rfl rfl ?_)
    (refine rg rfl (g_extract rfl (by conv => lhs; whnf)) rfl rfl ?_)
    (refine rt_op (wants_none rfl) (o_alloc rfl (by conv => lhs; whnf) fun b7 => ?_))
    (refine rg rfl (g_assign (by conv => lhs; whnf)) rfl rfl ?_)
    (refine rt_op (wants_none rfl) (o_storeAgg rfl (by conv => lhs; whnf) (by conv => lhs; whnf) (by first | rfl | exact bvsAll _ | exact wvs_all _ | assumption) (by first | rfl | assumption | (simp; done) | (simp; omega)) (by first | rfl | assumption | (simp; done) | (simp; omega)) ?_))
    refine rt_nil ?_
    refine q_then ?_
    refine ct_seq ?_
    refine ct_tail 4 (by kernel_rfl) rfl ?_
    simp only [List.map, lite, List.take, List.drop]
    (refine qg rfl (g_move (by conv => lhs; whnf)) rfl rfl ?_)
    (refine qg rfl (g_convA rfl rfl rfl) rfl rfl ?_)
    (refine qg rfl (g_loadAgg_blk rfl (by first | rfl | assumption | (simp; done) | (simp; omega))) rfl rfl ?_)
    (refine qg rfl (g_assign (by conv => lhs; whnf)) rfl rfl ?_)
    refine rq_tail ?_
    (refine rt_op (wants_none rfl) (o_storeAgg rfl (by conv => lhs; whnf) (by conv => lhs; whnf) (by first | rfl | exact bvsAll _ | exact wvs_all _ | assumption) (by first | rfl | assumption | (simp; done) | (simp; omega)) (by first | rfl | assumption | (simp; done) | (simp; omega)) ?_))
    refine rt_nil ?_
    refine q_then ?_
    refine ct_ret ?_
    exact q_retTC rfl rfl (cell_blk rfl (by first | rfl | assumption | (simp; done) | (simp; omega))) () rfl En.ent
def hashS (xs : List UInt8) (pos why : Nat) : List UInt8 × Nat × Nat := (hash32 (rawS xs pos why 32).1, (rawS xs pos why 32).2.1, (rawS xs pos why 32).2.2)
theorem rawS_len32 (xs : List UInt8) (pos why : Nat) : (rawS xs pos why 32).1.length ≤ 32 := by
  unfold rawS
  split
  · simp
  · split
    · simp
    · split
      · simp
      · simp; omega
theorem refInHash_spec (R : HP) (x : Nat) (a : Option Addr) (c : Nat) (xs : List UInt8) (pos why : Nat) [hr : Rd R a (xs.map bv)] (hp : pos ≤ xs.length) (hn : xs.length ≤ 140737488355328) (hc : xs.length ≤ c) (hcn : a = none → c = 0) :
    Spec Try.prog 57 [.pointer (some ⟨x, 0, none⟩)] (RinA x a c xs.length pos why * R) (fun _ : Unit => .tuple #[.agg ((hashS xs pos why).1.map bv).toArray, errR (hashS xs pos why).2.2 (hashS xs pos why).2.1])
      (fun _ => RinA x a c xs.length (hashS xs pos why).2.1 (hashS xs pos why).2.2 * R) := by
  refine spec_of Try.func57 rfl Try.ntmps57 rfl fun W0 => ?_
  have h32 := rawS_len32 xs pos why
  have hraw := fun (R' : HP) [Rd R' a (xs.map bv)] => refRaw_spec R' x a c xs pos why 32 hp hn (by omega) hc hcn
  unfold hashS
  dsimp only
  generalize rawS xs pos why 32 = N at h32 hraw
  obtain ⟨bs, pos', why'⟩ := N
  dsimp only at h32 hraw ⊢
  focus
    refine ct_seq ?_
    (refine ct_region' rfl ?_; simp only [List.map, lite])
    (refine rt_op (wants_none rfl) (o_alloc rfl (by conv => lhs; whnf) fun b2 => ?_))
    (refine rt_op (wants_none rfl) (o_alloc rfl (by conv => lhs; whnf) fun b3 => ?_))
    refine rt_nil ?_
    refine q_then ?_
    refine ct_seq ?_
    (refine ct_region' rfl ?_; simp only [List.map, lite])
    (refine rg rfl (g_buildZ rfl) rfl rfl ?_)
    (refine rt_op (wants_none rfl) (o_alloc rfl (by conv => lhs; whnf) fun b4 => ?_))
    (refine rt_op (wants_none rfl) (o_storeAgg rfl (by conv => lhs; whnf) (by conv => lhs; whnf) (by first | rfl | exact bvsAll _ | exact wvs_all _ | assumption) (by first | rfl | assumption | (simp; done) | (simp; omega)) (by first | rfl | assumption | (simp; done) | (simp; omega)) ?_))
    refine rt_nil ?_
    refine q_then ?_
    refine ct_seq ?_
    (refine ct_region' rfl ?_; simp only [List.map, lite])
    (refine rg rfl (g_move (by conv => lhs; whnf)) rfl rfl ?_)
    (refine rt_op (wants_none rfl) (o_callE rfl rfl (ent_right (ent_right (ent_right (Ent.refl _)))) (hraw _) fun i11 => ?_))
    (refine rg rfl (g_move (by conv => lhs; whnf)) rfl rfl ?_)
    (refine rg rfl (g_extract rfl (by conv => lhs; whnf)) rfl rfl ?_)
    (refine rg rfl (g_extract rfl (by conv => lhs; whnf)) rfl rfl ?_)
    (refine rt_op (wants_none rfl) (o_alloc rfl (by conv => lhs; whnf) fun b6 => ?_))
    (refine rg rfl (g_assign (by conv => lhs; whnf)) rfl rfl ?_)
    (refine rt_op (wants_none rfl) (o_storeAgg rfl (by conv => lhs; whnf) (by conv => lhs; whnf) (by first | rfl | exact bvsAll _ | exact wvs_all _ | assumption) (by first | rfl | assumption | (simp; done) | (simp; omega)) (by first | rfl | assumption | (simp; done) | (simp; omega)) ?_))
    refine rt_nil ?_
    refine q_then ?_
    refine ct_seq ?_
    refine ct_seq ?_
    (refine ct_region' rfl ?_; simp only [List.map, lite])
    (refine rg rfl (g_assign (by conv => lhs; whnf)) rfl rfl ?_)
    refine rt_nil ?_
    refine q_then ?_
    refine ct_block ?_
    rotate_left
  refine ct_loop (ι := { i : Nat // i ≤ 32 ∧ i ≤ bs.length }) (fun i => [(2, .pointer (some ⟨b2, 0, none⟩)), (3, .pointer (some ⟨b3, 0, none⟩)), (4, .pointer (some ⟨b4, 0, none⟩)), (5, .slice i11.1 bs.length i11.2), (6, .pointer (some ⟨b6, 0, none⟩)), (7, .int .i64 (i.1 : Int))])
    (fun i => Blk b6 [.int .i64 (why' : Int), .int .i64 (atOf why' pos' : Nat)] 59 * (Arr 5 1 i11.1 i11.2 bs.length (bs.map bv) * (RinA x a c xs.length pos' why' * (Blk b4 ((bs.take i.1 ++ List.replicate (32 - i.1) 0).map bv) 84 * (Blk b3 [.int .i64 0, .int .i64 0] 59 * (Blk b2 (hash0.map bv) 84 * R)))))) (fun i => 32 - i.1)
    ⟨0, by omega, by omega⟩ ⟨rfl, rfl, rfl, rfl, rfl, rfl, trivial⟩ (Ent.refl _) fun i ρ' => ?_
  obtain ⟨i, hi, hi2⟩ := i
  dsimp only at hi hi2 ⊢
  by_cases h : i < bs.length
  · focus
      refine ct_seq ?_
      refine ct_seq ?_
      (refine ct_region' rfl ?_; simp only [List.map, lite])
      (refine rg rfl (g_move (by conv => lhs; whnf)) rfl rfl ?_)
      (refine rg rfl (g_move (by conv => lhs; whnf)) rfl rfl ?_)
      (refine rg rfl (g_len_slice rfl) rfl rfl ?_)
      (refine rg rfl (g_lssT rfl rfl ?_) rfl rfl ?_; (· (omega)))
      refine rt_nil ?_
      refine q_then ?_
      refine ct_true rfl ?_
      refine ct_skip ?_
      refine q_then ?_
      refine ct_seq ?_
      refine ct_block ?_
      (refine ct_region' rfl ?_; simp only [List.map, lite])
      (refine rg rfl (g_move (by conv => lhs; whnf)) rfl rfl ?_)
      (refine rg rfl (g_move (by conv => lhs; whnf)) rfl rfl ?_)
      (refine rg rfl (g_move (by conv => lhs; whnf)) rfl rfl ?_)
      (refine rg rfl (g_elemO1 rfl rfl ?_ ?_) rfl rfl ?_; (· (first | omega | decide)); (· (first | omega | decide | (exact pos_of_get (by assumption)) | (simp only [List.length_map, List.length_append, List.length_replicate, List.length_set, List.length_cons, List.length_nil]; omega) | (simp; omega))))
      (refine rg rfl (g_load_rd rfl (byte_at ?_)) rfl rfl ?_; (· (first | omega | decide | (exact pos_of_get (by assumption)) | (simp only [List.length_map, List.length_append, List.length_replicate, List.length_set, List.length_cons, List.length_nil]; omega) | (simp; omega))))
      (refine rg rfl (g_elemB1 rfl rfl ?_) rfl rfl ?_; (· (first | omega | decide)))
      (refine rt_op (wants_none rfl) (o_storeI rfl (by conv => lhs; whnf) rfl ?_ rfl ?_); (· (first | omega | decide | (exact pos_of_get (by assumption)) | (simp only [List.length_map, List.length_append, List.length_replicate, List.length_set, List.length_cons, List.length_nil]; omega) | (simp; omega))))
      refine rt_nil ?_
      refine q_block ?_
      refine q_then ?_
      (refine ct_region' rfl ?_; simp only [List.map, lite])
      (refine rg rfl (g_move (by conv => lhs; whnf)) rfl rfl ?_)
      (refine rg rfl (g_addN rfl rfl ?_) rfl rfl ?_; (· (constructor <;> omega)))
      (refine rg rfl (g_assign (by conv => lhs; whnf)) rfl rfl ?_)
      refine rt_nil ?_
      rotate_left
    rw [zeros_set bs 32 i h (by omega)]
    exact q_again ⟨i + 1, by omega, by omega⟩ (by show 32 - (i + 1) < 32 - i; omega) ⟨rfl, rfl, rfl, rfl, rfl, rfl, trivial⟩ (by exact En.ent)
  · have e : bs.take i ++ List.replicate (32 - i) 0 = hash32 bs := by
      obtain rfl : i = bs.length := by omega
      unfold hash32
      rw [List.take_of_length_le (Nat.le_refl _), List.take_of_length_le (by omega)]
    have hz := hash32_len bs
    have hz' : ((hash32 bs).map bv).length = 32 := by rw [List.length_map, hz]
    rw [e]
    focus
      refine ct_seq ?_
      refine ct_seq ?_
      (refine ct_region' rfl ?_; simp only [List.map, lite])
      (refine rg rfl (g_move (by conv => lhs; whnf)) rfl rfl ?_)
      (refine rg rfl (g_move (by conv => lhs; whnf)) rfl rfl ?_)
      (refine rg rfl (g_len_slice rfl) rfl rfl ?_)
      (refine rg rfl (g_lssF rfl rfl ?_) rfl rfl ?_; (· (omega)))
      refine rt_nil ?_
      refine q_then ?_
      refine ct_false rfl ?_
      refine ct_exit ?_
      refine q_then_exit ?_
      refine q_then_exit ?_
      refine q_block_exit ?_
      refine q_then ?_
      refine ct_seq ?_
      refine ct_anyP 3 ((ent_right (ent_right (ent_right (ent_right (ent_right (Ent.refl _)))))).trans ((Ent.mul (Ent.refl _) (ent_right (ent_right (ent_right (ent_right (Ent.refl _)))))).trans (Ent.assoc' _ _ _))) ?_
      (refine any_take 0 rfl (by kernel_rfl) (by first | exact Ent.refl _ | exact En.ent) (wants_none rfl) (g_loadAgg_blk rfl (by first | rfl | assumption | (simp; done) | (simp; omega))) rfl rfl ?_)
      (refine any_take 1 rfl (by kernel_rfl) (by first | exact Ent.refl _ | exact En.ent) (wants_none rfl) (g_loadAgg_blk rfl (by first | rfl | assumption | (simp; done) | (simp; omega))) rfl rfl ?_)
      (refine any_one 2 (by kernel_rfl) rfl (wants_none rfl) (o_storeAgg rfl (by conv => lhs; whnf) (by conv => lhs; whnf) (by first | rfl | exact bvsAll _ | exact wvs_all _ | assumption) (by first | rfl | assumption | (simp; done) | (simp; omega)) (by first | rfl | assumption | (simp; done) | (simp; omega)) ⟨.inr (by first | exact Ent.refl _ | exact En.ent), ?_⟩))
      (refine any_one 3 (by kernel_rfl) rfl (wants_none rfl) (o_storeAgg rfl (by conv => lhs; whnf) (by conv => lhs; whnf) (by first | rfl | exact bvsAll _ | exact wvs_all _ | assumption) (by first | rfl | assumption | (simp; done) | (simp; omega)) (by first | rfl | assumption | (simp; done) | (simp; omega)) ⟨.inl rfl, ?_⟩))
      refine any_done (by kernel_rfl) ?_
      refine q_then ?_
      refine ct_ret ?_
      exact q_retCC rfl (cell_blk rfl (by first | rfl | assumption | (simp; done) | (simp; omega))) (cell_blk rfl (by first | rfl | assumption | (simp; done) | (simp; omega))) () rfl En.ent
end Go.Proofs.Ytfcanppeiadbhaa
