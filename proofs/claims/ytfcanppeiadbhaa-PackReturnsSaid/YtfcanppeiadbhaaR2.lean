/- The reference's reader: Number, Signed. -/
import Derived.Test.YtfcanppeiadbhaaR1
namespace Go.Proofs.Ytfcanppeiadbhaa
open Go.RowKit
attribute [local irreducible] Gives RT CT QT Spec Wants Reads Src Ent OT RQ AnyT AnyOp Again Code.wp Post

/-- a number: what is read, where it stands then, what is wrong then -/
def numberS (xs : List UInt8) (pos why most : Nat) : Nat × Nat × Nat := if why ≠ 0 then (0, pos, why) else if numWhy xs pos most ≠ 0 then (0, pos, numWhy xs pos most) else ((numAt (xs.drop pos) 10 0 0).1, pos + (numAt (xs.drop pos) 10 0 0).2.1, 0)
theorem shl_val (c : UInt8) (i : Nat) (hi : i ≤ 9) (h : c.toNat % 128 * 2 ^ (7 * i) < 2 ^ 64) : Value.int .u64 (IntKind.u64.wrap ((c.toNat : Int) % 128 * 2 ^ (min ((7 * (i : Int)).toNat) IntKind.u64.bits))) = .int .u64 ((c.toNat % 128 * 2 ^ (7 * i) : Nat) : Int) := by
  have e1 : min ((7 * (i : Int)).toNat) IntKind.u64.bits = 7 * i := by simp only [IntKind.bits]; omega
  have e2 : ((c.toNat : Int) % 128 * 2 ^ (7 * i)) = ((c.toNat % 128 * 2 ^ (7 * i) : Nat) : Int) := by norm_cast
  rw [e1, e2, wrap_in (by constructor <;> omega)]
theorem numAt_step (b : List UInt8) (f i x : Nat) : numAt b (f + 1) i x = match b[i]? with
    | none => (0, 0, 20)
    | some c => if i = 9 ∧ 1 < c.toNat then (0, 0, 22) else if c.toNat < 128 then (if c.toNat = 0 ∧ 0 < i then (0, 0, 21) else (x + c.toNat % 128 * 2 ^ (7 * i), i + 1, 0)) else numAt b f (i + 1) (x + c.toNat % 128 * 2 ^ (7 * i)) := by
  rw [numAt]; cases b[i]? <;> rfl
theorem refInNumber_spec (R : HP) (x : Nat) (a : Option Addr) (c : Nat) (xs : List UInt8) (pos why most : Nat) [hr : Rd R a (xs.map bv)] (hp : pos ≤ xs.length) (hn : xs.length ≤ 140737488355328) :
    Spec Try.prog 51 [.pointer (some ⟨x, 0, none⟩), .int .u64 (most : Int)] (RinA x a c xs.length pos why * R) (fun _ : Unit => .tuple #[.int .u64 ((numberS xs pos why most).1 : Int), errR (numberS xs pos why most).2.2 (numberS xs pos why most).2.1]) (fun _ => RinA x a c xs.length (numberS xs pos why most).2.1 (numberS xs pos why most).2.2 * R) := by
  refine spec_of Try.func51 rfl Try.ntmps51 rfl fun W0 => ?_
  by_cases hw : why = 0
  · subst hw
    focus
      refine ct_seq ?_
      (refine ct_region' rfl ?_; simp only [List.map, lite])
      (refine rg rfl (g_assign (by conv => lhs; whnf)) rfl rfl ?_)
      (refine rt_op (wants_none rfl) (o_alloc rfl (by conv => lhs; whnf) fun b5 => ?_))
      refine rt_nil ?_
      refine q_then ?_
      refine ct_seq ?_
      refine ct_seq ?_
      (refine ct_region' rfl ?_; simp only [List.map, lite])
      (refine rg rfl (g_move (by conv => lhs; whnf)) rfl rfl ?_)
      (refine rg rfl (g_nil rfl) rfl rfl ?_)
      (refine rg rfl (g_field0 rfl) rfl rfl ?_)
      (refine rg rfl (g_field rfl) rfl rfl ?_)
      (refine rg rfl (g_load rfl (by conv => lhs; whnf)) rfl rfl ?_)
      (refine rg rfl (g_neqF rfl rfl ?_) rfl rfl ?_; (· (omega)))
      refine rt_nil ?_
      refine q_then ?_
      refine ct_false rfl ?_
      refine ct_skip ?_
      refine q_then ?_
      refine ct_seq ?_
      (refine ct_region' rfl ?_; simp only [List.map, lite])
      (refine rg rfl (g_assign (by conv => lhs; whnf)) rfl rfl ?_)
      refine rt_nil ?_
      refine q_then ?_
      refine ct_seq ?_
      refine ct_seq ?_
      (refine ct_region' rfl ?_; simp only [List.map, lite])
      (refine rg rfl (g_assign (by conv => lhs; whnf)) rfl rfl ?_)
      refine rt_nil ?_
      refine q_then ?_
      refine ct_block ?_
      rotate_left
    refine ct_loop (ι := { i : Nat × Nat // i.1 ≤ 10 ∧ i.2 < 2 ^ (7 * i.1) ∧ numAt (xs.drop pos) 10 0 0 = numAt (xs.drop pos) (10 - i.1) i.1 i.2 }) (fun i => [(0, .pointer (some ⟨x, 0, none⟩)), (1, .int .u64 (most : Int)), (5, .pointer (some ⟨b5, 0, none⟩)), (6, .int .u64 (i.1.2 : Int)), (7, .int .i64 (i.1.1 : Int))])
      (fun _ => Blk b5 [.int .i64 0, .int .i64 0] 59 * (RinA x a c xs.length pos 0 * R)) (fun i => 10 - i.1.1) ⟨(0, 0), by omega, by simp, rfl⟩ ⟨rfl, rfl, rfl, rfl, rfl, trivial⟩ (by exact En.ent) fun i ρ' => ?_
    obtain ⟨⟨i, y⟩, hi, hy, hN⟩ := i
    dsimp only at hi hy hN ⊢
    by_cases h10 : i < 10
    · obtain ⟨f, hf⟩ : ∃ f, 10 - i = f + 1 := ⟨9 - i, by omega⟩
      rw [hf, numAt_step _ f] at hN
      by_cases hs : pos + i < xs.length
      · have hc : (xs.drop pos)[i]? = some (xs.getD (pos + i) 0) := by
          rw [List.getElem?_drop, List.getElem?_eq_getElem hs]; simp [List.getD, List.getElem?_eq_getElem hs]
        rw [hc] at hN
        dsimp only at hN
        have hc8 := (xs.getD (pos + i) 0).toNat_lt
        generalize hcc : xs.getD (pos + i) 0 = cc at hN hc8 hc
        have hb : (xs.map bv)[pos + i]? = some (bv cc) := by rw [← hcc]; exact byte_at hs
        by_cases h9 : i = 9 ∧ 1 < cc.toNat
        · rw [if_pos h9] at hN
          have e : numberS xs pos 0 most = (0, pos, 22) := by unfold numberS numWhy; rw [hN]; simp
          rw [e]
          focus
            refine ct_seq ?_
            refine ct_seq ?_
            (refine ct_region' rfl ?_; simp only [List.map, lite])
            (refine rg rfl (g_move (by conv => lhs; whnf)) rfl rfl ?_)
            (refine rg rfl (g_lssT rfl rfl ?_) rfl rfl ?_; (· (omega)))
            refine rt_nil ?_
            refine q_then ?_
            refine ct_true rfl ?_
            refine ct_skip ?_
            refine q_then ?_
            refine ct_seq ?_
            refine ct_block ?_
            refine ct_seq ?_
            refine ct_seq ?_
            (refine ct_region' rfl ?_; simp only [List.map, lite])
            (refine rg rfl (g_move (by conv => lhs; whnf)) rfl rfl ?_)
            (refine rg rfl (g_move (by conv => lhs; whnf)) rfl rfl ?_)
            (refine rt_op (wants_none rfl) (o_callE rfl rfl (ent_right (Ent.refl _)) (Go.Proofs.Ytfcanppeiadbhaa.refLeft_spec _ _ _ _ _ _ _ ?_ ?_) fun i25 => ?_); (· (first | assumption | omega | rfl | decide | infer_instance | (simp; done) | (simp; omega) | (simp only [*]; done))); (· (first | assumption | omega | rfl | decide | infer_instance | (simp; done) | (simp; omega) | (simp only [*]; done))))
            (refine rg rfl (g_geqF rfl rfl ?_) rfl rfl ?_; (· (omega)))
            refine rt_nil ?_
            refine q_then ?_
            refine ct_false rfl ?_
            refine ct_skip ?_
            refine q_then ?_
            refine ct_seq ?_
            refine ct_quiet (by kernel_rfl) rfl ?_
            simp only [List.map, lite]
            (refine qg rfl (g_move (by conv => lhs; whnf)) rfl rfl ?_)
            (refine qg rfl (g_nil rfl) rfl rfl ?_)
            (refine qg rfl (g_field0 rfl) rfl rfl ?_)
            (refine qg rfl (g_load rfl (by conv => lhs; whnf)) rfl rfl ?_)
            (refine qg rfl (g_move (by conv => lhs; whnf)) rfl rfl ?_)
            (refine qg rfl (g_nil rfl) rfl rfl ?_)
            (refine qg rfl (g_field0 rfl) rfl rfl ?_)
            (refine qg rfl (g_load rfl (by conv => lhs; whnf)) rfl rfl ?_)
            (refine qg rfl (g_move (by conv => lhs; whnf)) rfl rfl ?_)
            (refine qg rfl (g_addN rfl rfl ?_) rfl rfl ?_; (· (constructor <;> omega)))
            (refine qg rfl (g_elemO1 rfl rfl ?_ ?_) rfl rfl ?_; (· (first | omega | decide)); (· (first | omega | decide | (exact pos_of_get (by assumption)) | (simp only [List.length_map, List.length_append, List.length_replicate, List.length_set, List.length_cons, List.length_nil]; omega) | (simp; omega))))
            (refine qg rfl (g_load_rd rfl (by assumption)) rfl rfl ?_)
            (refine qg rfl (g_assign (by conv => lhs; whnf)) rfl rfl ?_)
            refine rq_nil ?_
            refine q_then ?_
            refine ct_seq ?_
            refine ct_seq ?_
            (refine ct_region' rfl ?_; simp only [List.map, lite])
            (refine rg rfl (g_move (by conv => lhs; whnf)) rfl rfl ?_)
            (refine rg rfl (g_eqlT rfl rfl ?_) rfl rfl ?_; (· (omega)))
            (refine rg rfl (g_move (by conv => lhs; whnf)) rfl rfl ?_)
            (refine rgw rfl rfl rfl rfl (g_move (by conv => lhs; whnf)) rfl rfl ?_)
            (refine rgw rfl rfl rfl rfl (g_gtrT rfl rfl ?_) rfl rfl ?_; (· (omega)))
            (refine rg rfl (g_pick_t rfl (by conv => lhs; whnf)) rfl rfl ?_)
            refine rt_nil ?_
            refine q_then ?_
            refine ct_true rfl ?_
            refine ct_seq ?_
            (refine ct_region' rfl ?_; simp only [List.map, lite])
            (refine rg rfl (g_move (by conv => lhs; whnf)) rfl rfl ?_)
            (refine rg rfl (g_move (by conv => lhs; whnf)) rfl rfl ?_)
            (refine rg rfl (g_nil rfl) rfl rfl ?_)
            (refine rg rfl (g_field0 rfl) rfl rfl ?_)
            (refine rg rfl (g_load rfl (by conv => lhs; whnf)) rfl rfl ?_)
            (refine rt_op (wants_none rfl) (o_callE rfl rfl (Ent.refl _) (Go.Proofs.Ytfcanppeiadbhaa.refWrong_new _ _ _ _ _ _ _ ?_) fun i56 => ?_); (· (first | assumption | omega | rfl | decide | infer_instance | (simp; done) | (simp; omega) | (simp only [*]; done))))
            (refine rg rfl (g_assign (by conv => lhs; whnf)) rfl rfl ?_)
            (refine rt_op (wants_none rfl) (o_storeAgg rfl (by conv => lhs; whnf) (by conv => lhs; whnf) (by first | rfl | exact bvsAll _ | exact wvs_all _ | assumption) (by first | rfl | assumption | (simp; done) | (simp; omega)) (by first | rfl | assumption | (simp; done) | (simp; omega)) ?_))
            refine rt_nil ?_
            refine q_then ?_
            refine ct_ret ?_
            refine q_then_ret ?_
            refine q_block_ret ?_
            refine q_then_ret ?_
            refine q_then_ret ?_
            refine q_block_ret ?_
            refine q_then_ret ?_
            exact q_retTC rfl rfl (cell_blk rfl (by first | rfl | assumption | (simp; done) | (simp; omega))) () rfl En.ent
        · rw [if_neg h9] at hN
          have hst := num_step hy (by omega) h9 hc8
          by_cases h128 : cc.toNat < 128
          · rw [if_pos h128] at hN
            by_cases h0 : cc.toNat = 0 ∧ 0 < i
            · rw [if_pos h0] at hN
              have e : numberS xs pos 0 most = (0, pos, 21) := by unfold numberS numWhy; rw [hN]; simp
              rw [e]
              focus
                refine ct_seq ?_
                refine ct_seq ?_
                (refine ct_region' rfl ?_; simp only [List.map, lite])
                (refine rg rfl (g_move (by conv => lhs; whnf)) rfl rfl ?_)
                (refine rg rfl (g_lssT rfl rfl ?_) rfl rfl ?_; (· (omega)))
                refine rt_nil ?_
                refine q_then ?_
                refine ct_true rfl ?_
                refine ct_skip ?_
                refine q_then ?_
                refine ct_seq ?_
                refine ct_block ?_
                refine ct_seq ?_
                refine ct_seq ?_
                (refine ct_region' rfl ?_; simp only [List.map, lite])
                (refine rg rfl (g_move (by conv => lhs; whnf)) rfl rfl ?_)
                (refine rg rfl (g_move (by conv => lhs; whnf)) rfl rfl ?_)
                (refine rt_op (wants_none rfl) (o_callE rfl rfl (ent_right (Ent.refl _)) (Go.Proofs.Ytfcanppeiadbhaa.refLeft_spec _ _ _ _ _ _ _ ?_ ?_) fun i25 => ?_); (· (first | assumption | omega | rfl | decide | infer_instance | (simp; done) | (simp; omega) | (simp only [*]; done))); (· (first | assumption | omega | rfl | decide | infer_instance | (simp; done) | (simp; omega) | (simp only [*]; done))))
                (refine rg rfl (g_geqF rfl rfl ?_) rfl rfl ?_; (· (omega)))
                refine rt_nil ?_
                refine q_then ?_
                refine ct_false rfl ?_
                refine ct_skip ?_
                refine q_then ?_
                refine ct_seq ?_
                refine ct_quiet (by kernel_rfl) rfl ?_
                simp only [List.map, lite]
                (refine qg rfl (g_move (by conv => lhs; whnf)) rfl rfl ?_)
                (refine qg rfl (g_nil rfl) rfl rfl ?_)
                (refine qg rfl (g_field0 rfl) rfl rfl ?_)
                (refine qg rfl (g_load rfl (by conv => lhs; whnf)) rfl rfl ?_)
                (refine qg rfl (g_move (by conv => lhs; whnf)) rfl rfl ?_)
                (refine qg rfl (g_nil rfl) rfl rfl ?_)
                (refine qg rfl (g_field0 rfl) rfl rfl ?_)
                (refine qg rfl (g_load rfl (by conv => lhs; whnf)) rfl rfl ?_)
                (refine qg rfl (g_move (by conv => lhs; whnf)) rfl rfl ?_)
                (refine qg rfl (g_addN rfl rfl ?_) rfl rfl ?_; (· (constructor <;> omega)))
                (refine qg rfl (g_elemO1 rfl rfl ?_ ?_) rfl rfl ?_; (· (first | omega | decide)); (· (first | omega | decide | (exact pos_of_get (by assumption)) | (simp only [List.length_map, List.length_append, List.length_replicate, List.length_set, List.length_cons, List.length_nil]; omega) | (simp; omega))))
                (refine qg rfl (g_load_rd rfl (by assumption)) rfl rfl ?_)
                (refine qg rfl (g_assign (by conv => lhs; whnf)) rfl rfl ?_)
                refine rq_nil ?_
                refine q_then ?_
                refine ct_seq ?_
                refine ct_seq ?_
                (refine ct_region' rfl ?_; simp only [List.map, lite])
                (refine rg rfl (g_move (by conv => lhs; whnf)) rfl rfl ?_)
                (refine rg rfl (g_eql rfl rfl) rfl rfl ?_)
                (refine rg rfl (g_move (by conv => lhs; whnf)) rfl rfl ?_)
                refine rt_split 47 rfl (fun h47 => ?_) (fun h47 => ?_)
                (refine rgw rfl rfl rfl rfl (g_move (by conv => lhs; whnf)) rfl rfl ?_)
                (refine rgw rfl rfl rfl rfl (g_gtrF rfl rfl ?_) rfl rfl ?_; (· (omega)))
                (refine rg rfl (g_pick_t rfl (by conv => lhs; whnf)) rfl rfl ?_)
                refine rt_nil ?_
                refine q_then ?_
                refine ct_false rfl ?_
                refine ct_skip ?_
                refine q_then ?_
                refine ct_seq ?_
                (refine ct_region' rfl ?_; simp only [List.map, lite])
                (refine rg rfl (g_move (by conv => lhs; whnf)) rfl rfl ?_)
                (refine rg rfl (g_move (by conv => lhs; whnf)) rfl rfl ?_)
                (refine rg rfl (g_remN rfl rfl ?_ ?_) rfl rfl ?_; (· (omega)); (· (omega)))
                (refine rg rfl (g_convN rfl ?_) rfl rfl ?_; (· (constructor <;> omega)))
                (refine rg rfl (g_move (by conv => lhs; whnf)) rfl rfl ?_)
                (refine rg rfl (g_mulN rfl rfl ?_) rfl rfl ?_; (· (constructor <;> omega)))
                (refine rg rfl (g_as (shl_val _ _ ?_ ?_) (g_shl rfl rfl ?_)) rfl rfl ?_; (· (omega)); (· (omega)); (· (omega)))
                (refine rg rfl (g_addN rfl rfl ?_) rfl rfl ?_; (· (constructor <;> omega)))
                (refine rg rfl (g_assign (by conv => lhs; whnf)) rfl rfl ?_)
                refine rt_nil ?_
                refine q_then ?_
                refine ct_seq ?_
                refine ct_seq ?_
                (refine ct_region' rfl ?_; simp only [List.map, lite])
                (refine rg rfl (g_move (by conv => lhs; whnf)) rfl rfl ?_)
                (refine rg rfl (g_geqF rfl rfl ?_) rfl rfl ?_; (· (omega)))
                refine rt_nil ?_
                refine q_then ?_
                refine ct_false rfl ?_
                refine ct_skip ?_
                refine q_then ?_
                refine ct_seq ?_
                refine ct_seq ?_
                (refine ct_region' rfl ?_; simp only [List.map, lite])
                (refine rg rfl (g_move (by conv => lhs; whnf)) rfl rfl ?_)
                (refine rg rfl (g_gtrT rfl rfl ?_) rfl rfl ?_; (· (omega)))
                (refine rg rfl (g_move (by conv => lhs; whnf)) rfl rfl ?_)
                (refine rgw rfl rfl rfl rfl (g_move (by conv => lhs; whnf)) rfl rfl ?_)
                (refine rgw rfl rfl rfl rfl (g_eqlT rfl rfl ?_) rfl rfl ?_; (· (omega)))
                (refine rg rfl (g_pick_t rfl (by conv => lhs; whnf)) rfl rfl ?_)
                refine rt_nil ?_
                refine q_then ?_
                refine ct_true rfl ?_
                refine ct_seq ?_
                (refine ct_region' rfl ?_; simp only [List.map, lite])
                (refine rg rfl (g_move (by conv => lhs; whnf)) rfl rfl ?_)
                (refine rg rfl (g_move (by conv => lhs; whnf)) rfl rfl ?_)
                (refine rg rfl (g_nil rfl) rfl rfl ?_)
                (refine rg rfl (g_field0 rfl) rfl rfl ?_)
                (refine rg rfl (g_load rfl (by conv => lhs; whnf)) rfl rfl ?_)
                (refine rt_op (wants_none rfl) (o_callE rfl rfl (Ent.refl _) (Go.Proofs.Ytfcanppeiadbhaa.refWrong_new _ _ _ _ _ _ _ ?_) fun i78 => ?_); (· (first | assumption | omega | rfl | decide | infer_instance | (simp; done) | (simp; omega) | (simp only [*]; done))))
                (refine rg rfl (g_assign (by conv => lhs; whnf)) rfl rfl ?_)
                (refine rt_op (wants_none rfl) (o_storeAgg rfl (by conv => lhs; whnf) (by conv => lhs; whnf) (by first | rfl | exact bvsAll _ | exact wvs_all _ | assumption) (by first | rfl | assumption | (simp; done) | (simp; omega)) (by first | rfl | assumption | (simp; done) | (simp; omega)) ?_))
                refine rt_nil ?_
                refine q_then ?_
                refine ct_ret ?_
                refine q_then_ret ?_
                refine q_block_ret ?_
                refine q_then_ret ?_
                refine q_then_ret ?_
                refine q_block_ret ?_
                refine q_then_ret ?_
                exact q_retTC rfl rfl (cell_blk rfl (by first | rfl | assumption | (simp; done) | (simp; omega))) () rfl En.ent
                refine rgs rfl rfl rfl rfl rfl rfl ?_
                refine rgs rfl rfl rfl rfl rfl rfl ?_
                (refine rg rfl (g_pick_f rfl (by conv => lhs; whnf)) rfl rfl ?_)
                refine rt_nil ?_
                refine q_then ?_
                refine ct_false rfl ?_
                refine ct_skip ?_
                refine q_then ?_
                refine ct_seq ?_
                (refine ct_region' rfl ?_; simp only [List.map, lite])
                (refine rg rfl (g_move (by conv => lhs; whnf)) rfl rfl ?_)
                (refine rg rfl (g_move (by conv => lhs; whnf)) rfl rfl ?_)
                (refine rg rfl (g_remN rfl rfl ?_ ?_) rfl rfl ?_; (· (omega)); (· (omega)))
                (refine rg rfl (g_convN rfl ?_) rfl rfl ?_; (· (constructor <;> omega)))
                (refine rg rfl (g_move (by conv => lhs; whnf)) rfl rfl ?_)
                (refine rg rfl (g_mulN rfl rfl ?_) rfl rfl ?_; (· (constructor <;> omega)))
                (refine rg rfl (g_as (shl_val _ _ ?_ ?_) (g_shl rfl rfl ?_)) rfl rfl ?_; (· (omega)); (· (omega)); (· (omega)))
                (refine rg rfl (g_addN rfl rfl ?_) rfl rfl ?_; (· (constructor <;> omega)))
                (refine rg rfl (g_assign (by conv => lhs; whnf)) rfl rfl ?_)
                refine rt_nil ?_
                refine q_then ?_
                refine ct_seq ?_
                refine ct_seq ?_
                (refine ct_region' rfl ?_; simp only [List.map, lite])
                (refine rg rfl (g_move (by conv => lhs; whnf)) rfl rfl ?_)
                (refine rg rfl (g_geqF rfl rfl ?_) rfl rfl ?_; (· (omega)))
                refine rt_nil ?_
                refine q_then ?_
                refine ct_false rfl ?_
                refine ct_skip ?_
                refine q_then ?_
                refine ct_seq ?_
                refine ct_seq ?_
                (refine ct_region' rfl ?_; simp only [List.map, lite])
                (refine rg rfl (g_move (by conv => lhs; whnf)) rfl rfl ?_)
                (refine rg rfl (g_gtrT rfl rfl ?_) rfl rfl ?_; (· (omega)))
                (refine rg rfl (g_move (by conv => lhs; whnf)) rfl rfl ?_)
                (refine rgw rfl rfl rfl rfl (g_move (by conv => lhs; whnf)) rfl rfl ?_)
                (refine rgw rfl rfl rfl rfl (g_eqlT rfl rfl ?_) rfl rfl ?_; (· (omega)))
                (refine rg rfl (g_pick_t rfl (by conv => lhs; whnf)) rfl rfl ?_)
                refine rt_nil ?_
                refine q_then ?_
                refine ct_true rfl ?_
                refine ct_seq ?_
                (refine ct_region' rfl ?_; simp only [List.map, lite])
                (refine rg rfl (g_move (by conv => lhs; whnf)) rfl rfl ?_)
                (refine rg rfl (g_move (by conv => lhs; whnf)) rfl rfl ?_)
                (refine rg rfl (g_nil rfl) rfl rfl ?_)
                (refine rg rfl (g_field0 rfl) rfl rfl ?_)
                (refine rg rfl (g_load rfl (by conv => lhs; whnf)) rfl rfl ?_)
                (refine rt_op (wants_none rfl) (o_callE rfl rfl (Ent.refl _) (Go.Proofs.Ytfcanppeiadbhaa.refWrong_new _ _ _ _ _ _ _ ?_) fun i78 => ?_); (· (first | assumption | omega | rfl | decide | infer_instance | (simp; done) | (simp; omega) | (simp only [*]; done))))
                (refine rg rfl (g_assign (by conv => lhs; whnf)) rfl rfl ?_)
                (refine rt_op (wants_none rfl) (o_storeAgg rfl (by conv => lhs; whnf) (by conv => lhs; whnf) (by first | rfl | exact bvsAll _ | exact wvs_all _ | assumption) (by first | rfl | assumption | (simp; done) | (simp; omega)) (by first | rfl | assumption | (simp; done) | (simp; omega)) ?_))
                refine rt_nil ?_
                refine q_then ?_
                refine ct_ret ?_
                refine q_then_ret ?_
                refine q_block_ret ?_
                refine q_then_ret ?_
                refine q_then_ret ?_
                refine q_block_ret ?_
                refine q_then_ret ?_
                exact q_retTC rfl rfl (cell_blk rfl (by first | rfl | assumption | (simp; done) | (simp; omega))) () rfl En.ent
            · rw [if_neg h0] at hN
              by_cases hm : most < y + cc.toNat % 128 * 2 ^ (7 * i)
              · have e : numberS xs pos 0 most = (0, pos, 22) := by unfold numberS numWhy; rw [hN]; simp [hm]
                rw [e]
                focus
                  refine ct_seq ?_
                  refine ct_seq ?_
                  (refine ct_region' rfl ?_; simp only [List.map, lite])
                  (refine rg rfl (g_move (by conv => lhs; whnf)) rfl rfl ?_)
                  (refine rg rfl (g_lssT rfl rfl ?_) rfl rfl ?_; (· (omega)))
                  refine rt_nil ?_
                  refine q_then ?_
                  refine ct_true rfl ?_
                  refine ct_skip ?_
                  refine q_then ?_
                  refine ct_seq ?_
                  refine ct_block ?_
                  refine ct_seq ?_
                  refine ct_seq ?_
                  (refine ct_region' rfl ?_; simp only [List.map, lite])
                  (refine rg rfl (g_move (by conv => lhs; whnf)) rfl rfl ?_)
                  (refine rg rfl (g_move (by conv => lhs; whnf)) rfl rfl ?_)
                  (refine rt_op (wants_none rfl) (o_callE rfl rfl (ent_right (Ent.refl _)) (Go.Proofs.Ytfcanppeiadbhaa.refLeft_spec _ _ _ _ _ _ _ ?_ ?_) fun i25 => ?_); (· (first | assumption | omega | rfl | decide | infer_instance | (simp; done) | (simp; omega) | (simp only [*]; done))); (· (first | assumption | omega | rfl | decide | infer_instance | (simp; done) | (simp; omega) | (simp only [*]; done))))
                  (refine rg rfl (g_geqF rfl rfl ?_) rfl rfl ?_; (· (omega)))
                  refine rt_nil ?_
                  refine q_then ?_
                  refine ct_false rfl ?_
                  refine ct_skip ?_
                  refine q_then ?_
                  refine ct_seq ?_
                  refine ct_quiet (by kernel_rfl) rfl ?_
                  simp only [List.map, lite]
                  (refine qg rfl (g_move (by conv => lhs; whnf)) rfl rfl ?_)
                  (refine qg rfl (g_nil rfl) rfl rfl ?_)
                  (refine qg rfl (g_field0 rfl) rfl rfl ?_)
                  (refine qg rfl (g_load rfl (by conv => lhs; whnf)) rfl rfl ?_)
                  (refine qg rfl (g_move (by conv => lhs; whnf)) rfl rfl ?_)
                  (refine qg rfl (g_nil rfl) rfl rfl ?_)
                  (refine qg rfl (g_field0 rfl) rfl rfl ?_)
                  (refine qg rfl (g_load rfl (by conv => lhs; whnf)) rfl rfl ?_)
                  (refine qg rfl (g_move (by conv => lhs; whnf)) rfl rfl ?_)
                  (refine qg rfl (g_addN rfl rfl ?_) rfl rfl ?_; (· (constructor <;> omega)))
                  (refine qg rfl (g_elemO1 rfl rfl ?_ ?_) rfl rfl ?_; (· (first | omega | decide)); (· (first | omega | decide | (exact pos_of_get (by assumption)) | (simp only [List.length_map, List.length_append, List.length_replicate, List.length_set, List.length_cons, List.length_nil]; omega) | (simp; omega))))
                  (refine qg rfl (g_load_rd rfl (by assumption)) rfl rfl ?_)
                  (refine qg rfl (g_assign (by conv => lhs; whnf)) rfl rfl ?_)
                  refine rq_nil ?_
                  refine q_then ?_
                  refine ct_seq ?_
                  refine ct_seq ?_
                  (refine ct_region' rfl ?_; simp only [List.map, lite])
                  (refine rg rfl (g_move (by conv => lhs; whnf)) rfl rfl ?_)
                  (refine rg rfl (g_eql rfl rfl) rfl rfl ?_)
                  (refine rg rfl (g_move (by conv => lhs; whnf)) rfl rfl ?_)
                  refine rt_split 47 rfl (fun h47 => ?_) (fun h47 => ?_)
                  (refine rgw rfl rfl rfl rfl (g_move (by conv => lhs; whnf)) rfl rfl ?_)
                  (refine rgw rfl rfl rfl rfl (g_gtrF rfl rfl ?_) rfl rfl ?_; (· (omega)))
                  (refine rg rfl (g_pick_t rfl (by conv => lhs; whnf)) rfl rfl ?_)
                  refine rt_nil ?_
                  refine q_then ?_
                  refine ct_false rfl ?_
                  refine ct_skip ?_
                  refine q_then ?_
                  refine ct_seq ?_
                  (refine ct_region' rfl ?_; simp only [List.map, lite])
                  (refine rg rfl (g_move (by conv => lhs; whnf)) rfl rfl ?_)
                  (refine rg rfl (g_move (by conv => lhs; whnf)) rfl rfl ?_)
                  (refine rg rfl (g_remN rfl rfl ?_ ?_) rfl rfl ?_; (· (omega)); (· (omega)))
                  (refine rg rfl (g_convN rfl ?_) rfl rfl ?_; (· (constructor <;> omega)))
                  (refine rg rfl (g_move (by conv => lhs; whnf)) rfl rfl ?_)
                  (refine rg rfl (g_mulN rfl rfl ?_) rfl rfl ?_; (· (constructor <;> omega)))
                  (refine rg rfl (g_as (shl_val _ _ ?_ ?_) (g_shl rfl rfl ?_)) rfl rfl ?_; (· (omega)); (· (omega)); (· (omega)))
                  (refine rg rfl (g_addN rfl rfl ?_) rfl rfl ?_; (· (constructor <;> omega)))
                  (refine rg rfl (g_assign (by conv => lhs; whnf)) rfl rfl ?_)
                  refine rt_nil ?_
                  refine q_then ?_
                  refine ct_seq ?_
                  refine ct_seq ?_
                  (refine ct_region' rfl ?_; simp only [List.map, lite])
                  (refine rg rfl (g_move (by conv => lhs; whnf)) rfl rfl ?_)
                  (refine rg rfl (g_geqF rfl rfl ?_) rfl rfl ?_; (· (omega)))
                  refine rt_nil ?_
                  refine q_then ?_
                  refine ct_false rfl ?_
                  refine ct_skip ?_
                  refine q_then ?_
                  refine ct_seq ?_
                  refine ct_seq ?_
                  (refine ct_region' rfl ?_; simp only [List.map, lite])
                  (refine rg rfl (g_move (by conv => lhs; whnf)) rfl rfl ?_)
                  (refine rg rfl (g_gtrT rfl rfl ?_) rfl rfl ?_; (· (omega)))
                  (refine rg rfl (g_move (by conv => lhs; whnf)) rfl rfl ?_)
                  (refine rgw rfl rfl rfl rfl (g_move (by conv => lhs; whnf)) rfl rfl ?_)
                  (refine rgw rfl rfl rfl rfl (g_eqlF rfl rfl ?_) rfl rfl ?_; (· (omega)))
                  (refine rg rfl (g_pick_t rfl (by conv => lhs; whnf)) rfl rfl ?_)
                  refine rt_nil ?_
                  refine q_then ?_
                  refine ct_false rfl ?_
                  refine ct_skip ?_
                  refine q_then ?_
                  refine ct_seq ?_
                  refine ct_seq ?_
                  (refine ct_region' rfl ?_; simp only [List.map, lite])
                  (refine rg rfl (g_move (by conv => lhs; whnf)) rfl rfl ?_)
                  (refine rg rfl (g_move (by conv => lhs; whnf)) rfl rfl ?_)
                  (refine rg rfl (g_gtrT rfl rfl ?_) rfl rfl ?_; (· (omega)))
                  refine rt_nil ?_
                  refine q_then ?_
                  refine ct_true rfl ?_
                  refine ct_seq ?_
                  (refine ct_region' rfl ?_; simp only [List.map, lite])
                  (refine rg rfl (g_move (by conv => lhs; whnf)) rfl rfl ?_)
                  (refine rg rfl (g_move (by conv => lhs; whnf)) rfl rfl ?_)
                  (refine rg rfl (g_nil rfl) rfl rfl ?_)
                  (refine rg rfl (g_field0 rfl) rfl rfl ?_)
                  (refine rg rfl (g_load rfl (by conv => lhs; whnf)) rfl rfl ?_)
                  (refine rt_op (wants_none rfl) (o_callE rfl rfl (Ent.refl _) (Go.Proofs.Ytfcanppeiadbhaa.refWrong_new _ _ _ _ _ _ _ ?_) fun i87 => ?_); (· (first | assumption | omega | rfl | decide | infer_instance | (simp; done) | (simp; omega) | (simp only [*]; done))))
                  (refine rg rfl (g_assign (by conv => lhs; whnf)) rfl rfl ?_)
                  (refine rt_op (wants_none rfl) (o_storeAgg rfl (by conv => lhs; whnf) (by conv => lhs; whnf) (by first | rfl | exact bvsAll _ | exact wvs_all _ | assumption) (by first | rfl | assumption | (simp; done) | (simp; omega)) (by first | rfl | assumption | (simp; done) | (simp; omega)) ?_))
                  refine rt_nil ?_
                  refine q_then ?_
                  refine ct_ret ?_
                  refine q_then_ret ?_
                  refine q_block_ret ?_
                  refine q_then_ret ?_
                  refine q_then_ret ?_
                  refine q_block_ret ?_
                  refine q_then_ret ?_
                  exact q_retTC rfl rfl (cell_blk rfl (by first | rfl | assumption | (simp; done) | (simp; omega))) () rfl En.ent
                  refine rgs rfl rfl rfl rfl rfl rfl ?_
                  refine rgs rfl rfl rfl rfl rfl rfl ?_
                  (refine rg rfl (g_pick_f rfl (by conv => lhs; whnf)) rfl rfl ?_)
                  refine rt_nil ?_
                  refine q_then ?_
                  refine ct_false rfl ?_
                  refine ct_skip ?_
                  refine q_then ?_
                  refine ct_seq ?_
                  (refine ct_region' rfl ?_; simp only [List.map, lite])
                  (refine rg rfl (g_move (by conv => lhs; whnf)) rfl rfl ?_)
                  (refine rg rfl (g_move (by conv => lhs; whnf)) rfl rfl ?_)
                  (refine rg rfl (g_remN rfl rfl ?_ ?_) rfl rfl ?_; (· (omega)); (· (omega)))
                  (refine rg rfl (g_convN rfl ?_) rfl rfl ?_; (· (constructor <;> omega)))
                  (refine rg rfl (g_move (by conv => lhs; whnf)) rfl rfl ?_)
                  (refine rg rfl (g_mulN rfl rfl ?_) rfl rfl ?_; (· (constructor <;> omega)))
                  (refine rg rfl (g_as (shl_val _ _ ?_ ?_) (g_shl rfl rfl ?_)) rfl rfl ?_; (· (omega)); (· (omega)); (· (omega)))
                  (refine rg rfl (g_addN rfl rfl ?_) rfl rfl ?_; (· (constructor <;> omega)))
                  (refine rg rfl (g_assign (by conv => lhs; whnf)) rfl rfl ?_)
                  refine rt_nil ?_
                  refine q_then ?_
                  refine ct_seq ?_
                  refine ct_seq ?_
                  (refine ct_region' rfl ?_; simp only [List.map, lite])
                  (refine rg rfl (g_move (by conv => lhs; whnf)) rfl rfl ?_)
                  (refine rg rfl (g_geqF rfl rfl ?_) rfl rfl ?_; (· (omega)))
                  refine rt_nil ?_
                  refine q_then ?_
                  refine ct_false rfl ?_
                  refine ct_skip ?_
                  refine q_then ?_
                  refine ct_seq ?_
                  refine ct_seq ?_
                  (refine ct_region' rfl ?_; simp only [List.map, lite])
                  (refine rg rfl (g_move (by conv => lhs; whnf)) rfl rfl ?_)
                  (refine rg rfl (g_gtr rfl rfl) rfl rfl ?_)
                  (refine rg rfl (g_move (by conv => lhs; whnf)) rfl rfl ?_)
                  refine rt_split 69 rfl (fun h69 => ?_) (fun h69 => ?_)
                  (refine rgw rfl rfl rfl rfl (g_move (by conv => lhs; whnf)) rfl rfl ?_)
                  (refine rgw rfl rfl rfl rfl (g_eqlF rfl rfl ?_) rfl rfl ?_; (· (omega)))
                  (refine rg rfl (g_pick_t rfl (by conv => lhs; whnf)) rfl rfl ?_)
                  refine rt_nil ?_
                  refine q_then ?_
                  refine ct_false rfl ?_
                  refine ct_skip ?_
                  refine q_then ?_
                  refine ct_seq ?_
                  refine ct_seq ?_
                  (refine ct_region' rfl ?_; simp only [List.map, lite])
                  (refine rg rfl (g_move (by conv => lhs; whnf)) rfl rfl ?_)
                  (refine rg rfl (g_move (by conv => lhs; whnf)) rfl rfl ?_)
                  (refine rg rfl (g_gtrT rfl rfl ?_) rfl rfl ?_; (· (omega)))
                  refine rt_nil ?_
                  refine q_then ?_
                  refine ct_true rfl ?_
                  refine ct_seq ?_
                  (refine ct_region' rfl ?_; simp only [List.map, lite])
                  (refine rg rfl (g_move (by conv => lhs; whnf)) rfl rfl ?_)
                  (refine rg rfl (g_move (by conv => lhs; whnf)) rfl rfl ?_)
                  (refine rg rfl (g_nil rfl) rfl rfl ?_)
                  (refine rg rfl (g_field0 rfl) rfl rfl ?_)
                  (refine rg rfl (g_load rfl (by conv => lhs; whnf)) rfl rfl ?_)
                  (refine rt_op (wants_none rfl) (o_callE rfl rfl (Ent.refl _) (Go.Proofs.Ytfcanppeiadbhaa.refWrong_new _ _ _ _ _ _ _ ?_) fun i87 => ?_); (· (first | assumption | omega | rfl | decide | infer_instance | (simp; done) | (simp; omega) | (simp only [*]; done))))
                  (refine rg rfl (g_assign (by conv => lhs; whnf)) rfl rfl ?_)
                  (refine rt_op (wants_none rfl) (o_storeAgg rfl (by conv => lhs; whnf) (by conv => lhs; whnf) (by first | rfl | exact bvsAll _ | exact wvs_all _ | assumption) (by first | rfl | assumption | (simp; done) | (simp; omega)) (by first | rfl | assumption | (simp; done) | (simp; omega)) ?_))
                  refine rt_nil ?_
                  refine q_then ?_
                  refine ct_ret ?_
                  refine q_then_ret ?_
                  refine q_block_ret ?_
                  refine q_then_ret ?_
                  refine q_then_ret ?_
                  refine q_block_ret ?_
                  refine q_then_ret ?_
                  exact q_retTC rfl rfl (cell_blk rfl (by first | rfl | assumption | (simp; done) | (simp; omega))) () rfl En.ent
                  refine rgs rfl rfl rfl rfl rfl rfl ?_
                  refine rgs rfl rfl rfl rfl rfl rfl ?_
                  (refine rg rfl (g_pick_f rfl (by conv => lhs; whnf)) rfl rfl ?_)
                  refine rt_nil ?_
                  refine q_then ?_
                  refine ct_false rfl ?_
                  refine ct_skip ?_
                  refine q_then ?_
                  refine ct_seq ?_
                  refine ct_seq ?_
                  (refine ct_region' rfl ?_; simp only [List.map, lite])
                  (refine rg rfl (g_move (by conv => lhs; whnf)) rfl rfl ?_)
                  (refine rg rfl (g_move (by conv => lhs; whnf)) rfl rfl ?_)
                  (refine rg rfl (g_gtrT rfl rfl ?_) rfl rfl ?_; (· (omega)))
                  refine rt_nil ?_
                  refine q_then ?_
                  refine ct_true rfl ?_
                  refine ct_seq ?_
                  (refine ct_region' rfl ?_; simp only [List.map, lite])
                  (refine rg rfl (g_move (by conv => lhs; whnf)) rfl rfl ?_)
                  (refine rg rfl (g_move (by conv => lhs; whnf)) rfl rfl ?_)
                  (refine rg rfl (g_nil rfl) rfl rfl ?_)
                  (refine rg rfl (g_field0 rfl) rfl rfl ?_)
                  (refine rg rfl (g_load rfl (by conv => lhs; whnf)) rfl rfl ?_)
                  (refine rt_op (wants_none rfl) (o_callE rfl rfl (Ent.refl _) (Go.Proofs.Ytfcanppeiadbhaa.refWrong_new _ _ _ _ _ _ _ ?_) fun i87 => ?_); (· (first | assumption | omega | rfl | decide | infer_instance | (simp; done) | (simp; omega) | (simp only [*]; done))))
                  (refine rg rfl (g_assign (by conv => lhs; whnf)) rfl rfl ?_)
                  (refine rt_op (wants_none rfl) (o_storeAgg rfl (by conv => lhs; whnf) (by conv => lhs; whnf) (by first | rfl | exact bvsAll _ | exact wvs_all _ | assumption) (by first | rfl | assumption | (simp; done) | (simp; omega)) (by first | rfl | assumption | (simp; done) | (simp; omega)) ?_))
                  refine rt_nil ?_
                  refine q_then ?_
                  refine ct_ret ?_
                  refine q_then_ret ?_
                  refine q_block_ret ?_
                  refine q_then_ret ?_
                  refine q_then_ret ?_
                  refine q_block_ret ?_
                  refine q_then_ret ?_
                  exact q_retTC rfl rfl (cell_blk rfl (by first | rfl | assumption | (simp; done) | (simp; omega))) () rfl En.ent
              · have e : numberS xs pos 0 most = (y + cc.toNat % 128 * 2 ^ (7 * i), pos + (i + 1), 0) := by unfold numberS numWhy; rw [hN]; simp [hm]
                rw [e]
                focus
                  refine ct_seq ?_
                  refine ct_seq ?_
                  (refine ct_region' rfl ?_; simp only [List.map, lite])
                  (refine rg rfl (g_move (by conv => lhs; whnf)) rfl rfl ?_)
                  (refine rg rfl (g_lssT rfl rfl ?_) rfl rfl ?_; (· (omega)))
                  refine rt_nil ?_
                  refine q_then ?_
                  refine ct_true rfl ?_
                  refine ct_skip ?_
                  refine q_then ?_
                  refine ct_seq ?_
                  refine ct_block ?_
                  refine ct_seq ?_
                  refine ct_seq ?_
                  (refine ct_region' rfl ?_; simp only [List.map, lite])
                  (refine rg rfl (g_move (by conv => lhs; whnf)) rfl rfl ?_)
                  (refine rg rfl (g_move (by conv => lhs; whnf)) rfl rfl ?_)
                  (refine rt_op (wants_none rfl) (o_callE rfl rfl (ent_right (Ent.refl _)) (Go.Proofs.Ytfcanppeiadbhaa.refLeft_spec _ _ _ _ _ _ _ ?_ ?_) fun i25 => ?_); (· (first | assumption | omega | rfl | decide | infer_instance | (simp; done) | (simp; omega) | (simp only [*]; done))); (· (first | assumption | omega | rfl | decide | infer_instance | (simp; done) | (simp; omega) | (simp only [*]; done))))
                  (refine rg rfl (g_geqF rfl rfl ?_) rfl rfl ?_; (· (omega)))
                  refine rt_nil ?_
                  refine q_then ?_
                  refine ct_false rfl ?_
                  refine ct_skip ?_
                  refine q_then ?_
                  refine ct_seq ?_
                  refine ct_quiet (by kernel_rfl) rfl ?_
                  simp only [List.map, lite]
                  (refine qg rfl (g_move (by conv => lhs; whnf)) rfl rfl ?_)
                  (refine qg rfl (g_nil rfl) rfl rfl ?_)
                  (refine qg rfl (g_field0 rfl) rfl rfl ?_)
                  (refine qg rfl (g_load rfl (by conv => lhs; whnf)) rfl rfl ?_)
                  (refine qg rfl (g_move (by conv => lhs; whnf)) rfl rfl ?_)
                  (refine qg rfl (g_nil rfl) rfl rfl ?_)
                  (refine qg rfl (g_field0 rfl) rfl rfl ?_)
                  (refine qg rfl (g_load rfl (by conv => lhs; whnf)) rfl rfl ?_)
                  (refine qg rfl (g_move (by conv => lhs; whnf)) rfl rfl ?_)
                  (refine qg rfl (g_addN rfl rfl ?_) rfl rfl ?_; (· (constructor <;> omega)))
                  (refine qg rfl (g_elemO1 rfl rfl ?_ ?_) rfl rfl ?_; (· (first | omega | decide)); (· (first | omega | decide | (exact pos_of_get (by assumption)) | (simp only [List.length_map, List.length_append, List.length_replicate, List.length_set, List.length_cons, List.length_nil]; omega) | (simp; omega))))
                  (refine qg rfl (g_load_rd rfl (by assumption)) rfl rfl ?_)
                  (refine qg rfl (g_assign (by conv => lhs; whnf)) rfl rfl ?_)
                  refine rq_nil ?_
                  refine q_then ?_
                  refine ct_seq ?_
                  refine ct_seq ?_
                  (refine ct_region' rfl ?_; simp only [List.map, lite])
                  (refine rg rfl (g_move (by conv => lhs; whnf)) rfl rfl ?_)
                  (refine rg rfl (g_eql rfl rfl) rfl rfl ?_)
                  (refine rg rfl (g_move (by conv => lhs; whnf)) rfl rfl ?_)
                  refine rt_split 47 rfl (fun h47 => ?_) (fun h47 => ?_)
                  (refine rgw rfl rfl rfl rfl (g_move (by conv => lhs; whnf)) rfl rfl ?_)
                  (refine rgw rfl rfl rfl rfl (g_gtrF rfl rfl ?_) rfl rfl ?_; (· (omega)))
                  (refine rg rfl (g_pick_t rfl (by conv => lhs; whnf)) rfl rfl ?_)
                  refine rt_nil ?_
                  refine q_then ?_
                  refine ct_false rfl ?_
                  refine ct_skip ?_
                  refine q_then ?_
                  refine ct_seq ?_
                  (refine ct_region' rfl ?_; simp only [List.map, lite])
                  (refine rg rfl (g_move (by conv => lhs; whnf)) rfl rfl ?_)
                  (refine rg rfl (g_move (by conv => lhs; whnf)) rfl rfl ?_)
                  (refine rg rfl (g_remN rfl rfl ?_ ?_) rfl rfl ?_; (· (omega)); (· (omega)))
                  (refine rg rfl (g_convN rfl ?_) rfl rfl ?_; (· (constructor <;> omega)))
                  (refine rg rfl (g_move (by conv => lhs; whnf)) rfl rfl ?_)
                  (refine rg rfl (g_mulN rfl rfl ?_) rfl rfl ?_; (· (constructor <;> omega)))
                  (refine rg rfl (g_as (shl_val _ _ ?_ ?_) (g_shl rfl rfl ?_)) rfl rfl ?_; (· (omega)); (· (omega)); (· (omega)))
                  (refine rg rfl (g_addN rfl rfl ?_) rfl rfl ?_; (· (constructor <;> omega)))
                  (refine rg rfl (g_assign (by conv => lhs; whnf)) rfl rfl ?_)
                  refine rt_nil ?_
                  refine q_then ?_
                  refine ct_seq ?_
                  refine ct_seq ?_
                  (refine ct_region' rfl ?_; simp only [List.map, lite])
                  (refine rg rfl (g_move (by conv => lhs; whnf)) rfl rfl ?_)
                  (refine rg rfl (g_geqF rfl rfl ?_) rfl rfl ?_; (· (omega)))
                  refine rt_nil ?_
                  refine q_then ?_
                  refine ct_false rfl ?_
                  refine ct_skip ?_
                  refine q_then ?_
                  refine ct_seq ?_
                  refine ct_seq ?_
                  (refine ct_region' rfl ?_; simp only [List.map, lite])
                  (refine rg rfl (g_move (by conv => lhs; whnf)) rfl rfl ?_)
                  (refine rg rfl (g_gtrT rfl rfl ?_) rfl rfl ?_; (· (omega)))
                  (refine rg rfl (g_move (by conv => lhs; whnf)) rfl rfl ?_)
                  (refine rgw rfl rfl rfl rfl (g_move (by conv => lhs; whnf)) rfl rfl ?_)
                  (refine rgw rfl rfl rfl rfl (g_eqlF rfl rfl ?_) rfl rfl ?_; (· (omega)))
                  (refine rg rfl (g_pick_t rfl (by conv => lhs; whnf)) rfl rfl ?_)
                  refine rt_nil ?_
                  refine q_then ?_
                  refine ct_false rfl ?_
                  refine ct_skip ?_
                  refine q_then ?_
                  refine ct_seq ?_
                  refine ct_seq ?_
                  (refine ct_region' rfl ?_; simp only [List.map, lite])
                  (refine rg rfl (g_move (by conv => lhs; whnf)) rfl rfl ?_)
                  (refine rg rfl (g_move (by conv => lhs; whnf)) rfl rfl ?_)
                  (refine rg rfl (g_gtrF rfl rfl ?_) rfl rfl ?_; (· (omega)))
                  refine rt_nil ?_
                  refine q_then ?_
                  refine ct_false rfl ?_
                  refine ct_skip ?_
                  refine q_then ?_
                  refine ct_seq ?_
                  (refine ct_region' rfl ?_; simp only [List.map, lite])
                  (refine rg rfl (g_move (by conv => lhs; whnf)) rfl rfl ?_)
                  (refine rg rfl (g_nil rfl) rfl rfl ?_)
                  (refine rg rfl (g_field0 rfl) rfl rfl ?_)
                  (refine rg rfl (g_load rfl (by conv => lhs; whnf)) rfl rfl ?_)
                  (refine rg rfl (g_move (by conv => lhs; whnf)) rfl rfl ?_)
                  (refine rg rfl (g_addN rfl rfl ?_) rfl rfl ?_; (· (constructor <;> omega)))
                  (refine rg rfl (g_addN rfl rfl ?_) rfl rfl ?_; (· (constructor <;> omega)))
                  (refine rg rfl (g_nil rfl) rfl rfl ?_)
                  (refine rg rfl (g_field0 rfl) rfl rfl ?_)
                  (refine rt_op (wants_none rfl) (o_store rfl (by conv => lhs; whnf) rfl rfl (by first | (simp only [List.set_cons_zero, List.set_cons_succ]; exact rfl) | exact rfl) ?_))
                  refine rt_nil ?_
                  refine q_then ?_
                  refine ct_seq ?_
                  (refine ct_region' rfl ?_; simp only [List.map, lite])
                  (refine rg rfl (g_move (by conv => lhs; whnf)) rfl rfl ?_)
                  (refine rg rfl (g_build (by simp only [ev, upd, updl, argl, nat_beq_def, Nat.reduceBEq, cond_true, cond_false, List.map_cons, List.map_nil]; rfl) (by simp [fillL, Value.cells]; rfl)) rfl rfl ?_)
                  (refine rg rfl (g_assign (by conv => lhs; whnf)) rfl rfl ?_)
                  (refine rt_op (wants_none rfl) (o_storeAgg rfl (by conv => lhs; whnf) (by conv => lhs; whnf) (by first | rfl | exact bvsAll _ | exact wvs_all _ | assumption) (by first | rfl | assumption | (simp; done) | (simp; omega)) (by first | rfl | assumption | (simp; done) | (simp; omega)) ?_))
                  refine rt_nil ?_
                  refine q_then ?_
                  refine ct_ret ?_
                  refine q_block_ret ?_
                  refine q_then_ret ?_
                  refine q_then_ret ?_
                  refine q_block_ret ?_
                  refine q_then_ret ?_
                  exact q_retTC rfl rfl (cell_blk rfl (by first | rfl | assumption | (simp; done) | (simp; omega))) () rfl (Ent.dropL _ _)
                  refine rgs rfl rfl rfl rfl rfl rfl ?_
                  refine rgs rfl rfl rfl rfl rfl rfl ?_
                  (refine rg rfl (g_pick_f rfl (by conv => lhs; whnf)) rfl rfl ?_)
                  refine rt_nil ?_
                  refine q_then ?_
                  refine ct_false rfl ?_
                  refine ct_skip ?_
                  refine q_then ?_
                  refine ct_seq ?_
                  (refine ct_region' rfl ?_; simp only [List.map, lite])
                  (refine rg rfl (g_move (by conv => lhs; whnf)) rfl rfl ?_)
                  (refine rg rfl (g_move (by conv => lhs; whnf)) rfl rfl ?_)
                  (refine rg rfl (g_remN rfl rfl ?_ ?_) rfl rfl ?_; (· (omega)); (· (omega)))
                  (refine rg rfl (g_convN rfl ?_) rfl rfl ?_; (· (constructor <;> omega)))
                  (refine rg rfl (g_move (by conv => lhs; whnf)) rfl rfl ?_)
                  (refine rg rfl (g_mulN rfl rfl ?_) rfl rfl ?_; (· (constructor <;> omega)))
                  (refine rg rfl (g_as (shl_val _ _ ?_ ?_) (g_shl rfl rfl ?_)) rfl rfl ?_; (· (omega)); (· (omega)); (· (omega)))
                  (refine rg rfl (g_addN rfl rfl ?_) rfl rfl ?_; (· (constructor <;> omega)))
                  (refine rg rfl (g_assign (by conv => lhs; whnf)) rfl rfl ?_)
                  refine rt_nil ?_
                  refine q_then ?_
                  refine ct_seq ?_
                  refine ct_seq ?_
                  (refine ct_region' rfl ?_; simp only [List.map, lite])
                  (refine rg rfl (g_move (by conv => lhs; whnf)) rfl rfl ?_)
                  (refine rg rfl (g_geqF rfl rfl ?_) rfl rfl ?_; (· (omega)))
                  refine rt_nil ?_
                  refine q_then ?_
                  refine ct_false rfl ?_
                  refine ct_skip ?_
                  refine q_then ?_
                  refine ct_seq ?_
                  refine ct_seq ?_
                  (refine ct_region' rfl ?_; simp only [List.map, lite])
                  (refine rg rfl (g_move (by conv => lhs; whnf)) rfl rfl ?_)
                  (refine rg rfl (g_gtr rfl rfl) rfl rfl ?_)
                  (refine rg rfl (g_move (by conv => lhs; whnf)) rfl rfl ?_)
                  refine rt_split 69 rfl (fun h69 => ?_) (fun h69 => ?_)
                  (refine rgw rfl rfl rfl rfl (g_move (by conv => lhs; whnf)) rfl rfl ?_)
                  (refine rgw rfl rfl rfl rfl (g_eqlF rfl rfl ?_) rfl rfl ?_; (· (omega)))
                  (refine rg rfl (g_pick_t rfl (by conv => lhs; whnf)) rfl rfl ?_)
                  refine rt_nil ?_
                  refine q_then ?_
                  refine ct_false rfl ?_
                  refine ct_skip ?_
                  refine q_then ?_
                  refine ct_seq ?_
                  refine ct_seq ?_
                  (refine ct_region' rfl ?_; simp only [List.map, lite])
                  (refine rg rfl (g_move (by conv => lhs; whnf)) rfl rfl ?_)
                  (refine rg rfl (g_move (by conv => lhs; whnf)) rfl rfl ?_)
                  (refine rg rfl (g_gtrF rfl rfl ?_) rfl rfl ?_; (· (omega)))
                  refine rt_nil ?_
                  refine q_then ?_
                  refine ct_false rfl ?_
                  refine ct_skip ?_
                  refine q_then ?_
                  refine ct_seq ?_
                  (refine ct_region' rfl ?_; simp only [List.map, lite])
                  (refine rg rfl (g_move (by conv => lhs; whnf)) rfl rfl ?_)
                  (refine rg rfl (g_nil rfl) rfl rfl ?_)
                  (refine rg rfl (g_field0 rfl) rfl rfl ?_)
                  (refine rg rfl (g_load rfl (by conv => lhs; whnf)) rfl rfl ?_)
                  (refine rg rfl (g_move (by conv => lhs; whnf)) rfl rfl ?_)
                  (refine rg rfl (g_addN rfl rfl ?_) rfl rfl ?_; (· (constructor <;> omega)))
                  (refine rg rfl (g_addN rfl rfl ?_) rfl rfl ?_; (· (constructor <;> omega)))
                  (refine rg rfl (g_nil rfl) rfl rfl ?_)
                  (refine rg rfl (g_field0 rfl) rfl rfl ?_)
                  (refine rt_op (wants_none rfl) (o_store rfl (by conv => lhs; whnf) rfl rfl (by first | (simp only [List.set_cons_zero, List.set_cons_succ]; exact rfl) | exact rfl) ?_))
                  refine rt_nil ?_
                  refine q_then ?_
                  refine ct_seq ?_
                  (refine ct_region' rfl ?_; simp only [List.map, lite])
                  (refine rg rfl (g_move (by conv => lhs; whnf)) rfl rfl ?_)
                  (refine rg rfl (g_build (by simp only [ev, upd, updl, argl, nat_beq_def, Nat.reduceBEq, cond_true, cond_false, List.map_cons, List.map_nil]; rfl) (by simp [fillL, Value.cells]; rfl)) rfl rfl ?_)
                  (refine rg rfl (g_assign (by conv => lhs; whnf)) rfl rfl ?_)
                  (refine rt_op (wants_none rfl) (o_storeAgg rfl (by conv => lhs; whnf) (by conv => lhs; whnf) (by first | rfl | exact bvsAll _ | exact wvs_all _ | assumption) (by first | rfl | assumption | (simp; done) | (simp; omega)) (by first | rfl | assumption | (simp; done) | (simp; omega)) ?_))
                  refine rt_nil ?_
                  refine q_then ?_
                  refine ct_ret ?_
                  refine q_block_ret ?_
                  refine q_then_ret ?_
                  refine q_then_ret ?_
                  refine q_block_ret ?_
                  refine q_then_ret ?_
                  exact q_retTC rfl rfl (cell_blk rfl (by first | rfl | assumption | (simp; done) | (simp; omega))) () rfl (Ent.dropL _ _)
                  refine rgs rfl rfl rfl rfl rfl rfl ?_
                  refine rgs rfl rfl rfl rfl rfl rfl ?_
                  (refine rg rfl (g_pick_f rfl (by conv => lhs; whnf)) rfl rfl ?_)
                  refine rt_nil ?_
                  refine q_then ?_
                  refine ct_false rfl ?_
                  refine ct_skip ?_
                  refine q_then ?_
                  refine ct_seq ?_
                  refine ct_seq ?_
                  (refine ct_region' rfl ?_; simp only [List.map, lite])
                  (refine rg rfl (g_move (by conv => lhs; whnf)) rfl rfl ?_)
                  (refine rg rfl (g_move (by conv => lhs; whnf)) rfl rfl ?_)
                  (refine rg rfl (g_gtrF rfl rfl ?_) rfl rfl ?_; (· (omega)))
                  refine rt_nil ?_
                  refine q_then ?_
                  refine ct_false rfl ?_
                  refine ct_skip ?_
                  refine q_then ?_
                  refine ct_seq ?_
                  (refine ct_region' rfl ?_; simp only [List.map, lite])
                  (refine rg rfl (g_move (by conv => lhs; whnf)) rfl rfl ?_)
                  (refine rg rfl (g_nil rfl) rfl rfl ?_)
                  (refine rg rfl (g_field0 rfl) rfl rfl ?_)
                  (refine rg rfl (g_load rfl (by conv => lhs; whnf)) rfl rfl ?_)
                  (refine rg rfl (g_move (by conv => lhs; whnf)) rfl rfl ?_)
                  (refine rg rfl (g_addN rfl rfl ?_) rfl rfl ?_; (· (constructor <;> omega)))
                  (refine rg rfl (g_addN rfl rfl ?_) rfl rfl ?_; (· (constructor <;> omega)))
                  (refine rg rfl (g_nil rfl) rfl rfl ?_)
                  (refine rg rfl (g_field0 rfl) rfl rfl ?_)
                  (refine rt_op (wants_none rfl) (o_store rfl (by conv => lhs; whnf) rfl rfl (by first | (simp only [List.set_cons_zero, List.set_cons_succ]; exact rfl) | exact rfl) ?_))
                  refine rt_nil ?_
                  refine q_then ?_
                  refine ct_seq ?_
                  (refine ct_region' rfl ?_; simp only [List.map, lite])
                  (refine rg rfl (g_move (by conv => lhs; whnf)) rfl rfl ?_)
                  (refine rg rfl (g_build (by simp only [ev, upd, updl, argl, nat_beq_def, Nat.reduceBEq, cond_true, cond_false, List.map_cons, List.map_nil]; rfl) (by simp [fillL, Value.cells]; rfl)) rfl rfl ?_)
                  (refine rg rfl (g_assign (by conv => lhs; whnf)) rfl rfl ?_)
                  (refine rt_op (wants_none rfl) (o_storeAgg rfl (by conv => lhs; whnf) (by conv => lhs; whnf) (by first | rfl | exact bvsAll _ | exact wvs_all _ | assumption) (by first | rfl | assumption | (simp; done) | (simp; omega)) (by first | rfl | assumption | (simp; done) | (simp; omega)) ?_))
                  refine rt_nil ?_
                  refine q_then ?_
                  refine ct_ret ?_
                  refine q_block_ret ?_
                  refine q_then_ret ?_
                  refine q_then_ret ?_
                  refine q_block_ret ?_
                  refine q_then_ret ?_
                  exact q_retTC rfl rfl (cell_blk rfl (by first | rfl | assumption | (simp; done) | (simp; omega))) () rfl (Ent.dropL _ _)
          · rw [if_neg h128] at hN
            focus
              refine ct_seq ?_
              refine ct_seq ?_
              (refine ct_region' rfl ?_; simp only [List.map, lite])
              (refine rg rfl (g_move (by conv => lhs; whnf)) rfl rfl ?_)
              (refine rg rfl (g_lssT rfl rfl ?_) rfl rfl ?_; (· (omega)))
              refine rt_nil ?_
              refine q_then ?_
              refine ct_true rfl ?_
              refine ct_skip ?_
              refine q_then ?_
              refine ct_seq ?_
              refine ct_block ?_
              refine ct_seq ?_
              refine ct_seq ?_
              (refine ct_region' rfl ?_; simp only [List.map, lite])
              (refine rg rfl (g_move (by conv => lhs; whnf)) rfl rfl ?_)
              (refine rg rfl (g_move (by conv => lhs; whnf)) rfl rfl ?_)
              (refine rt_op (wants_none rfl) (o_callE rfl rfl (ent_right (Ent.refl _)) (Go.Proofs.Ytfcanppeiadbhaa.refLeft_spec _ _ _ _ _ _ _ ?_ ?_) fun i25 => ?_); (· (first | assumption | omega | rfl | decide | infer_instance | (simp; done) | (simp; omega) | (simp only [*]; done))); (· (first | assumption | omega | rfl | decide | infer_instance | (simp; done) | (simp; omega) | (simp only [*]; done))))
              (refine rg rfl (g_geqF rfl rfl ?_) rfl rfl ?_; (· (omega)))
              refine rt_nil ?_
              refine q_then ?_
              refine ct_false rfl ?_
              refine ct_skip ?_
              refine q_then ?_
              refine ct_seq ?_
              refine ct_quiet (by kernel_rfl) rfl ?_
              simp only [List.map, lite]
              (refine qg rfl (g_move (by conv => lhs; whnf)) rfl rfl ?_)
              (refine qg rfl (g_nil rfl) rfl rfl ?_)
              (refine qg rfl (g_field0 rfl) rfl rfl ?_)
              (refine qg rfl (g_load rfl (by conv => lhs; whnf)) rfl rfl ?_)
              (refine qg rfl (g_move (by conv => lhs; whnf)) rfl rfl ?_)
              (refine qg rfl (g_nil rfl) rfl rfl ?_)
              (refine qg rfl (g_field0 rfl) rfl rfl ?_)
              (refine qg rfl (g_load rfl (by conv => lhs; whnf)) rfl rfl ?_)
              (refine qg rfl (g_move (by conv => lhs; whnf)) rfl rfl ?_)
              (refine qg rfl (g_addN rfl rfl ?_) rfl rfl ?_; (· (constructor <;> omega)))
              (refine qg rfl (g_elemO1 rfl rfl ?_ ?_) rfl rfl ?_; (· (first | omega | decide)); (· (first | omega | decide | (exact pos_of_get (by assumption)) | (simp only [List.length_map, List.length_append, List.length_replicate, List.length_set, List.length_cons, List.length_nil]; omega) | (simp; omega))))
              (refine qg rfl (g_load_rd rfl (by assumption)) rfl rfl ?_)
              (refine qg rfl (g_assign (by conv => lhs; whnf)) rfl rfl ?_)
              refine rq_nil ?_
              refine q_then ?_
              refine ct_seq ?_
              refine ct_seq ?_
              (refine ct_region' rfl ?_; simp only [List.map, lite])
              (refine rg rfl (g_move (by conv => lhs; whnf)) rfl rfl ?_)
              (refine rg rfl (g_eqlF rfl rfl ?_) rfl rfl ?_; (· (omega)))
              (refine rg rfl (g_move (by conv => lhs; whnf)) rfl rfl ?_)
              refine rgs rfl rfl rfl rfl rfl rfl ?_
              refine rgs rfl rfl rfl rfl rfl rfl ?_
              (refine rg rfl (g_pick_f rfl (by conv => lhs; whnf)) rfl rfl ?_)
              refine rt_nil ?_
              refine q_then ?_
              refine ct_false rfl ?_
              refine ct_skip ?_
              refine q_then ?_
              refine ct_seq ?_
              (refine ct_region' rfl ?_; simp only [List.map, lite])
              (refine rg rfl (g_move (by conv => lhs; whnf)) rfl rfl ?_)
              (refine rg rfl (g_move (by conv => lhs; whnf)) rfl rfl ?_)
              (refine rg rfl (g_remN rfl rfl ?_ ?_) rfl rfl ?_; (· (omega)); (· (omega)))
              (refine rg rfl (g_convN rfl ?_) rfl rfl ?_; (· (constructor <;> omega)))
              (refine rg rfl (g_move (by conv => lhs; whnf)) rfl rfl ?_)
              (refine rg rfl (g_mulN rfl rfl ?_) rfl rfl ?_; (· (constructor <;> omega)))
              (refine rg rfl (g_as (shl_val _ _ ?_ ?_) (g_shl rfl rfl ?_)) rfl rfl ?_; (· (omega)); (· (omega)); (· (omega)))
              (refine rg rfl (g_addN rfl rfl ?_) rfl rfl ?_; (· (constructor <;> omega)))
              (refine rg rfl (g_assign (by conv => lhs; whnf)) rfl rfl ?_)
              refine rt_nil ?_
              refine q_then ?_
              refine ct_seq ?_
              refine ct_seq ?_
              (refine ct_region' rfl ?_; simp only [List.map, lite])
              (refine rg rfl (g_move (by conv => lhs; whnf)) rfl rfl ?_)
              (refine rg rfl (g_geqT rfl rfl ?_) rfl rfl ?_; (· (omega)))
              refine rt_nil ?_
              refine q_then ?_
              refine ct_true rfl ?_
              refine ct_exit ?_
              refine q_then_exit ?_
              refine q_block_exit ?_
              refine q_then ?_
              (refine ct_region' rfl ?_; simp only [List.map, lite])
              (refine rg rfl (g_move (by conv => lhs; whnf)) rfl rfl ?_)
              (refine rg rfl (g_addN rfl rfl ?_) rfl rfl ?_; (· (constructor <;> omega)))
              (refine rg rfl (g_assign (by conv => lhs; whnf)) rfl rfl ?_)
              refine rt_nil ?_
              rotate_left
            exact q_again ⟨(i + 1, y + cc.toNat % 128 * 2 ^ (7 * i)), by omega, hst.1, by rw [hN]; congr 1; omega⟩ (by show 10 - (i + 1) < 10 - i; omega) ⟨rfl, rfl, rfl, rfl, rfl, trivial⟩ (by exact En.ent)
      · have hc : (xs.drop pos)[i]? = none := by rw [List.getElem?_drop, List.getElem?_eq_none (by omega)]
        rw [hc] at hN
        have e : numberS xs pos 0 most = (0, pos, 20) := by unfold numberS numWhy; rw [hN]; simp
        rw [e]
        focus
          refine ct_seq ?_
          refine ct_seq ?_
          (refine ct_region' rfl ?_; simp only [List.map, lite])
          (refine rg rfl (g_move (by conv => lhs; whnf)) rfl rfl ?_)
          (refine rg rfl (g_lssT rfl rfl ?_) rfl rfl ?_; (· (omega)))
          refine rt_nil ?_
          refine q_then ?_
          refine ct_true rfl ?_
          refine ct_skip ?_
          refine q_then ?_
          refine ct_seq ?_
          refine ct_block ?_
          refine ct_seq ?_
          refine ct_seq ?_
          (refine ct_region' rfl ?_; simp only [List.map, lite])
          (refine rg rfl (g_move (by conv => lhs; whnf)) rfl rfl ?_)
          (refine rg rfl (g_move (by conv => lhs; whnf)) rfl rfl ?_)
          (refine rt_op (wants_none rfl) (o_callE rfl rfl (ent_right (Ent.refl _)) (Go.Proofs.Ytfcanppeiadbhaa.refLeft_spec _ _ _ _ _ _ _ ?_ ?_) fun i25 => ?_); (· (first | assumption | omega | rfl | decide | infer_instance | (simp; done) | (simp; omega) | (simp only [*]; done))); (· (first | assumption | omega | rfl | decide | infer_instance | (simp; done) | (simp; omega) | (simp only [*]; done))))
          (refine rg rfl (g_geqT rfl rfl ?_) rfl rfl ?_; (· (omega)))
          refine rt_nil ?_
          refine q_then ?_
          refine ct_true rfl ?_
          refine ct_seq ?_
          (refine ct_region' rfl ?_; simp only [List.map, lite])
          (refine rg rfl (g_move (by conv => lhs; whnf)) rfl rfl ?_)
          (refine rg rfl (g_move (by conv => lhs; whnf)) rfl rfl ?_)
          (refine rg rfl (g_nil rfl) rfl rfl ?_)
          (refine rg rfl (g_field0 rfl) rfl rfl ?_)
          (refine rg rfl (g_load rfl (by conv => lhs; whnf)) rfl rfl ?_)
          (refine rt_op (wants_none rfl) (o_callE rfl rfl (Ent.refl _) (Go.Proofs.Ytfcanppeiadbhaa.refWrong_new _ _ _ _ _ _ _ ?_) fun i32 => ?_); (· (first | assumption | omega | rfl | decide | infer_instance | (simp; done) | (simp; omega) | (simp only [*]; done))))
          (refine rg rfl (g_assign (by conv => lhs; whnf)) rfl rfl ?_)
          (refine rt_op (wants_none rfl) (o_storeAgg rfl (by conv => lhs; whnf) (by conv => lhs; whnf) (by first | rfl | exact bvsAll _ | exact wvs_all _ | assumption) (by first | rfl | assumption | (simp; done) | (simp; omega)) (by first | rfl | assumption | (simp; done) | (simp; omega)) ?_))
          refine rt_nil ?_
          refine q_then ?_
          refine ct_ret ?_
          refine q_then_ret ?_
          refine q_block_ret ?_
          refine q_then_ret ?_
          refine q_then_ret ?_
          refine q_block_ret ?_
          refine q_then_ret ?_
          exact q_retTC rfl rfl (cell_blk rfl (by first | rfl | assumption | (simp; done) | (simp; omega))) () rfl En.ent
    · obtain rfl : i = 10 := by omega
      have e : numberS xs pos 0 most = (0, pos, 22) := by unfold numberS numWhy; rw [hN]; simp [numAt]
      rw [e]
      focus
        refine ct_seq ?_
        refine ct_seq ?_
        (refine ct_region' rfl ?_; simp only [List.map, lite])
        (refine rg rfl (g_move (by conv => lhs; whnf)) rfl rfl ?_)
        (refine rg rfl (g_lssF rfl rfl ?_) rfl rfl ?_; (· (omega)))
        refine rt_nil ?_
        refine q_then ?_
        refine ct_false rfl ?_
        refine ct_exit ?_
        refine q_then_exit ?_
        refine q_then_exit ?_
        refine q_block_exit ?_
        refine q_then ?_
        refine ct_seq ?_
        (refine ct_region' rfl ?_; simp only [List.map, lite])
        (refine rg rfl (g_move (by conv => lhs; whnf)) rfl rfl ?_)
        (refine rg rfl (g_move (by conv => lhs; whnf)) rfl rfl ?_)
        (refine rg rfl (g_nil rfl) rfl rfl ?_)
        (refine rg rfl (g_field0 rfl) rfl rfl ?_)
        (refine rg rfl (g_load rfl (by conv => lhs; whnf)) rfl rfl ?_)
        (refine rt_op (wants_none rfl) (o_callE rfl rfl (ent_right (Ent.refl _)) (Go.Proofs.Ytfcanppeiadbhaa.refWrong_new _ _ _ _ _ _ _ ?_) fun i104 => ?_); (· (first | assumption | omega | rfl | decide | infer_instance | (simp; done) | (simp; omega) | (simp only [*]; done))))
        (refine rg rfl (g_assign (by conv => lhs; whnf)) rfl rfl ?_)
        (refine rt_op (wants_none rfl) (o_storeAgg rfl (by conv => lhs; whnf) (by conv => lhs; whnf) (by first | rfl | exact bvsAll _ | exact wvs_all _ | assumption) (by first | rfl | assumption | (simp; done) | (simp; omega)) (by first | rfl | assumption | (simp; done) | (simp; omega)) ?_))
        refine rt_nil ?_
        refine q_then ?_
        refine ct_ret ?_
        exact q_retTC rfl rfl (cell_blk rfl (by first | rfl | assumption | (simp; done) | (simp; omega))) () rfl En.ent
  · have e : numberS xs pos why most = (0, pos, why) := by unfold numberS; simp [hw]
    rw [e]
    focus
      refine ct_seq ?_
      (refine ct_region' rfl ?_; simp only [List.map, lite])
      (refine rg rfl (g_assign (by conv => lhs; whnf)) rfl rfl ?_)
      (refine rt_op (wants_none rfl) (o_alloc rfl (by conv => lhs; whnf) fun b5 => ?_))
      refine rt_nil ?_
      refine q_then ?_
      refine ct_seq ?_
      refine ct_seq ?_
      (refine ct_region' rfl ?_; simp only [List.map, lite])
      (refine rg rfl (g_move (by conv => lhs; whnf)) rfl rfl ?_)
      (refine rg rfl (g_nil rfl) rfl rfl ?_)
      (refine rg rfl (g_field0 rfl) rfl rfl ?_)
      (refine rg rfl (g_field rfl) rfl rfl ?_)
      (refine rg rfl (g_load rfl (by conv => lhs; whnf)) rfl rfl ?_)
      (refine rg rfl (g_neqT rfl rfl ?_) rfl rfl ?_; (· (omega)))
      refine rt_nil ?_
      refine q_then ?_
      refine ct_true rfl ?_
      refine ct_seq ?_
      refine ct_tail 5 (by kernel_rfl) rfl ?_
      simp only [List.map, lite, List.take, List.drop]
      (refine qg rfl (g_move (by conv => lhs; whnf)) rfl rfl ?_)
      (refine qg rfl (g_nil rfl) rfl rfl ?_)
      (refine qg rfl (g_field0 rfl) rfl rfl ?_)
      (refine qg rfl (g_loadAgg_off rfl (by simp only [List.drop_succ_cons, List.drop_zero, List.take_succ_cons, List.take_zero]; exact rfl) (by rfl)) rfl rfl ?_)
      (refine qg rfl (g_assign (by conv => lhs; whnf)) rfl rfl ?_)
      refine rq_tail ?_
      (refine rt_op (wants_none rfl) (o_storeAgg rfl (by conv => lhs; whnf) (by conv => lhs; whnf) (by first | rfl | exact bvsAll _ | exact wvs_all _ | assumption) (by first | rfl | assumption | (simp; done) | (simp; omega)) (by first | rfl | assumption | (simp; done) | (simp; omega)) ?_))
      refine rt_nil ?_
      refine q_then ?_
      refine ct_ret ?_
      refine q_then_ret ?_
      exact q_retTC rfl rfl (cell_blk rfl (by first | rfl | assumption | (simp; done) | (simp; omega))) () rfl En.ent
theorem numberS_why (xs : List UInt8) (pos why most : Nat) : (numberS xs pos why most).2.2 = 0 → (numberS xs pos why most).1 ≤ most ∧ (numberS xs pos why most).1 < 2 ^ 64 ∧ why = 0 := by
  unfold numberS
  by_cases hw : why = 0
  · rw [if_neg (by simp [hw])]
    by_cases h : numWhy xs pos most = 0
    · rw [if_neg (by simp [h])]
      intro _
      unfold numWhy at h
      split at h
      · cases h
      · next hn =>
        have := (numAt_ok0 h).1
        exact ⟨by omega, this, hw⟩
    · rw [if_pos h]; intro e; exact absurd e h
  · rw [if_pos hw]; intro e; exact absurd e hw
theorem numberS_zero (xs : List UInt8) (pos why most : Nat) : (numberS xs pos why most).2.2 ≠ 0 → (numberS xs pos why most).1 = 0 := by
  unfold numberS
  split
  · intro _; rfl
  · split
    · intro _; rfl
    · intro h; exact absurd rfl h
/-- where a reader stands stays within its bytes -/
theorem numberS_pos (xs : List UInt8) (pos why most : Nat) (hp : pos ≤ xs.length) : (numberS xs pos why most).2.1 ≤ xs.length := by
  unfold numberS
  split
  · exact hp
  · split
    · exact hp
    · next h =>
      have h0 : (numAt (xs.drop pos) 10 0 0).2.2 = 0 := by
        have : numWhy xs pos most = 0 := by simpa using h
        unfold numWhy at this
        split at this
        · cases this
        · exact this
      obtain ⟨_, h2, rest, h3⟩ := numAt_ok0 h0
      have h4 := congrArg List.length h3
      rw [List.length_drop, List.length_append] at h4
      dsimp only
      omega
def signedS (xs : List UInt8) (pos why : Nat) : Int × Nat × Nat := let N := numberS xs pos why 18446744073709551615; if N.2.2 ≠ 0 then (0, N.2.1, N.2.2) else (zag N.1, N.2.1, N.2.2)
theorem refSigned_spec (R : HP) (x : Nat) (a : Option Addr) (c : Nat) (xs : List UInt8) (pos why : Nat) [hr : Rd R a (xs.map bv)] (hp : pos ≤ xs.length) (hn : xs.length ≤ 140737488355328) :
    Spec Try.prog 52 [.pointer (some ⟨x, 0, none⟩)] (RinA x a c xs.length pos why * R) (fun _ : Unit => .tuple #[.int .i64 (signedS xs pos why).1, errR (signedS xs pos why).2.2 (signedS xs pos why).2.1]) (fun _ => RinA x a c xs.length (signedS xs pos why).2.1 (signedS xs pos why).2.2 * R) := by
  refine spec_of Try.func52 rfl Try.ntmps52 rfl fun W0 => ?_
  have h1 := numberS_why xs pos why 18446744073709551615
  unfold signedS
  dsimp only
  by_cases hw : (numberS xs pos why 18446744073709551615).2.2 = 0
  · obtain ⟨_, h2, _⟩ := h1 hw
    rw [if_neg (by simp [hw])]
    focus
      refine ct_seq ?_
      (refine ct_region' rfl ?_; simp only [List.map, lite])
      (refine rg rfl (g_assign (by conv => lhs; whnf)) rfl rfl ?_)
      (refine rt_op (wants_none rfl) (o_alloc rfl (by conv => lhs; whnf) fun b3 => ?_))
      refine rt_nil ?_
      refine q_then ?_
      refine ct_seq ?_
      (refine ct_region' rfl ?_; simp only [List.map, lite])
      (refine rg rfl (g_move (by conv => lhs; whnf)) rfl rfl ?_)
      (refine rt_op (wants_none rfl) (o_callE rfl rfl (ent_right (Ent.refl _)) (Go.Proofs.Ytfcanppeiadbhaa.refInNumber_spec _ _ _ _ _ _ _ _ ?_ ?_) fun i8 => ?_); (· (first | assumption | omega | rfl | decide | infer_instance | (simp; done) | (simp; omega) | (simp only [*]; done))); (· (first | assumption | omega | rfl | decide | infer_instance | (simp; done) | (simp; omega) | (simp only [*]; done))))
      (refine rg rfl (g_move (by conv => lhs; whnf)) rfl rfl ?_)
      (refine rg rfl (g_extract rfl (by conv => lhs; whnf)) rfl rfl ?_)
      (refine rg rfl (g_extract rfl (by conv => lhs; whnf)) rfl rfl ?_)
      (refine rt_op (wants_none rfl) (o_alloc rfl (by conv => lhs; whnf) fun b5 => ?_))
      (refine rg rfl (g_assign (by conv => lhs; whnf)) rfl rfl ?_)
      (refine rt_op (wants_none rfl) (o_storeAgg rfl (by conv => lhs; whnf) (by conv => lhs; whnf) (by first | rfl | exact bvsAll _ | exact wvs_all _ | assumption) (by first | rfl | assumption | (simp; done) | (simp; omega)) (by first | rfl | assumption | (simp; done) | (simp; omega)) ?_))
      refine rt_nil ?_
      refine q_then ?_
      refine ct_seq ?_
      refine ct_seq ?_
      (refine ct_region' rfl ?_; simp only [List.map, lite])
      (refine rg rfl (g_field0 rfl) rfl rfl ?_)
      (refine rg rfl (g_load rfl (by conv => lhs; whnf)) rfl rfl ?_)
      (refine rg rfl (g_neqF rfl rfl ?_) rfl rfl ?_; (· (omega)))
      refine rt_nil ?_
      refine q_then ?_
      refine ct_false rfl ?_
      refine ct_skip ?_
      refine q_then ?_
      refine ct_seq ?_
      refine ct_tail 4 (by kernel_rfl) rfl ?_
      simp only [List.map, lite, List.take, List.drop]
      (refine qg rfl (g_move (by conv => lhs; whnf)) rfl rfl ?_)
      (refine rq_callE (wants_none rfl) rfl rfl (Ent.refl _) (Go.Proofs.Ytfcanppeiadbhaa.refZag_spec _ _ ?_) (fun _ => rfl) (fun _ => En.ent) ?_; (· (first | assumption | omega | rfl | decide | infer_instance | (simp; done) | (simp; omega) | (simp only [*]; done))))
      (refine qg rfl (g_loadAgg_blk rfl (by first | rfl | assumption | (simp; done) | (simp; omega))) rfl rfl ?_)
      (refine qg rfl (g_assign (by conv => lhs; whnf)) rfl rfl ?_)
      refine rq_tail ?_
      (refine rt_op (wants_none rfl) (o_storeAgg rfl (by conv => lhs; whnf) (by conv => lhs; whnf) (by first | rfl | exact bvsAll _ | exact wvs_all _ | assumption) (by first | rfl | assumption | (simp; done) | (simp; omega)) (by first | rfl | assumption | (simp; done) | (simp; omega)) ?_))
      refine rt_nil ?_
      refine q_then ?_
      refine ct_ret ?_
      exact q_retTC rfl rfl (cell_blk rfl (by first | rfl | assumption | (simp; done) | (simp; omega))) () rfl En.ent
  · rw [if_pos hw]
    focus
      refine ct_seq ?_
      (refine ct_region' rfl ?_; simp only [List.map, lite])
      (refine rg rfl (g_assign (by conv => lhs; whnf)) rfl rfl ?_)
      (refine rt_op (wants_none rfl) (o_alloc rfl (by conv => lhs; whnf) fun b3 => ?_))
      refine rt_nil ?_
      refine q_then ?_
      refine ct_seq ?_
      (refine ct_region' rfl ?_; simp only [List.map, lite])
      (refine rg rfl (g_move (by conv => lhs; whnf)) rfl rfl ?_)
      (refine rt_op (wants_none rfl) (o_callE rfl rfl (ent_right (Ent.refl _)) (Go.Proofs.Ytfcanppeiadbhaa.refInNumber_spec _ _ _ _ _ _ _ _ ?_ ?_) fun i8 => ?_); (· (first | assumption | omega | rfl | decide | infer_instance | (simp; done) | (simp; omega) | (simp only [*]; done))); (· (first | assumption | omega | rfl | decide | infer_instance | (simp; done) | (simp; omega) | (simp only [*]; done))))
      (refine rg rfl (g_move (by conv => lhs; whnf)) rfl rfl ?_)
      (refine rg rfl (g_extract rfl (by conv => lhs; whnf)) rfl rfl ?_)
      (refine rg rfl (g_extract rfl (by conv => lhs; whnf)) rfl rfl ?_)
      (refine rt_op (wants_none rfl) (o_alloc rfl (by conv => lhs; whnf) fun b5 => ?_))
      (refine rg rfl (g_assign (by conv => lhs; whnf)) rfl rfl ?_)
      (refine rt_op (wants_none rfl) (o_storeAgg rfl (by conv => lhs; whnf) (by conv => lhs; whnf) (by first | rfl | exact bvsAll _ | exact wvs_all _ | assumption) (by first | rfl | assumption | (simp; done) | (simp; omega)) (by first | rfl | assumption | (simp; done) | (simp; omega)) ?_))
      refine rt_nil ?_
      refine q_then ?_
      refine ct_seq ?_
      refine ct_seq ?_
      (refine ct_region' rfl ?_; simp only [List.map, lite])
      (refine rg rfl (g_field0 rfl) rfl rfl ?_)
      (refine rg rfl (g_load rfl (by conv => lhs; whnf)) rfl rfl ?_)
      (refine rg rfl (g_neqT rfl rfl ?_) rfl rfl ?_; (· (omega)))
      refine rt_nil ?_
      refine q_then ?_
      refine ct_true rfl ?_
      refine ct_seq ?_
      refine ct_tail 2 (by kernel_rfl) rfl ?_
      simp only [List.map, lite, List.take, List.drop]
      (refine qg rfl (g_loadAgg_blk rfl (by first | rfl | assumption | (simp; done) | (simp; omega))) rfl rfl ?_)
      (refine qg rfl (g_assign (by conv => lhs; whnf)) rfl rfl ?_)
      refine rq_tail ?_
      (refine rt_op (wants_none rfl) (o_storeAgg rfl (by conv => lhs; whnf) (by conv => lhs; whnf) (by first | rfl | exact bvsAll _ | exact wvs_all _ | assumption) (by first | rfl | assumption | (simp; done) | (simp; omega)) (by first | rfl | assumption | (simp; done) | (simp; omega)) ?_))
      refine rt_nil ?_
      refine q_then ?_
      refine ct_ret ?_
      refine q_then_ret ?_
      exact q_retTC rfl rfl (cell_blk rfl (by first | rfl | assumption | (simp; done) | (simp; omega))) () rfl En.ent
end Go.Proofs.Ytfcanppeiadbhaa
