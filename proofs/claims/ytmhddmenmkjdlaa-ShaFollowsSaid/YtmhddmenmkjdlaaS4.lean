/- sha: a piece, the program's. -/
import Derived.Test.YtmhddmenmkjdlaaS3
import Derived.Test.YtmhddmenmkjdlaaE
namespace Go.Proofs.Ytmhddmenmkjdlaa
open Go.RowKit
attribute [local irreducible] Gives RT CT QT Spec Wants Reads Src Ent OT RQ AnyT AnyOp Again Code.wp Post

set_option maxRecDepth 100000 in
set_option maxHeartbeats 8000000 in
theorem piece_spec (R : HP) (s : S8) (xs : List UInt8) (g : Addr) (c : Nat) [hr : Rd R (some g) (xs.map bv)] (hx : xs.length = 64) :
    Spec Try.prog 50 [.agg (s.row.map wv).toArray, .slice (some g) 64 c] R (fun _ : Unit => .agg ((piece s xs).row.map wv).toArray) (fun _ => R) := by
  refine spec_of Try.func50 rfl Try.ntmps50 rfl fun W0 => ?_
  focus
    refine ct_seq ?_
    (refine ct_region' rfl ?_; simp only [List.map, lite])
    (refine rt_op (wants_none rfl) (o_box rfl (by conv => lhs; whnf) (by conv => lhs; whnf) fun b2 => ?_))
    (refine rt_op (wants_none rfl) (o_alloc rfl (by conv => lhs; whnf) fun b4 => ?_))
    refine rt_nil ?_
    refine q_then ?_
    refine ct_seq ?_
    (refine ct_region' rfl ?_; simp only [List.map, lite])
    (refine rt_op (wants_none rfl) (o_callE rfl rfl (Ent.refl _) (Go.Proofs.Ytmhddmenmkjdlaa.rounds_spec _) fun i21 => ?_))
    (refine rt_op (wants_none rfl) (o_alloc rfl (by conv => lhs; whnf) fun b5 => ?_))
    (refine rt_op (wants_none rfl) (o_storeAgg rfl (by conv => lhs; whnf) (by first | exact List.toList_toArray | (conv => lhs; whnf)) (by first | rfl | exact bvsAll _ | exact wvs_all _ | assumption) (by first | rfl | assumption | (simp; done) | (simp; omega)) (by first | rfl | assumption | (simp; done) | (simp; omega)) ?_))
    refine rt_nil ?_
    refine q_then ?_
    refine ct_seq ?_
    (refine ct_region' rfl ?_; simp only [List.map, lite])
    (refine rt_op (wants_none rfl) (o_alloc rfl (by conv => lhs; whnf) fun b6 => ?_))
    refine rt_nil ?_
    refine q_then ?_
    refine ct_seq ?_
    refine ct_seq ?_
    (refine ct_region' rfl ?_; simp only [List.map, lite])
    (refine rg rfl (g_move (by conv => lhs; whnf)) rfl rfl ?_)
    refine rt_nil ?_
    refine q_then ?_
    refine ct_block ?_
    rotate_left
  refine ct_ent (B := Blk b6 (wRow xs 0) 63 * (Blk b5 (rounds0.map wv) 63 * (Blk b4 ((List.replicate 8 (0 : UInt32)).map wv) 61 * (Blk b2 (s.row.map wv) 61 * R)))) ?_ (Ent.refl _)
  refine ct_loop (ι := { t : Nat // t ≤ 64 }) (fun t => [(1, .slice (some g) 64 c), (2, .pointer (some ⟨b2, 0, none⟩)), (4, .pointer (some ⟨b4, 0, none⟩)), (5, .pointer (some ⟨b5, 0, none⟩)), (6, .pointer (some ⟨b6, 0, none⟩)), (22, .int .i64 (t.1 : Int))]) (fun t => Blk b6 (wRow xs t.1) 63 * (Blk b5 (rounds0.map wv) 63 * (Blk b4 ((List.replicate 8 (0 : UInt32)).map wv) 61 * (Blk b2 (s.row.map wv) 61 * R)))) (fun t => 64 - t.1)
    ⟨0, by omega⟩ ⟨rfl, rfl, rfl, rfl, rfl, rfl, trivial⟩ (Ent.refl _) fun t ρ' => ?_
  obtain ⟨t, ht⟩ := t
  dsimp only at ht ⊢
  by_cases hlt : t < 64
  · have hset := wRow_set xs t hlt
    have hwl := wRow_len xs t ht
    by_cases h16 : t < 16
    · have hs2 : (wRow xs t).set t (wv (w0 xs t)) = wRow xs (t + 1) := by rw [← hset, wNext, if_pos h16]
      have hb0 := byte_get (b := xs) (i := 4 * t) (by omega)
      have hb1 := byte_get (b := xs) (i := 4 * t + 1) (by omega)
      have hb2 := byte_get (b := xs) (i := 4 * t + 2) (by omega)
      have hb3 := byte_get (b := xs) (i := 4 * t + 3) (by omega)
      focus
        refine ct_seq ?_
        (refine ct_region' rfl ?_; simp only [List.map, lite])
        (refine rg rfl (g_lssT rfl rfl ?_) rfl rfl ?_; (· (omega)))
        refine rt_nil ?_
        refine q_then ?_
        refine ct_seq ?_
        refine ct_true rfl ?_
        refine ct_skip ?_
        refine q_then ?_
        refine ct_seq ?_
        refine ct_block ?_
        refine ct_seq ?_
        (refine ct_region' rfl ?_; simp only [List.map, lite])
        (refine rg rfl (g_move (by conv => lhs; whnf)) rfl rfl ?_)
        (refine rg rfl (g_assign (by conv => lhs; whnf)) rfl rfl ?_)
        refine rt_nil ?_
        refine q_then ?_
        refine ct_seq ?_
        refine ct_seq ?_
        (refine ct_region' rfl ?_; simp only [List.map, lite])
        (refine rg rfl (g_move (by conv => lhs; whnf)) rfl rfl ?_)
        (refine rg rfl (g_lssT rfl rfl ?_) rfl rfl ?_; (· (omega)))
        refine rt_nil ?_
        refine q_then ?_
        refine ct_true rfl ?_
        refine ct_seq ?_
        refine ct_tail 35 (by kernel_rfl) rfl ?_
        simp only [List.map, lite, List.take, List.drop]
        (refine qg rfl (g_move (by conv => lhs; whnf)) rfl rfl ?_)
        (refine qg rfl (g_move (by conv => lhs; whnf)) rfl rfl ?_)
        (refine qg rfl (g_move (by conv => lhs; whnf)) rfl rfl ?_)
        (refine qg rfl (g_mulN rfl rfl ?_) rfl rfl ?_; (· (constructor <;> omega)))
        (refine qg rfl (g_elemO1 rfl rfl ?_ ?_) rfl rfl ?_; (· (first | omega | decide)); (· (first | omega | decide | (exact pos_of_get (by assumption)) | (simp only [List.length_map, List.length_append, List.length_replicate, List.length_set, List.length_cons, List.length_nil]; omega) | (simp; omega))))
        (refine qg rfl (g_load_rd rfl (by assumption)) rfl rfl ?_)
        (refine qg rfl (g_convW rfl) rfl rfl ?_)
        (refine qg rfl (g_shl32 rfl rfl (by conv => lhs; whnf) ?_ ?_) rfl rfl ?_; (· (first | omega | decide)); (· (first | omega | decide)))
        (refine qg rfl (g_move (by conv => lhs; whnf)) rfl rfl ?_)
        (refine qg rfl (g_move (by conv => lhs; whnf)) rfl rfl ?_)
        (refine qg rfl (g_mulN rfl rfl ?_) rfl rfl ?_; (· (constructor <;> omega)))
        (refine qg rfl (g_addN rfl rfl ?_) rfl rfl ?_; (· (constructor <;> omega)))
        (refine qg rfl (g_elemO1 rfl rfl ?_ ?_) rfl rfl ?_; (· (first | omega | decide)); (· (first | omega | decide | (exact pos_of_get (by assumption)) | (simp only [List.length_map, List.length_append, List.length_replicate, List.length_set, List.length_cons, List.length_nil]; omega) | (simp; omega))))
        (refine qg rfl (g_load_rd rfl (by assumption)) rfl rfl ?_)
        (refine qg rfl (g_convW rfl) rfl rfl ?_)
        (refine qg rfl (g_shl32 rfl rfl (by conv => lhs; whnf) ?_ ?_) rfl rfl ?_; (· (first | omega | decide)); (· (first | omega | decide)))
        (refine qg rfl (g_or32 rfl rfl) rfl rfl ?_)
        (refine qg rfl (g_move (by conv => lhs; whnf)) rfl rfl ?_)
        (refine qg rfl (g_move (by conv => lhs; whnf)) rfl rfl ?_)
        (refine qg rfl (g_mulN rfl rfl ?_) rfl rfl ?_; (· (constructor <;> omega)))
        (refine qg rfl (g_addN rfl rfl ?_) rfl rfl ?_; (· (constructor <;> omega)))
        (refine qg rfl (g_elemO1 rfl rfl ?_ ?_) rfl rfl ?_; (· (first | omega | decide)); (· (first | omega | decide | (exact pos_of_get (by assumption)) | (simp only [List.length_map, List.length_append, List.length_replicate, List.length_set, List.length_cons, List.length_nil]; omega) | (simp; omega))))
        (refine qg rfl (g_load_rd rfl (by assumption)) rfl rfl ?_)
        (refine qg rfl (g_convW rfl) rfl rfl ?_)
        (refine qg rfl (g_shl32 rfl rfl (by conv => lhs; whnf) ?_ ?_) rfl rfl ?_; (· (first | omega | decide)); (· (first | omega | decide)))
        (refine qg rfl (g_or32 rfl rfl) rfl rfl ?_)
        (refine qg rfl (g_move (by conv => lhs; whnf)) rfl rfl ?_)
        (refine qg rfl (g_move (by conv => lhs; whnf)) rfl rfl ?_)
        (refine qg rfl (g_mulN rfl rfl ?_) rfl rfl ?_; (· (constructor <;> omega)))
        (refine qg rfl (g_addN rfl rfl ?_) rfl rfl ?_; (· (constructor <;> omega)))
        (refine qg rfl (g_elemO1 rfl rfl ?_ ?_) rfl rfl ?_; (· (first | omega | decide)); (· (first | omega | decide | (exact pos_of_get (by assumption)) | (simp only [List.length_map, List.length_append, List.length_replicate, List.length_set, List.length_cons, List.length_nil]; omega) | (simp; omega))))
        (refine qg rfl (g_load_rd rfl (by assumption)) rfl rfl ?_)
        (refine qg rfl (g_convW rfl) rfl rfl ?_)
        (refine qg rfl (g_or32 rfl rfl) rfl rfl ?_)
        (refine qg rfl (g_elemB1 rfl rfl ?_) rfl rfl ?_; (· (first | omega | decide)))
        refine rq_tail ?_
        (refine rt_op (wants_none rfl) (o_storeI rfl (by conv => lhs; whnf) rfl ?_ rfl ?_); (· (first | omega | decide | (exact pos_of_get (by assumption)) | (simp only [List.length_map, List.length_append, List.length_replicate, List.length_set, List.length_cons, List.length_nil]; omega) | (simp; omega))))
        refine rt_nil ?_
        refine q_then ?_
        refine ct_exit ?_
        refine q_then_exit ?_
        refine q_block_exit ?_
        refine q_then ?_
        (refine ct_region' rfl ?_; simp only [List.map, lite])
        (refine rg rfl (g_addN rfl rfl ?_) rfl rfl ?_; (· (constructor <;> omega)))
        (refine rg rfl (g_move (by conv => lhs; whnf)) rfl rfl ?_)
        refine rt_nil ?_
        rotate_left
      exact q_again ⟨t + 1, by omega⟩ (by show 64 - (t + 1) < 64 - t; omega) ⟨rfl, rfl, rfl, rfl, rfl, rfl, trivial⟩ (by dsimp only; rw [← hs2]; exact Ent.refl _)
    · have hs2 : (wRow xs t).set t (wv (((wAt (wsUpto xs t) (t - 16) + sg0 (wAt (wsUpto xs t) (t - 15))) + wAt (wsUpto xs t) (t - 7)) + sg1 (wAt (wsUpto xs t) (t - 2)))) = wRow xs (t + 1) := by rw [← hset, wNext, if_neg (by omega)]
      have hb0 := wRow_get xs t (t - 15) (by omega)
      have hb1 := wRow_get xs t (t - 2) (by omega)
      have hb2 := wRow_get xs t (t - 16) (by omega)
      have hb3 := wRow_get xs t (t - 7) (by omega)
      have e15 : (t : Int) - 15 = ((t - 15 : Nat) : Int) := by omega
      have e2 : (t : Int) - 2 = ((t - 2 : Nat) : Int) := by omega
      have e16 : (t : Int) - 16 = ((t - 16 : Nat) : Int) := by omega
      have e7 : (t : Int) - 7 = ((t - 7 : Nat) : Int) := by omega
      focus
        refine ct_seq ?_
        (refine ct_region' rfl ?_; simp only [List.map, lite])
        (refine rg rfl (g_lssT rfl rfl ?_) rfl rfl ?_; (· (omega)))
        refine rt_nil ?_
        refine q_then ?_
        refine ct_seq ?_
        refine ct_true rfl ?_
        refine ct_skip ?_
        refine q_then ?_
        refine ct_seq ?_
        refine ct_block ?_
        refine ct_seq ?_
        (refine ct_region' rfl ?_; simp only [List.map, lite])
        (refine rg rfl (g_move (by conv => lhs; whnf)) rfl rfl ?_)
        (refine rg rfl (g_assign (by conv => lhs; whnf)) rfl rfl ?_)
        refine rt_nil ?_
        refine q_then ?_
        refine ct_seq ?_
        refine ct_seq ?_
        (refine ct_region' rfl ?_; simp only [List.map, lite])
        (refine rg rfl (g_move (by conv => lhs; whnf)) rfl rfl ?_)
        (refine rg rfl (g_lssF rfl rfl ?_) rfl rfl ?_; (· (omega)))
        refine rt_nil ?_
        refine q_then ?_
        refine ct_false rfl ?_
        refine ct_skip ?_
        refine q_then ?_
        refine ct_seq ?_
        refine ct_quiet (by kernel_rfl) rfl ?_
        simp only [List.map, lite]
        (refine qg rfl (g_move (by conv => lhs; whnf)) rfl rfl ?_)
        (refine qg rfl (g_subNN rfl rfl ?_ ?_) rfl rfl ?_; (· (omega)); (· (constructor <;> omega)))
        (refine qg rfl (g_elemB1 rfl rfl ?_) rfl rfl ?_; (· (first | omega | decide)))
        (refine qg rfl (g_load rfl (by assumption)) rfl rfl ?_)
        (refine qg rfl (g_move (by conv => lhs; whnf)) rfl rfl ?_)
        (refine qg rfl (g_subNN rfl rfl ?_ ?_) rfl rfl ?_; (· (omega)); (· (constructor <;> omega)))
        (refine qg rfl (g_elemB1 rfl rfl ?_) rfl rfl ?_; (· (first | omega | decide)))
        (refine qg rfl (g_load rfl (by assumption)) rfl rfl ?_)
        (refine qg rfl (g_assign (by conv => lhs; whnf)) rfl rfl ?_)
        (refine qg rfl (g_assign (by conv => lhs; whnf)) rfl rfl ?_)
        refine rq_nil ?_
        refine q_then ?_
        refine ct_tail 29 (by kernel_rfl) rfl ?_
        simp only [List.map, lite, List.take, List.drop]
        (refine qg rfl (g_move (by conv => lhs; whnf)) rfl rfl ?_)
        (refine qg rfl (g_move (by conv => lhs; whnf)) rfl rfl ?_)
        (refine qg rfl (g_subNN rfl rfl ?_ ?_) rfl rfl ?_; (· (omega)); (· (constructor <;> omega)))
        (refine qg rfl (g_elemB1 rfl rfl ?_) rfl rfl ?_; (· (first | omega | decide)))
        (refine qg rfl (g_load rfl (by assumption)) rfl rfl ?_)
        (refine qg rfl (g_move (by conv => lhs; whnf)) rfl rfl ?_)
        (refine rq_callE (wants_none rfl) rfl rfl (Ent.refl _) (Go.Proofs.Ytmhddmenmkjdlaa.turned_spec _ _ _ ?_ ?_) (fun _ => rfl) (fun _ => En.ent) ?_; (· (first | assumption | omega | rfl | decide | infer_instance | (simp; done) | (simp; omega) | (simp only [*]; done))); (· (first | assumption | omega | rfl | decide | infer_instance | (simp; done) | (simp; omega) | (simp only [*]; done))))
        (refine qg rfl (g_move (by conv => lhs; whnf)) rfl rfl ?_)
        (refine rq_callE (wants_none rfl) rfl rfl (Ent.refl _) (Go.Proofs.Ytmhddmenmkjdlaa.turned_spec _ _ _ ?_ ?_) (fun _ => rfl) (fun _ => En.ent) ?_; (· (first | assumption | omega | rfl | decide | infer_instance | (simp; done) | (simp; omega) | (simp only [*]; done))); (· (first | assumption | omega | rfl | decide | infer_instance | (simp; done) | (simp; omega) | (simp only [*]; done))))
        (refine qg rfl (g_xor32 rfl rfl) rfl rfl ?_)
        (refine qg rfl (g_move (by conv => lhs; whnf)) rfl rfl ?_)
        (refine qg rfl (g_shr32 rfl rfl (by conv => lhs; whnf) ?_ ?_) rfl rfl ?_; (· (first | omega | decide)); (· (first | omega | decide)))
        (refine qg rfl (g_xor32 rfl rfl) rfl rfl ?_)
        (refine qg rfl (g_add32 rfl rfl) rfl rfl ?_)
        (refine qg rfl (g_move (by conv => lhs; whnf)) rfl rfl ?_)
        (refine qg rfl (g_subNN rfl rfl ?_ ?_) rfl rfl ?_; (· (omega)); (· (constructor <;> omega)))
        (refine qg rfl (g_elemB1 rfl rfl ?_) rfl rfl ?_; (· (first | omega | decide)))
        (refine qg rfl (g_load rfl (by assumption)) rfl rfl ?_)
        (refine qg rfl (g_add32 rfl rfl) rfl rfl ?_)
        (refine qg rfl (g_move (by conv => lhs; whnf)) rfl rfl ?_)
        (refine rq_callE (wants_none rfl) rfl rfl (Ent.refl _) (Go.Proofs.Ytmhddmenmkjdlaa.turned_spec _ _ _ ?_ ?_) (fun _ => rfl) (fun _ => En.ent) ?_; (· (first | assumption | omega | rfl | decide | infer_instance | (simp; done) | (simp; omega) | (simp only [*]; done))); (· (first | assumption | omega | rfl | decide | infer_instance | (simp; done) | (simp; omega) | (simp only [*]; done))))
        (refine qg rfl (g_move (by conv => lhs; whnf)) rfl rfl ?_)
        (refine rq_callE (wants_none rfl) rfl rfl (Ent.refl _) (Go.Proofs.Ytmhddmenmkjdlaa.turned_spec _ _ _ ?_ ?_) (fun _ => rfl) (fun _ => En.ent) ?_; (· (first | assumption | omega | rfl | decide | infer_instance | (simp; done) | (simp; omega) | (simp only [*]; done))); (· (first | assumption | omega | rfl | decide | infer_instance | (simp; done) | (simp; omega) | (simp only [*]; done))))
        (refine qg rfl (g_xor32 rfl rfl) rfl rfl ?_)
        (refine qg rfl (g_move (by conv => lhs; whnf)) rfl rfl ?_)
        (refine qg rfl (g_shr32 rfl rfl (by conv => lhs; whnf) ?_ ?_) rfl rfl ?_; (· (first | omega | decide)); (· (first | omega | decide)))
        (refine qg rfl (g_xor32 rfl rfl) rfl rfl ?_)
        (refine qg rfl (g_add32 rfl rfl) rfl rfl ?_)
        (refine qg rfl (g_elemB1 rfl rfl ?_) rfl rfl ?_; (· (first | omega | decide)))
        refine rq_tail ?_
        (refine rt_op (wants_none rfl) (o_storeI rfl (by conv => lhs; whnf) rfl ?_ rfl ?_); (· (first | omega | decide | (exact pos_of_get (by assumption)) | (simp only [List.length_map, List.length_append, List.length_replicate, List.length_set, List.length_cons, List.length_nil]; omega) | (simp; omega))))
        refine rt_nil ?_
        refine q_block ?_
        refine q_then ?_
        (refine ct_region' rfl ?_; simp only [List.map, lite])
        (refine rg rfl (g_addN rfl rfl ?_) rfl rfl ?_; (· (constructor <;> omega)))
        (refine rg rfl (g_move (by conv => lhs; whnf)) rfl rfl ?_)
        refine rt_nil ?_
        rotate_left
      exact q_again ⟨t + 1, by omega⟩ (by show 64 - (t + 1) < 64 - t; omega) ⟨rfl, rfl, rfl, rfl, rfl, rfl, trivial⟩ (by dsimp only; rw [← hs2]; exact Ent.refl _)
  · have hlen := wRow_len xs t ht
    have hwr : ∀ j, j < 64 → (wRow xs t)[j]? = some (wv (wAt (wsUpto xs 64) j)) := fun j hj => by rw [show t = 64 by omega]; exact wRow_get xs 64 j hj
    have hk : ∀ j, j < 64 → (rounds0.map wv)[j]? = some (wv (wAt rounds0 j)) := fun j hj => by
      unfold wAt
      have : j < rounds0.length := hj
      rw [List.getElem?_map, List.getElem?_eq_getElem this]; rfl
    generalize wRow xs t = W at hlen hwr
    focus
      refine ct_seq ?_
      (refine ct_region' rfl ?_; simp only [List.map, lite])
      (refine rg rfl (g_lssF rfl rfl ?_) rfl rfl ?_; (· (omega)))
      refine rt_nil ?_
      refine q_then ?_
      refine ct_seq ?_
      refine ct_false rfl ?_
      refine ct_exit ?_
      refine q_then_exit ?_
      refine q_then_exit ?_
      refine q_block_exit ?_
      refine q_then ?_
      refine ct_seq ?_
      refine ct_quiet (by kernel_rfl) rfl ?_
      simp only [List.map, lite]
      (refine qg rfl (g_elemB1 rfl rfl ?_) rfl rfl ?_; (· (first | omega | decide)))
      (refine qg rfl (g_load rfl (by conv => lhs; whnf)) rfl rfl ?_)
      (refine qg rfl (g_elemB1 rfl rfl ?_) rfl rfl ?_; (· (first | omega | decide)))
      (refine qg rfl (g_load rfl (by conv => lhs; whnf)) rfl rfl ?_)
      (refine qg rfl (g_elemB1 rfl rfl ?_) rfl rfl ?_; (· (first | omega | decide)))
      (refine qg rfl (g_load rfl (by conv => lhs; whnf)) rfl rfl ?_)
      (refine qg rfl (g_elemB1 rfl rfl ?_) rfl rfl ?_; (· (first | omega | decide)))
      (refine qg rfl (g_load rfl (by conv => lhs; whnf)) rfl rfl ?_)
      (refine qg rfl (g_elemB1 rfl rfl ?_) rfl rfl ?_; (· (first | omega | decide)))
      (refine qg rfl (g_load rfl (by conv => lhs; whnf)) rfl rfl ?_)
      (refine qg rfl (g_elemB1 rfl rfl ?_) rfl rfl ?_; (· (first | omega | decide)))
      (refine qg rfl (g_load rfl (by conv => lhs; whnf)) rfl rfl ?_)
      (refine qg rfl (g_elemB1 rfl rfl ?_) rfl rfl ?_; (· (first | omega | decide)))
      (refine qg rfl (g_load rfl (by conv => lhs; whnf)) rfl rfl ?_)
      (refine qg rfl (g_elemB1 rfl rfl ?_) rfl rfl ?_; (· (first | omega | decide)))
      (refine qg rfl (g_load rfl (by conv => lhs; whnf)) rfl rfl ?_)
      (refine qg rfl (g_assign (by conv => lhs; whnf)) rfl rfl ?_)
      (refine qg rfl (g_assign (by conv => lhs; whnf)) rfl rfl ?_)
      (refine qg rfl (g_assign (by conv => lhs; whnf)) rfl rfl ?_)
      (refine qg rfl (g_assign (by conv => lhs; whnf)) rfl rfl ?_)
      (refine qg rfl (g_assign (by conv => lhs; whnf)) rfl rfl ?_)
      (refine qg rfl (g_assign (by conv => lhs; whnf)) rfl rfl ?_)
      (refine qg rfl (g_assign (by conv => lhs; whnf)) rfl rfl ?_)
      (refine qg rfl (g_assign (by conv => lhs; whnf)) rfl rfl ?_)
      refine rq_nil ?_
      refine q_then ?_
      refine ct_seq ?_
      refine ct_seq ?_
      (refine ct_region' rfl ?_; simp only [List.map, lite])
      (refine rg rfl (g_move (by conv => lhs; whnf)) rfl rfl ?_)
      refine rt_nil ?_
      refine q_then ?_
      refine ct_block ?_
      rotate_left
    refine ct_loop (ι := { t : Nat // t ≤ 64 }) (fun t => [(2, .pointer (some ⟨b2, 0, none⟩)), (4, .pointer (some ⟨b4, 0, none⟩)), (5, .pointer (some ⟨b5, 0, none⟩)), (6, .pointer (some ⟨b6, 0, none⟩)), (116, .int .i64 (t.1 : Int)), (10, wv (roundsUpto s xs t.1).a), (11, wv (roundsUpto s xs t.1).b), (12, wv (roundsUpto s xs t.1).c), (13, wv (roundsUpto s xs t.1).d), (14, wv (roundsUpto s xs t.1).e), (15, wv (roundsUpto s xs t.1).f), (16, wv (roundsUpto s xs t.1).g), (17, wv (roundsUpto s xs t.1).h)]) (fun _ => Blk b6 W 63 * (Blk b5 (rounds0.map wv) 63 * (Blk b4 ((List.replicate 8 (0 : UInt32)).map wv) 61 * (Blk b2 (s.row.map wv) 61 * R)))) (fun t => 64 - t.1)
      ⟨0, by omega⟩ ⟨rfl, rfl, rfl, rfl, rfl, rfl, rfl, rfl, rfl, rfl, rfl, rfl, rfl, trivial⟩ (by exact En.ent) fun t2 ρ' => ?_
    obtain ⟨t2, ht2⟩ := t2
    dsimp only at ht2 ⊢
    generalize hv : roundsUpto s xs t2 = v
    by_cases hlt2 : t2 < 64
    · have hk' := hk t2 hlt2
      have hw' := hwr t2 hlt2
      focus
        refine ct_seq ?_
        (refine ct_region' rfl ?_; simp only [List.map, lite])
        (refine rg rfl (g_lssT rfl rfl ?_) rfl rfl ?_; (· (omega)))
        refine rt_nil ?_
        refine q_then ?_
        refine ct_seq ?_
        refine ct_true rfl ?_
        refine ct_skip ?_
        refine q_then ?_
        refine ct_seq ?_
        refine ct_block ?_
        refine ct_seq ?_
        (refine ct_region' rfl ?_; simp only [List.map, lite])
        (refine rg rfl (g_move (by conv => lhs; whnf)) rfl rfl ?_)
        (refine rg rfl (g_assign (by conv => lhs; whnf)) rfl rfl ?_)
        refine rt_nil ?_
        refine q_then ?_
        refine ct_seq ?_
        refine ct_quiet (by kernel_rfl) rfl ?_
        simp only [List.map, lite]
        (refine qg rfl (g_move (by conv => lhs; whnf)) rfl rfl ?_)
        (refine qg rfl (g_move (by conv => lhs; whnf)) rfl rfl ?_)
        (refine rq_callE (wants_none rfl) rfl rfl (Ent.refl _) (Go.Proofs.Ytmhddmenmkjdlaa.turned_spec _ _ _ ?_ ?_) (fun _ => rfl) (fun _ => En.ent) ?_; (· (first | assumption | omega | rfl | decide | infer_instance | (simp; done) | (simp; omega) | (simp only [*]; done))); (· (first | assumption | omega | rfl | decide | infer_instance | (simp; done) | (simp; omega) | (simp only [*]; done))))
        (refine qg rfl (g_move (by conv => lhs; whnf)) rfl rfl ?_)
        (refine rq_callE (wants_none rfl) rfl rfl (Ent.refl _) (Go.Proofs.Ytmhddmenmkjdlaa.turned_spec _ _ _ ?_ ?_) (fun _ => rfl) (fun _ => En.ent) ?_; (· (first | assumption | omega | rfl | decide | infer_instance | (simp; done) | (simp; omega) | (simp only [*]; done))); (· (first | assumption | omega | rfl | decide | infer_instance | (simp; done) | (simp; omega) | (simp only [*]; done))))
        (refine qg rfl (g_xor32 rfl rfl) rfl rfl ?_)
        (refine qg rfl (g_move (by conv => lhs; whnf)) rfl rfl ?_)
        (refine rq_callE (wants_none rfl) rfl rfl (Ent.refl _) (Go.Proofs.Ytmhddmenmkjdlaa.turned_spec _ _ _ ?_ ?_) (fun _ => rfl) (fun _ => En.ent) ?_; (· (first | assumption | omega | rfl | decide | infer_instance | (simp; done) | (simp; omega) | (simp only [*]; done))); (· (first | assumption | omega | rfl | decide | infer_instance | (simp; done) | (simp; omega) | (simp only [*]; done))))
        (refine qg rfl (g_xor32 rfl rfl) rfl rfl ?_)
        (refine qg rfl (g_add32 rfl rfl) rfl rfl ?_)
        (refine qg rfl (g_move (by conv => lhs; whnf)) rfl rfl ?_)
        (refine qg rfl (g_move (by conv => lhs; whnf)) rfl rfl ?_)
        (refine qg rfl (g_and32 rfl rfl) rfl rfl ?_)
        (refine qg rfl (g_move (by conv => lhs; whnf)) rfl rfl ?_)
        (refine qg rfl (g_cpl32 rfl) rfl rfl ?_)
        (refine qg rfl (g_move (by conv => lhs; whnf)) rfl rfl ?_)
        (refine qg rfl (g_and32 rfl rfl) rfl rfl ?_)
        (refine qg rfl (g_xor32 rfl rfl) rfl rfl ?_)
        (refine qg rfl (g_add32 rfl rfl) rfl rfl ?_)
        (refine qg rfl (g_move (by conv => lhs; whnf)) rfl rfl ?_)
        (refine qg rfl (g_elemB1 rfl rfl ?_) rfl rfl ?_; (· (first | omega | decide)))
        (refine qg rfl (g_load rfl (by assumption)) rfl rfl ?_)
        (refine qg rfl (g_add32 rfl rfl) rfl rfl ?_)
        (refine qg rfl (g_move (by conv => lhs; whnf)) rfl rfl ?_)
        (refine qg rfl (g_elemB1 rfl rfl ?_) rfl rfl ?_; (· (first | omega | decide)))
        (refine qg rfl (g_load rfl (by assumption)) rfl rfl ?_)
        (refine qg rfl (g_add32 rfl rfl) rfl rfl ?_)
        (refine qg rfl (g_assign (by conv => lhs; whnf)) rfl rfl ?_)
        refine rq_nil ?_
        refine q_then ?_
        refine ct_seq ?_
        (refine ct_region' rfl ?_; simp only [List.map, lite])
        (refine rg rfl (g_move (by conv => lhs; whnf)) rfl rfl ?_)
        (refine rt_op (wants_none rfl) (o_callE rfl rfl (Ent.refl _) (Go.Proofs.Ytmhddmenmkjdlaa.turned_spec _ _ _ ?_ ?_) fun i147 => ?_); (· (first | assumption | omega | rfl | decide | infer_instance | (simp; done) | (simp; omega) | (simp only [*]; done))); (· (first | assumption | omega | rfl | decide | infer_instance | (simp; done) | (simp; omega) | (simp only [*]; done))))
        (refine rg rfl (g_move (by conv => lhs; whnf)) rfl rfl ?_)
        (refine rt_op (wants_none rfl) (o_callE rfl rfl (Ent.refl _) (Go.Proofs.Ytmhddmenmkjdlaa.turned_spec _ _ _ ?_ ?_) fun i149 => ?_); (· (first | assumption | omega | rfl | decide | infer_instance | (simp; done) | (simp; omega) | (simp only [*]; done))); (· (first | assumption | omega | rfl | decide | infer_instance | (simp; done) | (simp; omega) | (simp only [*]; done))))
        (refine rg rfl (g_xor32 rfl rfl) rfl rfl ?_)
        (refine rg rfl (g_move (by conv => lhs; whnf)) rfl rfl ?_)
        (refine rt_op (wants_none rfl) (o_callE rfl rfl (Ent.refl _) (Go.Proofs.Ytmhddmenmkjdlaa.turned_spec _ _ _ ?_ ?_) fun i152 => ?_); (· (first | assumption | omega | rfl | decide | infer_instance | (simp; done) | (simp; omega) | (simp only [*]; done))); (· (first | assumption | omega | rfl | decide | infer_instance | (simp; done) | (simp; omega) | (simp only [*]; done))))
        (refine rg rfl (g_xor32 rfl rfl) rfl rfl ?_)
        (refine rg rfl (g_move (by conv => lhs; whnf)) rfl rfl ?_)
        (refine rg rfl (g_move (by conv => lhs; whnf)) rfl rfl ?_)
        (refine rg rfl (g_and32 rfl rfl) rfl rfl ?_)
        (refine rg rfl (g_move (by conv => lhs; whnf)) rfl rfl ?_)
        (refine rg rfl (g_move (by conv => lhs; whnf)) rfl rfl ?_)
        (refine rg rfl (g_and32 rfl rfl) rfl rfl ?_)
        (refine rg rfl (g_xor32 rfl rfl) rfl rfl ?_)
        (refine rg rfl (g_move (by conv => lhs; whnf)) rfl rfl ?_)
        (refine rg rfl (g_move (by conv => lhs; whnf)) rfl rfl ?_)
        (refine rg rfl (g_and32 rfl rfl) rfl rfl ?_)
        (refine rg rfl (g_xor32 rfl rfl) rfl rfl ?_)
        (refine rg rfl (g_add32 rfl rfl) rfl rfl ?_)
        (refine rg rfl (g_assign (by conv => lhs; whnf)) rfl rfl ?_)
        refine rt_nil ?_
        refine q_then ?_
        (refine ct_region' rfl ?_; simp only [List.map, lite])
        (refine rg rfl (g_move (by conv => lhs; whnf)) rfl rfl ?_)
        (refine rg rfl (g_move (by conv => lhs; whnf)) rfl rfl ?_)
        (refine rg rfl (g_add32 rfl rfl) rfl rfl ?_)
        (refine rg rfl (g_move (by conv => lhs; whnf)) rfl rfl ?_)
        (refine rg rfl (g_move (by conv => lhs; whnf)) rfl rfl ?_)
        (refine rg rfl (g_move (by conv => lhs; whnf)) rfl rfl ?_)
        (refine rg rfl (g_move (by conv => lhs; whnf)) rfl rfl ?_)
        (refine rg rfl (g_move (by conv => lhs; whnf)) rfl rfl ?_)
        (refine rg rfl (g_add32 rfl rfl) rfl rfl ?_)
        (refine rg rfl (g_move (by conv => lhs; whnf)) rfl rfl ?_)
        (refine rg rfl (g_move (by conv => lhs; whnf)) rfl rfl ?_)
        (refine rg rfl (g_move (by conv => lhs; whnf)) rfl rfl ?_)
        (refine rg rfl (g_assign (by conv => lhs; whnf)) rfl rfl ?_)
        (refine rg rfl (g_assign (by conv => lhs; whnf)) rfl rfl ?_)
        (refine rg rfl (g_assign (by conv => lhs; whnf)) rfl rfl ?_)
        (refine rg rfl (g_assign (by conv => lhs; whnf)) rfl rfl ?_)
        (refine rg rfl (g_assign (by conv => lhs; whnf)) rfl rfl ?_)
        (refine rg rfl (g_assign (by conv => lhs; whnf)) rfl rfl ?_)
        (refine rg rfl (g_assign (by conv => lhs; whnf)) rfl rfl ?_)
        (refine rg rfl (g_assign (by conv => lhs; whnf)) rfl rfl ?_)
        refine rt_nil ?_
        refine q_block ?_
        refine q_then ?_
        (refine ct_region' rfl ?_; simp only [List.map, lite])
        (refine rg rfl (g_addN rfl rfl ?_) rfl rfl ?_; (· (constructor <;> omega)))
        (refine rg rfl (g_move (by conv => lhs; whnf)) rfl rfl ?_)
        refine rt_nil ?_
        rotate_left
      have hr2 : roundsUpto s xs (t2 + 1) = round v (wAt rounds0 t2) (wAt (wsUpto xs 64) t2) := by rw [← hv]; rfl
      refine q_again ⟨t2 + 1, by omega⟩ (by show 64 - (t2 + 1) < 64 - t2; omega) ?_ (Ent.refl _)
      dsimp only
      rw [hr2]
      exact ⟨rfl, rfl, rfl, rfl, rfl, rfl, rfl, rfl, rfl, rfl, rfl, rfl, rfl, trivial⟩
    · have hp : piece s xs = plus8 s v := by rw [← hv, show t2 = 64 by omega]; rfl
      rw [hp]
      focus
        refine ct_seq ?_
        (refine ct_region' rfl ?_; simp only [List.map, lite])
        (refine rg rfl (g_lssF rfl rfl ?_) rfl rfl ?_; (· (omega)))
        refine rt_nil ?_
        refine q_then ?_
        refine ct_seq ?_
        refine ct_false rfl ?_
        refine ct_exit ?_
        refine q_then_exit ?_
        refine q_then_exit ?_
        refine q_block_exit ?_
        refine q_then ?_
        refine ct_seq ?_
        (refine ct_region' rfl ?_; simp only [List.map, lite])
        (refine rg rfl (g_elemB1 rfl rfl ?_) rfl rfl ?_; (· (first | omega | decide)))
        (refine rg rfl (g_load rfl (by conv => lhs; whnf)) rfl rfl ?_)
        (refine rg rfl (g_move (by conv => lhs; whnf)) rfl rfl ?_)
        (refine rg rfl (g_add32 rfl rfl) rfl rfl ?_)
        (refine rg rfl (g_elemB1 rfl rfl ?_) rfl rfl ?_; (· (first | omega | decide)))
        (refine rg rfl (g_load rfl (by conv => lhs; whnf)) rfl rfl ?_)
        (refine rg rfl (g_move (by conv => lhs; whnf)) rfl rfl ?_)
        (refine rg rfl (g_add32 rfl rfl) rfl rfl ?_)
        (refine rg rfl (g_elemB1 rfl rfl ?_) rfl rfl ?_; (· (first | omega | decide)))
        (refine rg rfl (g_load rfl (by conv => lhs; whnf)) rfl rfl ?_)
        (refine rg rfl (g_move (by conv => lhs; whnf)) rfl rfl ?_)
        (refine rg rfl (g_add32 rfl rfl) rfl rfl ?_)
        (refine rg rfl (g_elemB1 rfl rfl ?_) rfl rfl ?_; (· (first | omega | decide)))
        (refine rg rfl (g_load rfl (by conv => lhs; whnf)) rfl rfl ?_)
        (refine rg rfl (g_move (by conv => lhs; whnf)) rfl rfl ?_)
        (refine rg rfl (g_add32 rfl rfl) rfl rfl ?_)
        (refine rg rfl (g_elemB1 rfl rfl ?_) rfl rfl ?_; (· (first | omega | decide)))
        (refine rg rfl (g_load rfl (by conv => lhs; whnf)) rfl rfl ?_)
        (refine rg rfl (g_move (by conv => lhs; whnf)) rfl rfl ?_)
        (refine rg rfl (g_add32 rfl rfl) rfl rfl ?_)
        (refine rg rfl (g_elemB1 rfl rfl ?_) rfl rfl ?_; (· (first | omega | decide)))
        (refine rg rfl (g_load rfl (by conv => lhs; whnf)) rfl rfl ?_)
        (refine rg rfl (g_move (by conv => lhs; whnf)) rfl rfl ?_)
        (refine rg rfl (g_add32 rfl rfl) rfl rfl ?_)
        (refine rg rfl (g_elemB1 rfl rfl ?_) rfl rfl ?_; (· (first | omega | decide)))
        (refine rg rfl (g_load rfl (by conv => lhs; whnf)) rfl rfl ?_)
        (refine rg rfl (g_move (by conv => lhs; whnf)) rfl rfl ?_)
        (refine rg rfl (g_add32 rfl rfl) rfl rfl ?_)
        (refine rg rfl (g_elemB1 rfl rfl ?_) rfl rfl ?_; (· (first | omega | decide)))
        (refine rg rfl (g_load rfl (by conv => lhs; whnf)) rfl rfl ?_)
        (refine rg rfl (g_move (by conv => lhs; whnf)) rfl rfl ?_)
        (refine rg rfl (g_add32 rfl rfl) rfl rfl ?_)
        (refine rg rfl (g_buildA (cells := (plus8 s v).row.map wv) (by simp only [ev, upd, updl, argl, nat_beq_def, Nat.reduceBEq, cond_true, cond_false, List.map_cons, List.map_nil]; rfl) (by rfl)) rfl rfl ?_)
        (refine rt_op (wants_none rfl) (o_storeAgg rfl (by conv => lhs; whnf) (by first | exact List.toList_toArray | (conv => lhs; whnf)) (by first | rfl | exact bvsAll _ | exact wvs_all _ | assumption) (by first | rfl | assumption | (simp; done) | (simp; omega)) (by first | rfl | assumption | (simp; done) | (simp; omega)) ?_))
        refine rt_nil ?_
        refine q_then ?_
        refine ct_ret ?_
        exact q_retC rfl (cell_blk rfl (by first | rfl | assumption | (simp; done) | (simp; omega))) () rfl En.ent
end Go.Proofs.Ytmhddmenmkjdlaa
