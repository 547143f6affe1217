/- The reference's forms of bytes and hashes; an Out, what is laid read wherever it is. -/
import Derived.Test.YtfcanppeiadbhaaB3
namespace Go.Proofs.Ytfcanppeiadbhaa
open Go.RowKit
attribute [local irreducible] Gives RT CT QT Spec Wants Reads Src Ent OT RQ AnyT AnyOp Again Code.wp Post

theorem refBytes_spec (R : HP) (a b : Option Addr) (c c' : Nat) (xs ys : List UInt8) [hr : Rd R b (ys.map bv)] (hy : ys.length < 2 ^ 64) (hl : xs.length + 10 + ys.length ≤ 140737488355328) :
    Spec Try.prog 39 [.slice a xs.length c, .slice b ys.length c'] (Arr 5 1 a c xs.length (xs.map bv) * R) (fun i : Rw (xs ++ numForm ys.length ++ ys).length => .slice i.1.1 (xs ++ numForm ys.length ++ ys).length i.1.2) (fun i => Arr 5 1 i.1.1 i.1.2 (xs ++ numForm ys.length ++ ys).length ((xs ++ numForm ys.length ++ ys).map bv) * R) := by
  refine spec_of Try.func39 rfl Try.ntmps39 rfl fun W0 => ?_
  have h10 := numForm_ten hy
  have hpos := numForm_pos ys.length
  have hT : (xs ++ numForm ys.length).length + ys.length ≤ 140737488355328 := by rw [List.length_append]; omega
  focus
    refine ct_seq ?_
    (refine ct_region' rfl ?_; simp only [List.map, lite])
    (refine rg rfl (g_assign (by conv => lhs; whnf)) rfl rfl ?_)
    refine rt_nil ?_
    refine q_then ?_
    refine ct_seq ?_
    (refine ct_region' rfl ?_; simp only [List.map, lite])
    (refine rg rfl (g_move (by conv => lhs; whnf)) rfl rfl ?_)
    (refine rg rfl (g_move (by conv => lhs; whnf)) rfl rfl ?_)
    (refine rg rfl (g_len_slice rfl) rfl rfl ?_)
    (refine rg rfl (g_convN rfl ?_) rfl rfl ?_; (· (constructor <;> omega)))
    (refine rt_op (wants_none rfl) (o_callE rfl rfl (Ent.refl _) (Go.Proofs.Ytfcanppeiadbhaa.refNumber_spec _ _ _ _ _ ?_ ?_) fun i9 => ?_); (· (first | assumption | omega | rfl | decide | (simp; done) | (simp; omega) | (simp only [*]; done))); (· (first | assumption | omega | rfl | decide | (simp; done) | (simp; omega) | (simp only [*]; done))))
    (refine rg rfl (g_assign (by conv => lhs; whnf)) rfl rfl ?_)
    refine rt_nil ?_
    refine q_then ?_
    refine ct_seq ?_
    (refine ct_region' rfl ?_; simp only [List.map, lite])
    (refine rg rfl (g_move (by conv => lhs; whnf)) rfl rfl ?_)
    (refine rg rfl (g_move (by conv => lhs; whnf)) rfl rfl ?_)
    (refine rt_op (wants_none rfl) (o_appR rfl rfl rfl (by first | rfl | simp | (simp; omega)) (by first | rfl | exact bvsAll _ | exact wvs_all _ | assumption) (by rfl) (by rfl) ?_ (by first | with_reducible exact Nat.zero_add _ | exact rfl) (by first | with_reducible exact List.nil_append _ | exact List.map_append.symm | exact rfl) fun ad12 cap12 hc12 hn12 => ?_); (· (first | omega | decide)))
    (refine rg rfl (g_assign (by conv => lhs; whnf)) rfl rfl ?_)
    refine rt_nil ?_
    refine q_then ?_
    refine ct_ret ?_
    rotate_left
  exact q_ret1 rfl (by conv => lhs; whnf) ⟨(ad12, cap12), fun h => by have := (hn12 h).1; rw [List.length_append] at this; omega, by rw [List.length_append]; exact hc12⟩ (by simp only [List.length_append]) (Ent.mul (arr_cast (by simp only [List.length_append]) rfl) (Ent.refl _))
def hash32 (xs : List UInt8) : List UInt8 := xs.take 32 ++ List.replicate (32 - xs.length) 0
theorem hash32_len (xs : List UInt8) : (hash32 xs).length = 32 := by unfold hash32; simp; omega
theorem hashOf_spec (R : HP) (a : Option Addr) (c : Nat) (xs : List UInt8) [hr : Rd R a (xs.map bv)] (hl : xs.length ≤ 9223372036854775807) :
    Spec Try.prog 41 [.slice a xs.length c] R (fun _ : Unit => .agg ((hash32 xs).map bv).toArray) (fun _ => R) := by
  refine spec_of Try.func41 rfl Try.ntmps41 rfl fun W0 => ?_
  focus
    refine ct_seq ?_
    (refine ct_region' rfl ?_; simp only [List.map, lite])
    (refine rt_op (wants_none rfl) (o_alloc rfl (by conv => lhs; whnf) fun b2 => ?_))
    refine rt_nil ?_
    refine q_then ?_
    refine ct_seq ?_
    (refine ct_region' rfl ?_; simp only [List.map, lite])
    (refine rg rfl (g_buildZ rfl) rfl rfl ?_)
    (refine rt_op (wants_none rfl) (o_alloc rfl (by conv => lhs; whnf) fun b3 => ?_))
    (refine rt_op (wants_none rfl) (o_storeAgg rfl (by conv => lhs; whnf) (by conv => lhs; whnf) (by first | rfl | exact bvsAll _ | exact wvs_all _ | assumption) (by first | rfl | assumption | (simp; done) | (simp; omega)) (by first | rfl | assumption | (simp; done) | (simp; omega)) ?_))
    refine rt_nil ?_
    refine q_then ?_
    refine ct_seq ?_
    refine ct_seq ?_
    (refine ct_region' rfl ?_; simp only [List.map, lite])
    (refine rg rfl (g_assign (by conv => lhs; whnf)) rfl rfl ?_)
    refine rt_nil ?_
    refine q_then ?_
    refine ct_block ?_
    rotate_left
  refine ct_loop (ι := { i : Nat // i ≤ 32 ∧ i ≤ xs.length }) (fun i => [(0, .slice a xs.length c), (2, .pointer (some ⟨b2, 0, none⟩)), (3, .pointer (some ⟨b3, 0, none⟩)), (4, .int .i64 (i.1 : Int))]) (fun i => Blk b3 ((xs.take i.1 ++ List.replicate (32 - i.1) 0).map bv) 84 * (Blk b2 (hash0.map bv) 84 * R)) (fun i => 32 - i.1) ⟨0, by omega, by omega⟩ ⟨rfl, rfl, rfl, rfl, trivial⟩ (Ent.refl _) fun i ρ' => ?_
  obtain ⟨i, hi, hi2⟩ := i
  dsimp only at hi hi2 ⊢
  by_cases h : i < 32 ∧ i < xs.length
  · obtain ⟨h1, h2⟩ := h
    focus
      refine ct_seq ?_
      refine ct_seq ?_
      (refine ct_region' rfl ?_; simp only [List.map, lite])
      (refine rg rfl (g_move (by conv => lhs; whnf)) rfl rfl ?_)
      (refine rg rfl (g_move (by conv => lhs; whnf)) rfl rfl ?_)
      (refine rg rfl (g_len_slice rfl) rfl rfl ?_)
      (refine rg rfl (g_lssT rfl rfl ?_) rfl rfl ?_; (· (omega)))
      (refine rg rfl (g_move (by conv => lhs; whnf)) rfl rfl ?_)
      (refine rgw rfl rfl rfl rfl (g_move (by conv => lhs; whnf)) rfl rfl ?_)
      (refine rgw rfl rfl rfl rfl (g_lssT rfl rfl ?_) rfl rfl ?_; (· (omega)))
      (refine rg rfl (g_pick_t rfl (by conv => lhs; whnf)) rfl rfl ?_)
      refine rt_nil ?_
      refine q_then ?_
      refine ct_true rfl ?_
      refine ct_skip ?_
      refine q_then ?_
      refine ct_seq ?_
      refine ct_block ?_
      (refine ct_region' rfl ?_; simp only [List.map, lite])
      (refine rg rfl (g_move (by conv => lhs; whnf)) rfl rfl ?_)
      (refine rg rfl (g_move (by conv => lhs; whnf)) rfl rfl ?_)
      (refine rg rfl (g_move (by conv => lhs; whnf)) rfl rfl ?_)
      (refine rg rfl (g_elemO1 rfl rfl ?_ ?_) rfl rfl ?_; (· (first | omega | decide)); (· (first | omega | decide | (exact pos_of_get (by assumption)) | (simp only [List.length_map, List.length_append, List.length_replicate, List.length_cons, List.length_nil]; omega) | (simp; omega))))
      (refine rg rfl (g_load_rd rfl (byte_at ?_)) rfl rfl ?_; (· (first | omega | decide | (exact pos_of_get (by assumption)) | (simp only [List.length_map, List.length_append, List.length_replicate, List.length_cons, List.length_nil]; omega) | (simp; omega))))
      (refine rg rfl (g_elemB1 rfl rfl ?_) rfl rfl ?_; (· (first | omega | decide)))
      (refine rt_op (wants_none rfl) (o_storeI rfl (by conv => lhs; whnf) rfl ?_ rfl ?_); (· (first | omega | decide | (exact pos_of_get (by assumption)) | (simp only [List.length_map, List.length_append, List.length_replicate, List.length_cons, List.length_nil]; omega) | (simp; omega))))
      refine rt_nil ?_
      refine q_block ?_
      refine q_then ?_
      (refine ct_region' rfl ?_; simp only [List.map, lite])
      (refine rg rfl (g_move (by conv => lhs; whnf)) rfl rfl ?_)
      (refine rg rfl (g_addN rfl rfl ?_) rfl rfl ?_; (· (constructor <;> omega)))
      (refine rg rfl (g_assign (by conv => lhs; whnf)) rfl rfl ?_)
      refine rt_nil ?_
      rotate_left
    rw [zeros_set xs 32 i h2 h1]
    exact q_again ⟨i + 1, by omega, by omega⟩ (by show 32 - (i + 1) < 32 - i; omega) ⟨rfl, rfl, rfl, rfl, trivial⟩ (Ent.refl _)
  · have e : xs.take i ++ List.replicate (32 - i) 0 = hash32 xs := by
      unfold hash32
      by_cases h3 : i = 32
      · subst h3; rw [show 32 - xs.length = 0 by omega]
      · obtain rfl : i = xs.length := by omega
        rw [List.take_of_length_le (Nat.le_refl _), List.take_of_length_le (by omega)]
    have hz := hash32_len xs
    rw [e]
    have hz' : ((hash32 xs).map bv).length = 32 := by rw [List.length_map, hz]
    focus
      refine ct_seq ?_
      refine ct_seq ?_
      (refine ct_region' rfl ?_; simp only [List.map, lite])
      (refine rg rfl (g_move (by conv => lhs; whnf)) rfl rfl ?_)
      (refine rg rfl (g_move (by conv => lhs; whnf)) rfl rfl ?_)
      (refine rg rfl (g_len_slice rfl) rfl rfl ?_)
      (refine rg rfl (g_lss rfl rfl) rfl rfl ?_)
      (refine rg rfl (g_move (by conv => lhs; whnf)) rfl rfl ?_)
      refine rt_split 10 rfl (fun h10 => ?_) (fun h10 => ?_)
      (refine rgw rfl rfl rfl rfl (g_move (by conv => lhs; whnf)) rfl rfl ?_)
      (refine rgw rfl rfl rfl rfl (g_lssF rfl rfl ?_) rfl rfl ?_; (· (omega)))
      (refine rg rfl (g_pick_t rfl (by conv => lhs; whnf)) rfl rfl ?_)
      refine rt_nil ?_
      refine q_then ?_
      refine ct_false rfl ?_
      refine ct_exit ?_
      refine q_then_exit ?_
      refine q_then_exit ?_
      refine q_block_exit ?_
      refine q_then ?_
      refine ct_seq ?_
      (refine ct_region' rfl ?_; simp only [List.map, lite])
      (refine rg rfl (g_loadAgg_blk rfl (by first | rfl | assumption | (simp; done) | (simp; omega))) rfl rfl ?_)
      (refine rt_op (wants_none rfl) (o_storeAgg rfl (by conv => lhs; whnf) (by conv => lhs; whnf) (by first | rfl | exact bvsAll _ | exact wvs_all _ | assumption) (by first | rfl | assumption | (simp; done) | (simp; omega)) (by first | rfl | assumption | (simp; done) | (simp; omega)) ?_))
      refine rt_nil ?_
      refine q_then ?_
      refine ct_ret ?_
      exact q_retC rfl (cell_blk rfl (by first | rfl | assumption | (simp; done) | (simp; omega))) () rfl En.ent
      refine rgs rfl rfl rfl rfl rfl rfl ?_
      refine rgs rfl rfl rfl rfl rfl rfl ?_
      (refine rg rfl (g_pick_f rfl (by conv => lhs; whnf)) rfl rfl ?_)
      refine rt_nil ?_
      refine q_then ?_
      refine ct_false rfl ?_
      refine ct_exit ?_
      refine q_then_exit ?_
      refine q_then_exit ?_
      refine q_block_exit ?_
      refine q_then ?_
      refine ct_seq ?_
      (refine ct_region' rfl ?_; simp only [List.map, lite])
      (refine rg rfl (g_loadAgg_blk rfl (by first | rfl | assumption | (simp; done) | (simp; omega))) rfl rfl ?_)
      (refine rt_op (wants_none rfl) (o_storeAgg rfl (by conv => lhs; whnf) (by conv => lhs; whnf) (by first | rfl | exact bvsAll _ | exact wvs_all _ | assumption) (by first | rfl | assumption | (simp; done) | (simp; omega)) (by first | rfl | assumption | (simp; done) | (simp; omega)) ?_))
      refine rt_nil ?_
      refine q_then ?_
      refine ct_ret ?_
      exact q_retC rfl (cell_blk rfl (by first | rfl | assumption | (simp; done) | (simp; omega))) () rfl En.ent
theorem refHash_spec (R : HP) (a : Option Addr) (c : Nat) (xs hs : List UInt8) (hh : hs.length = 32) (hl : xs.length + 32 ≤ 140737488355328) :
    Spec Try.prog 42 [.slice a xs.length c, .agg (hs.map bv).toArray] (Arr 5 1 a c xs.length (xs.map bv) * R) (fun i : Rw (xs ++ hs).length => .slice i.1.1 (xs ++ hs).length i.1.2) (fun i => Arr 5 1 i.1.1 i.1.2 (xs ++ hs).length ((xs ++ hs).map bv) * R) := by
  refine spec_of Try.func42 rfl Try.ntmps42 rfl fun W0 => ?_
  focus
    refine ct_seq ?_
    (refine ct_region' rfl ?_; simp only [List.map, lite])
    (refine rt_op (wants_none rfl) (o_box rfl (by conv => lhs; whnf) (by conv => lhs; whnf) fun b3 => ?_))
    (refine rg rfl (g_assign (by conv => lhs; whnf)) rfl rfl ?_)
    refine rt_nil ?_
    refine q_then ?_
    refine ct_seq ?_
    refine ct_seq ?_
    (refine ct_region' rfl ?_; simp only [List.map, lite])
    (refine rg rfl (g_assign (by conv => lhs; whnf)) rfl rfl ?_)
    refine rt_nil ?_
    refine q_then ?_
    refine ct_block ?_
    rotate_left
  refine ct_ar a fun _ hn hc _ => ?_
  refine ct_loop (ι := { i : Nat × Option Addr × Nat // i.1 ≤ 32 ∧ (i.2.1 = none → xs.length + i.1 = 0) ∧ xs.length + i.1 ≤ i.2.2 }) (fun i => [(0, .slice i.1.2.1 (xs.length + i.1.1) i.1.2.2), (3, .pointer (some ⟨b3, 0, none⟩)), (5, .int .i64 (i.1.1 : Int))]) (fun i => Blk b3 (hs.map bv) 84 * (Arr 5 1 i.1.2.1 i.1.2.2 (xs.length + i.1.1) ((xs ++ hs.take i.1.1).map bv) * R)) (fun i => 32 - i.1.1) ⟨(0, a, c), by omega, fun h => (hn h).1, hc⟩ ⟨rfl, rfl, rfl, trivial⟩ (by simp only [List.take_zero, List.append_nil]; exact Ent.refl _) fun i ρ' => ?_
  obtain ⟨⟨i, a, c⟩, hi, hn, hc⟩ := i
  dsimp only at hi hn hc ⊢
  by_cases h : i < 32
  · focus
      refine ct_seq ?_
      refine ct_seq ?_
      (refine ct_region' rfl ?_; simp only [List.map, lite])
      (refine rg rfl (g_move (by conv => lhs; whnf)) rfl rfl ?_)
      (refine rg rfl (g_lssT rfl rfl ?_) rfl rfl ?_; (· (omega)))
      refine rt_nil ?_
      refine q_then ?_
      refine ct_true rfl ?_
      refine ct_skip ?_
      refine q_then ?_
      refine ct_seq ?_
      refine ct_block ?_
      (refine ct_region' rfl ?_; simp only [List.map, lite])
      (refine rg rfl (g_move (by conv => lhs; whnf)) rfl rfl ?_)
      (refine rg rfl (g_move (by conv => lhs; whnf)) rfl rfl ?_)
      (refine rg rfl (g_elemB1 rfl rfl ?_) rfl rfl ?_; (· (first | omega | decide)))
      (refine rg rfl (g_load rfl (byte_at ?_)) rfl rfl ?_; (· (first | omega | decide | (exact pos_of_get (by assumption)) | (simp only [List.length_map, List.length_append, List.length_replicate, List.length_cons, List.length_nil]; omega) | (simp; omega))))
      (refine rt_op (wants_none rfl) (o_build1 rfl (by conv => lhs; whnf) (by rfl) (by rfl) (by rfl) (by conv => lhs; whnf) fun b14 => ?_))
      (refine rt_op (wants_none rfl) (o_app2 rfl rfl rfl (by rfl) (by first | rfl | exact bvsAll _ | exact wvs_all _ | assumption) (by rfl) ?_ (by first | with_reducible exact Nat.zero_add _ | exact rfl) (by first | with_reducible exact List.nil_append _ | exact List.map_append.symm | exact rfl) fun ad15 cap15 hc15 hn15 => ?_); (· (first | omega | decide)))
      (refine rg rfl (g_assign (by conv => lhs; whnf)) rfl rfl ?_)
      refine rt_nil ?_
      refine q_block ?_
      refine q_then ?_
      (refine ct_region' rfl ?_; simp only [List.map, lite])
      (refine rg rfl (g_move (by conv => lhs; whnf)) rfl rfl ?_)
      (refine rg rfl (g_addN rfl rfl ?_) rfl rfl ?_; (· (constructor <;> omega)))
      (refine rg rfl (g_assign (by conv => lhs; whnf)) rfl rfl ?_)
      refine rt_nil ?_
      rotate_left
    have e := take_snoc xs hs i (by omega)
    exact q_again ⟨(i + 1, ad15, cap15), by omega, fun h => absurd h hn15, hc15⟩ (by show 32 - (i + 1) < 32 - i; omega) ⟨rfl, rfl, rfl, trivial⟩ (by dsimp only; rw [← e]; exact En.ent)
  · obtain rfl : i = 32 := by omega
    focus
      refine ct_seq ?_
      refine ct_seq ?_
      (refine ct_region' rfl ?_; simp only [List.map, lite])
      (refine rg rfl (g_move (by conv => lhs; whnf)) rfl rfl ?_)
      (refine rg rfl (g_lssF rfl rfl ?_) rfl rfl ?_; (· (omega)))
      refine rt_nil ?_
      refine q_then ?_
      refine ct_false rfl ?_
      refine ct_exit ?_
      refine q_then_exit ?_
      refine q_then_exit ?_
      refine q_block_exit ?_
      refine q_then ?_
      refine ct_seq ?_
      (refine ct_region' rfl ?_; simp only [List.map, lite])
      (refine rg rfl (g_move (by conv => lhs; whnf)) rfl rfl ?_)
      (refine rg rfl (g_assign (by conv => lhs; whnf)) rfl rfl ?_)
      refine rt_nil ?_
      refine q_then ?_
      refine ct_ret ?_
      rotate_left
    exact q_ret1 rfl (by conv => lhs; whnf) ⟨(a, c), fun h => by have := hn h; omega, by rw [List.length_append, hh]; exact hc⟩ (by simp only [List.length_append, hh]) ((Ent.dropL _ _).trans (Ent.mul (arr_cast (by rw [List.length_append, hh]) (by rw [List.take_of_length_le (by omega)])) (Ent.refl _)))
end Go.Proofs.Ytfcanppeiadbhaa
