/- ShaOrders: the walk. -/
import Derived.Test.YtmhddmenmkjdlaaC2
import Derived.Test.YtmhddmenmkjdlaaC3
import Derived.Test.YtmhddmenmkjdlaaT2
namespace Go.Proofs.Ytmhddmenmkjdlaa
open Go.RowKit
attribute [local irreducible] Gives RT CT QT Spec Wants Reads Src Ent OT RQ AnyT AnyOp Again Code.wp Post

set_option maxRecDepth 100000 in
set_option maxHeartbeats 8000000 in
theorem shaOrders_spec (R : HP) (a : Option Addr) (c : Nat) (l : List Hs) [hr : Rd R a (l.flatMap hc)] (hl : l.length * 32 ≤ 140737488351232) (hcc : l.length ≤ c) (hna : a = none → c = 0) :
    Spec Try.prog 8 [.slice a l.length c] R (fun _ : Unit => .bool true) (fun _ => R) := by
  refine spec_of Try.func8 rfl Try.ntmps8 rfl fun W0 => ?_
  have hfix := fun (R' : HP) => fixed_spec R'
  focus
    refine ct_seq ?_
    (refine ct_region' rfl ?_; simp only [List.map, lite])
    (refine rg rfl (g_assign (by conv => lhs; whnf)) rfl rfl ?_)
    refine rt_nil ?_
    refine q_then ?_
    refine ct_seq ?_
    refine ct_seq ?_
    (refine ct_region' rfl ?_; simp only [List.map, lite])
    (refine rg rfl (g_assign (by conv => lhs; whnf)) rfl rfl ?_)
    refine rt_nil ?_
    refine q_then ?_
    refine ct_block ?_
    rotate_left
  refine ct_loop (ι := { i : Nat // i ≤ l.length }) (fun i => [(0, .slice a l.length c), (3, .int .i64 (i.1 : Int))]) (fun _ => R) (fun i => l.length - i.1) ⟨0, Nat.zero_le _⟩ ⟨rfl, rfl, trivial⟩ (Ent.refl _) fun i ρ' => ?_
  obtain ⟨i, hi⟩ := i
  dsimp only at hi ⊢
  by_cases h : i + 1 < l.length
  · have c1 := fun (R' : HP) => compare_spec R' l[i] l[i + 1]
    have c2 := fun (R' : HP) => compareR_spec R' l[i] l[i + 1]
    have c3 := fun (R' : HP) => compare_spec R' (l[0]'(by omega)) l[i + 1]
    have c4 := fun (R' : HP) => compareR_spec R' (l[0]'(by omega)) l[i + 1]
    have c5 := fun (R' : HP) => compare_spec R' l[i] l[i]
    rw [cmpH_self] at c5
    focus
      refine ct_seq ?_
      refine ct_seq ?_
      (refine ct_region' rfl ?_; simp only [List.map, lite])
      (refine rg rfl (g_move (by conv => lhs; whnf)) rfl rfl ?_)
      (refine rg rfl (g_addN rfl rfl ?_) rfl rfl ?_; (· (constructor <;> omega)))
      (refine rg rfl (g_move (by conv => lhs; whnf)) rfl rfl ?_)
      (refine rg rfl (g_len_slice rfl) rfl rfl ?_)
      (refine rg rfl (g_lssT rfl rfl ?_) rfl rfl ?_; (· (omega)))
      refine rt_nil ?_
      refine q_then ?_
      refine ct_true rfl ?_
      refine ct_skip ?_
      refine q_then ?_
      refine ct_seq ?_
      refine ct_block ?_
      refine ct_seq ?_
      refine ct_quiet (by kernel_rfl) rfl ?_
      simp only [List.map, lite]
      (refine qg rfl (g_move (by conv => lhs; whnf)) rfl rfl ?_)
      (refine qg rfl (g_move (by conv => lhs; whnf)) rfl rfl ?_)
      (refine qg rfl (g_elemH rfl rfl ?_ ?_) rfl rfl ?_; (· (first | omega | decide)); (· (first | omega | decide | (exact pos_of_get (by assumption)) | (simp only [List.length_map, List.length_append, List.length_replicate, List.length_set, List.length_cons, List.length_nil]; omega) | (simp; omega))))
      (refine qg rfl (g_loadH rfl ?_) rfl rfl ?_; (· (first | omega | decide | (exact pos_of_get (by assumption)) | (simp only [List.length_map, List.length_append, List.length_replicate, List.length_set, List.length_cons, List.length_nil]; omega) | (simp; omega))))
      (refine qg rfl (g_move (by conv => lhs; whnf)) rfl rfl ?_)
      (refine qg rfl (g_move (by conv => lhs; whnf)) rfl rfl ?_)
      (refine qg rfl (g_addN rfl rfl ?_) rfl rfl ?_; (· (constructor <;> omega)))
      (refine qg rfl (g_elemH rfl rfl ?_ ?_) rfl rfl ?_; (· (first | omega | decide)); (· (first | omega | decide | (exact pos_of_get (by assumption)) | (simp only [List.length_map, List.length_append, List.length_replicate, List.length_set, List.length_cons, List.length_nil]; omega) | (simp; omega))))
      (refine qg rfl (g_loadH rfl ?_) rfl rfl ?_; (· (first | omega | decide | (exact pos_of_get (by assumption)) | (simp only [List.length_map, List.length_append, List.length_replicate, List.length_set, List.length_cons, List.length_nil]; omega) | (simp; omega))))
      (refine rq_callE (wants_none rfl) rfl rfl (Ent.refl _) (c1 _) (fun _ => rfl) (fun _ => En.ent) ?_)
      (refine qg rfl (g_move (by conv => lhs; whnf)) rfl rfl ?_)
      (refine qg rfl (g_move (by conv => lhs; whnf)) rfl rfl ?_)
      (refine qg rfl (g_elemH rfl rfl ?_ ?_) rfl rfl ?_; (· (first | omega | decide)); (· (first | omega | decide | (exact pos_of_get (by assumption)) | (simp only [List.length_map, List.length_append, List.length_replicate, List.length_set, List.length_cons, List.length_nil]; omega) | (simp; omega))))
      (refine qg rfl (g_loadH rfl ?_) rfl rfl ?_; (· (first | omega | decide | (exact pos_of_get (by assumption)) | (simp only [List.length_map, List.length_append, List.length_replicate, List.length_set, List.length_cons, List.length_nil]; omega) | (simp; omega))))
      (refine qg rfl (g_move (by conv => lhs; whnf)) rfl rfl ?_)
      (refine qg rfl (g_move (by conv => lhs; whnf)) rfl rfl ?_)
      (refine qg rfl (g_addN rfl rfl ?_) rfl rfl ?_; (· (constructor <;> omega)))
      (refine qg rfl (g_elemH rfl rfl ?_ ?_) rfl rfl ?_; (· (first | omega | decide)); (· (first | omega | decide | (exact pos_of_get (by assumption)) | (simp only [List.length_map, List.length_append, List.length_replicate, List.length_set, List.length_cons, List.length_nil]; omega) | (simp; omega))))
      (refine qg rfl (g_loadH rfl ?_) rfl rfl ?_; (· (first | omega | decide | (exact pos_of_get (by assumption)) | (simp only [List.length_map, List.length_append, List.length_replicate, List.length_set, List.length_cons, List.length_nil]; omega) | (simp; omega))))
      (refine rq_callE (wants_none rfl) rfl rfl (Ent.refl _) (c2 _) (fun _ => rfl) (fun _ => En.ent) ?_)
      (refine qg rfl (g_neqF rfl rfl ?_) rfl rfl ?_; (· (omega)))
      (refine qg rfl (g_move (by conv => lhs; whnf)) rfl rfl ?_)
      (refine qgw rfl rfl rfl rfl (g_move (by conv => lhs; whnf)) rfl rfl ?_)
      (refine qgw rfl rfl rfl rfl (g_elemH rfl rfl ?_ ?_) rfl rfl ?_; (· (first | omega | decide)); (· (first | omega | decide | (exact pos_of_get (by assumption)) | (simp only [List.length_map, List.length_append, List.length_replicate, List.length_set, List.length_cons, List.length_nil]; omega) | (simp; omega))))
      (refine qgw rfl rfl rfl rfl (g_loadH rfl ?_) rfl rfl ?_; (· (first | omega | decide | (exact pos_of_get (by assumption)) | (simp only [List.length_map, List.length_append, List.length_replicate, List.length_set, List.length_cons, List.length_nil]; omega) | (simp; omega))))
      (refine qgw rfl rfl rfl rfl (g_move (by conv => lhs; whnf)) rfl rfl ?_)
      (refine qgw rfl rfl rfl rfl (g_move (by conv => lhs; whnf)) rfl rfl ?_)
      (refine qgw rfl rfl rfl rfl (g_addN rfl rfl ?_) rfl rfl ?_; (· (constructor <;> omega)))
      (refine qgw rfl rfl rfl rfl (g_elemH rfl rfl ?_ ?_) rfl rfl ?_; (· (first | omega | decide)); (· (first | omega | decide | (exact pos_of_get (by assumption)) | (simp only [List.length_map, List.length_append, List.length_replicate, List.length_set, List.length_cons, List.length_nil]; omega) | (simp; omega))))
      (refine qgw rfl rfl rfl rfl (g_loadH rfl ?_) rfl rfl ?_; (· (first | omega | decide | (exact pos_of_get (by assumption)) | (simp only [List.length_map, List.length_append, List.length_replicate, List.length_set, List.length_cons, List.length_nil]; omega) | (simp; omega))))
      (refine rq_callE (wants_some rfl rfl rfl rfl) rfl rfl (Ent.refl _) (c3 _) (fun _ => rfl) (fun _ => En.ent) ?_)
      (refine qgw rfl rfl rfl rfl (g_move (by conv => lhs; whnf)) rfl rfl ?_)
      (refine qgw rfl rfl rfl rfl (g_elemH rfl rfl ?_ ?_) rfl rfl ?_; (· (first | omega | decide)); (· (first | omega | decide | (exact pos_of_get (by assumption)) | (simp only [List.length_map, List.length_append, List.length_replicate, List.length_set, List.length_cons, List.length_nil]; omega) | (simp; omega))))
      (refine qgw rfl rfl rfl rfl (g_loadH rfl ?_) rfl rfl ?_; (· (first | omega | decide | (exact pos_of_get (by assumption)) | (simp only [List.length_map, List.length_append, List.length_replicate, List.length_set, List.length_cons, List.length_nil]; omega) | (simp; omega))))
      (refine qgw rfl rfl rfl rfl (g_move (by conv => lhs; whnf)) rfl rfl ?_)
      (refine qgw rfl rfl rfl rfl (g_move (by conv => lhs; whnf)) rfl rfl ?_)
      (refine qgw rfl rfl rfl rfl (g_addN rfl rfl ?_) rfl rfl ?_; (· (constructor <;> omega)))
      (refine qgw rfl rfl rfl rfl (g_elemH rfl rfl ?_ ?_) rfl rfl ?_; (· (first | omega | decide)); (· (first | omega | decide | (exact pos_of_get (by assumption)) | (simp only [List.length_map, List.length_append, List.length_replicate, List.length_set, List.length_cons, List.length_nil]; omega) | (simp; omega))))
      (refine qgw rfl rfl rfl rfl (g_loadH rfl ?_) rfl rfl ?_; (· (first | omega | decide | (exact pos_of_get (by assumption)) | (simp only [List.length_map, List.length_append, List.length_replicate, List.length_set, List.length_cons, List.length_nil]; omega) | (simp; omega))))
      (refine rq_callE (wants_some rfl rfl rfl rfl) rfl rfl (Ent.refl _) (c4 _) (fun _ => rfl) (fun _ => En.ent) ?_)
      (refine qgw rfl rfl rfl rfl (g_neqF rfl rfl ?_) rfl rfl ?_; (· (omega)))
      (refine qg rfl (g_pick_f rfl (by conv => lhs; whnf)) rfl rfl ?_)
      (refine qg rfl (g_move (by conv => lhs; whnf)) rfl rfl ?_)
      (refine qgw rfl rfl rfl rfl (g_move (by conv => lhs; whnf)) rfl rfl ?_)
      (refine qgw rfl rfl rfl rfl (g_move (by conv => lhs; whnf)) rfl rfl ?_)
      (refine qgw rfl rfl rfl rfl (g_elemH rfl rfl ?_ ?_) rfl rfl ?_; (· (first | omega | decide)); (· (first | omega | decide | (exact pos_of_get (by assumption)) | (simp only [List.length_map, List.length_append, List.length_replicate, List.length_set, List.length_cons, List.length_nil]; omega) | (simp; omega))))
      (refine qgw rfl rfl rfl rfl (g_loadH rfl ?_) rfl rfl ?_; (· (first | omega | decide | (exact pos_of_get (by assumption)) | (simp only [List.length_map, List.length_append, List.length_replicate, List.length_set, List.length_cons, List.length_nil]; omega) | (simp; omega))))
      (refine qgw rfl rfl rfl rfl (g_move (by conv => lhs; whnf)) rfl rfl ?_)
      (refine qgw rfl rfl rfl rfl (g_move (by conv => lhs; whnf)) rfl rfl ?_)
      (refine qgw rfl rfl rfl rfl (g_elemH rfl rfl ?_ ?_) rfl rfl ?_; (· (first | omega | decide)); (· (first | omega | decide | (exact pos_of_get (by assumption)) | (simp only [List.length_map, List.length_append, List.length_replicate, List.length_set, List.length_cons, List.length_nil]; omega) | (simp; omega))))
      (refine qgw rfl rfl rfl rfl (g_loadH rfl ?_) rfl rfl ?_; (· (first | omega | decide | (exact pos_of_get (by assumption)) | (simp only [List.length_map, List.length_append, List.length_replicate, List.length_set, List.length_cons, List.length_nil]; omega) | (simp; omega))))
      (refine rq_callE (wants_some rfl rfl rfl rfl) rfl rfl (Ent.refl _) (c5 _) (fun _ => rfl) (fun _ => En.ent) ?_)
      (refine qgw rfl rfl rfl rfl (g_neqF rfl rfl ?_) rfl rfl ?_; (· (omega)))
      (refine qg rfl (g_pick_f rfl (by conv => lhs; whnf)) rfl rfl ?_)
      refine rq_nil ?_
      refine q_then ?_
      refine ct_false rfl ?_
      refine ct_skip ?_
      refine q_block ?_
      refine q_then ?_
      (refine ct_region' rfl ?_; simp only [List.map, lite])
      (refine rg rfl (g_move (by conv => lhs; whnf)) rfl rfl ?_)
      (refine rg rfl (g_addN rfl rfl ?_) rfl rfl ?_; (· (constructor <;> omega)))
      (refine rg rfl (g_assign (by conv => lhs; whnf)) rfl rfl ?_)
      refine rt_nil ?_
      rotate_left
    exact q_again ⟨i + 1, by omega⟩ (by show l.length - (i + 1) < l.length - i; omega) ⟨rfl, rfl, trivial⟩ (Ent.refl _)
  · focus
      refine ct_seq ?_
      refine ct_seq ?_
      (refine ct_region' rfl ?_; simp only [List.map, lite])
      (refine rg rfl (g_move (by conv => lhs; whnf)) rfl rfl ?_)
      (refine rg rfl (g_addN rfl rfl ?_) rfl rfl ?_; (· (constructor <;> omega)))
      (refine rg rfl (g_move (by conv => lhs; whnf)) rfl rfl ?_)
      (refine rg rfl (g_len_slice rfl) rfl rfl ?_)
      (refine rg rfl (g_lssF rfl rfl ?_) rfl rfl ?_; (· (omega)))
      refine rt_nil ?_
      refine q_then ?_
      refine ct_false rfl ?_
      refine ct_exit ?_
      refine q_then_exit ?_
      refine q_then_exit ?_
      refine q_block_exit ?_
      refine q_then ?_
      refine ct_seq ?_
      (refine ct_region' rfl ?_; simp only [List.map, lite])
      (refine rg rfl (g_move (by conv => lhs; whnf)) rfl rfl ?_)
      (refine rt_op (wants_none rfl) (o_callE rfl rfl (Ent.refl _) (Go.Proofs.Ytmhddmenmkjdlaa.sort_spec _ _ _ _ ?_) fun i66 => ?_); (· (first | assumption | omega | rfl | decide | infer_instance | (simp; done) | (simp; omega) | (simp only [*]; done))))
      (refine rg rfl (g_move (by conv => lhs; whnf)) rfl rfl ?_)
      (refine rt_op (wants_none rfl) (o_callE rfl rfl (Ent.refl _) (Go.Proofs.Ytmhddmenmkjdlaa.sortR_spec _ _ _ _ ?_ ?_ ?_) fun i68 => ?_); (· (first | assumption | omega | rfl | decide | infer_instance | (simp; done) | (simp; omega) | (simp only [*]; done))); (· (first | assumption | omega | rfl | decide | infer_instance | (simp; done) | (simp; omega) | (simp only [*]; done))); (· (first | assumption | omega | rfl | decide | infer_instance | (simp; done) | (simp; omega) | (simp only [*]; done))))
      rotate_left
    have hsl := sortS_len l
    have hsr := sort_rd (E := 23) (cap := i66.1.2) (n := l.length) (ad := i66.1.1) (l := sortS l) (r := i66.2.1)
    have hsm := fun (R' : HP) [Rd R' i66.1.1 ((sortS l).flatMap hc)] [Rd R' i68.1 ((sortS l).flatMap hc)] => same_spec R' i66.1.1 i68.1 (sortS l).length i68.2 (sortS l) (sortS l) (by omega) (by omega)
    simp only [decide_true] at hsm
    focus
      (refine rt_op (wants_none rfl) (o_callE rfl rfl (Ent.refl _) (hsm _) fun i69 => ?_))
      (refine rg rfl (g_move (by conv => lhs; whnf)) rfl rfl ?_)
      (refine rgw rfl rfl rfl rfl (g_move (by conv => lhs; whnf)) rfl rfl ?_)
      (refine rt_op (wants_some rfl rfl rfl rfl) (o_callE rfl rfl (Ent.refl _) (Go.Proofs.Ytmhddmenmkjdlaa.rising_spec _ _ _ _ ?_) fun i72 => ?_); (· (first | assumption | omega | rfl | decide | infer_instance | (simp; done) | (simp; omega) | (simp only [*]; done))))
      (refine rgw rfl rfl rfl rfl (g_move (by conv => lhs; whnf)) rfl rfl ?_)
      (refine rt_op (wants_some rfl rfl rfl rfl) (o_callE rfl rfl (Ent.refl _) (Go.Proofs.Ytmhddmenmkjdlaa.risingR_spec _ _ _ _ ?_) fun i74 => ?_); (· (first | assumption | omega | rfl | decide | infer_instance | (simp; done) | (simp; omega) | (simp only [*]; done))))
      (refine rgw rfl rfl rfl rfl (g_eqb rfl rfl) rfl rfl ?_)
      (refine rg rfl (g_pick_t rfl (by conv => lhs; whnf)) rfl rfl ?_)
      (refine rg rfl (g_move (by conv => lhs; whnf)) rfl rfl ?_)
      refine rt_splitB 77 rfl (fun h77 => ?_) (fun h77 => ?_)
      (refine rt_op (wants_some rfl rfl rfl rfl) (o_callE rfl rfl (Ent.refl _) (hfix _) fun i78 => ?_))
      (refine rg rfl (g_pick_t rfl (by conv => lhs; whnf)) rfl rfl ?_)
      (refine rg rfl (g_assign (by conv => lhs; whnf)) rfl rfl ?_)
      refine rt_nil ?_
      refine q_then ?_
      refine ct_ret ?_
      exact q_ret1 rfl rfl () rfl En.ent
      refine rgs rfl rfl rfl rfl rfl rfl ?_
      (refine rg rfl (g_pick_f rfl (by conv => lhs; whnf)) rfl rfl ?_)
      (refine rg rfl (g_assign (by conv => lhs; whnf)) rfl rfl ?_)
      refine rt_nil ?_
      refine q_then ?_
      refine ct_ret ?_
      rotate_left

    exact absurd h77 (by simp)
end Go.Proofs.Ytmhddmenmkjdlaa
