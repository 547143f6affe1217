/- slices.Index, slices.Delete of one; Forget. -/
import Derived.Test.YtijplicijmpknaaDg4
import Derived.Test.YtijplicijmpknaaDl
namespace Go.Proofs.Ytijplicijmpknaa
open Go.RowKit
attribute [local irreducible] Gives RT CT QT Spec Wants Reads Src Ent OT RQ AnyT AnyOp Again Code.wp Post
attribute [local irreducible] vcells

theorem index_spec (R : HP) (a : Option Addr) (c : Nat) (l : List Hs) (x : Hs) [hr : Rd R a (l.flatMap hc)] (hl : l.length ≤ 140737488351232) :
    Spec Try.prog 76 [.slice a l.length c, .agg (hc x).toArray] R (fun _ : Unit => .int .i64 (idxF l fun y => decide (x = y))) (fun _ => R) := by
  refine spec_of Try.func76 rfl Try.ntmps76 rfl fun W0 => ?_
  have hx : (x.1.map bv).length = 32 := hc_len x
  have hx2 := x.2
  focus
    refine ct_seq ?_
    (refine ct_region' rfl ?_; simp only [List.map, lite])
    (refine rt_op (wants_none rfl) (o_box rfl (by conv => lhs; whnf) (by conv => lhs; whnf) fun b3 => ?_))
    (refine rg rfl (g_assign (by conv => lhs; whnf)) rfl rfl ?_)
    refine rt_nil ?_
    refine q_then ?_
    refine ct_seq ?_
    refine ct_seq ?_
    (refine ct_region' rfl ?_; simp only [List.map, lite])
    (refine rg rfl (g_move (by conv => lhs; whnf)) rfl rfl ?_)
    (refine rg rfl (g_len_slice rfl) rfl rfl ?_)
    (refine rg rfl (g_move (by conv => lhs; whnf)) rfl rfl ?_)
    refine rt_nil ?_
    refine q_then ?_
    refine ct_block ?_
    rotate_left
  refine ct_loop (ι := { i : Nat // i ≤ l.length ∧ ∀ y ∈ l.take i, decide (x = y) = false }) (fun i => [(0, .slice a l.length c), (3, .pointer (some ⟨b3, 0, none⟩)), (7, .int .i64 (l.length : Int)), (8, .int .i64 (i.1 : Int))]) (fun _ => Blk b3 (x.1.map bv) 32 * R) (fun i => l.length - i.1) ⟨0, by omega, by simp⟩ ⟨rfl, rfl, rfl, rfl, trivial⟩ (Ent.refl _) fun i ρ' => ?_
  obtain ⟨i, hi, hq⟩ := i
  dsimp only at hi ⊢
  by_cases h : i < l.length
  · have hli := (l[i]).2
    focus
      refine ct_seq ?_
      (refine ct_region' rfl ?_; simp only [List.map, lite])
      (refine rg rfl (g_lssT rfl rfl ?_) rfl rfl ?_; (· (omega)))
      refine rt_nil ?_
      refine q_then ?_
      refine ct_seq ?_
      refine ct_true rfl ?_
      refine ct_skip ?_
      refine q_then ?_
      refine ct_seq ?_
      refine ct_block ?_
      refine ct_seq ?_
      (refine ct_region' rfl ?_; simp only [List.map, lite])
      (refine rg rfl (g_move (by conv => lhs; whnf)) rfl rfl ?_)
      (refine rg rfl (g_assign (by conv => lhs; whnf)) rfl rfl ?_)
      refine rt_nil ?_
      refine q_then ?_
      refine ct_seq ?_
      refine ct_quiet (by kernel_rfl) rfl ?_
      simp only [List.map, lite]
      (refine qg rfl (g_loadAgg_blk rfl (by first | rfl | assumption | (simp; done) | (simp; omega) | exact vcells_len _)) rfl rfl ?_)
      (refine qg rfl (g_move (by conv => lhs; whnf)) rfl rfl ?_)
      (refine qg rfl (g_move (by conv => lhs; whnf)) rfl rfl ?_)
      (refine qg rfl (g_elemH rfl rfl ?_ ?_) rfl rfl ?_; (· (first | omega | decide)); (· (first | omega | decide | (exact pos_of_get (by assumption)) | (simp only [List.length_map, List.length_append, List.length_replicate, List.length_set, List.length_cons, List.length_nil]; omega) | (simp; omega))))
      (refine qg rfl (g_loadH rfl ?_) rfl rfl ?_; (· (first | omega | decide | (exact pos_of_get (by assumption)) | (simp only [List.length_map, List.length_append, List.length_replicate, List.length_set, List.length_cons, List.length_nil]; omega) | (simp; omega))))
      (refine qg rfl (g_eqH rfl rfl (by kernel_rfl) (by first | rfl | assumption | (simp; done) | (simp; omega)) (by first | rfl | assumption | (simp; done) | (simp; omega))) rfl rfl ?_)
      refine rq_nil ?_
      refine q_then ?_
      refine ct_if rfl (fun h16 => ?_) (fun h16 => ?_)
      refine ct_seq ?_
      (refine ct_region' rfl ?_; simp only [List.map, lite])
      (refine rg rfl (g_move (by conv => lhs; whnf)) rfl rfl ?_)
      (refine rg rfl (g_assign (by conv => lhs; whnf)) rfl rfl ?_)
      refine rt_nil ?_
      refine q_then ?_
      refine ct_ret ?_
      refine q_block_ret ?_
      refine q_then_ret ?_
      refine q_then_ret ?_
      refine q_block_ret ?_
      refine q_then_ret ?_
      rotate_left
      refine ct_skip ?_
      refine q_block ?_
      refine q_then ?_
      (refine ct_region' rfl ?_; simp only [List.map, lite])
      (refine rg rfl (g_addN rfl rfl ?_) rfl rfl ?_; (· (constructor <;> omega)))
      (refine rg rfl (g_move (by conv => lhs; whnf)) rfl rfl ?_)
      refine rt_nil ?_
      rotate_left
    · exact q_ret1 rfl (by conv => lhs; whnf) () (congrArg (Value.int _) (idxF_at h (decide_eq_true (hc_inj h16)) hq)) En.ent
    · refine q_again ⟨i + 1, by omega, fun y hy => ?_⟩ (by show l.length - (i + 1) < l.length - i; omega) ⟨rfl, rfl, rfl, rfl, trivial⟩ (Ent.refl _)
      rw [List.take_add_one, List.mem_append, List.getElem?_eq_getElem h] at hy
      rcases hy with hy | hy
      · exact hq y hy
      · simp only [Option.toList_some, List.mem_singleton] at hy
        rw [hy]; exact decide_eq_false fun e => h16 (congrArg Subtype.val e)
  · focus
      refine ct_seq ?_
      (refine ct_region' rfl ?_; simp only [List.map, lite])
      (refine rg rfl (g_lssF rfl rfl ?_) rfl rfl ?_; (· (omega)))
      refine rt_nil ?_
      refine q_then ?_
      refine ct_seq ?_
      refine ct_false rfl ?_
      refine ct_exit ?_
      refine q_then_exit ?_
      refine q_then_exit ?_
      refine q_block_exit ?_
      refine q_then ?_
      refine ct_seq ?_
      (refine ct_region' rfl ?_; simp only [List.map, lite])
      (refine rg rfl (g_assign (by conv => lhs; whnf)) rfl rfl ?_)
      refine rt_nil ?_
      refine q_then ?_
      refine ct_ret ?_
      rotate_left
    refine q_ret1 rfl (by conv => lhs; whnf) () (congrArg (Value.int _) (idxF_none fun y hy => hq y ?_)) En.ent
    rwa [List.take_of_length_le (by omega)]
theorem er_flat (l : List Hs) (i : Nat) : (l.flatMap hc).take (i * 32) ++ (l.flatMap hc).drop ((i + 1) * 32) = (l.eraseIdx i).flatMap hc := by
  rw [List.eraseIdx_eq_take_drop_succ, List.flatMap_append, flat_take hc_len, drop_flat]
theorem delete_spec (R : HP) (ad : Option Addr) (cap : Nat) (l : List Hs) (i : Nat) (hi : i < l.length) (hl : l.length ≤ 65) :
    Spec Try.prog 77 [.slice ad l.length cap, .int .i64 (i : Int), .int .i64 ((i : Int) + 1)] (Arr 32 32 ad cap l.length (l.flatMap hc) * R) (fun _ : Unit => .slice ad (l.length - 1) cap) (fun _ => Arr 32 32 ad cap (l.length - 1) ((l.eraseIdx i).flatMap hc) * R) := by
  refine spec_of Try.func77 rfl Try.ntmps77 rfl fun W0 => ?_
  have hln := hs_len l
  have hone := hs_one l
  refine ct_arr 32 32 ad cap fun _ hn hmc hcm => ?_
  obtain ⟨g, rfl⟩ : ∃ g, ad = some g := by cases ad with | none => exact absurd (hn rfl).1 (by omega) | some g => exact ⟨g, rfl⟩
  focus
    refine ct_seq ?_
    (refine ct_region' rfl ?_; simp only [List.map, lite])
    (refine rg rfl (g_assign (by conv => lhs; whnf)) rfl rfl ?_)
    refine rt_nil ?_
    refine q_then ?_
    refine ct_seq ?_
    (refine ct_region' rfl ?_; simp only [List.map, lite])
    (refine rg rfl (g_move (by conv => lhs; whnf)) rfl rfl ?_)
    (refine rg rfl (g_move (by conv => lhs; whnf)) rfl rfl ?_)
    (refine rg rfl (g_move (by conv => lhs; whnf)) rfl rfl ?_)
    (refine rg rfl (g_move (by conv => lhs; whnf)) rfl rfl ?_)
    (refine rg rfl (g_len_slice rfl) rfl rfl ?_)
    (refine rg rfl (g_cut_lhm rfl rfl rfl rfl rfl (Int.natCast_succ i).symm rfl (by omega) (by omega) (by omega)) rfl rfl ?_)
    refine rt_nil ?_
    refine q_then ?_
    refine ct_seq ?_
    refine ct_seq ?_
    (refine ct_region' rfl ?_; simp only [List.map, lite])
    (refine rg rfl (g_move (by conv => lhs; whnf)) rfl rfl ?_)
    (refine rg rfl (g_move (by conv => lhs; whnf)) rfl rfl ?_)
    (refine rg rfl (g_eqlF rfl rfl ?_) rfl rfl ?_; (· (omega)))
    refine rt_nil ?_
    refine q_then ?_
    refine ct_false rfl ?_
    refine ct_skip ?_
    refine q_then ?_
    refine ct_seq ?_
    (refine ct_region' rfl ?_; simp only [List.map, lite])
    (refine rg rfl (g_move (by conv => lhs; whnf)) rfl rfl ?_)
    (refine rg rfl (g_len_slice rfl) rfl rfl ?_)
    (refine rg rfl (g_assign (by conv => lhs; whnf)) rfl rfl ?_)
    refine rt_nil ?_
    refine q_then ?_
    refine ct_seq ?_
    refine ct_tail 6 (by kernel_rfl) rfl ?_
    simp only [List.map, lite, List.take, List.drop]
    (refine qg rfl (g_move (by conv => lhs; whnf)) rfl rfl ?_)
    (refine qg rfl (g_move (by conv => lhs; whnf)) rfl rfl ?_)
    (refine qg rfl (g_cut_hi rfl rfl ?_ ?_ (by exact Int.toNat_natCast _)) rfl rfl ?_; (· (omega)); (· (omega)))
    (refine qg rfl (g_move (by conv => lhs; whnf)) rfl rfl ?_)
    (refine qg rfl (g_move (by conv => lhs; whnf)) rfl rfl ?_)
    (refine qg rfl (g_cut_lo rfl rfl ?_ ?_ (Int.toNat_natCast (i + 1))) rfl rfl ?_; (· (omega)); (· (omega)))
    refine rq_tail ?_
    (refine rt_op (wants_none rfl) (o_appOver (j := i + 1) (k := l.length - (i + 1)) rfl rfl rfl ?_ ?_ ?_ hone rfl ?_); (· (omega)); (· (omega)); (· (omega)))
    (refine rg rfl (g_assign (by conv => lhs; whnf)) rfl rfl ?_)
    refine rt_nil ?_
    refine q_then ?_
    refine ct_seq ?_
    (refine ct_region' rfl ?_; simp only [List.map, lite])
    (refine rg rfl (g_move (by conv => lhs; whnf)) rfl rfl ?_)
    (refine rg rfl (g_move (by conv => lhs; whnf)) rfl rfl ?_)
    (refine rg rfl (g_len_slice rfl) rfl rfl ?_)
    (refine rg rfl (g_move (by conv => lhs; whnf)) rfl rfl ?_)
    (refine rg rfl (g_cutN rfl rfl rfl ?_ ?_ ?_ ?_) rfl rfl ?_; (· (omega)); (· (omega)); (· (omega)); (· (first | assumption | (intro h; omega) | (intro h; cases h))))
    (refine rt_op (wants_none rfl) (o_clearArr rfl ?_ (by rfl) rfl ?_); (· (omega)))
    refine rt_nil ?_
    refine q_then ?_
    refine ct_seq ?_
    (refine ct_region' rfl ?_; simp only [List.map, lite])
    (refine rg rfl (g_move (by conv => lhs; whnf)) rfl rfl ?_)
    (refine rg rfl (g_assign (by conv => lhs; whnf)) rfl rfl ?_)
    refine rt_nil ?_
    refine q_then ?_
    refine ct_ret ?_
    rotate_left
  refine q_ret1 rfl (by conv => lhs; whnf) () ?_ ?_
  · show Value.slice (some g) _ cap = Value.slice (some g) _ cap
    rw [show i + (l.length - (i + 1)) = l.length - 1 by omega]
  · refine Ent.mul ((arr_shrink (k := l.length - 1) (by omega)).trans (arr_cast rfl ?_)) (Ent.refl _)
    have e1 : (i + (l.length - (i + 1))) = l.length - 1 := by omega
    have h1 : ((l.flatMap hc).take (i * 32)).length = i * 32 := by rw [List.length_take, hln]; omega
    have h2 : ((l.flatMap hc).drop ((i + 1) * 32)).length = (l.length - 1) * 32 - i * 32 := by rw [List.length_drop, hln]; omega
    rw [e1, List.take_append_of_le_length, List.take_append_of_le_length, List.take_take, Nat.min_self, List.take_append_of_le_length, List.take_of_length_le, er_flat]
    all_goals simp only [List.length_append, List.length_take, List.length_drop, hln]
    all_goals omega
theorem mdel_vent (l : List Vx) (h : Hs) : mdel (l.map vent) h = (l.eraseP fun x => decide (x.v.id = h)).map vent := by
  induction l with
  | nil => rfl
  | cons x l ih =>
    simp only [List.map_cons, vent, mdel, List.eraseP_cons]
    by_cases e : h = x.v.id
    · subst e; simp
    · rw [if_neg e, decide_eq_false (Ne.symm e), ih]; rfl
def eraseV (l : List V) (h : Hs) : List V := l.eraseP fun v => decide (v.id = h)
def forgetS (s : DS) (h : Hs) : DS := { s with waits := eraseV s.waits h }
theorem eraseV_map (l : List Vx) (h : Hs) : (l.eraseP fun x => decide (x.v.id = h)).map Vx.v = eraseV (l.map Vx.v) h := by
  rw [eraseV, List.eraseP_map]; rfl
theorem hasS_none {l : List V} {h : Hs} (e : hasS l h = false) : eraseV l h = l := by
  unfold eraseV
  refine List.eraseP_of_forall_not fun v hv hp => ?_
  have : hasS l h = true := List.any_eq_true.2 ⟨v, hv, hp⟩
  rw [e] at this; cases this
theorem hasS_some {l : List V} {h : Hs} (e : hasS l h = true) : ∃ i : Nat, i < l.length ∧ idxF (l.map V.id) (fun y => decide (h = y)) = i ∧ (l.map V.id).eraseIdx i = (eraseV l h).map V.id ∧ (eraseV l h).length = l.length - 1 := by
  obtain ⟨v, hv, hp⟩ := List.any_eq_true.1 e
  have hs : (l.findIdx? fun v => decide (v.id = h)).isSome = true := by
    rw [List.findIdx?_isSome]; exact List.any_eq_true.2 ⟨v, hv, hp⟩
  obtain ⟨i, hi⟩ := Option.isSome_iff_exists.1 hs
  obtain ⟨hlt, hpi, hj⟩ := List.findIdx?_eq_some_iff_getElem.1 hi
  have he : eraseV l h = l.eraseIdx i := by rw [eraseV, List.eraseP_eq_eraseIdx, hi]
  refine ⟨i, hlt, (idxF_at (by rw [List.length_map]; exact hlt) ?_ fun y hy => ?_).symm, ?_, ?_⟩
  · simp only [List.getElem_map]
    exact decide_eq_true (of_decide_eq_true hpi).symm
  · rw [← List.map_take] at hy
    obtain ⟨u, hu, rfl⟩ := List.mem_map.1 hy
    obtain ⟨j, hjl, rfl⟩ := List.mem_take_iff_getElem.1 hu
    have := hj j (by omega)
    exact decide_eq_false fun e => this (decide_eq_true e.symm)
  · rw [he]; simp [List.eraseIdx_eq_take_drop_succ, List.map_take, List.map_drop]
  · rw [he, List.length_eraseIdx, if_pos hlt]
theorem forget_spec (R : HP) (d : Nat) (s : DS) (ks : List Vx) (h : Hs) :
    Spec Try.prog 40 [.pointer (some ⟨d, 0, none⟩), .agg (hc h).toArray] (IsDag d s ks * R) (fun _ : Unit => .bool (hasS s.waits h)) (fun _ => IsDag d (forgetS s h) ks * R) := by
  refine spec_of Try.func40 rfl Try.ntmps40 rfl fun W0 => ?_
  have hln := hc_len h
  focus
    refine ct_seq ?_
    (refine ct_region' rfl ?_; simp only [List.map, lite])
    (refine rt_op (wants_none rfl) (o_box rfl (by conv => lhs; whnf) (by conv => lhs; whnf) fun b3 => ?_))
    (refine rg rfl (g_assign (by conv => lhs; whnf)) rfl rfl ?_)
    refine rt_nil ?_
    refine q_then ?_
    refine ct_seq ?_
    refine ct_seq ?_
    (refine ct_region' rfl ?_; simp only [List.map, lite])
    (refine rg rfl (g_move (by conv => lhs; whnf)) rfl rfl ?_)
    (refine rg rfl (g_loadAgg_blk rfl (by first | rfl | assumption | (simp; done) | (simp; omega) | exact vcells_len _)) rfl rfl ?_)
    (refine rt_op (wants_none rfl) (o_callE rfl rfl (ent_right (Ent.refl _)) (Go.Proofs.Ytijplicijmpknaa.waits_spec _ _ _ _ _) fun i8 => ?_))
    (refine rg rfl (g_not rfl) rfl rfl ?_)
    refine rt_nil ?_
    refine q_then ?_
    refine ct_cond rfl (fun h9 => ?_) (fun h9 => ?_)
    refine ct_seq ?_
    (refine ct_region' rfl ?_; simp only [List.map, lite])
    (refine rg rfl (g_assign (by conv => lhs; whnf)) rfl rfl ?_)
    refine rt_nil ?_
    refine q_then ?_
    refine ct_ret ?_
    refine q_then_ret ?_
    rotate_left
    refine ct_skip ?_
    refine q_then ?_
    refine ct_seq ?_
    rotate_left
  · have e : forgetS s h = s := by unfold forgetS; rw [hasS_none (not_false' h9)]
    rw [e]
    exact q_ret1 rfl rfl () (congrArg Value.bool (not_false' h9).symm) En.ent
  · have hw := not_true' h9
    obtain ⟨i0, hlt, hix, her, hel⟩ := hasS_some hw
    refine ct_ex fun i => ?_
    refine ct_ent ?_ (Ent.assoc _ _ _)
    refine ct_pr fun ok => ?_
    have hol : s.old.length = s.waits.length := List.length_map _
    have hnw := ok.nw
    have hmd := mdel_vent i.wv h
    have hidx := fun (R' : HP) [hr : Rd R' i.ad (s.old.flatMap hc)] => by
      have := @index_spec R' i.ad i.cap s.old h hr (by rw [hol]; omega)
      rw [hol, hix] at this
      exact this
    have hdel := fun (R' : HP) => by
      have := delete_spec R' i.ad i.cap s.old i0 (by rw [hol]; exact hlt) (by rw [hol]; exact hnw)
      rw [hol, her] at this
      exact this
    focus
      refine ct_tail 5 (by kernel_rfl) rfl ?_
      simp only [List.map, lite, List.take, List.drop]
      (refine qg rfl (g_move (by conv => lhs; whnf)) rfl rfl ?_)
      (refine qg rfl (g_nil rfl) rfl rfl ?_)
      (refine qg rfl (g_field0 rfl) rfl rfl ?_)
      (refine qg rfl (g_load rfl (by conv => lhs; whnf)) rfl rfl ?_)
      (refine qg rfl (g_loadAgg_blk rfl (by first | rfl | assumption | (simp; done) | (simp; omega) | exact vcells_len _)) rfl rfl ?_)
      refine rq_tail ?_
      (refine rt_op (wants_none rfl) (o_mapdel (enc := hkey) rfl rfl hmd ?_))
      refine rt_nil ?_
      refine q_then ?_
      refine ct_seq ?_
      refine ct_quiet (by kernel_rfl) rfl ?_
      simp only [List.map, lite]
      (refine qg rfl (g_move (by conv => lhs; whnf)) rfl rfl ?_)
      (refine qg rfl (g_nil rfl) rfl rfl ?_)
      (refine qg rfl (g_field0 rfl) rfl rfl ?_)
      (refine qg rfl (g_load rfl (by conv => lhs; whnf)) rfl rfl ?_)
      (refine qg rfl (g_loadAgg_blk rfl (by first | rfl | assumption | (simp; done) | (simp; omega) | exact vcells_len _)) rfl rfl ?_)
      (refine rq_callE (wants_none rfl) rfl rfl (Ent.refl _) (hidx _) (fun _ => rfl) (fun _ => En.ent) ?_)
      (refine qg rfl (g_assign (by conv => lhs; whnf)) rfl rfl ?_)
      refine rq_nil ?_
      refine q_then ?_
      refine ct_seq ?_
      (refine ct_region' rfl ?_; simp only [List.map, lite])
      (refine rg rfl (g_move (by conv => lhs; whnf)) rfl rfl ?_)
      (refine rg rfl (g_move (by conv => lhs; whnf)) rfl rfl ?_)
      (refine rg rfl (g_nil rfl) rfl rfl ?_)
      (refine rg rfl (g_field0 rfl) rfl rfl ?_)
      (refine rg rfl (g_load rfl (by conv => lhs; whnf)) rfl rfl ?_)
      (refine rg rfl (g_move (by conv => lhs; whnf)) rfl rfl ?_)
      (refine rg rfl (g_move (by conv => lhs; whnf)) rfl rfl ?_)
      (refine rg rfl (g_addN rfl rfl ?_) rfl rfl ?_; (· (constructor <;> omega)))
      (refine rt_op (wants_none rfl) (o_callE rfl rfl (ent_right (ent_left (ent_right (ent_right (ent_right (Ent.refl _)))))) (hdel _) fun i29 => ?_))
      (refine rg rfl (g_nil rfl) rfl rfl ?_)
      (refine rg rfl (g_field0 rfl) rfl rfl ?_)
      (refine rt_op (wants_none rfl) (o_store rfl (by conv => lhs; whnf) rfl rfl (by first | (simp only [List.set_cons_zero, List.set_cons_succ]; exact rfl) | exact rfl) ?_))
      refine rt_nil ?_
      refine q_then ?_
      refine ct_seq ?_
      (refine ct_region' rfl ?_; simp only [List.map, lite])
      (refine rg rfl (g_assign (by conv => lhs; whnf)) rfl rfl ?_)
      refine rt_nil ?_
      refine q_then ?_
      refine ct_ret ?_
      rotate_left
    refine q_ret1 rfl (by conv => lhs; whnf) () (congrArg Value.bool hw.symm) (En.ent.trans (isDag_mk (n := s.waits.length - 1) (room := s.room) (p1 := i.p1) (p2 := i.p2) (p3 := i.p3) (ad := i.ad) (cap := i.cap) (X := i.X) (hv := i.hv) (wv := i.wv.eraseP fun x => decide (x.v.id = h)) (waits := eraseV s.waits h) (heads := s.heads) (held := s.held) ok.hh (by rw [eraseV_map, ok.hw]) (fun y hy => ?_) (fun v hv => ?_) ok.nh (by omega) hel))
    · rcases hy with hy | hy | hy
      · exact ok.rd y (.inl hy)
      · exact ok.rd y (.inr (.inl (List.mem_of_mem_eraseP hy)))
      · exact ok.rd y (.inr (.inr hy))
    · rcases hv with hv | hv
      · exact ok.np v (.inl hv)
      · exact ok.np v (.inr (List.mem_of_mem_eraseP hv))
end Go.Proofs.Ytijplicijmpknaa
