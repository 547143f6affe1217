/- sha.Sort: Clone, Compact, Clip. -/
import Derived.Test.YtijplicijmpknaaHd
import Derived.Test.YtijplicijmpknaaMg
import Derived.Test.YtijplicijmpknaaClr
import Derived.Test.YtijplicijmpknaaStars
import Derived.Test.YtijplicijmpknaaQ3
import Derived.Test.YtijplicijmpknaaCp
namespace Go.Proofs.Ytijplicijmpknaa
open Go.RowKit
attribute [local irreducible] Gives RT CT QT Spec Wants Reads Src Ent OT RQ AnyT AnyOp Again Code.wp Post

theorem clone_spec (R : HP) (a : Option Addr) (c : Nat) (l : List Hs) [hr : Rd R a (l.flatMap hc)] (hl : l.length * 32 ≤ 140737488355328) :
    Spec Try.prog 75 [.slice a l.length c] R (fun i : Option Addr × Nat => .slice i.1 l.length i.2) (fun i => Arr 32 32 i.1 i.2 l.length (l.flatMap hc) * R) := by
  refine spec_of Try.func75 rfl Try.ntmps75 rfl fun W0 => ?_
  have hln := hs_len l
  have hone := hs_one l
  cases a with
  | none =>
    refine ct_rdnil hr fun h0 => ?_
    have hl0 : l = [] := List.eq_nil_of_length_eq_zero (by rw [h0] at hln; simp at hln; omega)
    subst hl0
    focus
      refine ct_seq ?_
      (refine ct_region' rfl ?_; simp only [List.map, lite])
      (refine rg rfl (g_assign (by conv => lhs; whnf)) rfl rfl ?_)
      refine rt_nil ?_
      refine q_then ?_
      refine ct_seq ?_
      refine ct_seq ?_
      (refine ct_region' rfl ?_; simp only [List.map, lite])
      (refine rg rfl (g_move (by conv => lhs; whnf)) rfl rfl ?_)
      (refine rg rfl (g_slice_eq rfl) rfl rfl ?_)
      refine rt_nil ?_
      refine q_then ?_
      refine ct_true rfl ?_
      refine ct_seq ?_
      (refine ct_region' rfl ?_; simp only [List.map, lite])
      (refine rg rfl (g_assign (by conv => lhs; whnf)) rfl rfl ?_)
      refine rt_nil ?_
      refine q_then ?_
      refine ct_ret ?_
      refine q_then_ret ?_
      rotate_left
    exact q_ret1 rfl rfl (none, 0) rfl (arr_nil _ _ _)
  | some g =>
    focus
      refine ct_seq ?_
      (refine ct_region' rfl ?_; simp only [List.map, lite])
      (refine rg rfl (g_assign (by conv => lhs; whnf)) rfl rfl ?_)
      refine rt_nil ?_
      refine q_then ?_
      refine ct_seq ?_
      refine ct_seq ?_
      (refine ct_region' rfl ?_; simp only [List.map, lite])
      (refine rg rfl (g_move (by conv => lhs; whnf)) rfl rfl ?_)
      (refine rg rfl (g_slice_eq rfl) rfl rfl ?_)
      refine rt_nil ?_
      refine q_then ?_
      refine ct_false rfl ?_
      refine ct_skip ?_
      refine q_then ?_
      refine ct_seq ?_
      (refine ct_region' rfl ?_; simp only [List.map, lite])
      (refine rt_op (wants_none rfl) (o_build0 rfl fun b5 => ?_))
      (refine rg rfl (g_move (by conv => lhs; whnf)) rfl rfl ?_)
      (refine rt_op (wants_none rfl) (o_appR rfl rfl rfl (by first | rfl | assumption | simp | (simp; omega)) (by first | rfl | exact bvsAll _ | exact wvs_all _ | assumption) (by rfl) (by rfl) ?_ (by first | with_reducible exact Nat.zero_add _ | exact rfl) (by first | with_reducible exact List.nil_append _ | exact List.map_append.symm | exact rfl) fun ad7 cap7 hc7 hn7 => ?_); (· (first | omega | decide)))
      (refine rg rfl (g_assign (by conv => lhs; whnf)) rfl rfl ?_)
      refine rt_nil ?_
      refine q_then ?_
      refine ct_ret ?_
      rotate_left
    exact q_ret1 rfl (by conv => lhs; whnf) (ad7, cap7) rfl (Ent.refl _)
theorem clip_spec (R : HP) (a : Option Addr) (c n : Nat) (hn : n ≤ c) (hl : n ≤ 140737488351232) :
    Spec Try.prog 85 [.slice a n c] R (fun _ : Unit => .slice a n n) (fun _ => R) := by
  refine spec_of Try.func85 rfl Try.ntmps85 rfl fun W0 => ?_
  focus
    refine ct_seq ?_
    (refine ct_region' rfl ?_; simp only [List.map, lite])
    (refine rg rfl (g_assign (by conv => lhs; whnf)) rfl rfl ?_)
    refine rt_nil ?_
    refine q_then ?_
    refine ct_seq ?_
    (refine ct_region' rfl ?_; simp only [List.map, lite])
    (refine rg rfl (g_move (by conv => lhs; whnf)) rfl rfl ?_)
    (refine rg rfl (g_move (by conv => lhs; whnf)) rfl rfl ?_)
    (refine rg rfl (g_len_slice rfl) rfl rfl ?_)
    (refine rg rfl (g_move (by conv => lhs; whnf)) rfl rfl ?_)
    (refine rg rfl (g_len_slice rfl) rfl rfl ?_)
    (refine rg rfl (g_cut_him rfl rfl rfl ?_ ?_) rfl rfl ?_; (· (omega)); (· (omega)))
    (refine rg rfl (g_assign (by conv => lhs; whnf)) rfl rfl ?_)
    refine rt_nil ?_
    refine q_then ?_
    refine ct_ret ?_
    exact q_ret1 rfl rfl () rfl En.ent
theorem clr_flat (zs : List Hs) (i : Nat) (hi : i ≤ zs.length) : (zs.flatMap hc).take (i * 32) ++ (List.replicate (zs.length - i) (Value.agg ((List.replicate 32 (0 : UInt8)).map bv).toArray).cells.toList).flatten ++ (zs.flatMap hc).drop ((i + (zs.length - i)) * 32) = (zs.take i ++ List.replicate (zs.length - i) zeroH).flatMap hc := by
  rw [← flat_take hc_len, List.drop_eq_nil_of_le (by rw [hs_len]; omega), List.append_nil, List.flatMap_append]
  congr 1
  have e : (Value.agg ((List.replicate 32 (0 : UInt8)).map bv).toArray).cells.toList = hc zeroH := rfl
  rw [e, List.flatMap_def]
  simp only [List.map_replicate]
theorem compact_spec (R : HP) (ad : Option Addr) (cap : Nat) (l : List Hs) (hl : l.length * 32 ≤ 140737488355328) :
    Spec Try.prog 86 [.slice ad l.length cap] (Arr 32 32 ad cap l.length (l.flatMap hc) * R) (fun _ : { r : List Hs // (ded l).length + r.length = l.length } => .slice ad (ded l).length cap) (fun r => Arr 32 32 ad cap l.length ((ded l ++ r.1).flatMap hc) * R) := by
  refine spec_of Try.func86 rfl Try.ntmps86 rfl fun W0 => ?_
  refine ct_ar ad fun _ hnil hcap hmax => ?_
  focus
    refine ct_seq ?_
    (refine ct_region' rfl ?_; simp only [List.map, lite])
    (refine rg rfl (g_assign (by conv => lhs; whnf)) rfl rfl ?_)
    refine rt_nil ?_
    refine q_then ?_
    refine ct_seq ?_
    refine ct_seq ?_
    (refine ct_region' rfl ?_; simp only [List.map, lite])
    (refine rg rfl (g_move (by conv => lhs; whnf)) rfl rfl ?_)
    (refine rg rfl (g_len_slice rfl) rfl rfl ?_)
    (refine rg rfl (g_lss rfl rfl) rfl rfl ?_)
    refine rt_nil ?_
    refine q_then ?_
    refine ct_if rfl (fun h8 => ?_) (fun h8 => ?_)
    refine ct_seq ?_
    (refine ct_region' rfl ?_; simp only [List.map, lite])
    (refine rg rfl (g_move (by conv => lhs; whnf)) rfl rfl ?_)
    (refine rg rfl (g_assign (by conv => lhs; whnf)) rfl rfl ?_)
    refine rt_nil ?_
    refine q_then ?_
    refine ct_ret ?_
    refine q_then_ret ?_
    rotate_left
    refine ct_skip ?_
    refine q_then ?_
    refine ct_seq ?_
    refine ct_seq ?_
    (refine ct_region' rfl ?_; simp only [List.map, lite])
    (refine rg rfl (g_assign (by conv => lhs; whnf)) rfl rfl ?_)
    refine rt_nil ?_
    refine q_then ?_
    refine ct_block ?_
    rotate_left
  · have e : ded l = l := by
      match l, h8 with
      | [], _ => rfl
      | [x], _ => rfl
      | x :: y :: l, h => simp at h; omega
    exact q_ret1 rfl (by conv => lhs; whnf) ⟨[], by simp [e]⟩ (by rw [e]) (by dsimp only; rw [e, List.append_nil]; exact Ent.refl _)
  · refine ct_loop (ι := { i : Nat // 1 ≤ i ∧ i ≤ l.length ∧ ded (l.take i) = l.take i }) (fun i => [(0, .slice ad l.length cap), (3, .int .i64 (i.1 : Int))]) (fun _ => Arr 32 32 ad cap l.length (l.flatMap hc) * R) (fun i => l.length - i.1) ⟨1, by omega, by omega, by
      match l, h8 with
      | [], h => simp at h
      | [x], _ => rfl
      | x :: y :: l, _ => rfl⟩ ⟨rfl, rfl, trivial⟩ (Ent.refl _) fun i ρ' => ?_
    obtain ⟨i, hi1, hil, hd⟩ := i
    dsimp only at hi1 hil hd ⊢
    by_cases h : i < l.length
    · obtain ⟨k, rfl⟩ : ∃ k, i = k + 1 := ⟨i - 1, by omega⟩
      have e1 := (l[k + 1]'(by omega)).2
      have e2 := (l[k + 1 - 1]'(by omega)).2
      focus
        refine ct_seq ?_
        refine ct_seq ?_
        (refine ct_region' rfl ?_; simp only [List.map, lite])
        (refine rg rfl (g_move (by conv => lhs; whnf)) rfl rfl ?_)
        (refine rg rfl (g_move (by conv => lhs; whnf)) rfl rfl ?_)
        (refine rg rfl (g_len_slice rfl) rfl rfl ?_)
        (refine rg rfl (g_lssT rfl rfl ?_) rfl rfl ?_; (· (omega)))
        refine rt_nil ?_
        refine q_then ?_
        refine ct_true rfl ?_
        refine ct_skip ?_
        refine q_then ?_
        refine ct_seq ?_
        refine ct_block ?_
        refine ct_seq ?_
        refine ct_quiet (by kernel_rfl) rfl ?_
        simp only [List.map, lite]
        (refine qg rfl (g_move (by conv => lhs; whnf)) rfl rfl ?_)
        (refine qg rfl (g_move (by conv => lhs; whnf)) rfl rfl ?_)
        (refine qg rfl (g_elemH rfl rfl ?_ ?_) rfl rfl ?_; (· (first | omega | decide)); (· (first | omega | decide | (exact pos_of_get (by assumption)) | (simp only [List.length_map, List.length_append, List.length_replicate, List.length_set, List.length_cons, List.length_nil]; omega) | (simp; omega))))
        (refine qg rfl (g_loadH rfl ?_) rfl rfl ?_; (· (first | omega | decide | (exact pos_of_get (by assumption)) | (simp only [List.length_map, List.length_append, List.length_replicate, List.length_set, List.length_cons, List.length_nil]; omega) | (simp; omega))))
        (refine qg rfl (g_move (by conv => lhs; whnf)) rfl rfl ?_)
        (refine qg rfl (g_move (by conv => lhs; whnf)) rfl rfl ?_)
        (refine qg rfl (g_subNN rfl rfl ?_ ?_) rfl rfl ?_; (· (omega)); (· (constructor <;> omega)))
        (refine qg rfl (g_elemH rfl rfl ?_ ?_) rfl rfl ?_; (· (first | omega | decide)); (· (first | omega | decide | (exact pos_of_get (by assumption)) | (simp only [List.length_map, List.length_append, List.length_replicate, List.length_set, List.length_cons, List.length_nil]; omega) | (simp; omega))))
        (refine qg rfl (g_loadH rfl ?_) rfl rfl ?_; (· (first | omega | decide | (exact pos_of_get (by assumption)) | (simp only [List.length_map, List.length_append, List.length_replicate, List.length_set, List.length_cons, List.length_nil]; omega) | (simp; omega))))
        (refine qg rfl (g_eqH rfl rfl (by kernel_rfl) (by first | rfl | assumption | (simp; done) | (simp; omega)) (by first | rfl | assumption | (simp; done) | (simp; omega))) rfl rfl ?_)
        refine rq_nil ?_
        refine q_then ?_
        refine ct_if rfl (fun h25 => ?_) (fun h25 => ?_)
        refine ct_seq ?_
        (refine ct_region' rfl ?_; simp only [List.map, lite])
        (refine rg rfl (g_move (by conv => lhs; whnf)) rfl rfl ?_)
        (refine rg rfl (g_move (by conv => lhs; whnf)) rfl rfl ?_)
        (refine rg rfl (g_cutLoN rfl rfl (by omega) hcap (fun h => (hnil h).2)) rfl rfl ?_)
        (refine rg rfl (g_assign (by conv => lhs; whnf)) rfl rfl ?_)
        refine rt_nil ?_
        refine q_then ?_
        refine ct_seq ?_
        refine ct_seq ?_
        (refine ct_region' rfl ?_; simp only [List.map, lite])
        (refine rg rfl (g_assign (by conv => lhs; whnf)) rfl rfl ?_)
        refine rt_nil ?_
        refine q_then ?_
        refine ct_block ?_
        rotate_left
        refine ct_skip ?_
        refine q_block ?_
        refine q_then ?_
        (refine ct_region' rfl ?_; simp only [List.map, lite])
        (refine rg rfl (g_move (by conv => lhs; whnf)) rfl rfl ?_)
        (refine rg rfl (g_addN rfl rfl ?_) rfl rfl ?_; (· (constructor <;> omega)))
        (refine rg rfl (g_assign (by conv => lhs; whnf)) rfl rfl ?_)
        refine rt_nil ?_
        rotate_left
      · have hdup : ded (l.take (k + 1 + 1)) = l.take (k + 1) := by
          rw [ded_next l (k + 1) h, hd]
          unfold dedStep
          rw [if_pos]
          have : (l.take (k + 1)).getLast? = some (l[k]'(by omega)) := by
            rw [List.getLast?_eq_getElem?, List.length_take, Nat.min_eq_left (by omega), List.getElem?_take, if_pos (by omega), Nat.add_sub_cancel, List.getElem?_eq_getElem]
          rw [this]
          exact congrArg some (hc_inj h25.symm)
        refine ct_loop (ι := { t : (Nat × Nat) × List Hs // t.2.length = l.length ∧ 1 ≤ t.1.2 ∧ k + 1 + t.1.2 ≤ l.length ∧ t.1.1 + 1 ≤ k + 1 + t.1.2 ∧ t.2.take t.1.1 = ded (l.take (k + 1 + t.1.2)) ∧ t.2.drop (k + t.1.2) = l.drop (k + t.1.2) }) (fun t => [(0, .slice ad l.length cap), (3, .int .i64 (t.1.1.1 : Int)), (4, .slice (ad.map fun g => cutAt g cap (k + 1) 32) (l.length - (k + 1)) (cap - (k + 1))), (5, .int .i64 (t.1.1.2 : Int))]) (fun t => Arr 32 32 ad cap l.length (t.1.2.flatMap hc) * R) (fun t => l.length - t.1.1.2)
          ⟨((k + 1, 1), l), rfl, by dsimp only; omega, by dsimp only; omega, by dsimp only; omega, hdup.symm, rfl⟩ ⟨rfl, rfl, rfl, rfl, trivial⟩ (Ent.refl _) fun t ρ' => ?_
        obtain ⟨⟨⟨i, m⟩, zs⟩, hzl, hm1, hml, him, htk, hdr⟩ := t
        dsimp only at hzl hm1 hml him htk hdr ⊢
        by_cases hm : k + 1 + m < l.length
        · have hg : ∀ j (h1 : k + m ≤ j) (h2 : j < l.length), zs[j]'(by omega) = l[j] := fun j h1 h2 => by
            have := congrArg (fun x => x[j - (k + m)]?) hdr
            simp only [List.getElem?_drop] at this
            rw [show k + m + (j - (k + m)) = j by omega, List.getElem?_eq_getElem (by omega), List.getElem?_eq_getElem h2] at this
            exact Option.some.inj this
          have hrd2 : Rd (Arr 32 32 ad cap l.length (zs.flatMap hc) * R) (ad.map fun g => cutAt g cap (k + 1) 32) ((zs.drop (k + 1)).flatMap hc) := by
            have h3 : Rd (Arr 32 32 ad cap l.length (zs.flatMap hc) * R) ad (zs.flatMap hc) := inferInstance
            have := h3.cut (cap := cap) (j := k + 1) (size := 32) (by rw [hs_len, hzl]; omega)
            rwa [show (zs.flatMap hc).drop ((k + 1) * 32) = (zs.drop (k + 1)).flatMap hc from drop_flat zs (k + 1)] at this
          have hx1 : ((zs.drop (k + 1))[m]'(by rw [List.length_drop]; omega)) = l[k + 1 + m] := by rw [List.getElem_drop]; exact hg _ (by omega) hm
          have hx2 : ((zs.drop (k + 1))[m - 1]'(by rw [List.length_drop]; omega)) = (l[k + m]'(by omega)) := by
            rw [List.getElem_drop]
            rw [hg (k + 1 + (m - 1)) (by omega) (by omega)]
            congr 1; omega
          have hdl : (zs.drop (k + 1)).length = l.length - (k + 1) := by rw [List.length_drop, hzl]
          have e3 := ((zs.drop (k + 1))[m]'(by rw [List.length_drop]; omega)).2
          have e4 := ((zs.drop (k + 1))[m - 1]'(by rw [List.length_drop]; omega)).2
          focus
            refine ct_seq ?_
            refine ct_seq ?_
            (refine ct_region' rfl ?_; simp only [List.map, lite])
            (refine rg rfl (g_move (by conv => lhs; whnf)) rfl rfl ?_)
            (refine rg rfl (g_move (by conv => lhs; whnf)) rfl rfl ?_)
            (refine rg rfl (g_len_slice rfl) rfl rfl ?_)
            (refine rg rfl (g_lssT rfl rfl ?_) rfl rfl ?_; (· (omega)))
            refine rt_nil ?_
            refine q_then ?_
            refine ct_true rfl ?_
            refine ct_skip ?_
            refine q_then ?_
            refine ct_seq ?_
            refine ct_block ?_
            refine ct_seq ?_
            refine ct_quiet (by kernel_rfl) rfl ?_
            simp only [List.map, lite]
            (refine qg rfl (g_move (by conv => lhs; whnf)) rfl rfl ?_)
            (refine qg rfl (g_move (by conv => lhs; whnf)) rfl rfl ?_)
            (refine qg rfl (g_elemH rfl rfl ?_ ?_) rfl rfl ?_; (· (first | omega | decide)); (· (first | omega | decide | (exact pos_of_get (by assumption)) | (simp only [List.length_map, List.length_append, List.length_replicate, List.length_set, List.length_cons, List.length_nil]; omega) | (simp; omega))))
            (refine qg rfl (g_loadH rfl ?_) rfl rfl ?_; (· (first | omega | decide | (exact pos_of_get (by assumption)) | (simp only [List.length_map, List.length_append, List.length_replicate, List.length_set, List.length_cons, List.length_nil]; omega) | (simp; omega))))
            (refine qg rfl (g_move (by conv => lhs; whnf)) rfl rfl ?_)
            (refine qg rfl (g_move (by conv => lhs; whnf)) rfl rfl ?_)
            (refine qg rfl (g_subNN rfl rfl ?_ ?_) rfl rfl ?_; (· (omega)); (· (constructor <;> omega)))
            (refine qg rfl (g_elemH rfl rfl ?_ ?_) rfl rfl ?_; (· (first | omega | decide)); (· (first | omega | decide | (exact pos_of_get (by assumption)) | (simp only [List.length_map, List.length_append, List.length_replicate, List.length_set, List.length_cons, List.length_nil]; omega) | (simp; omega))))
            (refine qg rfl (g_loadH rfl ?_) rfl rfl ?_; (· (first | omega | decide | (exact pos_of_get (by assumption)) | (simp only [List.length_map, List.length_append, List.length_replicate, List.length_set, List.length_cons, List.length_nil]; omega) | (simp; omega))))
            (refine qg rfl (g_neH rfl rfl (by kernel_rfl) (by first | rfl | assumption | (simp; done) | (simp; omega)) (by first | rfl | assumption | (simp; done) | (simp; omega))) rfl rfl ?_)
            refine rq_nil ?_
            refine q_then ?_
            refine ct_if rfl (fun h44 => ?_) (fun h44 => ?_)
            refine ct_seq ?_
            (refine ct_region' rfl ?_; simp only [List.map, lite])
            (refine rg rfl (g_move (by conv => lhs; whnf)) rfl rfl ?_)
            (refine rg rfl (g_move (by conv => lhs; whnf)) rfl rfl ?_)
            (refine rg rfl (g_move (by conv => lhs; whnf)) rfl rfl ?_)
            (refine rg rfl (g_move (by conv => lhs; whnf)) rfl rfl ?_)
            (refine rg rfl (g_elemH rfl rfl ?_ ?_) rfl rfl ?_; (· (first | omega | decide)); (· (first | omega | decide | (exact pos_of_get (by assumption)) | (simp only [List.length_map, List.length_append, List.length_replicate, List.length_set, List.length_cons, List.length_nil]; omega) | (simp; omega))))
            (refine rg rfl (g_loadH rfl ?_) rfl rfl ?_; (· (first | omega | decide | (exact pos_of_get (by assumption)) | (simp only [List.length_map, List.length_append, List.length_replicate, List.length_set, List.length_cons, List.length_nil]; omega) | (simp; omega))))
            (refine rg rfl (g_elemH rfl rfl ?_ ?_) rfl rfl ?_; (· (first | omega | decide)); (· (first | omega | decide | (exact pos_of_get (by assumption)) | (simp only [List.length_map, List.length_append, List.length_replicate, List.length_set, List.length_cons, List.length_nil]; omega) | (simp; omega))))
            (refine rt_op (wants_none rfl) (o_storeH rfl (by conv => lhs; whnf) ?_ rfl ?_); (· (first | omega | decide)))
            refine rt_nil ?_
            refine q_then ?_
            (refine ct_region' rfl ?_; simp only [List.map, lite])
            (refine rg rfl (g_move (by conv => lhs; whnf)) rfl rfl ?_)
            (refine rg rfl (g_addN rfl rfl ?_) rfl rfl ?_; (· (constructor <;> omega)))
            (refine rg rfl (g_assign (by conv => lhs; whnf)) rfl rfl ?_)
            refine rt_nil ?_
            refine q_block ?_
            refine q_then ?_
            (refine ct_region' rfl ?_; simp only [List.map, lite])
            (refine rg rfl (g_move (by conv => lhs; whnf)) rfl rfl ?_)
            (refine rg rfl (g_addN rfl rfl ?_) rfl rfl ?_; (· (constructor <;> omega)))
            (refine rg rfl (g_assign (by conv => lhs; whnf)) rfl rfl ?_)
            refine rt_nil ?_
            rotate_left
            refine ct_skip ?_
            refine q_block ?_
            refine q_then ?_
            (refine ct_region' rfl ?_; simp only [List.map, lite])
            (refine rg rfl (g_move (by conv => lhs; whnf)) rfl rfl ?_)
            (refine rg rfl (g_addN rfl rfl ?_) rfl rfl ?_; (· (constructor <;> omega)))
            (refine rg rfl (g_assign (by conv => lhs; whnf)) rfl rfl ?_)
            refine rt_nil ?_
            rotate_left
          · have hne : (l[k + 1 + m]) ≠ (l[k + m]'(by omega)) := fun e => h44 (by rw [hx1, hx2, e])
            have hlast := ded_last l (k + m) (by omega)
            rw [show k + m + 1 = k + 1 + m by omega] at hlast
            refine q_again ⟨((i + 1, m + 1), zs.set i _), by rw [List.length_set]; exact hzl, by dsimp only; omega, by dsimp only; omega, by dsimp only; omega, ?_, ?_⟩ (by show l.length - (m + 1) < l.length - m; omega) ⟨rfl, rfl, rfl, rfl, trivial⟩ (Ent.refl _)
            · dsimp only
              rw [show k + 1 + (m + 1) = k + 1 + m + 1 by omega, ded_next l (k + 1 + m) hm]
              unfold dedStep
              rw [hlast, if_neg (fun e => hne (Option.some.inj e).symm), ← htk, hx1, List.take_succ_eq_append_getElem (by rw [List.length_set]; omega), List.getElem_set_self, List.take_set_of_le (by omega)]
            · dsimp only
              rw [List.drop_set_of_lt (by omega), show k + (m + 1) = k + m + 1 by omega, ← List.drop_drop, hdr, List.drop_drop]
          · have he : (l[k + 1 + m]) = (l[k + m]'(by omega)) := by
              rw [← hx1, ← hx2]
              by_cases e : (List.drop (k + 1) zs)[m] = (List.drop (k + 1) zs)[m - 1]
              · exact e
              · exact absurd (fun e2 => e (hc_inj e2)) h44
            have hlast := ded_last l (k + m) (by omega)
            rw [show k + m + 1 = k + 1 + m by omega] at hlast
            refine q_again ⟨((i, m + 1), zs), hzl, by dsimp only; omega, by dsimp only; omega, by dsimp only; omega, ?_, ?_⟩ (by show l.length - (m + 1) < l.length - m; omega) ⟨rfl, rfl, rfl, rfl, trivial⟩ (Ent.refl _)
            · dsimp only
              rw [show k + 1 + (m + 1) = k + 1 + m + 1 by omega, ded_next l (k + 1 + m) hm]
              unfold dedStep
              rw [hlast, if_pos (congrArg some he.symm), htk]
            · dsimp only
              rw [show k + (m + 1) = k + m + 1 by omega, ← List.drop_drop, hdr, List.drop_drop]
        · obtain rfl : m = l.length - (k + 1) := by omega
          rw [show k + 1 + (l.length - (k + 1)) = l.length by omega, List.take_length] at htk
          have hid : i = (ded l).length := by rw [← htk, List.length_take, hzl]; omega
          have hclr := clr_flat zs i (by omega)
          rw [hzl] at hclr
          focus
            refine ct_seq ?_
            refine ct_seq ?_
            (refine ct_region' rfl ?_; simp only [List.map, lite])
            (refine rg rfl (g_move (by conv => lhs; whnf)) rfl rfl ?_)
            (refine rg rfl (g_move (by conv => lhs; whnf)) rfl rfl ?_)
            (refine rg rfl (g_len_slice rfl) rfl rfl ?_)
            (refine rg rfl (g_lssF rfl rfl ?_) rfl rfl ?_; (· (omega)))
            refine rt_nil ?_
            refine q_then ?_
            refine ct_false rfl ?_
            refine ct_exit ?_
            refine q_then_exit ?_
            refine q_then_exit ?_
            refine q_block_exit ?_
            refine q_then ?_
            refine ct_seq ?_
            (refine ct_region' rfl ?_; simp only [List.map, lite])
            (refine rg rfl (g_move (by conv => lhs; whnf)) rfl rfl ?_)
            (refine rg rfl (g_move (by conv => lhs; whnf)) rfl rfl ?_)
            (refine rg rfl (g_cutLoN rfl rfl (by omega) hcap (fun h => (hnil h).2)) rfl rfl ?_)
            (refine rt_op (wants_none rfl) (o_clearArr rfl (by omega) (by rfl) hclr ?_))
            refine rt_nil ?_
            refine q_then ?_
            refine ct_seq ?_
            (refine ct_region' rfl ?_; simp only [List.map, lite])
            (refine rg rfl (g_move (by conv => lhs; whnf)) rfl rfl ?_)
            (refine rg rfl (g_move (by conv => lhs; whnf)) rfl rfl ?_)
            (refine rg rfl (g_cut_hi rfl rfl ?_ ?_ (by exact Int.toNat_natCast _)) rfl rfl ?_; (· (omega)); (· (omega)))
            (refine rg rfl (g_assign (by conv => lhs; whnf)) rfl rfl ?_)
            refine rt_nil ?_
            refine q_then ?_
            refine ct_ret ?_
            refine q_block_ret ?_
            refine q_then_ret ?_
            refine q_then_ret ?_
            refine q_block_ret ?_
            refine q_then_ret ?_
            rotate_left
          exact q_ret1 rfl (by conv => lhs; whnf) ⟨List.replicate (l.length - i) zeroH, by rw [List.length_replicate]; omega⟩ (by rw [← hid]) (by dsimp only; rw [htk]; exact Ent.refl _)
      · have hdn : ded (l.take (k + 1 + 1)) = l.take (k + 1 + 1) := by
          rw [ded_next l (k + 1) h, hd]
          unfold dedStep
          rw [if_neg, List.take_succ_eq_append_getElem (show k + 1 < l.length from h)]
          have : (l.take (k + 1)).getLast? = some (l[k]'(by omega)) := by
            rw [List.getLast?_eq_getElem?, List.length_take, Nat.min_eq_left (by omega), List.getElem?_take, if_pos (by omega), Nat.add_sub_cancel, List.getElem?_eq_getElem]
          rw [this]
          exact fun e => h25 (congrArg Subtype.val (Option.some.inj e).symm)
        exact q_again ⟨k + 1 + 1, by omega, by omega, hdn⟩ (by show l.length - (k + 1 + 1) < l.length - (k + 1); omega) ⟨rfl, rfl, trivial⟩ (Ent.refl _)
    · obtain rfl : i = l.length := by omega
      rw [List.take_length] at hd
      focus
        refine ct_seq ?_
        refine ct_seq ?_
        (refine ct_region' rfl ?_; simp only [List.map, lite])
        (refine rg rfl (g_move (by conv => lhs; whnf)) rfl rfl ?_)
        (refine rg rfl (g_move (by conv => lhs; whnf)) rfl rfl ?_)
        (refine rg rfl (g_len_slice rfl) rfl rfl ?_)
        (refine rg rfl (g_lssF rfl rfl ?_) rfl rfl ?_; (· (omega)))
        refine rt_nil ?_
        refine q_then ?_
        refine ct_false rfl ?_
        refine ct_exit ?_
        refine q_then_exit ?_
        refine q_then_exit ?_
        refine q_block_exit ?_
        refine q_then ?_
        refine ct_seq ?_
        (refine ct_region' rfl ?_; simp only [List.map, lite])
        (refine rg rfl (g_move (by conv => lhs; whnf)) rfl rfl ?_)
        (refine rg rfl (g_assign (by conv => lhs; whnf)) rfl rfl ?_)
        refine rt_nil ?_
        refine q_then ?_
        refine ct_ret ?_
        rotate_left
      exact q_ret1 rfl (by conv => lhs; whnf) ⟨[], by simp [hd]⟩ (by rw [hd]) (by dsimp only; rw [hd, List.append_nil]; exact Ent.refl _)
theorem sort_spec (R : HP) (a : Option Addr) (c : Nat) (l : List Hs) [hr : Rd R a (l.flatMap hc)] (hl : l.length * 32 ≤ 140737488355328) :
    Spec Try.prog 56 [.slice a l.length c] R (fun i : (Option Addr × Nat) × { r : List Hs // (sortS l).length + r.length = l.length } => .slice i.1.1 (sortS l).length (sortS l).length) (fun i => Arr 32 32 i.1.1 i.1.2 l.length ((sortS l ++ i.2.1).flatMap hc) * R) := by
  refine spec_of Try.func56 rfl Try.ntmps56 rfl fun W0 => ?_
  have hsf := fun (R' : HP) (ad : Option Addr) (cap : Nat) => sortFunc_spec R' ad cap l (by omega)
  have hcp := fun (R' : HP) (ad : Option Addr) (cap : Nat) => compact_spec R' ad cap (msort l) (by rw [msort_len]; exact hl)
  rw [ded_msort, msort_len] at hcp
  have hsl := sortS_len l
  focus
    refine ct_seq ?_
    (refine ct_region' rfl ?_; simp only [List.map, lite])
    (refine rg rfl (g_assign (by conv => lhs; whnf)) rfl rfl ?_)
    refine rt_nil ?_
    refine q_then ?_
    refine ct_seq ?_
    (refine ct_region' rfl ?_; simp only [List.map, lite])
    (refine rg rfl (g_move (by conv => lhs; whnf)) rfl rfl ?_)
    (refine rt_op (wants_none rfl) (o_callE rfl rfl (Ent.refl _) (Go.Proofs.Ytijplicijmpknaa.clone_spec _ _ _ _ ?_) fun i5 => ?_); (· (first | assumption | omega | rfl | decide | infer_instance | (simp; done) | (simp; omega) | (simp only [*]; done))))
    (refine rg rfl (g_assign (by conv => lhs; whnf)) rfl rfl ?_)
    refine rt_nil ?_
    refine q_then ?_
    refine ct_seq ?_
    (refine ct_region' rfl ?_; simp only [List.map, lite])
    (refine rg rfl (g_move (by conv => lhs; whnf)) rfl rfl ?_)
    (refine rt_op (wants_none rfl) (o_callE rfl rfl (Ent.refl _) (hsf _ _ _) fun i7 => ?_))
    refine rt_nil ?_
    refine q_then ?_
    refine ct_seq ?_
    (refine ct_region' rfl ?_; simp only [List.map, lite])
    (refine rg rfl (g_move (by conv => lhs; whnf)) rfl rfl ?_)
    (refine rt_op (wants_none rfl) (o_callE rfl rfl (Ent.refl _) (hcp _ _ _) fun i9 => ?_))
    rotate_left
  refine rt_ar i5.1 fun _ _ h3 _ => ?_
  focus
    (refine rt_op (wants_none rfl) (o_callE rfl rfl (Ent.refl _) (Go.Proofs.Ytijplicijmpknaa.clip_spec _ _ _ _ ?_ ?_) fun i10 => ?_); (· (first | assumption | omega | rfl | decide | infer_instance | (simp; done) | (simp; omega) | (simp only [*]; done))); (· (first | assumption | omega | rfl | decide | infer_instance | (simp; done) | (simp; omega) | (simp only [*]; done))))
    (refine rg rfl (g_assign (by conv => lhs; whnf)) rfl rfl ?_)
    refine rt_nil ?_
    refine q_then ?_
    refine ct_ret ?_
    rotate_left
  exact q_ret1 rfl (by conv => lhs; whnf) (i5, i9) rfl (Ent.refl _)
theorem sort_rd {E cap n : Nat} {ad : Option Addr} {l r : List Hs} : Rd (Arr E 32 ad cap n ((l ++ r).flatMap hc)) ad (l.flatMap hc) := by
  have := (inferInstance : Rd (Arr E 32 ad cap n ((l ++ r).flatMap hc)) ad ((l ++ r).flatMap hc)).htake l.length
  rwa [List.take_left] at this
end Go.Proofs.Ytijplicijmpknaa
