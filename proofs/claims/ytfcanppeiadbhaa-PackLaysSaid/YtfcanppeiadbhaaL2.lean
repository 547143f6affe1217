/- PackLays: the walk. -/
import Derived.Test.YtfcanppeiadbhaaB6
namespace Go.Proofs.Ytfcanppeiadbhaa
open Go.RowKit
attribute [local irreducible] Gives RT CT QT Spec Wants Reads Src Ent OT RQ AnyT AnyOp Again Code.wp Post

abbrev BkS := { s : BookSt // s.n ≤ 281474976710656 }
/-- where the loop of PackLays stands -/
structure LaySt (l : List OpV) where
  (i : Nat) (y0 y1 : List UInt8) (w0 w1 : Option Addr × Nat) (s : BkS)
  hi : i ≤ l.length
  hy : y0.length + y1.length ≤ tot (l.take i)
  n0 : w0.1 ≠ none
  n1 : w1.1 ≠ none
set_option maxRecDepth 100000 in
set_option maxHeartbeats 8000000 in
theorem packLays_spec (R : HP) (a b : Option Addr) (c c' : Nat) (l : List OpV) (ts : List Bool) (hs : Script R a l) [ht : Rd R b (ts.map Value.bool)] (htl : ts.length ≤ 140737488351232) :
    Spec Try.prog 4 [.slice a l.length c, .slice b ts.length c'] R (fun _ : Unit => .bool true) (fun _ => R) := by
  refine spec_of Try.func4 rfl Try.ntmps4 rfl fun W0 => ?_
  have hbey := fun R' (e : Ent R' R) => beyond_spec R' a c l ⟨hs.rd.of_ent e, fun o ho => (hs.sub o ho).of_ent e, hs.xs, hs.ls, hs.len⟩
  have hb := hbey R (Ent.refl _)
  clear hbey
  focus
    refine ct_seq ?_
    (refine ct_region' rfl ?_; simp only [List.map, lite])
    (refine rg rfl (g_assign (by conv => lhs; whnf)) rfl rfl ?_)
    refine rt_nil ?_
    refine q_then ?_
    refine ct_seq ?_
    refine ct_seq ?_
    (refine ct_region' rfl ?_; simp only [List.map, lite])
    (refine rt_op (wants_none rfl) (o_callE rfl rfl (Ent.refl _) (Go.Proofs.Ytfcanppeiadbhaa.awake_spec _) fun i13 => ?_))
    (refine rg rfl (g_notT rfl) rfl rfl ?_)
    refine rt_nil ?_
    refine q_then ?_
    refine ct_false rfl ?_
    refine ct_skip ?_
    refine q_then ?_
    refine ct_seq ?_
    refine ct_seq ?_
    (refine ct_region' rfl ?_; simp only [List.map, lite])
    (refine rg rfl (g_move (by conv => lhs; whnf)) rfl rfl ?_)
    (refine rt_op (wants_none rfl) (o_callE rfl rfl ((Ent.addEmp _).trans (Ent.dropR _ _)) (hb) fun i16 => ?_))
    refine rt_nil ?_
    refine q_then ?_
    refine ct_if rfl (fun h16 => ?_) (fun h16 => ?_)
    refine ct_seq ?_
    (refine ct_region' rfl ?_; simp only [List.map, lite])
    (refine rg rfl (g_assign (by conv => lhs; whnf)) rfl rfl ?_)
    refine rt_nil ?_
    refine q_then ?_
    refine ct_ret ?_
    refine q_then_ret ?_
    exact q_ret1 rfl rfl () rfl En.ent
    refine ct_skip ?_
    refine q_then ?_
    refine ct_seq ?_
    (refine ct_region' rfl ?_; simp only [List.map, lite])
    (refine rt_op (wants_none rfl) (o_callE rfl rfl (Ent.refl _) (Go.Proofs.Ytfcanppeiadbhaa.newOut_spec _) fun i17 => ?_))
    (refine rt_op (wants_none rfl) (o_callE rfl rfl (Ent.refl _) (Go.Proofs.Ytfcanppeiadbhaa.newOut_spec _) fun i18 => ?_))
    (refine rt_op (wants_none rfl) (o_buildN rfl (by simp only [ev, upd, updl, argl, nat_beq_def, Nat.reduceBEq, cond_true, cond_false, List.map_cons, List.map_nil]; rfl) rfl (by rfl) (by simp [fillL, Value.cells, List.range, List.range.loop]; rfl) fun b19 => ?_))
    (refine rg rfl (g_assign (by conv => lhs; whnf)) rfl rfl ?_)
    refine rt_nil ?_
    refine q_then ?_
    refine ct_seq ?_
    (refine ct_region' rfl ?_; simp only [List.map, lite])
    (refine rt_op (wants_none rfl) (o_buildN rfl (by simp only [ev, upd, updl, argl, nat_beq_def, Nat.reduceBEq, cond_true, cond_false, List.map_cons, List.map_nil]; rfl) rfl (by rfl) (by simp [fillL, Value.cells, List.range, List.range.loop]; rfl) fun b20 => ?_))
    (refine rt_op (wants_none rfl) (o_buildN rfl (by simp only [ev, upd, updl, argl, nat_beq_def, Nat.reduceBEq, cond_true, cond_false, List.map_cons, List.map_nil]; rfl) rfl (by rfl) (by simp [fillL, Value.cells, List.range, List.range.loop]; rfl) fun b21 => ?_))
    (refine rt_op (wants_none rfl) (o_buildN rfl (by simp only [ev, upd, updl, argl, nat_beq_def, Nat.reduceBEq, cond_true, cond_false, List.map_cons, List.map_nil]; rfl) rfl (by rfl) (by simp [fillL, Value.cells, List.range, List.range.loop]; rfl) fun b22 => ?_))
    (refine rg rfl (g_assign (by conv => lhs; whnf)) rfl rfl ?_)
    refine rt_nil ?_
    refine q_then ?_
    refine ct_seq ?_
    (refine ct_region' rfl ?_; simp only [List.map, lite])
    (refine rg rfl (g_build (by simp only [ev, upd, updl, argl, nat_beq_def, Nat.reduceBEq, cond_true, cond_false, List.map_cons, List.map_nil]; rfl) (by simp [fillL, Value.cells]; rfl)) rfl rfl ?_)
    (refine rt_op (wants_none rfl) (o_box rfl (by conv => lhs; whnf) (by conv => lhs; whnf) fun b24 => ?_))
    (refine rg rfl (g_assign (by conv => lhs; whnf)) rfl rfl ?_)
    refine rt_nil ?_
    refine q_then ?_
    refine ct_seq ?_
    refine ct_seq ?_
    (refine ct_region' rfl ?_; simp only [List.map, lite])
    (refine rg rfl (g_move (by conv => lhs; whnf)) rfl rfl ?_)
    (refine rg rfl (g_elemO1 rfl rfl ?_ ?_) rfl rfl ?_; (· (first | omega | decide)); (· (first | omega | decide | (exact pos_of_get (by assumption)) | (simp only [List.length_map, List.length_append, List.length_replicate, List.length_set, List.length_cons, List.length_nil]; omega) | (simp; omega))))
    (refine rg rfl (g_load rfl (by conv => lhs; whnf)) rfl rfl ?_)
    (refine rg rfl (g_ptr_eq rfl) rfl rfl ?_)
    (refine rg rfl (g_move (by conv => lhs; whnf)) rfl rfl ?_)
    (refine rgw rfl rfl rfl rfl (g_move (by conv => lhs; whnf)) rfl rfl ?_)
    (refine rgw rfl rfl rfl rfl (g_elemO1 rfl rfl ?_ ?_) rfl rfl ?_; (· (first | omega | decide)); (· (first | omega | decide | (exact pos_of_get (by assumption)) | (simp only [List.length_map, List.length_append, List.length_replicate, List.length_set, List.length_cons, List.length_nil]; omega) | (simp; omega))))
    (refine rgw rfl rfl rfl rfl (g_load_rd rfl (by conv => lhs; whnf)) rfl rfl ?_)
    (refine rgw rfl rfl rfl rfl (g_ptr_eq rfl) rfl rfl ?_)
    (refine rg rfl (g_pick_f rfl (by conv => lhs; whnf)) rfl rfl ?_)
    refine rt_nil ?_
    refine q_then ?_
    refine ct_false rfl ?_
    refine ct_skip ?_
    refine q_then ?_
    refine ct_seq ?_
    refine ct_seq ?_
    (refine ct_region' rfl ?_; simp only [List.map, lite])
    (refine rg rfl (g_move (by conv => lhs; whnf)) rfl rfl ?_)
    (refine rg rfl (g_len_slice rfl) rfl rfl ?_)
    (refine rg rfl (g_move (by conv => lhs; whnf)) rfl rfl ?_)
    refine rt_nil ?_
    refine q_then ?_
    refine ct_block ?_
    rotate_left
  have htot : tot l ≤ 2147483647 := by omega
  refine ct_loop (ι := LaySt l) (fun i => [(1, .slice b ts.length c'), (5, .slice (some ⟨b19, 0, none⟩) 2 2), (6, .slice (some ⟨b22, 0, none⟩) 2 2), (7, .pointer (some ⟨b24, 0, none⟩)), (35, .slice a l.length c), (36, .int .i64 (l.length : Int)), (37, .int .i64 (i.i : Int))])
    (fun i => (Blk b19 [.pointer (some ⟨i17, 0, none⟩), .pointer (some ⟨i18, 0, none⟩)] 33 * (Arr 36 1 (some ⟨b22, 0, none⟩) 2 2 [.slice i.w0.1 i.y0.length i.w0.2, .slice i.w1.1 i.y1.length i.w1.2] * (BookO b24 i.s.1 * (IsOut i17 i.y0 * (IsOut i18 i.y1 * (Arr 5 1 i.w0.1 i.w0.2 i.y0.length (i.y0.map bv) * (Arr 5 1 i.w1.1 i.w1.2 i.y1.length (i.y1.map bv) * R)))))))) (fun i => l.length - i.i)
    ⟨0, [], [], (some ⟨b20, 0, none⟩, 0), (some ⟨b21, 0, none⟩, 0), ⟨book0, by simp [book0]⟩, by omega, by simp, by simp, by simp⟩ ⟨rfl, rfl, rfl, rfl, rfl, rfl, rfl, trivial⟩
    ((Ent.mul (book_new _) (Ent.mul (blk_arr 1 2 rfl (by unfold maxLen; omega)) (Ent.mul (blk_arr 1 0 rfl (by unfold maxLen; omega)) (Ent.mul (blk_arr 1 0 rfl (by unfold maxLen; omega)) (Ent.refl _))))).trans (by simp only [List.map_nil, List.length_nil]; exact En.ent)) fun i ρ' => ?_
  obtain ⟨i, y0, y1, ⟨wa0, wc0⟩, ⟨wa1, wc1⟩, ⟨s, hsm⟩, hi, hy, n0, n1⟩ := i
  dsimp only at hi hy n0 n1 ⊢
  have htk := tot_le l i
  by_cases h : i < l.length
  · have hn := tot_next l i h
    have hx := hs.xs _ (List.getElem_mem h)
    have hlb := hs.ls _ (List.getElem_mem h)
    have hfl := form_len l[i] hx hlb
    have hrd := hs.sub _ (List.getElem_mem h)
    have hle2 := tot_le l (i + 1)
    have hrs := hs.rd
    have hll := hs.len
    have hpos := ops_pos h
    focus
      refine ct_seq ?_
      (refine ct_region' rfl ?_; simp only [List.map, lite])
      (refine rg rfl (g_lssT rfl rfl ?_) rfl rfl ?_; (· (omega)))
      refine rt_nil ?_
      refine q_then ?_
      refine ct_seq ?_
      refine ct_true rfl ?_
      refine ct_skip ?_
      refine q_then ?_
      refine ct_seq ?_
      refine ct_block ?_
      refine ct_seq ?_
      (refine ct_region' rfl ?_; simp only [List.map, lite])
      (refine rg rfl (g_move (by conv => lhs; whnf)) rfl rfl ?_)
      (refine rg rfl (g_elemO rfl rfl ?_ ?_) rfl rfl ?_; (· (first | omega | decide)); (· (first | omega | decide | (exact pos_of_get (by assumption)) | (simp only [List.length_map, List.length_append, List.length_replicate, List.length_set, List.length_cons, List.length_nil]; omega) | (simp; omega))))
      (refine rg rfl (g_loadAgg_rd (us := l[i].cells) rfl (opv_len _) (ops_ne h) (op_sub h)) rfl rfl ?_)
      (refine rt_op (wants_none rfl) (o_alloc rfl (by conv => lhs; whnf) fun b9 => ?_))
      (refine rg rfl (g_assign (by conv => lhs; whnf)) rfl rfl ?_)
      (refine rt_op (wants_none rfl) (o_storeAgg rfl (by conv => lhs; whnf) (by conv => lhs; whnf) (by first | rfl | exact bvsAll _ | exact wvs_all _ | assumption) (by first | rfl | assumption | (simp; done) | (simp; omega)) (by first | rfl | assumption | (simp; done) | (simp; omega)) ?_))
      refine rt_nil ?_
      refine q_then ?_
      refine ct_seq ?_
      (refine ct_region' rfl ?_; simp only [List.map, lite])
      (refine rg rfl (g_assign (by conv => lhs; whnf)) rfl rfl ?_)
      refine rt_nil ?_
      refine q_then ?_
      rotate_left
    refine ct_cut (ι := { t : Nat // t < 2 }) (fun t => [(1, .slice b ts.length c'), (5, .slice (some ⟨b19, 0, none⟩) 2 2), (6, .slice (some ⟨b22, 0, none⟩) 2 2), (7, .pointer (some ⟨b24, 0, none⟩)), (9, .pointer (some ⟨b9, 0, none⟩)), (10, .int .i64 (t.1 : Int)), (35, .slice a l.length c), (36, .int .i64 (l.length : Int)), (37, .int .i64 (i : Int))]) (fun _ => Blk b9 [.int .i64 l[i].kind, .int .u64 (l[i].x : Int), .int .i64 l[i].n, .slice l[i].a l[i].b.length l[i].c] 43 * (Blk b19 [.pointer (some ⟨i17, 0, none⟩), .pointer (some ⟨i18, 0, none⟩)] 33 * (Arr 36 1 (some ⟨b22, 0, none⟩) 2 2 [.slice wa0 y0.length wc0, .slice wa1 y1.length wc1] * (BookO b24 s * (IsOut i17 y0 * (IsOut i18 y1 * (Arr 5 1 wa0 wc0 y0.length (y0.map bv) * (Arr 5 1 wa1 wc1 y1.length (y1.map bv) * (R))))))))) ?_ ?_
    · focus
        refine ct_seq ?_
        (refine ct_region' rfl ?_; simp only [List.map, lite])
        (refine rg rfl (g_move (by conv => lhs; whnf)) rfl rfl ?_)
        (refine rg rfl (g_move (by conv => lhs; whnf)) rfl rfl ?_)
        (refine rg rfl (g_len_slice rfl) rfl rfl ?_)
        (refine rg rfl (g_lss rfl rfl) rfl rfl ?_)
        (refine rg rfl (g_move (by conv => lhs; whnf)) rfl rfl ?_)
        refine rt_split 46 rfl (fun h46 => ?_) (fun h46 => ?_)
        (refine rgw rfl rfl rfl rfl (g_move (by conv => lhs; whnf)) rfl rfl ?_)
        (refine rgw rfl rfl rfl rfl (g_move (by conv => lhs; whnf)) rfl rfl ?_)
        (refine rgw rfl rfl rfl rfl (g_elemO1 rfl rfl ?_ ?_) rfl rfl ?_; (· (first | omega | decide)); (· (first | omega | decide | (exact pos_of_get (by assumption)) | (simp only [List.length_map, List.length_append, List.length_replicate, List.length_set, List.length_cons, List.length_nil]; omega) | (simp; omega))))
        (refine rgw rfl rfl rfl rfl (g_load_rd rfl (bool_at ?_)) rfl rfl ?_; (· (first | omega | decide | (exact pos_of_get (by assumption)) | (simp only [List.length_map, List.length_append, List.length_replicate, List.length_set, List.length_cons, List.length_nil]; omega) | (simp; omega))))
        (refine rg rfl (g_pick_t rfl (by conv => lhs; whnf)) rfl rfl ?_)
        refine rt_nil ?_
        refine q_then ?_
        refine ct_cond rfl (fun h51 => ?_) (fun h51 => ?_)
        (refine ct_region' rfl ?_; simp only [List.map, lite])
        (refine rg rfl (g_assign (by conv => lhs; whnf)) rfl rfl ?_)
        refine rt_nil ?_
        rotate_left
        refine ct_skip ?_
        rotate_left
        refine rgs rfl rfl rfl rfl rfl rfl ?_
        refine rgs rfl rfl rfl rfl rfl rfl ?_
        refine rgs rfl rfl rfl rfl rfl rfl ?_
        refine rgs rfl rfl rfl rfl rfl rfl ?_
        (refine rg rfl (g_pick_f rfl (by conv => lhs; whnf)) rfl rfl ?_)
        refine rt_nil ?_
        refine q_then ?_
        refine ct_false rfl ?_
        refine ct_skip ?_
        rotate_left
      · exact q_cut ⟨1, by omega⟩ ⟨rfl, rfl, rfl, rfl, rfl, rfl, rfl, rfl, rfl, trivial⟩ (Ent.refl _)
      all_goals exact q_cut ⟨0, by omega⟩ ⟨rfl, rfl, rfl, rfl, rfl, rfl, rfl, rfl, rfl, trivial⟩ (Ent.refl _)
    · rintro ⟨t, ht2⟩ ρ'
      have hx := hs.xs _ (List.getElem_mem h)
      rcases (show t = 0 ∨ t = 1 by omega) with rfl | rfl
      · dsimp only
        have hrl := lay_spec (Blk b9 [.int .i64 l[i].kind, .int .u64 (l[i].x : Int), .int .i64 l[i].n, .slice l[i].a l[i].b.length l[i].c] 43 * (Blk b19 [.pointer (some ⟨i17, 0, none⟩), .pointer (some ⟨i18, 0, none⟩)] 33 * (Arr 36 1 (some ⟨b22, 0, none⟩) 2 2 [.slice wa0 y0.length wc0, .slice wa1 y1.length wc1] * (BookO b24 s * (IsOut i18 y1 * (Arr 5 1 wa1 wc1 y1.length (y1.map bv) * (R))))))) i17 y0 y0 wa0 wc0 l[i] hx (by omega) (by omega)
        focus
          refine ct_seq ?_
          refine ct_any (Blk b9 [.int .i64 l[i].kind, .int .u64 (l[i].x : Int), .int .i64 l[i].n, .slice l[i].a l[i].b.length l[i].c] 43 * (Blk b19 [.pointer (some ⟨i17, 0, none⟩), .pointer (some ⟨i18, 0, none⟩)] 33 * (Arr 36 1 (some ⟨b22, 0, none⟩) 2 2 [.slice wa0 y0.length wc0, .slice wa1 y1.length wc1] * (BookO b24 s * (IsOut i18 y1 * (Arr 5 1 wa1 wc1 y1.length (y1.map bv) * (R))))))) 13 ?_
          (refine any_take 0 rfl (by kernel_rfl) (by first | exact Ent.refl _ | exact En.ent) (wants_none rfl) (g_move (by conv => lhs; whnf)) rfl rfl ?_)
          (refine any_take 1 rfl (by kernel_rfl) (by first | exact Ent.refl _ | exact En.ent) (wants_none rfl) (g_move (by conv => lhs; whnf)) rfl rfl ?_)
          (refine any_take 2 rfl (by kernel_rfl) (by first | exact Ent.refl _ | exact En.ent) (wants_none rfl) (g_move (by conv => lhs; whnf)) rfl rfl ?_)
          (refine any_take 3 rfl (by kernel_rfl) (by first | exact Ent.refl _ | exact En.ent) (wants_none rfl) (g_move (by conv => lhs; whnf)) rfl rfl ?_)
          (refine any_take 4 rfl (by kernel_rfl) (by first | exact Ent.refl _ | exact En.ent) (wants_none rfl) (g_elemO1 rfl rfl ?_ ?_) rfl rfl ?_; (· (first | omega | decide)); (· (first | omega | decide | (exact pos_of_get (by assumption)) | (simp only [List.length_map, List.length_append, List.length_replicate, List.length_set, List.length_cons, List.length_nil]; omega) | (simp; omega))))
          (refine any_take 5 rfl (by kernel_rfl) (by first | exact Ent.refl _ | exact En.ent) (wants_none rfl) (g_load rfl (by conv => lhs; whnf)) rfl rfl ?_)
          (refine any_take 6 rfl (by kernel_rfl) (by first | exact Ent.refl _ | exact En.ent) (wants_none rfl) (g_move (by conv => lhs; whnf)) rfl rfl ?_)
          (refine any_take 7 rfl (by kernel_rfl) (by first | exact Ent.refl _ | exact En.ent) (wants_none rfl) (g_move (by conv => lhs; whnf)) rfl rfl ?_)
          (refine any_take 8 rfl (by kernel_rfl) (by first | exact Ent.refl _ | exact En.ent) (wants_none rfl) (g_elemO1 rfl rfl ?_ ?_) rfl rfl ?_; (· (first | omega | decide)); (· (first | omega | decide | (exact pos_of_get (by assumption)) | (simp only [List.length_map, List.length_append, List.length_replicate, List.length_set, List.length_cons, List.length_nil]; omega) | (simp; omega))))
          (refine any_take 9 rfl (by kernel_rfl) (by first | exact Ent.refl _ | exact En.ent) (wants_none rfl) (g_load_rd rfl (by conv => lhs; whnf)) rfl rfl ?_)
          (refine any_take 10 rfl (by kernel_rfl) (by first | exact Ent.refl _ | exact En.ent) (wants_none rfl) (g_loadAgg_blk rfl (by first | rfl | assumption | (simp; done) | (simp; omega))) rfl rfl ?_)
          (refine any_one 11 (by kernel_rfl) rfl (wants_none rfl) (o_callE rfl rfl ((ent_right (ent_right (ent_right (ent_right (Ent.refl _))))).trans (Ent.mul (Ent.refl _) ((ent_right (ent_right (ent_right (ent_right (ent_right (Ent.refl _)))))).trans (Ent.mul (Ent.refl _) ((Ent.refl _).trans (Ent.mul (Ent.refl _) ((Ent.refl _).trans (Ent.mul (Ent.refl _) ((Ent.refl _).trans (Ent.mul (Ent.refl _) ((Ent.refl _).trans (Ent.mul (Ent.refl _) ((Ent.refl _).trans (Ent.mul (Ent.refl _) ((Ent.refl _).trans (Ent.mul (Ent.refl _) ((Ent.addEmp _).trans (Ent.dropR _ _)))))))))))))))))) (hrl) fun i63 => ⟨.inr (by first | exact Ent.refl _ | exact En.ent), ?_⟩))
          (refine any_take 12 rfl (by kernel_rfl) (by first | exact Ent.refl _ | exact En.ent) (wants_none rfl) (g_elemO1 rfl rfl ?_ ?_) rfl rfl ?_; (· (first | omega | decide)); (· (first | omega | decide | (exact pos_of_get (by assumption)) | (simp only [List.length_map, List.length_append, List.length_replicate, List.length_set, List.length_cons, List.length_nil]; omega) | (simp; omega))))
          (refine any_one 13 (by kernel_rfl) rfl (wants_none rfl) (o_storeArr rfl (by conv => lhs; whnf) rfl ?_ (by first | (simp only [List.set_cons_zero, List.set_cons_succ]; exact rfl) | exact rfl) ⟨.inl rfl, ?_⟩); (· (first | omega | decide | (exact pos_of_get (by assumption)) | (simp only [List.length_map, List.length_append, List.length_replicate, List.length_set, List.length_cons, List.length_nil]; omega) | (simp; omega))))
          refine any_done (by kernel_rfl) ?_
          refine q_then ?_
          refine ct_seq ?_
          refine ct_seq ?_
          refine ct_quiet (by kernel_rfl) rfl ?_
          simp only [List.map, lite]
          (refine qg rfl (g_move (by conv => lhs; whnf)) rfl rfl ?_)
          (refine qg rfl (g_move (by conv => lhs; whnf)) rfl rfl ?_)
          (refine qg rfl (g_elemO1 rfl rfl ?_ ?_) rfl rfl ?_; (· (first | omega | decide)); (· (first | omega | decide | (exact pos_of_get (by assumption)) | (simp only [List.length_map, List.length_append, List.length_replicate, List.length_set, List.length_cons, List.length_nil]; omega) | (simp; omega))))
          (refine qg rfl (g_load_rd rfl (by conv => lhs; whnf)) rfl rfl ?_)
          (refine qg rfl (g_slice_eq rfl) rfl rfl ?_)
          (refine qg rfl (g_move (by conv => lhs; whnf)) rfl rfl ?_)
          refine rq_splitB 70 rfl (fun h70 => ?_) (fun h70 => ?_)
          refine qgs rfl rfl rfl rfl rfl rfl ?_
          refine qgs rfl rfl rfl rfl rfl rfl ?_
          refine qgs rfl rfl rfl rfl rfl rfl ?_
          refine qgs rfl rfl rfl rfl rfl rfl ?_
          refine qgs rfl rfl rfl rfl rfl rfl ?_
          refine qgs rfl rfl rfl rfl rfl rfl ?_
          refine qgs rfl rfl rfl rfl rfl rfl ?_
          (refine qg rfl (g_pick_t rfl (by conv => lhs; whnf)) rfl rfl ?_)
          refine rq_nil ?_
          refine q_then ?_
          refine ct_true rfl ?_
          refine ct_seq ?_
          (refine ct_region' rfl ?_; simp only [List.map, lite])
          (refine rg rfl (g_assign (by conv => lhs; whnf)) rfl rfl ?_)
          refine rt_nil ?_
          refine q_then ?_
          refine ct_ret ?_
          refine q_then_ret ?_
          refine q_block_ret ?_
          refine q_then_ret ?_
          refine q_then_ret ?_
          refine q_block_ret ?_
          refine q_then_ret ?_
          rotate_left
          (refine qgw rfl rfl rfl rfl (g_field0 rfl) rfl rfl ?_)
          (refine qgw rfl rfl rfl rfl (g_load rfl (by conv => lhs; whnf)) rfl rfl ?_)
          (refine rq_callE (wants_some rfl rfl rfl rfl) rfl rfl (Ent.refl _) (Go.Proofs.Ytfcanppeiadbhaa.size_spec _ _ ?_) (fun _ => rfl) (fun _ => En.ent) ?_; (· (first | assumption | omega | rfl | decide | (simp; done) | (simp; omega) | (simp only [*]; done))))
          (refine qgw rfl rfl rfl rfl (g_field0 rfl) rfl rfl ?_)
          (refine qgw rfl rfl rfl rfl (g_load rfl (by conv => lhs; whnf)) rfl rfl ?_)
          (refine rq_callE (wants_some rfl rfl rfl rfl) rfl rfl (Ent.refl _) (Go.Proofs.Ytfcanppeiadbhaa.refSize_spec _ _ ?_) (fun _ => rfl) (fun _ => En.ent) ?_; (· (first | assumption | omega | rfl | decide | (simp; done) | (simp; omega) | (simp only [*]; done))))
          (refine qgw rfl rfl rfl rfl (g_neqF rfl rfl ?_) rfl rfl ?_; (· (omega)))
          (refine qg rfl (g_pick_f rfl (by conv => lhs; whnf)) rfl rfl ?_)
          refine rq_nil ?_
          refine q_then ?_
          refine ct_false rfl ?_
          refine ct_skip ?_
          refine q_then ?_
          rotate_left
        · exact absurd (Option.isNone_iff_eq_none.1 h70) (i63.2 n0)
        obtain ⟨⟨wa, wc⟩, hwn⟩ := i63
        replace hwn := hwn n0
        dsimp only at hwn ⊢
        have hYl : (y0 ++ l[i].form).length ≤ 4294967296 := by rw [List.length_append]; omega
        refine ct_cut (ι := BkS) (fun _ => [(1, .slice b ts.length c'), (5, .slice (some ⟨b19, 0, none⟩) 2 2), (6, .slice (some ⟨b22, 0, none⟩) 2 2), (7, .pointer (some ⟨b24, 0, none⟩)), (35, .slice a l.length c), (36, .int .i64 (l.length : Int)), (37, .int .i64 (i : Int))]) (fun s' => Arr 36 1 (some ⟨b22, 0, none⟩) 2 2 [.slice wa (y0 ++ l[i].form).length wc, .slice wa1 y1.length wc1] * (Arr 5 1 wa wc (y0 ++ l[i].form).length ((y0 ++ l[i].form).map bv) * (IsOut i17 (y0 ++ l[i].form) * (Blk b19 [.pointer (some ⟨i17, 0, none⟩), .pointer (some ⟨i18, 0, none⟩)] 33 * (BookO b24 s'.1 * (IsOut i18 y1 * (Arr 5 1 wa1 wc1 y1.length (y1.map bv) * (R)))))))) ?_ ?_
        · focus
            refine ct_seq ?_
            (refine ct_region' rfl ?_; simp only [List.map, lite])
            (refine rg rfl (g_field0 rfl) rfl rfl ?_)
            (refine rg rfl (g_load rfl (by conv => lhs; whnf)) rfl rfl ?_)
            (refine rg rfl (g_eql rfl rfl) rfl rfl ?_)
            refine rt_nil ?_
            refine q_then ?_
            refine ct_if rfl (fun h81 => ?_) (fun h81 => ?_)
            refine ct_seq ?_
            (refine ct_region' rfl ?_; simp only [List.map, lite])
            (refine rg rfl (g_assign (by conv => lhs; whnf)) rfl rfl ?_)
            refine rt_nil ?_
            refine q_then ?_
            refine ct_block ?_
            rotate_left
            refine ct_skip ?_
            rotate_left
          · refine ct_loop (ι := { n : Nat // n ≤ 3 } × BkS) (fun n => [(1, .slice b ts.length c'), (5, .slice (some ⟨b19, 0, none⟩) 2 2), (6, .slice (some ⟨b22, 0, none⟩) 2 2), (7, .pointer (some ⟨b24, 0, none⟩)), (35, .slice a l.length c), (36, .int .i64 (l.length : Int)), (37, .int .i64 (i : Int)), (10, .int .i64 0), (11, .int .i64 (n.1.1 : Int))]) (fun n => Arr 36 1 (some ⟨b22, 0, none⟩) 2 2 [.slice wa (y0 ++ l[i].form).length wc, .slice wa1 y1.length wc1] * (Arr 5 1 wa wc (y0 ++ l[i].form).length ((y0 ++ l[i].form).map bv) * (IsOut i17 (y0 ++ l[i].form) * (Blk b19 [.pointer (some ⟨i17, 0, none⟩), .pointer (some ⟨i18, 0, none⟩)] 33 * (BookO b24 n.2.1 * (IsOut i18 y1 * (Arr 5 1 wa1 wc1 y1.length (y1.map bv) * (R)))))))) (fun n => 3 - n.1.1) ⟨⟨0, by omega⟩, ⟨s, hsm⟩⟩ ⟨rfl, rfl, rfl, rfl, rfl, rfl, rfl, rfl, rfl, trivial⟩ (by exact En.ent) fun n ρ' => ?_
            obtain ⟨⟨n, hn3⟩, ⟨s2, hs2⟩⟩ := n
            dsimp only at hn3 hs2 ⊢
            by_cases h3 : n < 3
            · focus
                refine ct_seq ?_
                refine ct_seq ?_
                (refine ct_region' rfl ?_; simp only [List.map, lite])
                (refine rg rfl (g_move (by conv => lhs; whnf)) rfl rfl ?_)
                (refine rg rfl (g_lssT rfl rfl ?_) rfl rfl ?_; (· (omega)))
                refine rt_nil ?_
                refine q_then ?_
                refine ct_true rfl ?_
                refine ct_skip ?_
                refine q_then ?_
                refine ct_seq ?_
                refine ct_block ?_
                refine ct_seq ?_
                (refine ct_region' rfl ?_; simp only [List.map, lite])
                (refine rg rfl (g_move (by conv => lhs; whnf)) rfl rfl ?_)
                (refine rg rfl (g_move (by conv => lhs; whnf)) rfl rfl ?_)
                (refine rg rfl (g_elemO1 rfl rfl ?_ ?_) rfl rfl ?_; (· (first | omega | decide)); (· (first | omega | decide | (exact pos_of_get (by assumption)) | (simp only [List.length_map, List.length_append, List.length_replicate, List.length_set, List.length_cons, List.length_nil]; omega) | (simp; omega))))
                (refine rg rfl (g_load rfl (by conv => lhs; whnf)) rfl rfl ?_)
                (refine rt_op (wants_none rfl) (o_callE rfl rfl (ent_right (ent_right (Ent.refl _))) (Go.Proofs.Ytfcanppeiadbhaa.out_done _ _ _ ?_) fun i90 => ?_); (· (first | assumption | omega | rfl | decide | (simp; done) | (simp; omega) | (simp only [*]; done))))
                (refine rg rfl (g_assign (by conv => lhs; whnf)) rfl rfl ?_)
                refine rt_nil ?_
                refine q_then ?_
                refine ct_seq ?_
                refine ct_seq ?_
                refine ct_quiet (by kernel_rfl) rfl ?_
                simp only [List.map, lite]
                (refine qg rfl (g_move (by conv => lhs; whnf)) rfl rfl ?_)
                (refine qg rfl (g_convA rfl rfl rfl) rfl rfl ?_)
                (refine qg rfl (g_move (by conv => lhs; whnf)) rfl rfl ?_)
                (refine qg rfl (g_move (by conv => lhs; whnf)) rfl rfl ?_)
                (refine qg rfl (g_elemO1 rfl rfl ?_ ?_) rfl rfl ?_; (· (first | omega | decide)); (· (first | omega | decide | (exact pos_of_get (by assumption)) | (simp only [List.length_map, List.length_append, List.length_replicate, List.length_set, List.length_cons, List.length_nil]; omega) | (simp; omega))))
                (refine qg rfl (g_load_rd rfl (by conv => lhs; whnf)) rfl rfl ?_)
                (refine qg rfl (g_convA rfl rfl rfl) rfl rfl ?_)
                (refine qg rfl (g_nesF rfl rfl ?_) rfl rfl ?_; (· (first | rfl | assumption)))
                refine rq_nil ?_
                refine q_then ?_
                refine ct_false rfl ?_
                refine ct_skip ?_
                refine q_then ?_
                (refine ct_region' rfl ?_; simp only [List.map, lite])
                (refine rg rfl (g_move (by conv => lhs; whnf)) rfl rfl ?_)
                (refine rg rfl (g_move (by conv => lhs; whnf)) rfl rfl ?_)
                (refine rt_op (wants_none rfl) (o_callE rfl rfl ((ent_right (ent_right (ent_right (ent_right (ent_right (Ent.refl _)))))).trans (Ent.mul (Ent.refl _) (Ent.refl _))) (Go.Proofs.Ytfcanppeiadbhaa.add_spec _ _ _ _ _ _ _ ?_ ?_ ?_) fun i101 => ?_); (· (first | assumption | omega | rfl | decide | (simp; done) | (simp; omega) | (simp only [*]; done))); (· (first | assumption | omega | rfl | decide | (simp; done) | (simp; omega) | (simp only [*]; done))); (· (first | assumption | omega | rfl | decide | (simp; done) | (simp; omega) | (simp only [*]; done))))
                refine rt_nil ?_
                refine q_block ?_
                refine q_then ?_
                (refine ct_region' rfl ?_; simp only [List.map, lite])
                (refine rg rfl (g_move (by conv => lhs; whnf)) rfl rfl ?_)
                (refine rg rfl (g_addN rfl rfl ?_) rfl rfl ?_; (· (constructor <;> omega)))
                (refine rg rfl (g_assign (by conv => lhs; whnf)) rfl rfl ?_)
                refine rt_nil ?_
                rotate_left
              exact q_again ⟨⟨n + 1, by omega⟩, i101⟩ (by show 3 - (n + 1) < 3 - n; omega) ⟨rfl, rfl, rfl, rfl, rfl, rfl, rfl, rfl, rfl, trivial⟩ (by exact En.ent)
            · focus
                refine ct_seq ?_
                refine ct_seq ?_
                (refine ct_region' rfl ?_; simp only [List.map, lite])
                (refine rg rfl (g_move (by conv => lhs; whnf)) rfl rfl ?_)
                (refine rg rfl (g_lssF rfl rfl ?_) rfl rfl ?_; (· (omega)))
                refine rt_nil ?_
                refine q_then ?_
                refine ct_false rfl ?_
                refine ct_exit ?_
                refine q_then_exit ?_
                refine q_then_exit ?_
                refine q_block_exit ?_
                rotate_left
              exact q_cut ⟨s2, hs2⟩ ⟨rfl, rfl, rfl, rfl, rfl, rfl, rfl, trivial⟩ (by exact En.ent)
          · exact q_cut ⟨s, hsm⟩ ⟨rfl, rfl, rfl, rfl, rfl, rfl, rfl, trivial⟩ (by exact En.ent)
        · rintro ⟨s', hs'⟩ ρ'
          dsimp only
          focus
            refine ct_seq ?_
            refine ct_quiet (by kernel_rfl) rfl ?_
            simp only [List.map, lite]
            (refine qg rfl (g_move (by conv => lhs; whnf)) rfl rfl ?_)
            (refine qg rfl (g_elemO1 rfl rfl ?_ ?_) rfl rfl ?_; (· (first | omega | decide)); (· (first | omega | decide | (exact pos_of_get (by assumption)) | (simp only [List.length_map, List.length_append, List.length_replicate, List.length_set, List.length_cons, List.length_nil]; omega) | (simp; omega))))
            (refine qg rfl (g_load rfl (by conv => lhs; whnf)) rfl rfl ?_)
            (refine rq_callE (wants_none rfl) rfl rfl (ent_right (ent_right (Ent.refl _))) (Go.Proofs.Ytfcanppeiadbhaa.out_len _ _ _) (fun _ => rfl) (fun _ => En.ent) ?_)
            (refine qg rfl (g_move (by conv => lhs; whnf)) rfl rfl ?_)
            (refine qg rfl (g_elemO1 rfl rfl ?_ ?_) rfl rfl ?_; (· (first | omega | decide)); (· (first | omega | decide | (exact pos_of_get (by assumption)) | (simp only [List.length_map, List.length_append, List.length_replicate, List.length_set, List.length_cons, List.length_nil]; omega) | (simp; omega))))
            (refine qg rfl (g_load_rd rfl (by conv => lhs; whnf)) rfl rfl ?_)
            (refine qg rfl (g_len_slice rfl) rfl rfl ?_)
            (refine qg rfl (g_neqF rfl rfl ?_) rfl rfl ?_; (· (omega)))
            (refine qg rfl (g_move (by conv => lhs; whnf)) rfl rfl ?_)
            (refine qgw rfl rfl rfl rfl (g_move (by conv => lhs; whnf)) rfl rfl ?_)
            (refine qgw rfl rfl rfl rfl (g_elemO1 rfl rfl ?_ ?_) rfl rfl ?_; (· (first | omega | decide)); (· (first | omega | decide | (exact pos_of_get (by assumption)) | (simp only [List.length_map, List.length_append, List.length_replicate, List.length_set, List.length_cons, List.length_nil]; omega) | (simp; omega))))
            (refine qgw rfl rfl rfl rfl (g_load_rd rfl (by conv => lhs; whnf)) rfl rfl ?_)
            (refine rq_callE (wants_some rfl rfl rfl rfl) rfl rfl (ent_right (ent_right (ent_right (ent_right (ent_right (Ent.refl _)))))) (Go.Proofs.Ytfcanppeiadbhaa.out_len _ _ _) (fun _ => rfl) (fun _ => En.ent) ?_)
            (refine qgw rfl rfl rfl rfl (g_move (by conv => lhs; whnf)) rfl rfl ?_)
            (refine qgw rfl rfl rfl rfl (g_elemO1 rfl rfl ?_ ?_) rfl rfl ?_; (· (first | omega | decide)); (· (first | omega | decide | (exact pos_of_get (by assumption)) | (simp only [List.length_map, List.length_append, List.length_replicate, List.length_set, List.length_cons, List.length_nil]; omega) | (simp; omega))))
            (refine qgw rfl rfl rfl rfl (g_load_rd rfl (by conv => lhs; whnf)) rfl rfl ?_)
            (refine qgw rfl rfl rfl rfl (g_len_slice rfl) rfl rfl ?_)
            (refine qgw rfl rfl rfl rfl (g_neqF rfl rfl ?_) rfl rfl ?_; (· (omega)))
            (refine qg rfl (g_pick_f rfl (by conv => lhs; whnf)) rfl rfl ?_)
            (refine qg rfl (g_move (by conv => lhs; whnf)) rfl rfl ?_)
            (refine qgw rfl rfl rfl rfl (g_move (by conv => lhs; whnf)) rfl rfl ?_)
            (refine rq_callE (wants_some rfl rfl rfl rfl) rfl rfl (ent_right (ent_right (ent_right (ent_right (Ent.refl _))))) (Go.Proofs.Ytfcanppeiadbhaa.stays_spec _ _ _) (fun _ => rfl) (fun _ => En.ent) ?_)
            (refine qgw rfl rfl rfl rfl (g_notT rfl) rfl rfl ?_)
            (refine qg rfl (g_pick_f rfl (by conv => lhs; whnf)) rfl rfl ?_)
            refine rq_nil ?_
            refine q_then ?_
            refine ct_false rfl ?_
            refine ct_skip ?_
            refine q_block ?_
            refine q_then ?_
            (refine ct_region' rfl ?_; simp only [List.map, lite])
            (refine rg rfl (g_addN rfl rfl ?_) rfl rfl ?_; (· (constructor <;> omega)))
            (refine rg rfl (g_move (by conv => lhs; whnf)) rfl rfl ?_)
            refine rt_nil ?_
            rotate_left
          exact q_again ⟨i + 1, (y0 ++ l[i].form), y1, (wa, wc), (wa1, wc1), ⟨s', hs'⟩, by omega, by rw [hn, List.length_append]; omega, hwn, n1⟩ (by show l.length - (i + 1) < l.length - i; omega) ⟨rfl, rfl, rfl, rfl, rfl, rfl, rfl, trivial⟩ (by exact En.ent)
      · dsimp only
        have hrl := lay_spec (Blk b9 [.int .i64 l[i].kind, .int .u64 (l[i].x : Int), .int .i64 l[i].n, .slice l[i].a l[i].b.length l[i].c] 43 * (Blk b19 [.pointer (some ⟨i17, 0, none⟩), .pointer (some ⟨i18, 0, none⟩)] 33 * (Arr 36 1 (some ⟨b22, 0, none⟩) 2 2 [.slice wa0 y0.length wc0, .slice wa1 y1.length wc1] * (BookO b24 s * (IsOut i17 y0 * (Arr 5 1 wa0 wc0 y0.length (y0.map bv) * (R))))))) i18 y1 y1 wa1 wc1 l[i] hx (by omega) (by omega)
        focus
          refine ct_seq ?_
          refine ct_any (Blk b9 [.int .i64 l[i].kind, .int .u64 (l[i].x : Int), .int .i64 l[i].n, .slice l[i].a l[i].b.length l[i].c] 43 * (Blk b19 [.pointer (some ⟨i17, 0, none⟩), .pointer (some ⟨i18, 0, none⟩)] 33 * (Arr 36 1 (some ⟨b22, 0, none⟩) 2 2 [.slice wa0 y0.length wc0, .slice wa1 y1.length wc1] * (BookO b24 s * (IsOut i17 y0 * (Arr 5 1 wa0 wc0 y0.length (y0.map bv) * (R))))))) 13 ?_
          (refine any_take 0 rfl (by kernel_rfl) (by first | exact Ent.refl _ | exact En.ent) (wants_none rfl) (g_move (by conv => lhs; whnf)) rfl rfl ?_)
          (refine any_take 1 rfl (by kernel_rfl) (by first | exact Ent.refl _ | exact En.ent) (wants_none rfl) (g_move (by conv => lhs; whnf)) rfl rfl ?_)
          (refine any_take 2 rfl (by kernel_rfl) (by first | exact Ent.refl _ | exact En.ent) (wants_none rfl) (g_move (by conv => lhs; whnf)) rfl rfl ?_)
          (refine any_take 3 rfl (by kernel_rfl) (by first | exact Ent.refl _ | exact En.ent) (wants_none rfl) (g_move (by conv => lhs; whnf)) rfl rfl ?_)
          (refine any_take 4 rfl (by kernel_rfl) (by first | exact Ent.refl _ | exact En.ent) (wants_none rfl) (g_elemO1 rfl rfl ?_ ?_) rfl rfl ?_; (· (first | omega | decide)); (· (first | omega | decide | (exact pos_of_get (by assumption)) | (simp only [List.length_map, List.length_append, List.length_replicate, List.length_set, List.length_cons, List.length_nil]; omega) | (simp; omega))))
          (refine any_take 5 rfl (by kernel_rfl) (by first | exact Ent.refl _ | exact En.ent) (wants_none rfl) (g_load_rd rfl (by conv => lhs; whnf)) rfl rfl ?_)
          (refine any_take 6 rfl (by kernel_rfl) (by first | exact Ent.refl _ | exact En.ent) (wants_none rfl) (g_move (by conv => lhs; whnf)) rfl rfl ?_)
          (refine any_take 7 rfl (by kernel_rfl) (by first | exact Ent.refl _ | exact En.ent) (wants_none rfl) (g_move (by conv => lhs; whnf)) rfl rfl ?_)
          (refine any_take 8 rfl (by kernel_rfl) (by first | exact Ent.refl _ | exact En.ent) (wants_none rfl) (g_elemO1 rfl rfl ?_ ?_) rfl rfl ?_; (· (first | omega | decide)); (· (first | omega | decide | (exact pos_of_get (by assumption)) | (simp only [List.length_map, List.length_append, List.length_replicate, List.length_set, List.length_cons, List.length_nil]; omega) | (simp; omega))))
          (refine any_take 9 rfl (by kernel_rfl) (by first | exact Ent.refl _ | exact En.ent) (wants_none rfl) (g_load_rd rfl (by conv => lhs; whnf)) rfl rfl ?_)
          (refine any_take 10 rfl (by kernel_rfl) (by first | exact Ent.refl _ | exact En.ent) (wants_none rfl) (g_loadAgg_blk rfl (by first | rfl | assumption | (simp; done) | (simp; omega))) rfl rfl ?_)
          (refine any_one 11 (by kernel_rfl) rfl (wants_none rfl) (o_callE rfl rfl ((ent_right (ent_right (ent_right (ent_right (ent_right (Ent.refl _)))))).trans (Ent.mul (Ent.refl _) ((ent_right (ent_right (ent_right (ent_right (ent_right (ent_right (Ent.refl _))))))).trans (Ent.mul (Ent.refl _) ((Ent.refl _).trans (Ent.mul (Ent.refl _) ((Ent.refl _).trans (Ent.mul (Ent.refl _) ((Ent.refl _).trans (Ent.mul (Ent.refl _) ((Ent.refl _).trans (Ent.mul (Ent.refl _) ((Ent.refl _).trans (Ent.mul (Ent.refl _) ((Ent.refl _).trans (Ent.mul (Ent.refl _) ((Ent.addEmp _).trans (Ent.dropR _ _)))))))))))))))))) (hrl) fun i63 => ⟨.inr (by first | exact Ent.refl _ | exact En.ent), ?_⟩))
          (refine any_take 12 rfl (by kernel_rfl) (by first | exact Ent.refl _ | exact En.ent) (wants_none rfl) (g_elemO1 rfl rfl ?_ ?_) rfl rfl ?_; (· (first | omega | decide)); (· (first | omega | decide | (exact pos_of_get (by assumption)) | (simp only [List.length_map, List.length_append, List.length_replicate, List.length_set, List.length_cons, List.length_nil]; omega) | (simp; omega))))
          (refine any_one 13 (by kernel_rfl) rfl (wants_none rfl) (o_storeArr rfl (by conv => lhs; whnf) rfl ?_ (by first | (simp only [List.set_cons_zero, List.set_cons_succ]; exact rfl) | exact rfl) ⟨.inl rfl, ?_⟩); (· (first | omega | decide | (exact pos_of_get (by assumption)) | (simp only [List.length_map, List.length_append, List.length_replicate, List.length_set, List.length_cons, List.length_nil]; omega) | (simp; omega))))
          refine any_done (by kernel_rfl) ?_
          refine q_then ?_
          refine ct_seq ?_
          refine ct_seq ?_
          refine ct_quiet (by kernel_rfl) rfl ?_
          simp only [List.map, lite]
          (refine qg rfl (g_move (by conv => lhs; whnf)) rfl rfl ?_)
          (refine qg rfl (g_move (by conv => lhs; whnf)) rfl rfl ?_)
          (refine qg rfl (g_elemO1 rfl rfl ?_ ?_) rfl rfl ?_; (· (first | omega | decide)); (· (first | omega | decide | (exact pos_of_get (by assumption)) | (simp only [List.length_map, List.length_append, List.length_replicate, List.length_set, List.length_cons, List.length_nil]; omega) | (simp; omega))))
          (refine qg rfl (g_load_rd rfl (by conv => lhs; whnf)) rfl rfl ?_)
          (refine qg rfl (g_slice_eq rfl) rfl rfl ?_)
          (refine qg rfl (g_move (by conv => lhs; whnf)) rfl rfl ?_)
          refine rq_splitB 70 rfl (fun h70 => ?_) (fun h70 => ?_)
          refine qgs rfl rfl rfl rfl rfl rfl ?_
          refine qgs rfl rfl rfl rfl rfl rfl ?_
          refine qgs rfl rfl rfl rfl rfl rfl ?_
          refine qgs rfl rfl rfl rfl rfl rfl ?_
          refine qgs rfl rfl rfl rfl rfl rfl ?_
          refine qgs rfl rfl rfl rfl rfl rfl ?_
          refine qgs rfl rfl rfl rfl rfl rfl ?_
          (refine qg rfl (g_pick_t rfl (by conv => lhs; whnf)) rfl rfl ?_)
          refine rq_nil ?_
          refine q_then ?_
          refine ct_true rfl ?_
          refine ct_seq ?_
          (refine ct_region' rfl ?_; simp only [List.map, lite])
          (refine rg rfl (g_assign (by conv => lhs; whnf)) rfl rfl ?_)
          refine rt_nil ?_
          refine q_then ?_
          refine ct_ret ?_
          refine q_then_ret ?_
          refine q_block_ret ?_
          refine q_then_ret ?_
          refine q_then_ret ?_
          refine q_block_ret ?_
          refine q_then_ret ?_
          rotate_left
          (refine qgw rfl rfl rfl rfl (g_field0 rfl) rfl rfl ?_)
          (refine qgw rfl rfl rfl rfl (g_load rfl (by conv => lhs; whnf)) rfl rfl ?_)
          (refine rq_callE (wants_some rfl rfl rfl rfl) rfl rfl (Ent.refl _) (Go.Proofs.Ytfcanppeiadbhaa.size_spec _ _ ?_) (fun _ => rfl) (fun _ => En.ent) ?_; (· (first | assumption | omega | rfl | decide | (simp; done) | (simp; omega) | (simp only [*]; done))))
          (refine qgw rfl rfl rfl rfl (g_field0 rfl) rfl rfl ?_)
          (refine qgw rfl rfl rfl rfl (g_load rfl (by conv => lhs; whnf)) rfl rfl ?_)
          (refine rq_callE (wants_some rfl rfl rfl rfl) rfl rfl (Ent.refl _) (Go.Proofs.Ytfcanppeiadbhaa.refSize_spec _ _ ?_) (fun _ => rfl) (fun _ => En.ent) ?_; (· (first | assumption | omega | rfl | decide | (simp; done) | (simp; omega) | (simp only [*]; done))))
          (refine qgw rfl rfl rfl rfl (g_neqF rfl rfl ?_) rfl rfl ?_; (· (omega)))
          (refine qg rfl (g_pick_f rfl (by conv => lhs; whnf)) rfl rfl ?_)
          refine rq_nil ?_
          refine q_then ?_
          refine ct_false rfl ?_
          refine ct_skip ?_
          refine q_then ?_
          rotate_left
        · exact absurd (Option.isNone_iff_eq_none.1 h70) (i63.2 n1)
        obtain ⟨⟨wa, wc⟩, hwn⟩ := i63
        replace hwn := hwn n1
        dsimp only at hwn ⊢
        have hYl : (y1 ++ l[i].form).length ≤ 4294967296 := by rw [List.length_append]; omega
        refine ct_cut (ι := BkS) (fun _ => [(1, .slice b ts.length c'), (5, .slice (some ⟨b19, 0, none⟩) 2 2), (6, .slice (some ⟨b22, 0, none⟩) 2 2), (7, .pointer (some ⟨b24, 0, none⟩)), (35, .slice a l.length c), (36, .int .i64 (l.length : Int)), (37, .int .i64 (i : Int))]) (fun s' => Arr 36 1 (some ⟨b22, 0, none⟩) 2 2 [.slice wa0 y0.length wc0, .slice wa (y1 ++ l[i].form).length wc] * (Arr 5 1 wa wc (y1 ++ l[i].form).length ((y1 ++ l[i].form).map bv) * (IsOut i18 (y1 ++ l[i].form) * (Blk b19 [.pointer (some ⟨i17, 0, none⟩), .pointer (some ⟨i18, 0, none⟩)] 33 * (BookO b24 s'.1 * (IsOut i17 y0 * (Arr 5 1 wa0 wc0 y0.length (y0.map bv) * (R)))))))) ?_ ?_
        · focus
            refine ct_seq ?_
            (refine ct_region' rfl ?_; simp only [List.map, lite])
            (refine rg rfl (g_field0 rfl) rfl rfl ?_)
            (refine rg rfl (g_load rfl (by conv => lhs; whnf)) rfl rfl ?_)
            (refine rg rfl (g_eql rfl rfl) rfl rfl ?_)
            refine rt_nil ?_
            refine q_then ?_
            refine ct_if rfl (fun h81 => ?_) (fun h81 => ?_)
            refine ct_seq ?_
            (refine ct_region' rfl ?_; simp only [List.map, lite])
            (refine rg rfl (g_assign (by conv => lhs; whnf)) rfl rfl ?_)
            refine rt_nil ?_
            refine q_then ?_
            refine ct_block ?_
            rotate_left
            refine ct_skip ?_
            rotate_left
          · refine ct_loop (ι := { n : Nat // n ≤ 3 } × BkS) (fun n => [(1, .slice b ts.length c'), (5, .slice (some ⟨b19, 0, none⟩) 2 2), (6, .slice (some ⟨b22, 0, none⟩) 2 2), (7, .pointer (some ⟨b24, 0, none⟩)), (35, .slice a l.length c), (36, .int .i64 (l.length : Int)), (37, .int .i64 (i : Int)), (10, .int .i64 1), (11, .int .i64 (n.1.1 : Int))]) (fun n => Arr 36 1 (some ⟨b22, 0, none⟩) 2 2 [.slice wa0 y0.length wc0, .slice wa (y1 ++ l[i].form).length wc] * (Arr 5 1 wa wc (y1 ++ l[i].form).length ((y1 ++ l[i].form).map bv) * (IsOut i18 (y1 ++ l[i].form) * (Blk b19 [.pointer (some ⟨i17, 0, none⟩), .pointer (some ⟨i18, 0, none⟩)] 33 * (BookO b24 n.2.1 * (IsOut i17 y0 * (Arr 5 1 wa0 wc0 y0.length (y0.map bv) * (R)))))))) (fun n => 3 - n.1.1) ⟨⟨0, by omega⟩, ⟨s, hsm⟩⟩ ⟨rfl, rfl, rfl, rfl, rfl, rfl, rfl, rfl, rfl, trivial⟩ (by exact En.ent) fun n ρ' => ?_
            obtain ⟨⟨n, hn3⟩, ⟨s2, hs2⟩⟩ := n
            dsimp only at hn3 hs2 ⊢
            by_cases h3 : n < 3
            · focus
                refine ct_seq ?_
                refine ct_seq ?_
                (refine ct_region' rfl ?_; simp only [List.map, lite])
                (refine rg rfl (g_move (by conv => lhs; whnf)) rfl rfl ?_)
                (refine rg rfl (g_lssT rfl rfl ?_) rfl rfl ?_; (· (omega)))
                refine rt_nil ?_
                refine q_then ?_
                refine ct_true rfl ?_
                refine ct_skip ?_
                refine q_then ?_
                refine ct_seq ?_
                refine ct_block ?_
                refine ct_seq ?_
                (refine ct_region' rfl ?_; simp only [List.map, lite])
                (refine rg rfl (g_move (by conv => lhs; whnf)) rfl rfl ?_)
                (refine rg rfl (g_move (by conv => lhs; whnf)) rfl rfl ?_)
                (refine rg rfl (g_elemO1 rfl rfl ?_ ?_) rfl rfl ?_; (· (first | omega | decide)); (· (first | omega | decide | (exact pos_of_get (by assumption)) | (simp only [List.length_map, List.length_append, List.length_replicate, List.length_set, List.length_cons, List.length_nil]; omega) | (simp; omega))))
                (refine rg rfl (g_load_rd rfl (by conv => lhs; whnf)) rfl rfl ?_)
                (refine rt_op (wants_none rfl) (o_callE rfl rfl (ent_right (ent_right (Ent.refl _))) (Go.Proofs.Ytfcanppeiadbhaa.out_done _ _ _ ?_) fun i90 => ?_); (· (first | assumption | omega | rfl | decide | (simp; done) | (simp; omega) | (simp only [*]; done))))
                (refine rg rfl (g_assign (by conv => lhs; whnf)) rfl rfl ?_)
                refine rt_nil ?_
                refine q_then ?_
                refine ct_seq ?_
                refine ct_seq ?_
                refine ct_quiet (by kernel_rfl) rfl ?_
                simp only [List.map, lite]
                (refine qg rfl (g_move (by conv => lhs; whnf)) rfl rfl ?_)
                (refine qg rfl (g_convA rfl rfl rfl) rfl rfl ?_)
                (refine qg rfl (g_move (by conv => lhs; whnf)) rfl rfl ?_)
                (refine qg rfl (g_move (by conv => lhs; whnf)) rfl rfl ?_)
                (refine qg rfl (g_elemO1 rfl rfl ?_ ?_) rfl rfl ?_; (· (first | omega | decide)); (· (first | omega | decide | (exact pos_of_get (by assumption)) | (simp only [List.length_map, List.length_append, List.length_replicate, List.length_set, List.length_cons, List.length_nil]; omega) | (simp; omega))))
                (refine qg rfl (g_load_rd rfl (by conv => lhs; whnf)) rfl rfl ?_)
                (refine qg rfl (g_convA rfl rfl rfl) rfl rfl ?_)
                (refine qg rfl (g_nesF rfl rfl ?_) rfl rfl ?_; (· (first | rfl | assumption)))
                refine rq_nil ?_
                refine q_then ?_
                refine ct_false rfl ?_
                refine ct_skip ?_
                refine q_then ?_
                (refine ct_region' rfl ?_; simp only [List.map, lite])
                (refine rg rfl (g_move (by conv => lhs; whnf)) rfl rfl ?_)
                (refine rg rfl (g_move (by conv => lhs; whnf)) rfl rfl ?_)
                (refine rt_op (wants_none rfl) (o_callE rfl rfl ((ent_right (ent_right (ent_right (ent_right (ent_right (Ent.refl _)))))).trans (Ent.mul (Ent.refl _) (Ent.refl _))) (Go.Proofs.Ytfcanppeiadbhaa.add_spec _ _ _ _ _ _ _ ?_ ?_ ?_) fun i101 => ?_); (· (first | assumption | omega | rfl | decide | (simp; done) | (simp; omega) | (simp only [*]; done))); (· (first | assumption | omega | rfl | decide | (simp; done) | (simp; omega) | (simp only [*]; done))); (· (first | assumption | omega | rfl | decide | (simp; done) | (simp; omega) | (simp only [*]; done))))
                refine rt_nil ?_
                refine q_block ?_
                refine q_then ?_
                (refine ct_region' rfl ?_; simp only [List.map, lite])
                (refine rg rfl (g_move (by conv => lhs; whnf)) rfl rfl ?_)
                (refine rg rfl (g_addN rfl rfl ?_) rfl rfl ?_; (· (constructor <;> omega)))
                (refine rg rfl (g_assign (by conv => lhs; whnf)) rfl rfl ?_)
                refine rt_nil ?_
                rotate_left
              exact q_again ⟨⟨n + 1, by omega⟩, i101⟩ (by show 3 - (n + 1) < 3 - n; omega) ⟨rfl, rfl, rfl, rfl, rfl, rfl, rfl, rfl, rfl, trivial⟩ (by exact En.ent)
            · focus
                refine ct_seq ?_
                refine ct_seq ?_
                (refine ct_region' rfl ?_; simp only [List.map, lite])
                (refine rg rfl (g_move (by conv => lhs; whnf)) rfl rfl ?_)
                (refine rg rfl (g_lssF rfl rfl ?_) rfl rfl ?_; (· (omega)))
                refine rt_nil ?_
                refine q_then ?_
                refine ct_false rfl ?_
                refine ct_exit ?_
                refine q_then_exit ?_
                refine q_then_exit ?_
                refine q_block_exit ?_
                rotate_left
              exact q_cut ⟨s2, hs2⟩ ⟨rfl, rfl, rfl, rfl, rfl, rfl, rfl, trivial⟩ (by exact En.ent)
          · exact q_cut ⟨s, hsm⟩ ⟨rfl, rfl, rfl, rfl, rfl, rfl, rfl, trivial⟩ (by exact En.ent)
        · rintro ⟨s', hs'⟩ ρ'
          dsimp only
          focus
            refine ct_seq ?_
            refine ct_quiet (by kernel_rfl) rfl ?_
            simp only [List.map, lite]
            (refine qg rfl (g_move (by conv => lhs; whnf)) rfl rfl ?_)
            (refine qg rfl (g_elemO1 rfl rfl ?_ ?_) rfl rfl ?_; (· (first | omega | decide)); (· (first | omega | decide | (exact pos_of_get (by assumption)) | (simp only [List.length_map, List.length_append, List.length_replicate, List.length_set, List.length_cons, List.length_nil]; omega) | (simp; omega))))
            (refine qg rfl (g_load rfl (by conv => lhs; whnf)) rfl rfl ?_)
            (refine rq_callE (wants_none rfl) rfl rfl (ent_right (ent_right (ent_right (ent_right (ent_right (Ent.refl _)))))) (Go.Proofs.Ytfcanppeiadbhaa.out_len _ _ _) (fun _ => rfl) (fun _ => En.ent) ?_)
            (refine qg rfl (g_move (by conv => lhs; whnf)) rfl rfl ?_)
            (refine qg rfl (g_elemO1 rfl rfl ?_ ?_) rfl rfl ?_; (· (first | omega | decide)); (· (first | omega | decide | (exact pos_of_get (by assumption)) | (simp only [List.length_map, List.length_append, List.length_replicate, List.length_set, List.length_cons, List.length_nil]; omega) | (simp; omega))))
            (refine qg rfl (g_load_rd rfl (by conv => lhs; whnf)) rfl rfl ?_)
            (refine qg rfl (g_len_slice rfl) rfl rfl ?_)
            (refine qg rfl (g_neqF rfl rfl ?_) rfl rfl ?_; (· (omega)))
            (refine qg rfl (g_move (by conv => lhs; whnf)) rfl rfl ?_)
            (refine qgw rfl rfl rfl rfl (g_move (by conv => lhs; whnf)) rfl rfl ?_)
            (refine qgw rfl rfl rfl rfl (g_elemO1 rfl rfl ?_ ?_) rfl rfl ?_; (· (first | omega | decide)); (· (first | omega | decide | (exact pos_of_get (by assumption)) | (simp only [List.length_map, List.length_append, List.length_replicate, List.length_set, List.length_cons, List.length_nil]; omega) | (simp; omega))))
            (refine qgw rfl rfl rfl rfl (g_load_rd rfl (by conv => lhs; whnf)) rfl rfl ?_)
            (refine rq_callE (wants_some rfl rfl rfl rfl) rfl rfl (ent_right (ent_right (Ent.refl _))) (Go.Proofs.Ytfcanppeiadbhaa.out_len _ _ _) (fun _ => rfl) (fun _ => En.ent) ?_)
            (refine qgw rfl rfl rfl rfl (g_move (by conv => lhs; whnf)) rfl rfl ?_)
            (refine qgw rfl rfl rfl rfl (g_elemO1 rfl rfl ?_ ?_) rfl rfl ?_; (· (first | omega | decide)); (· (first | omega | decide | (exact pos_of_get (by assumption)) | (simp only [List.length_map, List.length_append, List.length_replicate, List.length_set, List.length_cons, List.length_nil]; omega) | (simp; omega))))
            (refine qgw rfl rfl rfl rfl (g_load_rd rfl (by conv => lhs; whnf)) rfl rfl ?_)
            (refine qgw rfl rfl rfl rfl (g_len_slice rfl) rfl rfl ?_)
            (refine qgw rfl rfl rfl rfl (g_neqF rfl rfl ?_) rfl rfl ?_; (· (omega)))
            (refine qg rfl (g_pick_f rfl (by conv => lhs; whnf)) rfl rfl ?_)
            (refine qg rfl (g_move (by conv => lhs; whnf)) rfl rfl ?_)
            (refine qgw rfl rfl rfl rfl (g_move (by conv => lhs; whnf)) rfl rfl ?_)
            (refine rq_callE (wants_some rfl rfl rfl rfl) rfl rfl (ent_right (ent_right (ent_right (ent_right (Ent.refl _))))) (Go.Proofs.Ytfcanppeiadbhaa.stays_spec _ _ _) (fun _ => rfl) (fun _ => En.ent) ?_)
            (refine qgw rfl rfl rfl rfl (g_notT rfl) rfl rfl ?_)
            (refine qg rfl (g_pick_f rfl (by conv => lhs; whnf)) rfl rfl ?_)
            refine rq_nil ?_
            refine q_then ?_
            refine ct_false rfl ?_
            refine ct_skip ?_
            refine q_block ?_
            refine q_then ?_
            (refine ct_region' rfl ?_; simp only [List.map, lite])
            (refine rg rfl (g_addN rfl rfl ?_) rfl rfl ?_; (· (constructor <;> omega)))
            (refine rg rfl (g_move (by conv => lhs; whnf)) rfl rfl ?_)
            refine rt_nil ?_
            rotate_left
          exact q_again ⟨i + 1, y0, (y1 ++ l[i].form), (wa0, wc0), (wa, wc), ⟨s', hs'⟩, by omega, by rw [hn, List.length_append]; omega, n0, hwn⟩ (by show l.length - (i + 1) < l.length - i; omega) ⟨rfl, rfl, rfl, rfl, rfl, rfl, rfl, trivial⟩ (by exact En.ent)
  · focus
      refine ct_seq ?_
      (refine ct_region' rfl ?_; simp only [List.map, lite])
      (refine rg rfl (g_lssF rfl rfl ?_) rfl rfl ?_; (· (omega)))
      refine rt_nil ?_
      refine q_then ?_
      refine ct_seq ?_
      refine ct_false rfl ?_
      refine ct_exit ?_
      refine q_then_exit ?_
      refine q_then_exit ?_
      refine q_block_exit ?_
      refine q_then ?_
      refine ct_seq ?_
      refine ct_anyA 26 ?_
      (refine any_take 0 rfl (by kernel_rfl) (by first | exact Ent.refl _ | exact En.ent) (wants_none rfl) (g_move (by conv => lhs; whnf)) rfl rfl ?_)
      (refine any_take 1 rfl (by kernel_rfl) (by first | exact Ent.refl _ | exact En.ent) (wants_none rfl) (g_elemO1 rfl rfl ?_ ?_) rfl rfl ?_; (· (first | omega | decide)); (· (first | omega | decide | (exact pos_of_get (by assumption)) | (simp only [List.length_map, List.length_append, List.length_replicate, List.length_set, List.length_cons, List.length_nil]; omega) | (simp; omega))))
      (refine any_take 2 rfl (by kernel_rfl) (by first | exact Ent.refl _ | exact En.ent) (wants_none rfl) (g_load rfl (by conv => lhs; whnf)) rfl rfl ?_)
      (refine any_take 5 rfl (by kernel_rfl) (by first | exact Ent.refl _ | exact En.ent) (wants_none rfl) (g_move (by conv => lhs; whnf)) rfl rfl ?_)
      (refine any_take 6 rfl (by kernel_rfl) (by first | exact Ent.refl _ | exact En.ent) (wants_none rfl) (g_elemO1 rfl rfl ?_ ?_) rfl rfl ?_; (· (first | omega | decide)); (· (first | omega | decide | (exact pos_of_get (by assumption)) | (simp only [List.length_map, List.length_append, List.length_replicate, List.length_set, List.length_cons, List.length_nil]; omega) | (simp; omega))))
      (refine any_take 7 rfl (by kernel_rfl) (by first | exact Ent.refl _ | exact En.ent) (wants_none rfl) (g_load_rd rfl (by conv => lhs; whnf)) rfl rfl ?_)
      (refine any_take 8 rfl (by kernel_rfl) (by first | exact Ent.refl _ | exact En.ent) (wants_none rfl) (g_convA rfl rfl rfl) rfl rfl ?_)
      (refine any_one 3 (by kernel_rfl) rfl (wants_none rfl) (o_callE rfl rfl (ent_right (ent_right (ent_right (Ent.refl _)))) (Go.Proofs.Ytfcanppeiadbhaa.out_done _ _ _ ?_) fun i131 => ⟨.inr (by first | exact Ent.refl _ | exact En.ent), ?_⟩); (· (first | assumption | omega | rfl | decide | (simp; done) | (simp; omega) | (simp only [*]; done))))
      (refine any_one 4 (by kernel_rfl) rfl (wants_none rfl) (o_give (g_convA rfl rfl rfl) rfl rfl ⟨.inr (by first | exact Ent.refl _ | exact En.ent), ?_⟩))
      (refine any_take 9 rfl (by kernel_rfl) (by first | exact Ent.refl _ | exact En.ent) (wants_none rfl) (g_eqsT rfl rfl ?_) rfl rfl ?_; (· (first | rfl | assumption)))
      (refine any_take 10 rfl (by kernel_rfl) (by first | exact Ent.refl _ | exact En.ent) (wants_none rfl) (g_move (by conv => lhs; whnf)) rfl rfl ?_)
      (refine any_take 11 rfl (by kernel_rfl) (by first | exact Ent.refl _ | exact En.ent) (wants_some rfl rfl rfl rfl) (g_move (by conv => lhs; whnf)) rfl rfl ?_)
      (refine any_take 12 rfl (by kernel_rfl) (by first | exact Ent.refl _ | exact En.ent) (wants_some rfl rfl rfl rfl) (g_elemO1 rfl rfl ?_ ?_) rfl rfl ?_; (· (first | omega | decide)); (· (first | omega | decide | (exact pos_of_get (by assumption)) | (simp only [List.length_map, List.length_append, List.length_replicate, List.length_set, List.length_cons, List.length_nil]; omega) | (simp; omega))))
      (refine any_take 13 rfl (by kernel_rfl) (by first | exact Ent.refl _ | exact En.ent) (wants_some rfl rfl rfl rfl) (g_load_rd rfl (by conv => lhs; whnf)) rfl rfl ?_)
      (refine any_take 16 rfl (by kernel_rfl) (by first | exact Ent.refl _ | exact En.ent) (wants_some rfl rfl rfl rfl) (g_move (by conv => lhs; whnf)) rfl rfl ?_)
      (refine any_take 17 rfl (by kernel_rfl) (by first | exact Ent.refl _ | exact En.ent) (wants_some rfl rfl rfl rfl) (g_elemO1 rfl rfl ?_ ?_) rfl rfl ?_; (· (first | omega | decide)); (· (first | omega | decide | (exact pos_of_get (by assumption)) | (simp only [List.length_map, List.length_append, List.length_replicate, List.length_set, List.length_cons, List.length_nil]; omega) | (simp; omega))))
      (refine any_take 18 rfl (by kernel_rfl) (by first | exact Ent.refl _ | exact En.ent) (wants_some rfl rfl rfl rfl) (g_load_rd rfl (by conv => lhs; whnf)) rfl rfl ?_)
      (refine any_take 19 rfl (by kernel_rfl) (by first | exact Ent.refl _ | exact En.ent) (wants_some rfl rfl rfl rfl) (g_convA rfl rfl rfl) rfl rfl ?_)
      (refine any_one 14 (by kernel_rfl) rfl (wants_some rfl rfl rfl rfl) (o_callE rfl rfl (ent_right (ent_right (ent_right (ent_right (ent_right (Ent.refl _)))))) (Go.Proofs.Ytfcanppeiadbhaa.out_done _ _ _ ?_) fun i142 => ⟨.inr (by first | exact Ent.refl _ | exact En.ent), ?_⟩); (· (first | assumption | omega | rfl | decide | (simp; done) | (simp; omega) | (simp only [*]; done))))
      (refine any_one 15 (by kernel_rfl) rfl (wants_some rfl rfl rfl rfl) (o_give (g_convA rfl rfl rfl) rfl rfl ⟨.inr (by first | exact Ent.refl _ | exact En.ent), ?_⟩))
      (refine any_take 20 rfl (by kernel_rfl) (by first | exact Ent.refl _ | exact En.ent) (wants_some rfl rfl rfl rfl) (g_eqsT rfl rfl ?_) rfl rfl ?_; (· (first | rfl | assumption)))
      (refine any_take 21 rfl (by kernel_rfl) (by first | exact Ent.refl _ | exact En.ent) (wants_none rfl) (g_pick_t rfl (by conv => lhs; whnf)) rfl rfl ?_)
      (refine any_take 22 rfl (by kernel_rfl) (by first | exact Ent.refl _ | exact En.ent) (wants_none rfl) (g_move (by conv => lhs; whnf)) rfl rfl ?_)
      (refine any_take 23 rfl (by kernel_rfl) (by first | exact Ent.refl _ | exact En.ent) (wants_some rfl rfl rfl rfl) (g_move (by conv => lhs; whnf)) rfl rfl ?_)
      (refine any_one 24 (by kernel_rfl) rfl (wants_some rfl rfl rfl rfl) (o_callE rfl rfl (ent_right (ent_right (ent_right (ent_right (ent_right (ent_right (Ent.refl _))))))) (Go.Proofs.Ytfcanppeiadbhaa.stays_spec _ _ _) fun i152 => ⟨.inr (by first | exact Ent.refl _ | exact En.ent), ?_⟩))
      (refine any_take 25 rfl (by kernel_rfl) (by first | exact Ent.refl _ | exact En.ent) (wants_none rfl) (g_pick_t rfl (by conv => lhs; whnf)) rfl rfl ?_)
      (refine any_one 26 (by kernel_rfl) rfl (wants_none rfl) (o_give (g_assign (by conv => lhs; whnf)) rfl rfl ⟨.inl rfl, ?_⟩))
      refine any_done (by kernel_rfl) ?_
      refine q_then ?_
      refine ct_ret ?_
      exact q_ret1 rfl rfl () rfl En.ent
end Go.Proofs.Ytfcanppeiadbhaa
