/- ShaHashes: the walk. -/
import Derived.Test.YtmhddmenmkjdlaaT2
namespace Go.Proofs.Ytmhddmenmkjdlaa
open Go.RowKit
attribute [local irreducible] Gives RT CT QT Spec Wants Reads Src Ent OT RQ AnyT AnyOp Again Code.wp Post

theorem row_cell {l : List RowV} {i : Nat} (h : i < l.length) : (l.map RowV.cell)[i]? = some (.slice l[i].a l[i].b.length l[i].c) := by rw [List.getElem?_map, List.getElem?_eq_getElem h]; rfl
theorem shaOf_len (xs : List UInt8) : (shaOf xs).length = 32 := hBs_len _ _
theorem beyondR_spec (R : HP) (a : Option Addr) (c : Nat) (l : List RowV) (hs : Rows R a l) (hls : ∀ o ∈ l, o.b.length ≤ 140737488351232) :
    Spec Try.prog 11 [.slice a l.length c] R (fun _ : Unit => .bool (decide (2147483647 < (cat l).length))) (fun _ => R) := by
  refine spec_of Try.func11 rfl Try.ntmps11 rfl fun W0 => ?_
  obtain ⟨hr, _, _, _, hll⟩ := hs
  focus
    refine ct_seq ?_
    (refine ct_region' rfl ?_; simp only [List.map, lite])
    (refine rg rfl (g_assign (by conv => lhs; whnf)) rfl rfl ?_)
    refine rt_nil ?_
    refine q_then ?_
    refine ct_seq ?_
    (refine ct_region' rfl ?_; simp only [List.map, lite])
    (refine rg rfl (g_assign (by conv => lhs; whnf)) rfl rfl ?_)
    refine rt_nil ?_
    refine q_then ?_
    refine ct_seq ?_
    refine ct_seq ?_
    (refine ct_region' rfl ?_; simp only [List.map, lite])
    (refine rg rfl (g_assign (by conv => lhs; whnf)) rfl rfl ?_)
    refine rt_nil ?_
    refine q_then ?_
    refine ct_block ?_
    rotate_left
  refine ct_loop (ι := { i : Nat // i ≤ l.length ∧ (0 < i → (cat (l.take (i - 1))).length ≤ 2147483647) }) (fun i => [(0, .slice a l.length c), (3, .int .i64 (2147483647 - ((cat (l.take i.1)).length : Int))), (4, .int .i64 (i.1 : Int))]) (fun _ => R) (fun i => l.length - i.1) ⟨0, by omega, by omega⟩ ⟨rfl, by simp [cat]; rfl, rfl, trivial⟩ (Ent.refl _) fun i ρ' => ?_
  obtain ⟨i, hi, hp⟩ := i
  dsimp only at hi hp ⊢
  have hle := cat_le l i
  by_cases h : i < l.length ∧ (cat (l.take i)).length ≤ 2147483647
  · obtain ⟨h1, h2⟩ := h
    have hc := row_cell h1
    have hb := hls _ (List.getElem_mem h1)
    have hn := congrArg List.length (cat_next l i h1)
    rw [List.length_append] at hn
    focus
      refine ct_seq ?_
      refine ct_seq ?_
      (refine ct_region' rfl ?_; simp only [List.map, lite])
      (refine rg rfl (g_move (by conv => lhs; whnf)) rfl rfl ?_)
      (refine rg rfl (g_move (by conv => lhs; whnf)) rfl rfl ?_)
      (refine rg rfl (g_len_slice rfl) rfl rfl ?_)
      (refine rg rfl (g_lssT rfl rfl ?_) rfl rfl ?_; (· (omega)))
      (refine rg rfl (g_move (by conv => lhs; whnf)) rfl rfl ?_)
      (refine rgw rfl rfl rfl rfl (g_move (by conv => lhs; whnf)) rfl rfl ?_)
      (refine rgw rfl rfl rfl rfl (g_geqT rfl rfl ?_) rfl rfl ?_; (· (omega)))
      (refine rg rfl (g_pick_t rfl (by conv => lhs; whnf)) rfl rfl ?_)
      refine rt_nil ?_
      refine q_then ?_
      refine ct_true rfl ?_
      refine ct_skip ?_
      refine q_then ?_
      refine ct_seq ?_
      refine ct_block ?_
      (refine ct_region' rfl ?_; simp only [List.map, lite])
      (refine rg rfl (g_move (by conv => lhs; whnf)) rfl rfl ?_)
      (refine rg rfl (g_move (by conv => lhs; whnf)) rfl rfl ?_)
      (refine rg rfl (g_move (by conv => lhs; whnf)) rfl rfl ?_)
      (refine rg rfl (g_elemO1 rfl rfl ?_ ?_) rfl rfl ?_; (· (first | omega | decide)); (· (first | omega | decide | (exact pos_of_get (by assumption)) | (simp only [List.length_map, List.length_append, List.length_replicate, List.length_set, List.length_cons, List.length_nil]; omega) | (simp; omega))))
      (refine rg rfl (g_load_rd rfl (by assumption)) rfl rfl ?_)
      (refine rg rfl (g_len_slice rfl) rfl rfl ?_)
      (refine rg rfl (g_subN rfl rfl ?_) rfl rfl ?_; (· (constructor <;> omega)))
      (refine rg rfl (g_assign (by conv => lhs; whnf)) rfl rfl ?_)
      refine rt_nil ?_
      refine q_block ?_
      refine q_then ?_
      (refine ct_region' rfl ?_; simp only [List.map, lite])
      (refine rg rfl (g_move (by conv => lhs; whnf)) rfl rfl ?_)
      (refine rg rfl (g_addN rfl rfl ?_) rfl rfl ?_; (· (constructor <;> omega)))
      (refine rg rfl (g_assign (by conv => lhs; whnf)) rfl rfl ?_)
      refine rt_nil ?_
      rotate_left
    exact q_again ⟨i + 1, by omega, fun _ => by simpa using h2⟩ (by show l.length - (i + 1) < l.length - i; omega) ⟨rfl, congrArg (Value.int .i64) (by rw [hn]; omega), rfl, trivial⟩ (Ent.refl _)
  · focus
      refine ct_seq ?_
      refine ct_seq ?_
      (refine ct_region' rfl ?_; simp only [List.map, lite])
      (refine rg rfl (g_move (by conv => lhs; whnf)) rfl rfl ?_)
      (refine rg rfl (g_move (by conv => lhs; whnf)) rfl rfl ?_)
      (refine rg rfl (g_len_slice rfl) rfl rfl ?_)
      (refine rg rfl (g_lss rfl rfl) rfl rfl ?_)
      (refine rg rfl (g_move (by conv => lhs; whnf)) rfl rfl ?_)
      refine rt_split 9 rfl (fun h9 => ?_) (fun h9 => ?_)
      (refine rgw rfl rfl rfl rfl (g_move (by conv => lhs; whnf)) rfl rfl ?_)
      (refine rgw rfl rfl rfl rfl (g_geqF rfl rfl ?_) rfl rfl ?_; (· (omega)))
      (refine rg rfl (g_pick_t rfl (by conv => lhs; whnf)) rfl rfl ?_)
      refine rt_nil ?_
      refine q_then ?_
      refine ct_false rfl ?_
      refine ct_exit ?_
      refine q_then_exit ?_
      refine q_then_exit ?_
      refine q_block_exit ?_
      refine q_then ?_
      refine ct_seq ?_
      (refine ct_region' rfl ?_; simp only [List.map, lite])
      (refine rg rfl (g_move (by conv => lhs; whnf)) rfl rfl ?_)
      (refine rg rfl (g_lssT rfl rfl ?_) rfl rfl ?_; (· (omega)))
      (refine rg rfl (g_assign (by conv => lhs; whnf)) rfl rfl ?_)
      refine rt_nil ?_
      refine q_then ?_
      refine ct_ret ?_
      rotate_left
      refine rgs rfl rfl rfl rfl rfl rfl ?_
      refine rgs rfl rfl rfl rfl rfl rfl ?_
      (refine rg rfl (g_pick_f rfl (by conv => lhs; whnf)) rfl rfl ?_)
      refine rt_nil ?_
      refine q_then ?_
      refine ct_false rfl ?_
      refine ct_exit ?_
      refine q_then_exit ?_
      refine q_then_exit ?_
      refine q_block_exit ?_
      refine q_then ?_
      refine ct_seq ?_
      (refine ct_region' rfl ?_; simp only [List.map, lite])
      (refine rg rfl (g_move (by conv => lhs; whnf)) rfl rfl ?_)
      (refine rg rfl (g_lss rfl rfl) rfl rfl ?_)
      (refine rg rfl (g_assign (by conv => lhs; whnf)) rfl rfl ?_)
      refine rt_nil ?_
      refine q_then ?_
      refine ct_ret ?_
      rotate_left
    · exact q_ret1 rfl rfl () (congrArg Value.bool (decide_eq_true (by omega)).symm) (Ent.refl _)
    · obtain rfl : i = l.length := by omega
      rw [List.take_length]
      exact q_ret1 rfl rfl () (congrArg Value.bool (decide_eq_decide.2 (by omega))) (Ent.refl _)
set_option maxRecDepth 100000 in
set_option maxHeartbeats 8000000 in
theorem ofAllR_spec (R : HP) (a : Option Addr) (c : Nat) (l : List RowV) (hs : Rows R a l) (hl : (cat l).length ≤ 140737488354000) :
    Spec Try.prog 15 [.slice a l.length c] R (fun _ : Unit => .agg ((shaOf (cat l)).map bv).toArray) (fun _ => R) := by
  refine spec_of Try.func15 rfl Try.ntmps15 rfl fun W0 => ?_
  have hle := cat_le l
  have hll := hs.len
  have hrs := hs.rd
  have hml : ((shaOf (cat l)).map bv).length = 32 := by rw [List.length_map]; exact hBs_len _ _
  focus
    refine ct_seq ?_
    (refine ct_region' rfl ?_; simp only [List.map, lite])
    (refine rt_op (wants_none rfl) (o_alloc rfl (by conv => lhs; whnf) fun b2 => ?_))
    refine rt_nil ?_
    refine q_then ?_
    refine ct_seq ?_
    (refine ct_region' rfl ?_; simp only [List.map, lite])
    (refine rt_op (wants_none rfl) (o_build0 rfl fun b5 => ?_))
    (refine rg rfl (g_assign (by conv => lhs; whnf)) rfl rfl ?_)
    refine rt_nil ?_
    refine q_then ?_
    refine ct_seq ?_
    refine ct_seq ?_
    (refine ct_region' rfl ?_; simp only [List.map, lite])
    (refine rg rfl (g_assign (by conv => lhs; whnf)) rfl rfl ?_)
    refine rt_nil ?_
    refine q_then ?_
    refine ct_block ?_
    rotate_left
  refine ct_ent (B := Arr 5 1 (some ⟨b5, 0, none⟩) 0 (cat (l.take 0)).length ((cat (l.take 0)).map bv) * (Blk b2 ((List.replicate 32 (0 : UInt8)).map bv) 23 * R)) ?_ (Ent.refl _)
  refine ct_loop (ι := { t : (Option Addr × Nat) × Nat // t.2 ≤ l.length }) (fun t => [(0, .slice a l.length c), (2, .pointer (some ⟨b2, 0, none⟩)), (3, .slice t.1.1.1 (cat (l.take t.1.2)).length t.1.1.2), (4, .int .i64 (t.1.2 : Int))]) (fun t => Arr 5 1 t.1.1.1 t.1.1.2 (cat (l.take t.1.2)).length ((cat (l.take t.1.2)).map bv) * (Blk b2 ((List.replicate 32 (0 : UInt8)).map bv) 23 * R)) (fun t => l.length - t.1.2)
    ⟨((some ⟨b5, 0, none⟩, 0), 0), Nat.zero_le _⟩ ⟨rfl, rfl, rfl, rfl, trivial⟩ (Ent.refl _) fun t ρ' => ?_
  obtain ⟨⟨⟨pa, pc⟩, i⟩, hi⟩ := t
  dsimp only at hi ⊢
  have hlei := hle i
  by_cases h : i < l.length
  · have hcell := row_cell h
    have hsub := hs.sub _ (List.getElem_mem h)
    have hn := cat_next l i h
    have hlei2 := hle (i + 1)
    rw [hn, List.length_append] at hlei2
    focus
      refine ct_seq ?_
      refine ct_seq ?_
      (refine ct_region' rfl ?_; simp only [List.map, lite])
      (refine rg rfl (g_move (by conv => lhs; whnf)) rfl rfl ?_)
      (refine rg rfl (g_move (by conv => lhs; whnf)) rfl rfl ?_)
      (refine rg rfl (g_len_slice rfl) rfl rfl ?_)
      (refine rg rfl (g_lssT rfl rfl ?_) rfl rfl ?_; (· (omega)))
      refine rt_nil ?_
      refine q_then ?_
      refine ct_true rfl ?_
      refine ct_skip ?_
      refine q_then ?_
      refine ct_seq ?_
      refine ct_block ?_
      (refine ct_region' rfl ?_; simp only [List.map, lite])
      (refine rg rfl (g_move (by conv => lhs; whnf)) rfl rfl ?_)
      (refine rg rfl (g_move (by conv => lhs; whnf)) rfl rfl ?_)
      (refine rg rfl (g_move (by conv => lhs; whnf)) rfl rfl ?_)
      (refine rg rfl (g_elemO1 rfl rfl ?_ ?_) rfl rfl ?_; (· (first | omega | decide)); (· (first | omega | decide | (exact pos_of_get (by assumption)) | (simp only [List.length_map, List.length_append, List.length_replicate, List.length_set, List.length_cons, List.length_nil]; omega) | (simp; omega))))
      (refine rg rfl (g_load_rd rfl (by assumption)) rfl rfl ?_)
      (refine rt_op (wants_none rfl) (o_appR rfl rfl rfl (by first | rfl | simp | (simp; omega)) (by first | rfl | exact bvsAll _ | exact wvs_all _ | assumption) (by rfl) (by rfl) ?_ (by first | with_reducible exact Nat.zero_add _ | exact rfl) (by first | with_reducible exact List.nil_append _ | exact List.map_append.symm | exact rfl) fun ad17 cap17 hc17 hn17 => ?_); (· (first | omega | decide)))
      (refine rg rfl (g_assign (by conv => lhs; whnf)) rfl rfl ?_)
      refine rt_nil ?_
      refine q_block ?_
      refine q_then ?_
      (refine ct_region' rfl ?_; simp only [List.map, lite])
      (refine rg rfl (g_move (by conv => lhs; whnf)) rfl rfl ?_)
      (refine rg rfl (g_addN rfl rfl ?_) rfl rfl ?_; (· (constructor <;> omega)))
      (refine rg rfl (g_assign (by conv => lhs; whnf)) rfl rfl ?_)
      refine rt_nil ?_
      rotate_left
    refine q_again ⟨((ad17, cap17), i + 1), by omega⟩ (by show l.length - (i + 1) < l.length - i; omega) ?_ ?_
    · dsimp only; rw [hn]; exact ⟨rfl, rfl, by rw [List.length_append]; rfl, rfl, trivial⟩
    · dsimp only; rw [hn]; exact Ent.mul (arr_cast (by simp) (by rw [List.map_append])) (Ent.refl _)
  · obtain rfl : i = l.length := by omega
    rw [List.take_length]
    have hof := fun (R' : HP) [Rd R' pa ((cat l).map bv)] => ofR_spec R' pa pc (cat l) (by omega)
    focus
      refine ct_seq ?_
      refine ct_seq ?_
      (refine ct_region' rfl ?_; simp only [List.map, lite])
      (refine rg rfl (g_move (by conv => lhs; whnf)) rfl rfl ?_)
      (refine rg rfl (g_move (by conv => lhs; whnf)) rfl rfl ?_)
      (refine rg rfl (g_len_slice rfl) rfl rfl ?_)
      (refine rg rfl (g_lssF rfl rfl ?_) rfl rfl ?_; (· (omega)))
      refine rt_nil ?_
      refine q_then ?_
      refine ct_false rfl ?_
      refine ct_exit ?_
      refine q_then_exit ?_
      refine q_then_exit ?_
      refine q_block_exit ?_
      refine q_then ?_
      refine ct_seq ?_
      (refine ct_region' rfl ?_; simp only [List.map, lite])
      (refine rg rfl (g_move (by conv => lhs; whnf)) rfl rfl ?_)
      (refine rt_op (wants_none rfl) (o_callE rfl rfl (Ent.refl _) (hof _) fun i19 => ?_))
      (refine rt_op (wants_none rfl) (o_storeAgg rfl (by conv => lhs; whnf) (by first | exact List.toList_toArray | (conv => lhs; whnf)) (by first | rfl | exact bvsAll _ | exact wvs_all _ | assumption) (by first | rfl | assumption | (simp; done) | (simp; omega)) (by first | rfl | assumption | (simp; done) | (simp; omega)) ?_))
      refine rt_nil ?_
      refine q_then ?_
      refine ct_ret ?_
      exact q_retC rfl (cell_blk rfl (by first | rfl | assumption | (simp; done) | (simp; omega))) () rfl En.ent
theorem rd_none (R : HP) : Rd R none [] := ⟨fun _ _ _ _ => rfl, fun _ h => by cases h⟩
theorem ofAll_nil (R : HP) : Spec Try.prog 14 [.slice none 0 0] R (fun _ : Unit => .agg ((shaOf []).map bv).toArray) (fun _ => R) :=
  ofAll_spec R none 0 [] ⟨rd_none R, by simp, by simp, by simp, by simp⟩ (by simp [cat])
theorem ofR_nil (R : HP) : Spec Try.prog 13 [.slice none 0 0] R (fun _ : Unit => .agg ((shaOf []).map bv).toArray) (fun _ => R) :=
  @ofR_spec R none 0 [] (rd_none R) (by simp)
set_option maxRecDepth 100000 in
set_option maxHeartbeats 8000000 in
theorem shaHashes_spec (R : HP) (a : Option Addr) (c : Nat) (l : List RowV) (hs : Rows R a l) (hls : ∀ o ∈ l, o.b.length ≤ 140737488351232) :
    Spec Try.prog 4 [.slice a l.length c] R (fun _ : Unit => .bool true) (fun _ => R) := by
  refine spec_of Try.func4 rfl Try.ntmps4 rfl fun W0 => ?_
  have hbey := beyondR_spec R a c l hs hls
  have hfix := fun (R' : HP) => fixed_spec R'
  have hll := hs.len
  have hrs := hs.rd
  focus
    refine ct_seq ?_
    (refine ct_region' rfl ?_; simp only [List.map, lite])
    (refine rg rfl (g_assign (by conv => lhs; whnf)) rfl rfl ?_)
    refine rt_nil ?_
    refine q_then ?_
    refine ct_seq ?_
    refine ct_seq ?_
    (refine ct_region' rfl ?_; simp only [List.map, lite])
    (refine rg rfl (g_move (by conv => lhs; whnf)) rfl rfl ?_)
    (refine rt_op (wants_none rfl) (o_callE rfl rfl ((Ent.addEmp _).trans (Ent.dropR _ _)) (hbey) fun i5 => ?_))
    refine rt_nil ?_
    refine q_then ?_
    refine ct_if rfl (fun h5 => ?_) (fun h5 => ?_)
    refine ct_seq ?_
    (refine ct_region' rfl ?_; simp only [List.map, lite])
    (refine rt_op (wants_none rfl) (o_callE rfl rfl (Ent.refl _) (hfix _) fun i6 => ?_))
    (refine rg rfl (g_assign (by conv => lhs; whnf)) rfl rfl ?_)
    refine rt_nil ?_
    refine q_then ?_
    refine ct_ret ?_
    refine q_then_ret ?_
    exact q_ret1 rfl rfl () rfl En.ent
    refine ct_skip ?_
    refine q_then ?_
    refine ct_seq ?_
    refine ct_seq ?_
    (refine ct_region' rfl ?_; simp only [List.map, lite])
    (refine rg rfl (g_assign (by conv => lhs; whnf)) rfl rfl ?_)
    refine rt_nil ?_
    refine q_then ?_
    refine ct_block ?_
    rotate_left
  refine ct_loop (ι := { i : Nat // i ≤ l.length }) (fun i => [(0, .slice a l.length c), (3, .int .i64 (i.1 : Int))]) (fun _ => R) (fun i => l.length - i.1) ⟨0, Nat.zero_le _⟩ ⟨rfl, rfl, trivial⟩ (Ent.refl _) fun i ρ' => ?_
  obtain ⟨i, hi⟩ := i
  dsimp only at hi ⊢
  by_cases h : i < l.length
  · have hcell := row_cell h
    have hsub := hs.sub _ (List.getElem_mem h)
    have hcap := hs.cap _ (List.getElem_mem h)
    have hnil := hs.nil _ (List.getElem_mem h)
    have hn := cat_next l i h
    have hlei2 := cat_le l (i + 1)
    rw [hn, List.length_append] at hlei2
    have hof := fun (R' : HP) [Rd R' l[i].a (l[i].b.map bv)] => of_spec R' l[i].a l[i].c l[i].b (by omega) hcap hnil
    have hor := fun (R' : HP) [Rd R' l[i].a (l[i].b.map bv)] => ofR_spec R' l[i].a l[i].c l[i].b (by omega)
    focus
      refine ct_seq ?_
      refine ct_seq ?_
      (refine ct_region' rfl ?_; simp only [List.map, lite])
      (refine rg rfl (g_move (by conv => lhs; whnf)) rfl rfl ?_)
      (refine rg rfl (g_move (by conv => lhs; whnf)) rfl rfl ?_)
      (refine rg rfl (g_len_slice rfl) rfl rfl ?_)
      (refine rg rfl (g_lssT rfl rfl ?_) rfl rfl ?_; (· (omega)))
      refine rt_nil ?_
      refine q_then ?_
      refine ct_true rfl ?_
      refine ct_skip ?_
      refine q_then ?_
      refine ct_seq ?_
      refine ct_block ?_
      refine ct_seq ?_
      refine ct_quiet (by kernel_rfl) rfl ?_
      simp only [List.map, lite]
      (refine qg rfl (g_move (by conv => lhs; whnf)) rfl rfl ?_)
      (refine qg rfl (g_move (by conv => lhs; whnf)) rfl rfl ?_)
      (refine qg rfl (g_elemO1 rfl rfl ?_ ?_) rfl rfl ?_; (· (first | omega | decide)); (· (first | omega | decide | (exact pos_of_get (by assumption)) | (simp only [List.length_map, List.length_append, List.length_replicate, List.length_set, List.length_cons, List.length_nil]; omega) | (simp; omega))))
      (refine qg rfl (g_load_rd rfl (by assumption)) rfl rfl ?_)
      (refine rq_callE (wants_none rfl) rfl rfl (Ent.refl _) (hof _) (fun _ => rfl) (fun _ => En.ent) ?_)
      (refine qg rfl (g_move (by conv => lhs; whnf)) rfl rfl ?_)
      (refine qg rfl (g_move (by conv => lhs; whnf)) rfl rfl ?_)
      (refine qg rfl (g_elemO1 rfl rfl ?_ ?_) rfl rfl ?_; (· (first | omega | decide)); (· (first | omega | decide | (exact pos_of_get (by assumption)) | (simp only [List.length_map, List.length_append, List.length_replicate, List.length_set, List.length_cons, List.length_nil]; omega) | (simp; omega))))
      (refine qg rfl (g_load_rd rfl (by assumption)) rfl rfl ?_)
      (refine rq_callE (wants_none rfl) rfl rfl (Ent.refl _) (hor _) (fun _ => rfl) (fun _ => En.ent) ?_)
      (refine qg rfl (g_neHF rfl rfl rfl (shaOf_len _) rfl) rfl rfl ?_)
      refine rq_nil ?_
      refine q_then ?_
      refine ct_false rfl ?_
      refine ct_skip ?_
      refine q_block ?_
      refine q_then ?_
      (refine ct_region' rfl ?_; simp only [List.map, lite])
      (refine rg rfl (g_move (by conv => lhs; whnf)) rfl rfl ?_)
      (refine rg rfl (g_addN rfl rfl ?_) rfl rfl ?_; (· (constructor <;> omega)))
      (refine rg rfl (g_assign (by conv => lhs; whnf)) rfl rfl ?_)
      refine rt_nil ?_
      rotate_left
    exact q_again ⟨i + 1, by omega⟩ (by show l.length - (i + 1) < l.length - i; omega) ⟨rfl, rfl, trivial⟩ (Ent.refl _)
  · have hoa := ofAll_spec R a c l hs (by omega)
    have hor := ofAllR_spec R a c l hs (by omega)
    have hn1 := fun (R' : HP) => ofAll_nil R'
    have hn2 := fun (R' : HP) => ofR_nil R'
    focus
      refine ct_seq ?_
      refine ct_seq ?_
      (refine ct_region' rfl ?_; simp only [List.map, lite])
      (refine rg rfl (g_move (by conv => lhs; whnf)) rfl rfl ?_)
      (refine rg rfl (g_move (by conv => lhs; whnf)) rfl rfl ?_)
      (refine rg rfl (g_len_slice rfl) rfl rfl ?_)
      (refine rg rfl (g_lssF rfl rfl ?_) rfl rfl ?_; (· (omega)))
      refine rt_nil ?_
      refine q_then ?_
      refine ct_false rfl ?_
      refine ct_exit ?_
      refine q_then_exit ?_
      refine q_then_exit ?_
      refine q_block_exit ?_
      refine q_then ?_
      refine ct_seq ?_
      (refine ct_region' rfl ?_; simp only [List.map, lite])
      (refine rg rfl (g_move (by conv => lhs; whnf)) rfl rfl ?_)
      (refine rt_op (wants_none rfl) (o_callE rfl rfl ((Ent.addEmp _).trans (Ent.dropR _ _)) (hoa) fun i25 => ?_))
      (refine rg rfl (g_move (by conv => lhs; whnf)) rfl rfl ?_)
      (refine rt_op (wants_none rfl) (o_callE rfl rfl ((Ent.addEmp _).trans (Ent.dropR _ _)) (hor) fun i27 => ?_))
      (refine rg rfl (g_eqHT rfl rfl rfl (shaOf_len _) rfl) rfl rfl ?_)
      (refine rg rfl (g_move (by conv => lhs; whnf)) rfl rfl ?_)
      (refine rt_op (wants_some rfl rfl rfl rfl) (o_callE rfl rfl (Ent.refl _) (hn1 _) fun i30 => ?_))
      (refine rt_op (wants_some rfl rfl rfl rfl) (o_callE rfl rfl (Ent.refl _) (hn2 _) fun i31 => ?_))
      (refine rgw rfl rfl rfl rfl (g_eqHT rfl rfl rfl (shaOf_len _) rfl) rfl rfl ?_)
      (refine rg rfl (g_pick_t rfl (by conv => lhs; whnf)) rfl rfl ?_)
      (refine rg rfl (g_move (by conv => lhs; whnf)) rfl rfl ?_)
      (refine rt_op (wants_some rfl rfl rfl rfl) (o_callE rfl rfl (Ent.refl _) (hfix _) fun i35 => ?_))
      (refine rg rfl (g_pick_t rfl (by conv => lhs; whnf)) rfl rfl ?_)
      (refine rg rfl (g_assign (by conv => lhs; whnf)) rfl rfl ?_)
      refine rt_nil ?_
      refine q_then ?_
      refine ct_ret ?_
      exact q_ret1 rfl rfl () rfl En.ent
end Go.Proofs.Ytmhddmenmkjdlaa
