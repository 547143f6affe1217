/- PackReturns: the walk. -/
import Derived.Test.YtfcanppeiadbhaaQ2
import Derived.Test.YtfcanppeiadbhaaQ3
namespace Go.Proofs.Ytfcanppeiadbhaa
open Go.RowKit
attribute [local irreducible] Gives RT CT QT Spec Wants Reads Src Ent OT RQ AnyT AnyOp Again Code.wp Post

/-- what a script lays -/
def laid (l : List OpV) : List UInt8 := l.flatMap OpV.form
theorem laid_next (l : List OpV) (i : Nat) (h : i < l.length) : laid (l.take (i + 1)) = laid (l.take i) ++ l[i].form := by
  unfold laid; rw [List.take_succ_eq_append_getElem h, List.flatMap_append]; simp
theorem laid_split (l : List OpV) (i : Nat) (h : i < l.length) : (laid l).drop (laid (l.take i)).length = l[i].form ++ laid (l.drop (i + 1)) := by
  have e : laid l = laid (l.take i) ++ (l[i].form ++ laid (l.drop (i + 1))) := by
    unfold laid
    conv => lhs; rw [← List.take_append_drop i l, List.flatMap_append, List.drop_eq_getElem_cons h, List.flatMap_cons]
  rw [e, List.drop_left]
theorem laid_le (l : List OpV) (i : Nat) : (laid (l.take i)).length ≤ (laid l).length := by
  have e : laid l = laid (l.take i) ++ laid (l.drop i) := by
    unfold laid
    conv => lhs; rw [← List.take_append_drop i l, List.flatMap_append]
  rw [e, List.length_append]; omega
theorem laid_tot (l : List OpV) (hx : ∀ o ∈ l, o.x < 2 ^ 64) (hb : ∀ o ∈ l, o.b.length ≤ 140737488351232) : (laid l).length ≤ tot l := by
  induction l with
  | nil => simp [laid, tot]
  | cons o l ih =>
    have h1 := form_len o (hx o (List.mem_cons_self ..)) (hb o (List.mem_cons_self ..))
    have h2 := ih (fun o h => hx o (List.mem_cons_of_mem _ h)) (fun o h => hb o (List.mem_cons_of_mem _ h))
    unfold laid at *
    rw [List.flatMap_cons, List.length_append]
    show _ ≤ (32 + o.b.length) + tot l
    omega
theorem newIn_rd (R : HP) (xs : List UInt8) (a : Option Addr) (c : Nat) [hr : Rd R a (xs.map bv)] (hn : a = none → xs.length = 0) (hl : xs.length ≤ 140737488355328) :
    Spec Try.prog 19 [.slice a xs.length c] R (fun t : Nat × Option Addr × Nat => .pointer (some ⟨t.1, 0, none⟩)) (fun t => InA t.1 t.2.1 t.2.2 xs 0 none * R) :=
  newIn_spec R xs a c ⟨fun h => List.eq_nil_of_length_eq_zero (hn h), hr.rd⟩ hl
theorem inAt_spec (R : HP) (p : Nat) (a : Option Addr) (cap : Nat) (xs : List UInt8) (pos : Nat) (e : Option (Nat × Nat)) :
    Spec Try.prog 20 [.pointer (some ⟨p, 0, none⟩)] (InA p a cap xs pos e * R) (fun _ : Unit => .int .i64 (pos : Int)) (fun _ => InA p a cap xs pos e * R) := by
  refine spec_of Try.func20 rfl Try.ntmps20 rfl fun W0 => ?_
  unfold InA
  focus
    refine ct_seq ?_
    (refine ct_region' rfl ?_; simp only [List.map, lite])
    (refine rg rfl (g_assign (by conv => lhs; whnf)) rfl rfl ?_)
    refine rt_nil ?_
    refine q_then ?_
    refine ct_seq ?_
    (refine ct_region' rfl ?_; simp only [List.map, lite])
    (refine rg rfl (g_move (by conv => lhs; whnf)) rfl rfl ?_)
    (refine rg rfl (g_nil rfl) rfl rfl ?_)
    (refine rg rfl (g_field0 rfl) rfl rfl ?_)
    (refine rg rfl (g_load rfl (by conv => lhs; whnf)) rfl rfl ?_)
    (refine rg rfl (g_assign (by conv => lhs; whnf)) rfl rfl ?_)
    refine rt_nil ?_
    refine q_then ?_
    refine ct_ret ?_
    exact q_ret1 rfl rfl () rfl En.ent
theorem inLeft_spec (R : HP) (p : Nat) (a : Option Addr) (cap : Nat) (xs : List UInt8) (pos : Nat) (e : Option (Nat × Nat)) (hp : pos ≤ xs.length) (hl : xs.length ≤ 140737488355328) :
    Spec Try.prog 22 [.pointer (some ⟨p, 0, none⟩)] (InA p a cap xs pos e * R) (fun _ : Unit => .int .i64 ((xs.length - pos : Nat) : Int)) (fun _ => InA p a cap xs pos e * R) := by
  refine spec_of Try.func22 rfl Try.ntmps22 rfl fun W0 => ?_
  unfold InA
  focus
    refine ct_seq ?_
    (refine ct_region' rfl ?_; simp only [List.map, lite])
    (refine rg rfl (g_assign (by conv => lhs; whnf)) rfl rfl ?_)
    refine rt_nil ?_
    refine q_then ?_
    refine ct_seq ?_
    refine ct_quiet (by kernel_rfl) rfl ?_
    simp only [List.map, lite]
    (refine qg rfl (g_move (by conv => lhs; whnf)) rfl rfl ?_)
    (refine qg rfl (g_nil rfl) rfl rfl ?_)
    (refine qg rfl (g_field0 rfl) rfl rfl ?_)
    (refine qg rfl (g_load rfl (by conv => lhs; whnf)) rfl rfl ?_)
    (refine qg rfl (g_len_slice rfl) rfl rfl ?_)
    (refine qg rfl (g_move (by conv => lhs; whnf)) rfl rfl ?_)
    (refine qg rfl (g_nil rfl) rfl rfl ?_)
    (refine qg rfl (g_field0 rfl) rfl rfl ?_)
    (refine qg rfl (g_load rfl (by conv => lhs; whnf)) rfl rfl ?_)
    (refine qg rfl (g_subNN rfl rfl ?_ ?_) rfl rfl ?_; (· (omega)); (· (constructor <;> omega)))
    (refine qg rfl (g_assign (by conv => lhs; whnf)) rfl rfl ?_)
    refine rq_nil ?_
    refine q_then ?_
    refine ct_ret ?_
    exact q_ret1 rfl rfl () rfl En.ent
set_option maxRecDepth 100000 in
set_option maxHeartbeats 8000000 in
theorem packReturns_spec (R : HP) (a : Option Addr) (c : Nat) (l : List OpV) (x : UInt8) (hs : Script R a l) :
    Spec Try.prog 7 [.slice a l.length c, bv x] R (fun _ : Unit => .bool true) (fun _ => R) := by
  refine spec_of Try.func7 rfl Try.ntmps7 rfl fun W0 => ?_
  have hbey := fun R' (e : Ent R' R) => beyond_spec R' a c l ⟨hs.rd.of_ent e, fun o ho => (hs.sub o ho).of_ent e, hs.xs, hs.ls, hs.len⟩
  have hb := hbey R (Ent.refl _)
  clear hbey
  have hle := laid_le l
  focus
    refine ct_seq ?_
    (refine ct_region' rfl ?_; simp only [List.map, lite])
    (refine rg rfl (g_assign (by conv => lhs; whnf)) rfl rfl ?_)
    refine rt_nil ?_
    refine q_then ?_
    refine ct_seq ?_
    refine ct_seq ?_
    (refine ct_region' rfl ?_; simp only [List.map, lite])
    (refine rt_op (wants_none rfl) (o_callE rfl rfl (Ent.refl _) (Go.Proofs.Ytfcanppeiadbhaa.awake_spec _) fun i16 => ?_))
    (refine rg rfl (g_notT rfl) rfl rfl ?_)
    refine rt_nil ?_
    refine q_then ?_
    refine ct_false rfl ?_
    refine ct_skip ?_
    refine q_then ?_
    refine ct_seq ?_
    refine ct_seq ?_
    (refine ct_region' rfl ?_; simp only [List.map, lite])
    (refine rg rfl (g_move (by conv => lhs; whnf)) rfl rfl ?_)
    (refine rt_op (wants_none rfl) (o_callE rfl rfl ((Ent.addEmp _).trans (Ent.dropR _ _)) (hb) fun i19 => ?_))
    refine rt_nil ?_
    refine q_then ?_
    refine ct_if rfl (fun h19 => ?_) (fun h19 => ?_)
    refine ct_seq ?_
    (refine ct_region' rfl ?_; simp only [List.map, lite])
    (refine rg rfl (g_assign (by conv => lhs; whnf)) rfl rfl ?_)
    refine rt_nil ?_
    refine q_then ?_
    refine ct_ret ?_
    refine q_then_ret ?_
    exact q_ret1 rfl rfl () rfl En.ent
    refine ct_skip ?_
    refine q_then ?_
    refine ct_seq ?_
    (refine ct_region' rfl ?_; simp only [List.map, lite])
    (refine rt_op (wants_none rfl) (o_callE rfl rfl (Ent.refl _) (Go.Proofs.Ytfcanppeiadbhaa.newOut_spec _) fun i20 => ?_))
    (refine rg rfl (g_assign (by conv => lhs; whnf)) rfl rfl ?_)
    refine rt_nil ?_
    refine q_then ?_
    refine ct_seq ?_
    refine ct_seq ?_
    (refine ct_region' rfl ?_; simp only [List.map, lite])
    (refine rg rfl (g_move (by conv => lhs; whnf)) rfl rfl ?_)
    (refine rg rfl (g_ptr_eq rfl) rfl rfl ?_)
    refine rt_nil ?_
    refine q_then ?_
    refine ct_false rfl ?_
    refine ct_skip ?_
    refine q_then ?_
    refine ct_seq ?_
    (refine ct_region' rfl ?_; simp only [List.map, lite])
    (refine rg rfl (g_assign (by conv => lhs; whnf)) rfl rfl ?_)
    refine rt_nil ?_
    refine q_then ?_
    refine ct_seq ?_
    refine ct_seq ?_
    (refine ct_region' rfl ?_; simp only [List.map, lite])
    (refine rg rfl (g_move (by conv => lhs; whnf)) rfl rfl ?_)
    (refine rg rfl (g_len_slice rfl) rfl rfl ?_)
    (refine rg rfl (g_move (by conv => lhs; whnf)) rfl rfl ?_)
    refine rt_nil ?_
    refine q_then ?_
    refine ct_block ?_
    rotate_left
  have htot : tot l ≤ 2147483647 := by omega
  have hlt := laid_tot l hs.xs hs.ls
  refine ct_loop (ι := { t : Nat × Nat // t.1 ≤ l.length ∧ t.2 ≤ (laid (l.take t.1)).length }) (fun t => [(0, .slice a l.length c), (1, bv x), (5, .pointer (some ⟨i20, 0, none⟩)), (6, .int .i64 (t.1.2 : Int)), (23, .slice a l.length c), (24, .int .i64 (l.length : Int)), (25, .int .i64 (t.1.1 : Int))]) (fun t => IsOut i20 (laid (l.take t.1.1)) * R) (fun t => l.length - t.1.1)
    ⟨(0, 0), Nat.zero_le _, Nat.zero_le _⟩ ⟨rfl, rfl, rfl, rfl, rfl, rfl, rfl, trivial⟩ (by show Ent _ (IsOut i20 [] * R); exact Ent.refl _) fun t ρ' => ?_
  obtain ⟨⟨i, sum⟩, hil, hsum⟩ := t
  dsimp only at hil hsum ⊢
  have hlei := hle i
  by_cases h : i < l.length
  · have hx := hs.xs _ (List.getElem_mem h)
    have hlb := hs.ls _ (List.getElem_mem h)
    have hrd := hs.sub _ (List.getElem_mem h)
    have hrs := hs.rd
    have hll := hs.len
    have hop := ops_pos h
    have hfl := form_len l[i] hx hlb
    have htk := tot_next l i h
    have htk2 := tot_le l (i + 1)
    have hnx := congrArg List.length (laid_next l i h)
    rw [List.length_append] at hnx
    have hlay : ∀ (R' : HP) [Rd R' l[i].a (l[i].b.map bv)], Spec Try.prog 12 [.pointer (some ⟨i20, 0, none⟩), .slice none 0 0, .agg l[i].cells.toArray] (IsOut i20 (laid (l.take i)) * R') (fun i : { i : Option Addr × Nat // (none : Option Addr) ≠ none → i.1 ≠ none } => .slice i.1.1 _ i.1.2) (fun _ => IsOut i20 (laid (l.take (i + 1))) * R') := fun R' _ => by
      rw [laid_next l i h]
      exact spec_conseq (lay_spec R' i20 (laid (l.take i)) [] none 0 l[i] hx (by simp only [List.length_nil]; omega) (by omega)) (Ent.mul (Ent.refl _) (arr_nil _ _ _)) fun i => ⟨i, rfl, Ent.dropL _ _⟩
    have h10 := numForm_ten hx
    have hf1 : l[i].kind = 1 → l[i].form.length = (numForm l[i].x).length := fun hk => by unfold OpV.form; rw [if_neg (by omega), if_pos hk]
    have hle1 := hle (i + 1)
    focus
      refine ct_seq ?_
      (refine ct_region' rfl ?_; simp only [List.map, lite])
      (refine rg rfl (g_lssT rfl rfl ?_) rfl rfl ?_; (· (omega)))
      refine rt_nil ?_
      refine q_then ?_
      refine ct_seq ?_
      refine ct_true rfl ?_
      refine ct_skip ?_
      refine q_then ?_
      refine ct_seq ?_
      refine ct_block ?_
      refine ct_seq ?_
      (refine ct_region' rfl ?_; simp only [List.map, lite])
      (refine rg rfl (g_elemO rfl rfl ?_ ?_) rfl rfl ?_; (· (first | omega | decide)); (· (first | omega | decide | (exact pos_of_get (by assumption)) | (simp only [List.length_map, List.length_append, List.length_replicate, List.length_set, List.length_cons, List.length_nil]; omega) | (simp; omega))))
      (refine rg rfl (g_loadAgg_rd (us := l[i].cells) rfl (opv_len _) (ops_ne h) (op_sub h)) rfl rfl ?_)
      (refine rt_op (wants_none rfl) (o_alloc rfl (by conv => lhs; whnf) fun b8 => ?_))
      (refine rt_op (wants_none rfl) (o_storeAgg rfl (by conv => lhs; whnf) (by first | exact List.toList_toArray | (conv => lhs; whnf)) (by first | rfl | exact bvsAll _ | exact wvs_all _ | assumption) (by first | rfl | assumption | (simp; done) | (simp; omega)) (by first | rfl | assumption | (simp; done) | (simp; omega)) ?_))
      refine rt_nil ?_
      refine q_then ?_
      refine ct_seq ?_
      (refine ct_region' rfl ?_; simp only [List.map, lite])
      (refine rg rfl (g_move (by conv => lhs; whnf)) rfl rfl ?_)
      (refine rg rfl (g_loadAgg_blk rfl (by first | rfl | assumption | (simp; done) | (simp; omega))) rfl rfl ?_)
      (refine rt_op (wants_none rfl) (o_callE rfl rfl (ent_right (Ent.refl _)) (hlay _) fun i31 => ?_))
      refine rt_nil ?_
      refine q_then ?_
      refine ct_seq ?_
      (refine ct_region' rfl ?_; simp only [List.map, lite])
      (refine rg rfl (g_field0 rfl) rfl rfl ?_)
      (refine rg rfl (g_load rfl (by conv => lhs; whnf)) rfl rfl ?_)
      (refine rg rfl (g_eql rfl rfl) rfl rfl ?_)
      refine rt_nil ?_
      refine q_then ?_
      refine ct_if rfl (fun h34 => ?_) (fun h34 => ?_)
      refine ct_seq ?_
      (refine ct_region' rfl ?_; simp only [List.map, lite])
      (refine rg rfl (g_move (by conv => lhs; whnf)) rfl rfl ?_)
      (refine rg rfl (g_field0 rfl) rfl rfl ?_)
      (refine rg rfl (g_load rfl (by conv => lhs; whnf)) rfl rfl ?_)
      (refine rt_op (wants_none rfl) (o_callE rfl rfl (Ent.refl _) (Go.Proofs.Ytfcanppeiadbhaa.size_spec _ _ ?_) fun i38 => ?_); (· (first | assumption | omega | rfl | decide | infer_instance | (simp; done) | (simp; omega) | (simp only [*]; done))))
      (refine rg rfl (g_addN rfl rfl ?_) rfl rfl ?_; (· (constructor <;> omega)))
      (refine rg rfl (g_assign (by conv => lhs; whnf)) rfl rfl ?_)
      refine rt_nil ?_
      refine q_then ?_
      refine ct_seq ?_
      (refine ct_region' rfl ?_; simp only [List.map, lite])
      (refine rg rfl (g_move (by conv => lhs; whnf)) rfl rfl ?_)
      (refine rt_op (wants_none rfl) (o_callE rfl rfl (Ent.refl _) (Go.Proofs.Ytfcanppeiadbhaa.out_len _ _ _) fun i41 => ?_))
      (refine rg rfl (g_move (by conv => lhs; whnf)) rfl rfl ?_)
      (refine rg rfl (g_lssF rfl rfl ?_) rfl rfl ?_; (· (omega)))
      refine rt_nil ?_
      refine q_then ?_
      refine ct_false rfl ?_
      refine ct_skip ?_
      refine q_block ?_
      refine q_then ?_
      (refine ct_region' rfl ?_; simp only [List.map, lite])
      (refine rg rfl (g_addN rfl rfl ?_) rfl rfl ?_; (· (constructor <;> omega)))
      (refine rg rfl (g_move (by conv => lhs; whnf)) rfl rfl ?_)
      refine rt_nil ?_
      rotate_left
      refine ct_skip ?_
      refine q_block ?_
      refine q_then ?_
      (refine ct_region' rfl ?_; simp only [List.map, lite])
      (refine rg rfl (g_addN rfl rfl ?_) rfl rfl ?_; (· (constructor <;> omega)))
      (refine rg rfl (g_move (by conv => lhs; whnf)) rfl rfl ?_)
      refine rt_nil ?_
      rotate_left
    · exact q_again ⟨(i + 1, sum + (numForm l[i].x).length), by omega, by show _ ≤ _; dsimp only; have := hf1 (by assumption); omega⟩ (by show l.length - (i + 1) < l.length - i; omega) ⟨rfl, rfl, rfl, rfl, rfl, rfl, rfl, trivial⟩ (by exact En.ent)
    · exact q_again ⟨(i + 1, sum), by omega, by show _ ≤ _; dsimp only; omega⟩ (by show l.length - (i + 1) < l.length - i; omega) ⟨rfl, rfl, rfl, rfl, rfl, rfl, rfl, trivial⟩ (by exact En.ent)
  · obtain rfl : i = l.length := by omega
    rw [List.take_length] at hsum ⊢
    focus
      refine ct_seq ?_
      (refine ct_region' rfl ?_; simp only [List.map, lite])
      (refine rg rfl (g_lssF rfl rfl ?_) rfl rfl ?_; (· (omega)))
      refine rt_nil ?_
      refine q_then ?_
      refine ct_seq ?_
      refine ct_false rfl ?_
      refine ct_exit ?_
      refine q_then_exit ?_
      refine q_then_exit ?_
      refine q_block_exit ?_
      refine q_then ?_
      refine ct_seq ?_
      (refine ct_region' rfl ?_; simp only [List.map, lite])
      (refine rg rfl (g_move (by conv => lhs; whnf)) rfl rfl ?_)
      (refine rt_op (wants_none rfl) (o_callE rfl rfl (Ent.refl _) (Go.Proofs.Ytfcanppeiadbhaa.out_done _ _ _ ?_) fun i46 => ?_); (· (first | assumption | omega | rfl | decide | infer_instance | (simp; done) | (simp; omega) | (simp only [*]; done))))
      (refine rg rfl (g_assign (by conv => lhs; whnf)) rfl rfl ?_)
      refine rt_nil ?_
      refine q_then ?_
      rotate_left
    obtain ⟨da, dc⟩ := i46
    dsimp only
    refine ct_arr 5 1 da dc fun f1 f2 f3 f4 => ?_
    have hn0 : da = none → (laid l).length = 0 := fun h => (f2 h).1
    have hni2 := fun (R' : HP) (g : Addr) (cp : Nat) [Rd R' (some g) ((laid l ++ [x]).map bv)] => newIn_rd R' (laid l ++ [x]) (some g) cp (fun h => by cases h) (by rw [List.length_append, List.length_singleton]; omega)
    have hni1 := fun (R' : HP) [Rd R' da ((laid l).map bv)] => newIn_rd R' (laid l) da dc hn0 (by omega)
    focus
      refine ct_seq ?_
      refine ct_seq ?_
      (refine ct_region' rfl ?_; simp only [List.map, lite])
      (refine rg rfl (g_move (by conv => lhs; whnf)) rfl rfl ?_)
      (refine rt_op (wants_none rfl) (o_callE rfl rfl (ent_right (Ent.refl _)) (Go.Proofs.Ytfcanppeiadbhaa.out_len _ _ _) fun i48 => ?_))
      (refine rg rfl (g_move (by conv => lhs; whnf)) rfl rfl ?_)
      (refine rg rfl (g_len_slice rfl) rfl rfl ?_)
      (refine rg rfl (g_neqF rfl rfl ?_) rfl rfl ?_; (· (omega)))
      refine rt_nil ?_
      refine q_then ?_
      refine ct_false rfl ?_
      refine ct_skip ?_
      refine q_then ?_
      refine ct_seq ?_
      (refine ct_region' rfl ?_; simp only [List.map, lite])
      (refine rg rfl (g_move (by conv => lhs; whnf)) rfl rfl ?_)
      (refine rt_op (wants_none rfl) (o_callE rfl rfl (Ent.refl _) (hni1 _) fun i53 => ?_))
      (refine rg rfl (g_assign (by conv => lhs; whnf)) rfl rfl ?_)
      refine rt_nil ?_
      refine q_then ?_
      refine ct_seq ?_
      (refine ct_region' rfl ?_; simp only [List.map, lite])
      (refine rg rfl (g_move (by conv => lhs; whnf)) rfl rfl ?_)
      (refine rg rfl (g_move (by conv => lhs; whnf)) rfl rfl ?_)
      (refine rg rfl (g_len_slice rfl) rfl rfl ?_)
      (refine rg rfl (g_move (by conv => lhs; whnf)) rfl rfl ?_)
      (refine rg rfl (g_len_slice rfl) rfl rfl ?_)
      (refine rg rfl (g_cut_him rfl rfl rfl (Nat.le_refl _) (by omega)) rfl rfl ?_)
      (refine rg rfl (g_move (by conv => lhs; whnf)) rfl rfl ?_)
      (refine rt_op (wants_none rfl) (o_build1 rfl (by conv => lhs; whnf) (by rfl) (by rfl) (by rfl) (by conv => lhs; whnf) fun b61 => ?_))
      (refine rt_op (wants_none rfl) (o_appF (size := 1) (mk := (laid l ++ [x]).length) (ys := (laid l ++ [x]).map bv) (m := (laid l).length) rfl rfl rfl (by simp) (by omega) rfl rfl (by omega) (by simp) (by simp) fun g62 c62 hc62 => ?_))
      (refine rt_op (wants_none rfl) (o_callE rfl rfl (Ent.refl _) (hni2 _ _ _) fun i63 => ?_))
      (refine rg rfl (g_assign (by conv => lhs; whnf)) rfl rfl ?_)
      refine rt_nil ?_
      refine q_then ?_
      refine ct_seq ?_
      refine ct_seq ?_
      (refine ct_region' rfl ?_; simp only [List.map, lite])
      (refine rg rfl (g_move (by conv => lhs; whnf)) rfl rfl ?_)
      (refine rg rfl (g_ptr_eq rfl) rfl rfl ?_)
      (refine rg rfl (g_move (by conv => lhs; whnf)) rfl rfl ?_)
      (refine rgw rfl rfl rfl rfl (g_move (by conv => lhs; whnf)) rfl rfl ?_)
      (refine rgw rfl rfl rfl rfl (g_ptr_eq rfl) rfl rfl ?_)
      (refine rg rfl (g_pick_f rfl (by conv => lhs; whnf)) rfl rfl ?_)
      refine rt_nil ?_
      refine q_then ?_
      refine ct_false rfl ?_
      refine ct_skip ?_
      refine q_then ?_
      refine ct_seq ?_
      refine ct_seq ?_
      (refine ct_region' rfl ?_; simp only [List.map, lite])
      (refine rg rfl (g_move (by conv => lhs; whnf)) rfl rfl ?_)
      (refine rg rfl (g_len_slice rfl) rfl rfl ?_)
      (refine rg rfl (g_move (by conv => lhs; whnf)) rfl rfl ?_)
      refine rt_nil ?_
      refine q_then ?_
      refine ct_block ?_
      rotate_left
    obtain ⟨p1, a1, c1⟩ := i53
    obtain ⟨p2, a2, c2⟩ := i63
    dsimp only
    refine ct_loop (ι := { i : Nat // i ≤ l.length }) (fun i => [(9, .slice da (laid l).length dc), (10, .pointer (some ⟨p1, 0, none⟩)), (11, .pointer (some ⟨p2, 0, none⟩)), (70, .slice a l.length c), (71, .int .i64 (l.length : Int)), (72, .int .i64 (i.1 : Int))]) (fun i => InA p1 a1 c1 (laid l) (laid (l.take i.1)).length none * (InA p2 a2 c2 (laid l ++ [x]) (laid (l.take i.1)).length none * R)) (fun i => l.length - i.1)
      ⟨0, Nat.zero_le _⟩ ⟨rfl, rfl, rfl, rfl, rfl, rfl, trivial⟩ (by show Ent _ (InA p1 a1 c1 (laid l) 0 none * (InA p2 a2 c2 (laid l ++ [x]) 0 none * R)); exact En.ent) fun i ρ' => ?_
    obtain ⟨i, hi⟩ := i
    dsimp only at hi ⊢
    have hxl : (laid l ++ [x]).length = (laid l).length + 1 := by simp
    by_cases h : i < l.length
    · have hx := hs.xs _ (List.getElem_mem h)
      have hlb := hs.ls _ (List.getElem_mem h)
      have hrd := hs.sub _ (List.getElem_mem h)
      have hrs := hs.rd
      have hll := hs.len
      have hop := ops_pos h
      have hlei := hle i
      have hpn : (laid (l.take (i + 1))).length = (laid (l.take i)).length + l[i].form.length := by rw [laid_next l i h, List.length_append]
      have hsp := laid_split l i h
      have hb1 := fun (R' : HP) [Rd R' l[i].a (l[i].b.map bv)] => back_spec R' p1 a1 c1 (laid l) (laid (l.drop (i + 1))) (laid (l.take i)).length l[i] hlei (by omega) hx hlb hsp
      have hb2 := fun (R' : HP) [Rd R' l[i].a (l[i].b.map bv)] => back_spec R' p2 a2 c2 (laid l ++ [x]) (laid (l.drop (i + 1)) ++ [x]) (laid (l.take i)).length l[i] (by omega) (by omega) hx hlb (by rw [List.drop_append_of_le_length hlei, hsp, List.append_assoc])
      focus
        refine ct_seq ?_
        (refine ct_region' rfl ?_; simp only [List.map, lite])
        (refine rg rfl (g_lssT rfl rfl ?_) rfl rfl ?_; (· (omega)))
        refine rt_nil ?_
        refine q_then ?_
        refine ct_seq ?_
        refine ct_true rfl ?_
        refine ct_skip ?_
        refine q_then ?_
        refine ct_seq ?_
        refine ct_block ?_
        refine ct_seq ?_
        (refine ct_region' rfl ?_; simp only [List.map, lite])
        (refine rg rfl (g_elemO rfl rfl ?_ ?_) rfl rfl ?_; (· (first | omega | decide)); (· (first | omega | decide | (exact pos_of_get (by assumption)) | (simp only [List.length_map, List.length_append, List.length_replicate, List.length_set, List.length_cons, List.length_nil]; omega) | (simp; omega))))
        (refine rg rfl (g_loadAgg_rd (us := l[i].cells) rfl (opv_len _) (ops_ne h) (op_sub h)) rfl rfl ?_)
        (refine rt_op (wants_none rfl) (o_alloc rfl (by conv => lhs; whnf) fun b13 => ?_))
        (refine rt_op (wants_none rfl) (o_storeAgg rfl (by conv => lhs; whnf) (by first | exact List.toList_toArray | (conv => lhs; whnf)) (by first | rfl | exact bvsAll _ | exact wvs_all _ | assumption) (by first | rfl | assumption | (simp; done) | (simp; omega)) (by first | rfl | assumption | (simp; done) | (simp; omega)) ?_))
        refine rt_nil ?_
        refine q_then ?_
        refine ct_seq ?_
        (refine ct_region' rfl ?_; simp only [List.map, lite])
        (refine rg rfl (g_move (by conv => lhs; whnf)) rfl rfl ?_)
        (refine rg rfl (g_loadAgg_blk rfl (by first | rfl | assumption | (simp; done) | (simp; omega))) rfl rfl ?_)
        (refine rt_op (wants_none rfl) (o_callE rfl rfl (ent_right (Ent.refl _)) (hb1 _) fun i78 => ?_))
        (refine rg rfl (g_notT rfl) rfl rfl ?_)
        (refine rg rfl (g_move (by conv => lhs; whnf)) rfl rfl ?_)
        (refine rgw rfl rfl rfl rfl (g_move (by conv => lhs; whnf)) rfl rfl ?_)
        (refine rgw rfl rfl rfl rfl (g_loadAgg_blk rfl (by first | rfl | assumption | (simp; done) | (simp; omega))) rfl rfl ?_)
        (refine rt_op (wants_some rfl rfl rfl rfl) (o_callE rfl rfl (ent_right (ent_right (Ent.refl _))) (hb2 _) fun i83 => ?_))
        (refine rgw rfl rfl rfl rfl (g_notT rfl) rfl rfl ?_)
        (refine rg rfl (g_pick_f rfl (by conv => lhs; whnf)) rfl rfl ?_)
        refine rt_nil ?_
        refine q_then ?_
        refine ct_false rfl ?_
        refine ct_skip ?_
        refine q_block ?_
        refine q_then ?_
        (refine ct_region' rfl ?_; simp only [List.map, lite])
        (refine rg rfl (g_addN rfl rfl ?_) rfl rfl ?_; (· (constructor <;> omega)))
        (refine rg rfl (g_move (by conv => lhs; whnf)) rfl rfl ?_)
        refine rt_nil ?_
        rotate_left
      exact q_again ⟨i + 1, by omega⟩ (by show l.length - (i + 1) < l.length - i; omega) ⟨rfl, rfl, rfl, rfl, rfl, rfl, trivial⟩ (by show Ent _ (InA p1 a1 c1 (laid l) (laid (l.take (i + 1))).length none * (InA p2 a2 c2 (laid l ++ [x]) (laid (l.take (i + 1))).length none * R)); rw [hpn]; exact En.ent)
    · obtain rfl : i = l.length := by omega
      rw [List.take_length]
      have hE1 : ∀ R' : HP, Spec Try.prog 29 [.pointer (some ⟨p1, 0, none⟩)] (InA p1 a1 c1 (laid l) (laid l).length none * R') (fun _ : Unit => .nilIface) (fun _ => InA p1 a1 c1 (laid l) (laid l).length none * R') := fun R' => by
        have k := inEnd_u R' p1 a1 c1 (laid l) (laid l).length none (fun _ h => by cases h)
        have e : endS (laid l) (laid l).length 0 = ((laid l).length, 0) := by unfold endS; rw [if_neg (by simp), if_neg (by omega)]
        rw [show whyOf none = 0 from rfl, e] at k
        exact spec_conseq k (Ent.refl _) fun q => ⟨(), rfl, Ent.refl _⟩
      have hE2 : ∀ R' : HP, Spec Try.prog 29 [.pointer (some ⟨p2, 0, none⟩)] (InA p2 a2 c2 (laid l ++ [x]) (laid l).length none * R') (fun q : Nat => errV ((some (q, 23)).map Prod.fst)) (fun q => InA p2 a2 c2 (laid l ++ [x]) (laid l).length (some (q, 23)) * R') := fun R' => by
        have k := inEnd_u R' p2 a2 c2 (laid l ++ [x]) (laid l).length none (fun _ h => by cases h)
        have e : endS (laid l ++ [x]) (laid l).length 0 = ((laid l).length, 23) := by unfold endS; rw [if_neg (by simp), if_pos (by omega)]
        rw [show whyOf none = 0 from rfl, e] at k
        exact spec_conseq k (Ent.refl _) fun q => ⟨q, rfl, Ent.refl _⟩
      have hT : ∀ (R' : HP) (q : Nat), Spec Try.prog 28 [errV ((some (q, 23)).map Prod.fst)] (InA p2 a2 c2 (laid l ++ [x]) (laid l).length (some (q, 23)) * R') (fun _ : Unit => .tuple #[.agg #[.int .i64 23, .int .i64 ((laid l).length : Int)], .bool true]) (fun _ => InA p2 a2 c2 (laid l ++ [x]) (laid l).length (some (q, 23)) * R') := fun R' q =>
        spec_conseq (told_u R' p2 a2 c2 (laid l ++ [x]) (laid l).length (some (q, 23)) (fun y h => by cases h; simp)) (Ent.refl _) fun _ => ⟨(), rfl, Ent.refl _⟩
      focus
        refine ct_seq ?_
        (refine ct_region' rfl ?_; simp only [List.map, lite])
        (refine rg rfl (g_lssF rfl rfl ?_) rfl rfl ?_; (· (omega)))
        refine rt_nil ?_
        refine q_then ?_
        refine ct_seq ?_
        refine ct_false rfl ?_
        refine ct_exit ?_
        refine q_then_exit ?_
        refine q_then_exit ?_
        refine q_block_exit ?_
        refine q_then ?_
        refine ct_seq ?_
        (refine ct_region' rfl ?_; simp only [List.map, lite])
        (refine rg rfl (g_move (by conv => lhs; whnf)) rfl rfl ?_)
        (refine rt_op (wants_none rfl) (o_callE rfl rfl (ent_right (Ent.refl _)) (hE2 _) fun i89 => ?_))
        (refine rt_op (wants_none rfl) (o_callE rfl rfl (Ent.refl _) (hT _ _) fun i90 => ?_))
        (refine rg rfl (g_move (by conv => lhs; whnf)) rfl rfl ?_)
        (refine rg rfl (g_extract rfl (by conv => lhs; whnf)) rfl rfl ?_)
        (refine rg rfl (g_extract rfl (by conv => lhs; whnf)) rfl rfl ?_)
        (refine rt_op (wants_none rfl) (o_alloc rfl (by conv => lhs; whnf) fun b14 => ?_))
        (refine rt_op (wants_none rfl) (o_storeAgg rfl (by conv => lhs; whnf) (by first | exact List.toList_toArray | (conv => lhs; whnf)) (by first | rfl | exact bvsAll _ | exact wvs_all _ | assumption) (by first | rfl | assumption | (simp; done) | (simp; omega)) (by first | rfl | assumption | (simp; done) | (simp; omega)) ?_))
        (refine rg rfl (g_assign (by conv => lhs; whnf)) rfl rfl ?_)
        refine rt_nil ?_
        refine q_then ?_
        refine ct_seq ?_
        (refine ct_region' rfl ?_; simp only [List.map, lite])
        (refine rg rfl (g_move (by conv => lhs; whnf)) rfl rfl ?_)
        (refine rt_op (wants_none rfl) (o_callE rfl rfl (ent_right (ent_right (Ent.refl _))) (hE1 _) fun i94 => ?_))
        (refine rg rfl (g_err_eq (by conv => lhs; whnf) (by first | exact .inl rfl | exact .inr ⟨_, _, rfl⟩ | assumption)) rfl rfl ?_)
        (refine rg rfl (g_move (by conv => lhs; whnf)) rfl rfl ?_)
        (refine rgw rfl rfl rfl rfl (g_move (by conv => lhs; whnf)) rfl rfl ?_)
        (refine rt_op (wants_some rfl rfl rfl rfl) (o_callE rfl rfl (Ent.refl _) (Go.Proofs.Ytfcanppeiadbhaa.in_at _ _ _ _ _ _ _) fun i98 => ?_))
        (refine rgw rfl rfl rfl rfl (g_move (by conv => lhs; whnf)) rfl rfl ?_)
        (refine rgw rfl rfl rfl rfl (g_len_slice rfl) rfl rfl ?_)
        (refine rgw rfl rfl rfl rfl (g_eqlT rfl rfl ?_) rfl rfl ?_; (· (omega)))
        (refine rg rfl (g_pick_t rfl (by conv => lhs; whnf)) rfl rfl ?_)
        (refine rg rfl (g_move (by conv => lhs; whnf)) rfl rfl ?_)
        (refine rgw rfl rfl rfl rfl (g_move (by conv => lhs; whnf)) rfl rfl ?_)
        (refine rt_op (wants_some rfl rfl rfl rfl) (o_callE rfl rfl (Ent.refl _) (Go.Proofs.Ytfcanppeiadbhaa.in_left _ _ _ _ _ _ _ ?_ ?_) fun i105 => ?_); (· (first | assumption | omega | rfl | decide | infer_instance | (simp; done) | (simp; omega) | (simp only [*]; done))); (· (first | assumption | omega | rfl | decide | infer_instance | (simp; done) | (simp; omega) | (simp only [*]; done))))
        (refine rgw rfl rfl rfl rfl (g_eqlT rfl rfl ?_) rfl rfl ?_; (· (omega)))
        (refine rg rfl (g_pick_t rfl (by conv => lhs; whnf)) rfl rfl ?_)
        (refine rg rfl (g_move (by conv => lhs; whnf)) rfl rfl ?_)
        (refine rgw rfl rfl rfl rfl (g_move (by conv => lhs; whnf)) rfl rfl ?_)
        (refine rg rfl (g_pick_t rfl (by conv => lhs; whnf)) rfl rfl ?_)
        (refine rg rfl (g_move (by conv => lhs; whnf)) rfl rfl ?_)
        (refine rgw rfl rfl rfl rfl (g_field0 rfl) rfl rfl ?_)
        (refine rgw rfl rfl rfl rfl (g_load rfl (by conv => lhs; whnf)) rfl rfl ?_)
        (refine rgw rfl rfl rfl rfl (g_eqlT rfl rfl ?_) rfl rfl ?_; (· (omega)))
        (refine rg rfl (g_pick_t rfl (by conv => lhs; whnf)) rfl rfl ?_)
        (refine rg rfl (g_move (by conv => lhs; whnf)) rfl rfl ?_)
        (refine rgw rfl rfl rfl rfl (g_field0 rfl) rfl rfl ?_)
        (refine rgw rfl rfl rfl rfl (g_load rfl (by conv => lhs; whnf)) rfl rfl ?_)
        (refine rgw rfl rfl rfl rfl (g_move (by conv => lhs; whnf)) rfl rfl ?_)
        (refine rgw rfl rfl rfl rfl (g_len_slice rfl) rfl rfl ?_)
        (refine rgw rfl rfl rfl rfl (g_eqlT rfl rfl ?_) rfl rfl ?_; (· (omega)))
        (refine rg rfl (g_pick_t rfl (by conv => lhs; whnf)) rfl rfl ?_)
        (refine rg rfl (g_assign (by conv => lhs; whnf)) rfl rfl ?_)
        refine rt_nil ?_
        refine q_then ?_
        refine ct_ret ?_
        exact q_ret1 rfl rfl () rfl En.ent
end Go.Proofs.Ytfcanppeiadbhaa
