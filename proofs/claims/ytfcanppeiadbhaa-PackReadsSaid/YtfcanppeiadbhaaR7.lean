/- PackReads: the walk. -/
import Derived.Test.YtfcanppeiadbhaaR6
namespace Go.Proofs.Ytfcanppeiadbhaa
open Go.RowKit
attribute [local irreducible] Gives RT CT QT Spec Wants Reads Src Ent OT RQ AnyT AnyOp Again Code.wp Post

theorem inAt_spec (R : HP) (p : Nat) (a : Option Addr) (cap : Nat) (xs : List UInt8) (pos : Nat) (e : Option (Nat × Nat)) :
    Spec Try.prog 20 [.pointer (some ⟨p, 0, none⟩)] (InA p a cap xs pos e * R) (fun _ : Unit => .int .i64 (pos : Int)) (fun _ => InA p a cap xs pos e * R) := by
  refine spec_of Try.func20 rfl Try.ntmps20 rfl fun W0 => ?_
  unfold InA
  focus
    refine ct_seq ?_
    (refine ct_region' rfl ?_; simp only [List.map, lite])
    (refine rg rfl (g_assign (by conv => lhs; whnf)) rfl rfl ?_)
    refine rt_nil ?_
    refine q_then ?_
    refine ct_seq ?_
    (refine ct_region' rfl ?_; simp only [List.map, lite])
    (refine rg rfl (g_move (by conv => lhs; whnf)) rfl rfl ?_)
    (refine rg rfl (g_nil rfl) rfl rfl ?_)
    (refine rg rfl (g_field0 rfl) rfl rfl ?_)
    (refine rg rfl (g_load rfl (by conv => lhs; whnf)) rfl rfl ?_)
    (refine rg rfl (g_assign (by conv => lhs; whnf)) rfl rfl ?_)
    refine rt_nil ?_
    refine q_then ?_
    refine ct_ret ?_
    exact q_ret1 rfl rfl () rfl En.ent
theorem inLeft_spec (R : HP) (p : Nat) (a : Option Addr) (cap : Nat) (xs : List UInt8) (pos : Nat) (e : Option (Nat × Nat)) (hp : pos ≤ xs.length) (hl : xs.length ≤ 140737488355328) :
    Spec Try.prog 22 [.pointer (some ⟨p, 0, none⟩)] (InA p a cap xs pos e * R) (fun _ : Unit => .int .i64 ((xs.length - pos : Nat) : Int)) (fun _ => InA p a cap xs pos e * R) := by
  refine spec_of Try.func22 rfl Try.ntmps22 rfl fun W0 => ?_
  unfold InA
  focus
    refine ct_seq ?_
    (refine ct_region' rfl ?_; simp only [List.map, lite])
    (refine rg rfl (g_assign (by conv => lhs; whnf)) rfl rfl ?_)
    refine rt_nil ?_
    refine q_then ?_
    refine ct_seq ?_
    refine ct_quiet (by kernel_rfl) rfl ?_
    simp only [List.map, lite]
    (refine qg rfl (g_move (by conv => lhs; whnf)) rfl rfl ?_)
    (refine qg rfl (g_nil rfl) rfl rfl ?_)
    (refine qg rfl (g_field0 rfl) rfl rfl ?_)
    (refine qg rfl (g_load rfl (by conv => lhs; whnf)) rfl rfl ?_)
    (refine qg rfl (g_len_slice rfl) rfl rfl ?_)
    (refine qg rfl (g_move (by conv => lhs; whnf)) rfl rfl ?_)
    (refine qg rfl (g_nil rfl) rfl rfl ?_)
    (refine qg rfl (g_field0 rfl) rfl rfl ?_)
    (refine qg rfl (g_load rfl (by conv => lhs; whnf)) rfl rfl ?_)
    (refine qg rfl (g_subNN rfl rfl ?_ ?_) rfl rfl ?_; (· (omega)); (· (constructor <;> omega)))
    (refine qg rfl (g_assign (by conv => lhs; whnf)) rfl rfl ?_)
    refine rq_nil ?_
    refine q_then ?_
    refine ct_ret ?_
    exact q_ret1 rfl rfl () rfl En.ent
abbrev WideI (n : Nat) := { i : Option Addr × Nat // i.1 ≠ none ∧ n + 7 ≤ i.2 }
theorem newIn_wide (R : HP) (xs : List UInt8) (i : WideI xs.length) (hl : xs.length ≤ 140737488355328) :
    Spec Try.prog 19 [.slice i.1.1 xs.length i.1.2] (WideA i.1.1 i.1.2 xs * R) (fun t : Nat × Option Addr × Nat => .pointer (some ⟨t.1, 0, none⟩)) (fun t => InA t.1 t.2.1 t.2.2 xs 0 none * (WideA i.1.1 i.1.2 xs * R)) :=
  newIn_spec (WideA i.1.1 i.1.2 xs * R) xs i.1.1 i.1.2 ⟨fun h => absurd h i.2.1, (inferInstance : Rd (WideA i.1.1 i.1.2 xs * R) i.1.1 (xs.map bv)).rd⟩ hl
set_option maxRecDepth 100000 in
set_option maxHeartbeats 8000000 in
theorem packReads_spec (R : HP) (a b : Option Addr) (c c' : Nat) (xs : List UInt8) (l : List OpV) (hs : Script R b l) [hr : Rd R a (xs.map bv)] (hl : xs.length ≤ 140737488351232) (hc : xs.length ≤ c) (hcn : a = none → c = 0) (hi : ∀ o ∈ l, -9223372036854775808 ≤ o.n ∧ o.n ≤ 9223372036854775807) :
    Spec Try.prog 6 [.slice a xs.length c, .slice b l.length c'] R (fun _ : Unit => .bool true) (fun _ => R) := by
  refine spec_of Try.func6 rfl Try.ntmps6 rfl fun W0 => ?_
  have hl' : xs.length ≤ 140737488355328 := by omega
  have hni := fun (i : WideI xs.length) (R' : HP) => newIn_wide R' xs i hl'
  focus
    refine ct_seq ?_
    (refine ct_region' rfl ?_; simp only [List.map, lite])
    (refine rg rfl (g_assign (by conv => lhs; whnf)) rfl rfl ?_)
    refine rt_nil ?_
    refine q_then ?_
    refine ct_seq ?_
    refine ct_seq ?_
    (refine ct_region' rfl ?_; simp only [List.map, lite])
    (refine rt_op (wants_none rfl) (o_callE rfl rfl (Ent.refl _) (Go.Proofs.Ytfcanppeiadbhaa.awake_spec _) fun i10 => ?_))
    (refine rg rfl (g_notT rfl) rfl rfl ?_)
    refine rt_nil ?_
    refine q_then ?_
    refine ct_false rfl ?_
    refine ct_skip ?_
    refine q_then ?_
    refine ct_seq ?_
    (refine ct_region' rfl ?_; simp only [List.map, lite])
    (refine rg rfl (g_move (by conv => lhs; whnf)) rfl rfl ?_)
    (refine rt_op (wants_none rfl) (o_callE rfl rfl (Ent.refl _) (Go.Proofs.Ytfcanppeiadbhaa.wide_spec _ _ _ _ ?_) fun i13 => ?_); (· (first | assumption | omega | rfl | decide | infer_instance | (simp; done) | (simp; omega) | (simp only [*]; done))))
    (refine rg rfl (g_assign (by conv => lhs; whnf)) rfl rfl ?_)
    refine rt_nil ?_
    refine q_then ?_
    refine ct_seq ?_
    (refine ct_region' rfl ?_; simp only [List.map, lite])
    (refine rg rfl (g_move (by conv => lhs; whnf)) rfl rfl ?_)
    (refine rt_op (wants_none rfl) (o_callE rfl rfl (Ent.refl _) (hni _ _) fun i15 => ?_))
    (refine rg rfl (g_move (by conv => lhs; whnf)) rfl rfl ?_)
    (refine rg rfl (g_build (by simp only [ev, upd, updl, argl, nat_beq_def, Nat.reduceBEq, cond_true, cond_false, List.map_cons, List.map_nil]; rfl) (by simp [fillL, Value.cells]; rfl)) rfl rfl ?_)
    (refine rt_op (wants_none rfl) (o_box rfl (by conv => lhs; whnf) (by conv => lhs; whnf) fun b18 => ?_))
    (refine rg rfl (g_build (by simp only [ev, upd, updl, argl, nat_beq_def, Nat.reduceBEq, cond_true, cond_false, List.map_cons, List.map_nil]; rfl) (by simp [fillL, Value.cells]; rfl)) rfl rfl ?_)
    (refine rt_op (wants_none rfl) (o_box rfl (by conv => lhs; whnf) (by conv => lhs; whnf) fun b20 => ?_))
    (refine rg rfl (g_assign (by conv => lhs; whnf)) rfl rfl ?_)
    refine rt_nil ?_
    refine q_then ?_
    refine ct_seq ?_
    refine ct_seq ?_
    (refine ct_region' rfl ?_; simp only [List.map, lite])
    (refine rg rfl (g_move (by conv => lhs; whnf)) rfl rfl ?_)
    (refine rg rfl (g_nil rfl) rfl rfl ?_)
    (refine rg rfl (g_field0 rfl) rfl rfl ?_)
    (refine rg rfl (g_load rfl (by conv => lhs; whnf)) rfl rfl ?_)
    (refine rg rfl (g_ptr_eq rfl) rfl rfl ?_)
    (refine rg rfl (g_move (by conv => lhs; whnf)) rfl rfl ?_)
    (refine rgw rfl rfl rfl rfl (g_move (by conv => lhs; whnf)) rfl rfl ?_)
    (refine rgw rfl rfl rfl rfl (g_move (by conv => lhs; whnf)) rfl rfl ?_)
    (refine rt_op (wants_some rfl rfl rfl rfl) (o_callE rfl rfl (ent_right (ent_right (ent_right (Ent.refl _)))) (Go.Proofs.Ytfcanppeiadbhaa.kept_spec _ _ _ _ _ _ ?_ ?_) fun i29 => ?_); (· (first | assumption | omega | rfl | decide | infer_instance | (simp; done) | (simp; omega) | (simp only [*]; done))); (· (first | assumption | omega | rfl | decide | infer_instance | (simp; done) | (simp; omega) | (simp only [*]; done))))
    (refine rgw rfl rfl rfl rfl (g_notT rfl) rfl rfl ?_)
    (refine rg rfl (g_pick_f rfl (by conv => lhs; whnf)) rfl rfl ?_)
    refine rt_nil ?_
    refine q_then ?_
    refine ct_false rfl ?_
    refine ct_skip ?_
    refine q_then ?_
    refine ct_seq ?_
    refine ct_seq ?_
    (refine ct_region' rfl ?_; simp only [List.map, lite])
    (refine rg rfl (g_move (by conv => lhs; whnf)) rfl rfl ?_)
    (refine rg rfl (g_len_slice rfl) rfl rfl ?_)
    (refine rg rfl (g_move (by conv => lhs; whnf)) rfl rfl ?_)
    refine rt_nil ?_
    refine q_then ?_
    refine ct_block ?_
    rotate_left
  obtain ⟨⟨oa2, oc2⟩, h1, h2⟩ := i13
  obtain ⟨ip, ia, ic⟩ := i15
  dsimp only at h1 h2 ⊢
  unfold WideA
  refine ct_ent (B := Arr 5 1 oa2 oc2 (xs.length + 7) (((xs ++ marks).map fun c => (c.toNat : Int)).map (Value.int .u8)) * (HeldO b20 ip b18 .nilIface book0 * (RinA b18 a c xs.length 0 0 * (InA ip ia ic xs 0 none * R)))) ?_ (Ent.mul (by rw [List.map_map]; exact Ent.refl _) (Ent.mul (held_new ..) (Ent.refl _)))
  refine ct_loop (ι := { i : Nat × List Int // i.1 ≤ xs.length ∧ i.2.length = xs.length + 7 }) (fun i => [(1, .slice b l.length c'), (5, .slice oa2 xs.length oc2), (6, .pointer (some ⟨b20, 0, none⟩)), (33, .int .i64 (xs.length : Int)), (34, .int .i64 (i.1.1 : Int))]) (fun i => Arr 5 1 oa2 oc2 (xs.length + 7) (i.1.2.map (Value.int .u8)) * (HeldO b20 ip b18 .nilIface book0 * (RinA b18 a c xs.length 0 0 * (InA ip ia ic xs 0 none * R)))) (fun i => xs.length - i.1.1)
    ⟨(0, (xs ++ marks).map fun c => (c.toNat : Int)), by omega, by simp [marks]⟩ ⟨rfl, rfl, rfl, rfl, rfl, trivial⟩ (Ent.refl _) fun i ρ' => ?_
  obtain ⟨⟨i, zs⟩, hi1, hzl⟩ := i
  dsimp only at hi1 hzl ⊢
  by_cases h : i < xs.length
  · focus
      refine ct_seq ?_
      (refine ct_region' rfl ?_; simp only [List.map, lite])
      (refine rg rfl (g_lssT rfl rfl ?_) rfl rfl ?_; (· (omega)))
      refine rt_nil ?_
      refine q_then ?_
      refine ct_seq ?_
      refine ct_true rfl ?_
      refine ct_skip ?_
      refine q_then ?_
      refine ct_seq ?_
      refine ct_block ?_
      refine ct_seq ?_
      (refine ct_region' rfl ?_; simp only [List.map, lite])
      (refine rg rfl (g_move (by conv => lhs; whnf)) rfl rfl ?_)
      (refine rg rfl (g_assign (by conv => lhs; whnf)) rfl rfl ?_)
      refine rt_nil ?_
      refine q_then ?_
      (refine ct_region' rfl ?_; simp only [List.map, lite])
      (refine rg rfl (g_move (by conv => lhs; whnf)) rfl rfl ?_)
      (refine rg rfl (g_move (by conv => lhs; whnf)) rfl rfl ?_)
      (refine rg rfl (g_elemO1 rfl rfl ?_ ?_) rfl rfl ?_; (· (first | omega | decide)); (· (first | omega | decide | (exact pos_of_get (by assumption)) | (simp only [List.length_map, List.length_append, List.length_replicate, List.length_set, List.length_cons, List.length_nil]; omega) | (simp; omega))))
      (refine rg rfl (g_load_rd rfl (int_at ?_)) rfl rfl ?_; (· (first | omega | decide | (exact pos_of_get (by assumption)) | (simp only [List.length_map, List.length_append, List.length_replicate, List.length_set, List.length_cons, List.length_nil]; omega) | (simp; omega))))
      (refine rg rfl (g_xor rfl rfl) rfl rfl ?_)
      (refine rg rfl (g_elemO1 rfl rfl ?_ ?_) rfl rfl ?_; (· (first | omega | decide)); (· (first | omega | decide | (exact pos_of_get (by assumption)) | (simp only [List.length_map, List.length_append, List.length_replicate, List.length_set, List.length_cons, List.length_nil]; omega) | (simp; omega))))
      (refine rt_op (wants_none rfl) (o_storeArr rfl (by conv => lhs; whnf) rfl ?_ (by first | (simp only [List.set_cons_zero, List.set_cons_succ]; exact rfl) | exact rfl) ?_); (· (first | omega | decide | (exact pos_of_get (by assumption)) | (simp only [List.length_map, List.length_append, List.length_replicate, List.length_set, List.length_cons, List.length_nil]; omega) | (simp; omega))))
      refine rt_nil ?_
      refine q_block ?_
      refine q_then ?_
      (refine ct_region' rfl ?_; simp only [List.map, lite])
      (refine rg rfl (g_addN rfl rfl ?_) rfl rfl ?_; (· (constructor <;> omega)))
      (refine rg rfl (g_move (by conv => lhs; whnf)) rfl rfl ?_)
      refine rt_nil ?_
      rotate_left
    rw [← List.map_set]
    exact q_again ⟨(i + 1, zs.set i _), by omega, by rw [List.length_set]; exact hzl⟩ (by show xs.length - (i + 1) < xs.length - i; omega) ⟨rfl, rfl, rfl, rfl, rfl, trivial⟩ (Ent.refl _)
  · focus
      refine ct_seq ?_
      (refine ct_region' rfl ?_; simp only [List.map, lite])
      (refine rg rfl (g_lssF rfl rfl ?_) rfl rfl ?_; (· (omega)))
      refine rt_nil ?_
      refine q_then ?_
      refine ct_seq ?_
      refine ct_false rfl ?_
      refine ct_exit ?_
      refine q_then_exit ?_
      refine q_then_exit ?_
      refine q_block_exit ?_
      refine q_then ?_
      refine ct_seq ?_
      refine ct_seq ?_
      (refine ct_region' rfl ?_; simp only [List.map, lite])
      (refine rg rfl (g_move (by conv => lhs; whnf)) rfl rfl ?_)
      (refine rg rfl (g_len_slice rfl) rfl rfl ?_)
      (refine rg rfl (g_move (by conv => lhs; whnf)) rfl rfl ?_)
      refine rt_nil ?_
      refine q_then ?_
      refine ct_block ?_
      rotate_left
    refine ct_loop (ι := { t : Nat × Nat × Option (Nat × Nat) × BkS // t.1 ≤ l.length ∧ t.2.1 ≤ xs.length ∧ EOk t.2.2.1 }) (fun t => [(6, .pointer (some ⟨b20, 0, none⟩)), (44, .slice b l.length c'), (45, .int .i64 (l.length : Int)), (46, .int .i64 (t.1.1 : Int))]) (fun t => HeldO b20 ip b18 (errV (t.1.2.2.1.map Prod.fst)) t.1.2.2.2.1 * (InA ip ia ic xs t.1.2.1 t.1.2.2.1 * (RinA b18 a c xs.length t.1.2.1 (whyOf t.1.2.2.1) * R))) (fun t => l.length - t.1.1)
      ⟨(0, 0, none, ⟨book0, by simp [book0]⟩), Nat.zero_le _, Nat.zero_le _, fun _ h => by cases h⟩ ⟨rfl, rfl, rfl, rfl, trivial⟩ ((Ent.dropL _ _).trans (by show Ent _ (HeldO b20 ip b18 .nilIface book0 * (InA ip ia ic xs 0 none * (RinA b18 a c xs.length 0 0 * R))); exact En.ent)) fun t ρ' => ?_
    obtain ⟨⟨i, pos, e, ⟨s, hsm⟩⟩, hil, hpos, hok⟩ := t
    dsimp only at hil hpos hok hsm ⊢
    by_cases h : i < l.length
    · have hx := hs.xs _ (List.getElem_mem h)
      have hlb := hs.ls _ (List.getElem_mem h)
      have hrd := hs.sub _ (List.getElem_mem h)
      have hrs := hs.rd
      have hll := hs.len
      have hop := ops_pos h
      have hii := hi _ (List.getElem_mem h)
      have hst := fun (R' : HP) [Rd R' a (xs.map bv)] => step_spec R' b20 ip b18 s ia a ic c xs pos e l[i] hsm hok hpos hl hc hcn hx hii
      focus
        refine ct_seq ?_
        (refine ct_region' rfl ?_; simp only [List.map, lite])
        (refine rg rfl (g_lssT rfl rfl ?_) rfl rfl ?_; (· (omega)))
        refine rt_nil ?_
        refine q_then ?_
        refine ct_seq ?_
        refine ct_true rfl ?_
        refine ct_skip ?_
        refine q_then ?_
        refine ct_seq ?_
        refine ct_block ?_
        refine ct_seq ?_
        (refine ct_region' rfl ?_; simp only [List.map, lite])
        (refine rg rfl (g_elemO rfl rfl ?_ ?_) rfl rfl ?_; (· (first | omega | decide)); (· (first | omega | decide | (exact pos_of_get (by assumption)) | (simp only [List.length_map, List.length_append, List.length_replicate, List.length_set, List.length_cons, List.length_nil]; omega) | (simp; omega))))
        (refine rg rfl (g_loadAgg_rd (us := l[i].cells) rfl (opv_len _) (ops_ne h) (op_sub h)) rfl rfl ?_)
        (refine rt_op (wants_none rfl) (o_alloc rfl (by conv => lhs; whnf) fun b9 => ?_))
        (refine rt_op (wants_none rfl) (o_storeAgg rfl (by conv => lhs; whnf) (by first | exact List.toList_toArray | (conv => lhs; whnf)) (by first | rfl | exact bvsAll _ | exact wvs_all _ | assumption) (by first | rfl | assumption | (simp; done) | (simp; omega)) (by first | rfl | assumption | (simp; done) | (simp; omega)) ?_))
        refine rt_nil ?_
        refine q_then ?_
        refine ct_seq ?_
        rotate_left
      refine ct_ent (B := Blk b9 [.int .i64 l[i].kind, .int .u64 (l[i].x : Int), .int .i64 l[i].n, .slice l[i].a l[i].b.length l[i].c] 43 * (HeldO b20 ip b18 (errV (Option.map Prod.fst e)) s * (InA ip ia ic xs pos e * (RinA b18 a c xs.length pos (whyOf e) * R)))) ?_ (Ent.refl _)
      refine ct_any (HeldR b20 ip b18 * (Blk b9 [.int .i64 l[i].kind, .int .u64 (l[i].x : Int), .int .i64 l[i].n, .slice l[i].a l[i].b.length l[i].c] 43 * R)) 39 ?_
      focus
        (refine any_take 0 rfl (by kernel_rfl) (by first | exact Ent.refl _ | exact En.ent) (wants_none rfl) (g_move (by conv => lhs; whnf)) rfl rfl ?_)
        (refine any_take 1 rfl (by kernel_rfl) (by first | exact Ent.refl _ | exact En.ent) (wants_none rfl) (g_loadAgg_blk rfl (by first | rfl | assumption | (simp; done) | (simp; omega))) rfl rfl ?_)
        (refine any_one 2 (by kernel_rfl) rfl (wants_none rfl) (o_callE rfl rfl ((ent_right (Ent.refl _)).trans (Ent.mul (Ent.refl _) ((ent_right (Ent.refl _)).trans (Ent.mul (Ent.refl _) (ent_right (Ent.refl _)))))) (hst _) fun i52 => ⟨.inr (by first | exact Ent.refl _ | exact En.ent), ?_⟩))
        (refine any_take 3 rfl (by kernel_rfl) (by first | exact Ent.refl _ | exact En.ent) (wants_none rfl) (g_notT rfl) rfl rfl ?_)
        (refine any_take 4 rfl (by kernel_rfl) (by first | exact Ent.refl _ | exact En.ent) (wants_none rfl) (g_move (by conv => lhs; whnf)) rfl rfl ?_)
        (refine any_take 5 rfl (by kernel_rfl) (by first | exact Ent.refl _ | exact En.ent) (wants_some rfl rfl rfl rfl) (g_move (by conv => lhs; whnf)) rfl rfl ?_)
        (refine any_take 6 rfl (by kernel_rfl) (by first | exact Ent.refl _ | exact En.ent) (wants_some rfl rfl rfl rfl) (g_nil rfl) rfl rfl ?_)
        (refine any_take 7 rfl (by kernel_rfl) (by first | exact Ent.refl _ | exact En.ent) (wants_some rfl rfl rfl rfl) (g_field0 rfl) rfl rfl ?_)
        (refine any_take 8 rfl (by kernel_rfl) (by first | exact Ent.refl _ | exact En.ent) (wants_some rfl rfl rfl rfl) (g_load_rdc rfl) rfl rfl ?_)
        (refine any_take 10 rfl (by kernel_rfl) (by first | exact Ent.refl _ | exact En.ent) (wants_some rfl rfl rfl rfl) (g_move (by conv => lhs; whnf)) rfl rfl ?_)
        (refine any_take 11 rfl (by kernel_rfl) (by first | exact Ent.refl _ | exact En.ent) (wants_some rfl rfl rfl rfl) (g_nil rfl) rfl rfl ?_)
        (refine any_take 12 rfl (by kernel_rfl) (by first | exact Ent.refl _ | exact En.ent) (wants_some rfl rfl rfl rfl) (g_field0 rfl) rfl rfl ?_)
        (refine any_take 13 rfl (by kernel_rfl) (by first | exact Ent.refl _ | exact En.ent) (wants_some rfl rfl rfl rfl) (g_load_rdc rfl) rfl rfl ?_)
        (refine any_take 14 rfl (by kernel_rfl) (by first | exact Ent.refl _ | exact En.ent) (wants_some rfl rfl rfl rfl) (g_nil rfl) rfl rfl ?_)
        (refine any_take 15 rfl (by kernel_rfl) (by first | exact Ent.refl _ | exact En.ent) (wants_some rfl rfl rfl rfl) (g_field0 rfl) rfl rfl ?_)
        rotate_left
      obtain ⟨⟨pos2, e2, ⟨s2, hs2⟩⟩, hp2, hok2⟩ := i52
      dsimp only at hp2 hok2 ⊢
      refine any_more (HeldO b20 ip b18 (errV (Option.map Prod.fst e2)) s2 * (InA ip ia ic xs pos2 e2 * (RinA b18 a c xs.length pos2 (whyOf e2) * (Blk b9 [.int .i64 l[i].kind, .int .u64 (l[i].x : Int), .int .i64 l[i].n, .slice l[i].a l[i].b.length l[i].c] 43 * R)))) (by exact En.ent) ?_
      focus
        (refine any_take 16 rfl (by kernel_rfl) (by first | exact Ent.refl _ | exact En.ent) (wants_some rfl rfl rfl rfl) (g_load rfl (by conv => lhs; whnf)) rfl rfl ?_)
        (refine any_one 9 (by kernel_rfl) rfl (wants_some rfl rfl rfl rfl) (o_callE rfl rfl (ent_right (Ent.refl _)) (Go.Proofs.Ytfcanppeiadbhaa.in_at _ _ _ _ _ _ _) fun i59 => ⟨.inr (by first | exact Ent.refl _ | exact En.ent), ?_⟩))
        (refine any_take 17 rfl (by kernel_rfl) (by first | exact Ent.refl _ | exact En.ent) (wants_some rfl rfl rfl rfl) (g_neqF rfl rfl ?_) rfl rfl ?_; (· (omega)))
        (refine any_take 18 rfl (by kernel_rfl) (by first | exact Ent.refl _ | exact En.ent) (wants_none rfl) (g_pick_f rfl (by conv => lhs; whnf)) rfl rfl ?_)
        (refine any_take 19 rfl (by kernel_rfl) (by first | exact Ent.refl _ | exact En.ent) (wants_none rfl) (g_move (by conv => lhs; whnf)) rfl rfl ?_)
        (refine any_take 20 rfl (by kernel_rfl) (by first | exact Ent.refl _ | exact En.ent) (wants_some rfl rfl rfl rfl) (g_move (by conv => lhs; whnf)) rfl rfl ?_)
        (refine any_take 21 rfl (by kernel_rfl) (by first | exact Ent.refl _ | exact En.ent) (wants_some rfl rfl rfl rfl) (g_nil rfl) rfl rfl ?_)
        (refine any_take 22 rfl (by kernel_rfl) (by first | exact Ent.refl _ | exact En.ent) (wants_some rfl rfl rfl rfl) (g_field0 rfl) rfl rfl ?_)
        (refine any_take 23 rfl (by kernel_rfl) (by first | exact Ent.refl _ | exact En.ent) (wants_some rfl rfl rfl rfl) (g_load_rd0 rfl (by conv => lhs; whnf)) rfl rfl ?_)
        (refine any_take 25 rfl (by kernel_rfl) (by first | exact Ent.refl _ | exact En.ent) (wants_some rfl rfl rfl rfl) (g_move (by conv => lhs; whnf)) rfl rfl ?_)
        (refine any_take 26 rfl (by kernel_rfl) (by first | exact Ent.refl _ | exact En.ent) (wants_some rfl rfl rfl rfl) (g_nil rfl) rfl rfl ?_)
        (refine any_take 27 rfl (by kernel_rfl) (by first | exact Ent.refl _ | exact En.ent) (wants_some rfl rfl rfl rfl) (g_field0 rfl) rfl rfl ?_)
        (refine any_take 28 rfl (by kernel_rfl) (by first | exact Ent.refl _ | exact En.ent) (wants_some rfl rfl rfl rfl) (g_load_rd0 rfl (by conv => lhs; whnf)) rfl rfl ?_)
        (refine any_one 24 (by kernel_rfl) rfl (wants_some rfl rfl rfl rfl) (o_callE rfl rfl (Ent.refl _) (Go.Proofs.Ytfcanppeiadbhaa.in_left _ _ _ _ _ _ _ ?_ ?_) fun i74 => ⟨.inr (by first | exact Ent.refl _ | exact En.ent), ?_⟩); (· (first | assumption | omega | rfl | decide | infer_instance | (simp; done) | (simp; omega) | (simp only [*]; done))); (· (first | assumption | omega | rfl | decide | infer_instance | (simp; done) | (simp; omega) | (simp only [*]; done))))
        (refine any_one 29 (by kernel_rfl) rfl (wants_some rfl rfl rfl rfl) (o_callE rfl rfl (ent_right (ent_right (Ent.refl _))) (Go.Proofs.Ytfcanppeiadbhaa.refLeft_spec _ _ _ _ _ _ _ ?_ ?_) fun i79 => ⟨.inr (by first | exact Ent.refl _ | exact En.ent), ?_⟩); (· (first | assumption | omega | rfl | decide | infer_instance | (simp; done) | (simp; omega) | (simp only [*]; done))); (· (first | assumption | omega | rfl | decide | infer_instance | (simp; done) | (simp; omega) | (simp only [*]; done))))
        (refine any_take 30 rfl (by kernel_rfl) (by first | exact Ent.refl _ | exact En.ent) (wants_some rfl rfl rfl rfl) (g_neqF rfl rfl ?_) rfl rfl ?_; (· (omega)))
        (refine any_take 31 rfl (by kernel_rfl) (by first | exact Ent.refl _ | exact En.ent) (wants_none rfl) (g_pick_f rfl (by conv => lhs; whnf)) rfl rfl ?_)
        (refine any_take 32 rfl (by kernel_rfl) (by first | exact Ent.refl _ | exact En.ent) (wants_none rfl) (g_move (by conv => lhs; whnf)) rfl rfl ?_)
        (refine any_take 33 rfl (by kernel_rfl) (by first | exact Ent.refl _ | exact En.ent) (wants_some rfl rfl rfl rfl) (g_move (by conv => lhs; whnf)) rfl rfl ?_)
        (refine any_take 34 rfl (by kernel_rfl) (by first | exact Ent.refl _ | exact En.ent) (wants_some rfl rfl rfl rfl) (g_nil rfl) rfl rfl ?_)
        (refine any_take 35 rfl (by kernel_rfl) (by first | exact Ent.refl _ | exact En.ent) (wants_some rfl rfl rfl rfl) (g_field0 rfl) rfl rfl ?_)
        (refine any_one 36 (by kernel_rfl) rfl (wants_some rfl rfl rfl rfl) (o_callE rfl rfl (ent_right (ent_right (Ent.refl _))) (Go.Proofs.Ytfcanppeiadbhaa.hstays_spec _ _ _ _ _ _) fun i86 => ⟨.inr (by first | exact Ent.refl _ | exact En.ent), ?_⟩))
        (refine any_take 37 rfl (by kernel_rfl) (by first | exact Ent.refl _ | exact En.ent) (wants_some rfl rfl rfl rfl) (g_notT rfl) rfl rfl ?_)
        (refine any_take 38 rfl (by kernel_rfl) (by first | exact Ent.refl _ | exact En.ent) (wants_none rfl) (g_pick_f rfl (by conv => lhs; whnf)) rfl rfl ?_)
        refine any_done (by kernel_rfl) ?_
        refine q_then ?_
        refine ct_false rfl ?_
        refine ct_skip ?_
        refine q_block ?_
        refine q_then ?_
        (refine ct_region' rfl ?_; simp only [List.map, lite])
        (refine rg rfl (g_addN rfl rfl ?_) rfl rfl ?_; (· (constructor <;> omega)))
        (refine rg rfl (g_move (by conv => lhs; whnf)) rfl rfl ?_)
        refine rt_nil ?_
        rotate_left
      exact q_again ⟨(i + 1, pos2, e2, ⟨s2, hs2⟩), by omega, hp2, hok2⟩ (by show l.length - (i + 1) < l.length - i; omega) ⟨rfl, rfl, rfl, rfl, trivial⟩ (by exact En.ent)
    · focus
        refine ct_seq ?_
        (refine ct_region' rfl ?_; simp only [List.map, lite])
        (refine rg rfl (g_lssF rfl rfl ?_) rfl rfl ?_; (· (omega)))
        refine rt_nil ?_
        refine q_then ?_
        refine ct_seq ?_
        refine ct_false rfl ?_
        refine ct_exit ?_
        refine q_then_exit ?_
        refine q_then_exit ?_
        refine q_block_exit ?_
        refine q_then ?_
        refine ct_seq ?_
        (refine ct_region' rfl ?_; simp only [List.map, lite])
        (refine rg rfl (g_assign (by conv => lhs; whnf)) rfl rfl ?_)
        refine rt_nil ?_
        refine q_then ?_
        refine ct_ret ?_
        exact q_ret1 rfl rfl () rfl En.ent
end Go.Proofs.Ytfcanppeiadbhaa
