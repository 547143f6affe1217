/- sha: Print both ways, the reference's Parse. -/
import Derived.Test.YtmhddmenmkjdlaaT2
namespace Go.Proofs.Ytmhddmenmkjdlaa
open Go.RowKit
attribute [local irreducible] Gives RT CT QT Spec Wants Reads Src Ent OT RQ AnyT AnyOp Again Code.wp Post

/-- a digit's text -/
def hexd (n : Nat) : UInt8 := if n < 10 then UInt8.ofNat (48 + n) else UInt8.ofNat (87 + n)
theorem digs_at : ∀ n, n < 16 → digs.data.toList[n]? = some (hexd n)
  | 0, _ | 1, _ | 2, _ | 3, _ | 4, _ | 5, _ | 6, _ | 7, _ | 8, _ | 9, _ | 10, _ | 11, _ | 12, _ | 13, _ | 14, _ | 15, _ => rfl
  | n + 16, h => by omega
def printS (xs : List UInt8) : List UInt8 := xs.flatMap fun c => [hexd (c.toNat / 16), hexd (c.toNat % 16)]
theorem printS_next (xs : List UInt8) (i : Nat) (h : i < xs.length) : printS (xs.take (i + 1)) = printS (xs.take i) ++ [hexd (xs[i].toNat / 16), hexd (xs[i].toNat % 16)] := by
  unfold printS; rw [List.take_succ_eq_append_getElem h, List.flatMap_append]; simp
theorem printS_len (xs : List UInt8) : (printS xs).length = 2 * xs.length := by
  unfold printS
  induction xs with
  | nil => rfl
  | cons x xs ih => rw [List.flatMap_cons, List.length_append, ih, List.length_cons]; simp; omega
theorem digit_spec (R : HP) (n : Nat) (hn : n < 16) : Spec Try.prog 44 [.int .u8 (n : Int)] R (fun _ : Unit => bv (hexd n)) (fun _ => R) := by
  refine spec_of Try.func44 rfl Try.ntmps44 rfl fun W0 => ?_
  have e1 : n < 10 → bv (hexd n) = .int .u8 (48 + (n : Int)) := fun h => by
    show Value.int .u8 (((hexd n).toNat : Nat) : Int) = _
    unfold hexd
    rw [if_pos h, UInt8.toNat_ofNat_of_lt' (by show _ < 256; omega)]
    congr 1
  have e2 : ¬ n < 10 → bv (hexd n) = .int .u8 (87 + (n : Int)) := fun h => by
    show Value.int .u8 (((hexd n).toNat : Nat) : Int) = _
    unfold hexd
    rw [if_neg h, UInt8.toNat_ofNat_of_lt' (by show _ < 256; omega)]
    congr 1
  by_cases h : n < 10
  · rw [e1 h]
    focus
      refine ct_seq ?_
      (refine ct_region' rfl ?_; simp only [List.map, lite])
      (refine rg rfl (g_assign (by conv => lhs; whnf)) rfl rfl ?_)
      refine rt_nil ?_
      refine q_then ?_
      refine ct_seq ?_
      refine ct_seq ?_
      (refine ct_region' rfl ?_; simp only [List.map, lite])
      (refine rg rfl (g_move (by conv => lhs; whnf)) rfl rfl ?_)
      (refine rg rfl (g_lssT rfl rfl ?_) rfl rfl ?_; (· (omega)))
      refine rt_nil ?_
      refine q_then ?_
      refine ct_true rfl ?_
      refine ct_seq ?_
      (refine ct_region' rfl ?_; simp only [List.map, lite])
      (refine rg rfl (g_move (by conv => lhs; whnf)) rfl rfl ?_)
      (refine rg rfl (g_addN rfl rfl ?_) rfl rfl ?_; (· (constructor <;> omega)))
      (refine rg rfl (g_assign (by conv => lhs; whnf)) rfl rfl ?_)
      refine rt_nil ?_
      refine q_then ?_
      refine ct_ret ?_
      refine q_then_ret ?_
      exact q_ret1 rfl rfl () rfl En.ent
  · rw [e2 h]
    focus
      refine ct_seq ?_
      (refine ct_region' rfl ?_; simp only [List.map, lite])
      (refine rg rfl (g_assign (by conv => lhs; whnf)) rfl rfl ?_)
      refine rt_nil ?_
      refine q_then ?_
      refine ct_seq ?_
      refine ct_seq ?_
      (refine ct_region' rfl ?_; simp only [List.map, lite])
      (refine rg rfl (g_move (by conv => lhs; whnf)) rfl rfl ?_)
      (refine rg rfl (g_lssF rfl rfl ?_) rfl rfl ?_; (· (omega)))
      refine rt_nil ?_
      refine q_then ?_
      refine ct_false rfl ?_
      refine ct_skip ?_
      refine q_then ?_
      refine ct_seq ?_
      (refine ct_region' rfl ?_; simp only [List.map, lite])
      (refine rg rfl (g_move (by conv => lhs; whnf)) rfl rfl ?_)
      (refine rg rfl (g_addN rfl rfl ?_) rfl rfl ?_; (· (constructor <;> omega)))
      (refine rg rfl (g_subN rfl rfl ?_) rfl rfl ?_; (· (constructor <;> omega)))
      (refine rg rfl (g_assign (by conv => lhs; whnf)) rfl rfl ?_)
      refine rt_nil ?_
      refine q_then ?_
      refine ct_ret ?_
      exact q_ret1 rfl (by conv => lhs; whnf) () (congrArg (Value.int _) (by omega)) En.ent
theorem and15 (c : UInt8) : bOp .and .u8 (c.toNat : Int) 15 = ((c.toNat % 16 : Nat) : Int) := by
  have key : ∀ y : Fin 256, bOp .and .u8 ((y.val : Nat) : Int) 15 = ((y.val % 16 : Nat) : Int) := by decide +kernel
  exact key ⟨c.toNat, c.toNat_lt⟩
theorem digs_ix {n : Nat} (h : n < 16) : digs.data.toList[n]? = some (hexd n) := digs_at n h
set_option maxRecDepth 100000 in
set_option maxHeartbeats 8000000 in
theorem printR_spec (R : HP) (xs : List UInt8) (hx : xs.length = 32) : Spec Try.prog 26 [.agg (xs.map bv).toArray] R (fun _ : Unit => .string ⟨(printS xs).toArray⟩) (fun _ => R) := by
  refine spec_of Try.func26 rfl Try.ntmps26 rfl fun W0 => ?_
  have hml : (xs.map bv).length = 32 := by rw [List.length_map]; exact hx
  focus
    refine ct_seq ?_
    (refine ct_region' rfl ?_; simp only [List.map, lite])
    (refine rt_op (wants_none rfl) (o_box rfl (by conv => lhs; whnf) (by conv => lhs; whnf) fun b1 => ?_))
    (refine rg rfl (g_assign (by conv => lhs; whnf)) rfl rfl ?_)
    refine rt_nil ?_
    refine q_then ?_
    refine ct_seq ?_
    (refine ct_region' rfl ?_; simp only [List.map, lite])
    (refine rt_op (wants_none rfl) (o_build0 rfl fun b5 => ?_))
    (refine rg rfl (g_assign (by conv => lhs; whnf)) rfl rfl ?_)
    refine rt_nil ?_
    refine q_then ?_
    refine ct_seq ?_
    refine ct_seq ?_
    (refine ct_region' rfl ?_; simp only [List.map, lite])
    (refine rg rfl (g_assign (by conv => lhs; whnf)) rfl rfl ?_)
    refine rt_nil ?_
    refine q_then ?_
    refine ct_block ?_
    rotate_left
  refine ct_ent (B := Arr 5 1 (some ⟨b5, 0, none⟩) 0 (printS (xs.take 0)).length ((printS (xs.take 0)).map bv) * (Blk b1 (xs.map bv) 23 * R)) ?_ (Ent.refl _)
  refine ct_loop (ι := { t : (Option Addr × Nat) × Nat // t.2 ≤ 32 }) (fun t => [(1, .pointer (some ⟨b1, 0, none⟩)), (3, .slice t.1.1.1 (printS (xs.take t.1.2)).length t.1.1.2), (4, .int .i64 (t.1.2 : Int))]) (fun t => Arr 5 1 t.1.1.1 t.1.1.2 (printS (xs.take t.1.2)).length ((printS (xs.take t.1.2)).map bv) * (Blk b1 (xs.map bv) 23 * R)) (fun t => 32 - t.1.2)
    ⟨((some ⟨b5, 0, none⟩, 0), 0), Nat.zero_le _⟩ ⟨rfl, rfl, rfl, trivial⟩ (Ent.refl _) fun t ρ' => ?_
  obtain ⟨⟨⟨pa, pc⟩, i⟩, hi⟩ := t
  dsimp only at hi ⊢
  have hpl : (printS (xs.take i)).length = 2 * i := by rw [printS_len, List.length_take]; omega
  by_cases h : i < 32
  · have hn := printS_next xs i (by omega)
    have hxi : (xs.map bv)[i]? = some (bv xs[i]) := by rw [List.getElem?_map, List.getElem?_eq_getElem (by omega)]; rfl
    have hlt := xs[i].toNat_lt
    have hd1 := fun (R' : HP) => digit_spec R' (xs[i].toNat / 16) (by omega)
    have hd2 := fun (R' : HP) => digit_spec R' (xs[i].toNat % 16) (by omega)
    generalize hc : xs[i] = c at *
    have hpc : (printS (xs.take i)).length + 2 ≤ 140737488355328 := by omega
    focus
      refine ct_seq ?_
      refine ct_seq ?_
      (refine ct_region' rfl ?_; simp only [List.map, lite])
      (refine rg rfl (g_move (by conv => lhs; whnf)) rfl rfl ?_)
      (refine rg rfl (g_lssT rfl rfl ?_) rfl rfl ?_; (· (omega)))
      refine rt_nil ?_
      refine q_then ?_
      refine ct_true rfl ?_
      refine ct_skip ?_
      refine q_then ?_
      refine ct_seq ?_
      refine ct_block ?_
      refine ct_any (Blk b1 (xs.map bv) 23 * R) 13 ?_
      (refine any_take 0 rfl (by kernel_rfl) (by first | exact Ent.refl _ | exact En.ent) (wants_none rfl) (g_move (by conv => lhs; whnf)) rfl rfl ?_)
      (refine any_take 1 rfl (by kernel_rfl) (by first | exact Ent.refl _ | exact En.ent) (wants_none rfl) (g_move (by conv => lhs; whnf)) rfl rfl ?_)
      (refine any_take 2 rfl (by kernel_rfl) (by first | exact Ent.refl _ | exact En.ent) (wants_none rfl) (g_elemB1 rfl rfl ?_) rfl rfl ?_; (· (first | omega | decide)))
      (refine any_take 3 rfl (by kernel_rfl) (by first | exact Ent.refl _ | exact En.ent) (wants_none rfl) (g_load rfl (by assumption)) rfl rfl ?_)
      (refine any_take 4 rfl (by kernel_rfl) (by first | exact Ent.refl _ | exact En.ent) (wants_none rfl) (g_quoN rfl rfl ?_ ?_ ?_) rfl rfl ?_; (· (omega)); (· (omega)); (· (constructor <;> omega)))
      (refine any_take 6 rfl (by kernel_rfl) (by first | exact Ent.refl _ | exact En.ent) (wants_none rfl) (g_move (by conv => lhs; whnf)) rfl rfl ?_)
      (refine any_take 7 rfl (by kernel_rfl) (by first | exact Ent.refl _ | exact En.ent) (wants_none rfl) (g_elemB1 rfl rfl ?_) rfl rfl ?_; (· (first | omega | decide)))
      (refine any_take 8 rfl (by kernel_rfl) (by first | exact Ent.refl _ | exact En.ent) (wants_none rfl) (g_load rfl (by assumption)) rfl rfl ?_)
      (refine any_take 9 rfl (by kernel_rfl) (by first | exact Ent.refl _ | exact En.ent) (wants_none rfl) (g_remN rfl rfl ?_ ?_) rfl rfl ?_; (· (omega)); (· (omega)))
      (refine any_one 5 (by kernel_rfl) rfl (wants_none rfl) (o_callE rfl rfl (Ent.refl _) (hd1 _) fun i15 => ⟨.inr (by first | exact Ent.refl _ | exact En.ent), ?_⟩))
      (refine any_one 10 (by kernel_rfl) rfl (wants_none rfl) (o_callE rfl rfl (Ent.refl _) (hd2 _) fun i20 => ⟨.inr (by first | exact Ent.refl _ | exact En.ent), ?_⟩))
      (refine any_one 11 (by kernel_rfl) rfl (wants_none rfl) (o_buildN rfl (by simp only [ev, upd, updl, argl, nat_beq_def, Nat.reduceBEq, cond_true, cond_false, List.map_cons, List.map_nil]; rfl) rfl (by rfl) (by simp [fillL, Value.cells, List.range, List.range.loop]; rfl) fun b21 => ⟨.inr (by first | exact Ent.refl _ | exact En.ent), ?_⟩))
      (refine any_one 12 (by kernel_rfl) rfl (wants_none rfl) (o_appR rfl rfl rfl (by first | rfl | simp | (simp; omega)) (by first | rfl | exact bvsAll _ | exact wvs_all _ | assumption) (by rfl) (by rfl) ?_ (by first | with_reducible exact Nat.zero_add _ | exact rfl) (by first | with_reducible exact List.nil_append _ | exact List.map_append.symm | exact rfl) fun ad22 cap22 hc22 hn22 => ⟨.inr (by first | exact Ent.refl _ | exact En.ent), ?_⟩); (· (first | omega | decide)))
      (refine any_one 13 (by kernel_rfl) rfl (wants_none rfl) (o_give (g_assign (by conv => lhs; whnf)) rfl rfl ⟨.inl rfl, ?_⟩))
      refine any_done (by kernel_rfl) ?_
      refine q_block ?_
      refine q_then ?_
      (refine ct_region' rfl ?_; simp only [List.map, lite])
      (refine rg rfl (g_move (by conv => lhs; whnf)) rfl rfl ?_)
      (refine rg rfl (g_addN rfl rfl ?_) rfl rfl ?_; (· (constructor <;> omega)))
      (refine rg rfl (g_assign (by conv => lhs; whnf)) rfl rfl ?_)
      refine rt_nil ?_
      rotate_left
    refine q_again ⟨((ad22, cap22), i + 1), by omega⟩ (by show 32 - (i + 1) < 32 - i; omega) ?_ ?_
    · dsimp only; rw [hn]; exact ⟨rfl, by rw [List.length_append]; rfl, rfl, trivial⟩
    · dsimp only; rw [hn]; exact (Ent.mul (arr_cast (by simp) (by rw [List.map_append]; rfl)) (Ent.dropL _ _))
  · obtain rfl : i = 32 := by omega
    rw [List.take_of_length_le (by omega)]
    focus
      refine ct_seq ?_
      refine ct_seq ?_
      (refine ct_region' rfl ?_; simp only [List.map, lite])
      (refine rg rfl (g_move (by conv => lhs; whnf)) rfl rfl ?_)
      (refine rg rfl (g_lssF rfl rfl ?_) rfl rfl ?_; (· (omega)))
      refine rt_nil ?_
      refine q_then ?_
      refine ct_false rfl ?_
      refine ct_exit ?_
      refine q_then_exit ?_
      refine q_then_exit ?_
      refine q_block_exit ?_
      refine q_then ?_
      refine ct_seq ?_
      (refine ct_region' rfl ?_; simp only [List.map, lite])
      (refine rg rfl (g_move (by conv => lhs; whnf)) rfl rfl ?_)
      (refine rg rfl (g_convA rfl rfl rfl) rfl rfl ?_)
      (refine rg rfl (g_assign (by conv => lhs; whnf)) rfl rfl ?_)
      refine rt_nil ?_
      refine q_then ?_
      refine ct_ret ?_
      exact q_ret1 rfl rfl () rfl En.ent
set_option maxRecDepth 100000 in
set_option maxHeartbeats 8000000 in
theorem print_spec (R : HP) (xs : List UInt8) (hx : xs.length = 32) : Spec Try.prog 25 [.agg (xs.map bv).toArray] R (fun _ : Unit => .string ⟨(printS xs).toArray⟩) (fun _ => R) := by
  refine spec_of Try.func25 rfl Try.ntmps25 rfl fun W0 => ?_
  have hml : (xs.map bv).length = 32 := by rw [List.length_map]; exact hx
  focus
    refine ct_seq ?_
    (refine ct_region' rfl ?_; simp only [List.map, lite])
    (refine rt_op (wants_none rfl) (o_box rfl (by conv => lhs; whnf) (by conv => lhs; whnf) fun b1 => ?_))
    (refine rg rfl (g_assign (by conv => lhs; whnf)) rfl rfl ?_)
    refine rt_nil ?_
    refine q_then ?_
    refine ct_seq ?_
    (refine ct_region' rfl ?_; simp only [List.map, lite])
    (refine rt_op (wants_none rfl) (o_make1 rfl rfl rfl ?_ rfl (by rfl) ?_ (by first | with_reducible exact List.replicate_zero | exact rfl) fun b6 => ?_); (· (first | omega | decide)); (· (first | omega | decide)))
    (refine rg rfl (g_assign (by conv => lhs; whnf)) rfl rfl ?_)
    refine rt_nil ?_
    refine q_then ?_
    refine ct_seq ?_
    refine ct_seq ?_
    (refine ct_region' rfl ?_; simp only [List.map, lite])
    (refine rg rfl (g_loadAgg_blk rfl (by first | rfl | assumption | (simp; done) | (simp; omega))) rfl rfl ?_)
    (refine rg rfl (g_move (by conv => lhs; whnf)) rfl rfl ?_)
    refine rt_nil ?_
    refine q_then ?_
    refine ct_block ?_
    rotate_left
  refine ct_ent (B := Arr 5 1 (some ⟨b6, 0, none⟩) 64 (printS (xs.take 0)).length ((printS (xs.take 0)).map bv) * (Blk b1 (xs.map bv) 23 * R)) ?_ (Ent.refl _)
  refine ct_loop (ι := { t : (Option Addr × Nat) × Nat // t.2 ≤ 32 }) (fun t => [(3, .slice t.1.1.1 (printS (xs.take t.1.2)).length t.1.1.2), (7, .agg (xs.map bv).toArray), (8, .int .i64 (t.1.2 : Int))]) (fun t => Arr 5 1 t.1.1.1 t.1.1.2 (printS (xs.take t.1.2)).length ((printS (xs.take t.1.2)).map bv) * (Blk b1 (xs.map bv) 23 * R)) (fun t => 32 - t.1.2)
    ⟨((some ⟨b6, 0, none⟩, 64), 0), Nat.zero_le _⟩ ⟨rfl, rfl, rfl, trivial⟩ (Ent.refl _) fun t ρ' => ?_
  obtain ⟨⟨⟨pa, pc⟩, i⟩, hi⟩ := t
  dsimp only at hi ⊢
  have hpl : (printS (xs.take i)).length = 2 * i := by rw [printS_len, List.length_take]; omega
  by_cases h : i < 32
  · have hn := printS_next xs i (by omega)
    have hxi : (xs.map bv)[i]? = some (bv xs[i]) := by rw [List.getElem?_map, List.getElem?_eq_getElem (by omega)]; rfl
    have hlt := xs[i].toNat_lt
    generalize hc : xs[i] = c at *
    have hpc : (printS (xs.take i)).length + 2 ≤ 140737488355328 := by omega
    have hd1 := digs_at (c.toNat / 16) (by omega)
    have hd2 := digs_at (c.toNat % 16) (by omega)
    focus
      refine ct_seq ?_
      (refine ct_region' rfl ?_; simp only [List.map, lite])
      (refine rg rfl (g_lssT rfl rfl ?_) rfl rfl ?_; (· (omega)))
      refine rt_nil ?_
      refine q_then ?_
      refine ct_seq ?_
      refine ct_true rfl ?_
      refine ct_skip ?_
      refine q_then ?_
      refine ct_seq ?_
      refine ct_block ?_
      refine ct_seq ?_
      (refine ct_region' rfl ?_; simp only [List.map, lite])
      (refine rg rfl (g_indexA rfl rfl (by omega) hxi) rfl rfl ?_)
      (refine rg rfl (g_assign (by conv => lhs; whnf)) rfl rfl ?_)
      refine rt_nil ?_
      refine q_then ?_
      rotate_left
    refine ct_any (Blk b1 (xs.map bv) 23 * R) 9 ?_
    focus
      (refine any_take 0 rfl (by kernel_rfl) (by first | exact Ent.refl _ | exact En.ent) (wants_none rfl) (g_move (by conv => lhs; whnf)) rfl rfl ?_)
      (refine any_take 1 rfl (by kernel_rfl) (by first | exact Ent.refl _ | exact En.ent) (wants_none rfl) (g_move (by conv => lhs; whnf)) rfl rfl ?_)
      (refine any_take 2 rfl (by kernel_rfl) (by first | exact Ent.refl _ | exact En.ent) (wants_none rfl) (g_shrN rfl rfl ?_ ?_ (by simp [IntKind.bits]; rfl)) rfl rfl ?_; (· (omega)); (· (omega)))
      (refine any_take 4 rfl (by kernel_rfl) (by first | exact Ent.refl _ | exact En.ent) (wants_none rfl) (g_move (by conv => lhs; whnf)) rfl rfl ?_)
      (refine any_take 5 rfl (by kernel_rfl) (by first | exact Ent.refl _ | exact En.ent) (wants_none rfl) (g_and rfl rfl) rfl rfl ?_)
      rotate_left
    refine any_take 3 rfl (by kernel_rfl) (by first | exact Ent.refl _ | exact En.ent) (wants_none rfl) (g_indexS (j := c.toNat / 16) rfl rfl hd1) rfl rfl ?_
    refine any_take 6 rfl (by kernel_rfl) (by first | exact Ent.refl _ | exact En.ent) (wants_none rfl) (g_indexS (i := ((c.toNat % 16 : Nat) : Int)) (k := .u8) rfl (by exact congrArg (Value.int .u8) (and15 c)) hd2) rfl rfl ?_
    focus
      (refine any_one 7 (by kernel_rfl) rfl (wants_none rfl) (o_buildN rfl (by simp only [ev, upd, updl, argl, nat_beq_def, Nat.reduceBEq, cond_true, cond_false, List.map_cons, List.map_nil]; rfl) rfl (by rfl) (by simp [fillL, Value.cells, List.range, List.range.loop]; rfl) fun b18 => ⟨.inr (by first | exact Ent.refl _ | exact En.ent), ?_⟩))
      (refine any_one 8 (by kernel_rfl) rfl (wants_none rfl) (o_appR rfl rfl rfl (by first | rfl | simp | (simp; omega)) (by first | rfl | exact bvsAll _ | exact wvs_all _ | assumption) (by rfl) (by rfl) ?_ (by first | with_reducible exact Nat.zero_add _ | exact rfl) (by first | with_reducible exact List.nil_append _ | exact List.map_append.symm | exact rfl) fun ad19 cap19 hc19 hn19 => ⟨.inr (by first | exact Ent.refl _ | exact En.ent), ?_⟩); (· (first | omega | decide)))
      (refine any_one 9 (by kernel_rfl) rfl (wants_none rfl) (o_give (g_assign (by conv => lhs; whnf)) rfl rfl ⟨.inl rfl, ?_⟩))
      refine any_done (by kernel_rfl) ?_
      refine q_block ?_
      refine q_then ?_
      (refine ct_region' rfl ?_; simp only [List.map, lite])
      (refine rg rfl (g_addN rfl rfl ?_) rfl rfl ?_; (· (constructor <;> omega)))
      (refine rg rfl (g_move (by conv => lhs; whnf)) rfl rfl ?_)
      refine rt_nil ?_
      rotate_left
    refine q_again ⟨((ad19, cap19), i + 1), by omega⟩ (by show 32 - (i + 1) < 32 - i; omega) ?_ ?_
    · dsimp only; rw [hn]; exact ⟨by rw [List.length_append]; rfl, rfl, rfl, trivial⟩
    · dsimp only; rw [hn]; exact (Ent.mul (arr_cast (by simp) (by rw [List.map_append]; rfl)) (Ent.dropL _ _))
  · obtain rfl : i = 32 := by omega
    rw [List.take_of_length_le (by omega)]
    focus
      refine ct_seq ?_
      (refine ct_region' rfl ?_; simp only [List.map, lite])
      (refine rg rfl (g_lssF rfl rfl ?_) rfl rfl ?_; (· (omega)))
      refine rt_nil ?_
      refine q_then ?_
      refine ct_seq ?_
      refine ct_false rfl ?_
      refine ct_exit ?_
      refine q_then_exit ?_
      refine q_then_exit ?_
      refine q_block_exit ?_
      refine q_then ?_
      refine ct_seq ?_
      (refine ct_region' rfl ?_; simp only [List.map, lite])
      (refine rg rfl (g_move (by conv => lhs; whnf)) rfl rfl ?_)
      (refine rg rfl (g_convA rfl rfl rfl) rfl rfl ?_)
      (refine rg rfl (g_assign (by conv => lhs; whnf)) rfl rfl ?_)
      refine rt_nil ?_
      refine q_then ?_
      refine ct_ret ?_
      exact q_ret1 rfl rfl () rfl En.ent
theorem tup {a b : Int} {p q : Bool} (h : a = b) (k : p = q) : Value.tuple #[.int .u8 a, .bool p] = .tuple #[.int .u8 b, .bool q] := by rw [h, k]
theorem half_spec (R : HP) (c : UInt8) : Spec Try.prog 43 [bv c] R (fun _ : Unit => .tuple #[.int .u8 (max 0 (dig c)), .bool (decide (0 ≤ dig c))]) (fun _ => R) := by
  refine spec_of Try.func43 rfl Try.ntmps43 rfl fun W0 => ?_
  have hc : (c.toNat : Int) < 256 := by have := c.toNat_lt; omega
  have hd : dig c = if 48 ≤ c ∧ c ≤ 57 then (c.toNat : Int) - 48 else if 97 ≤ c ∧ c ≤ 102 then (c.toNat : Int) - 87 else -1 := rfl
  simp only [UInt8.le_iff_toNat_le, UInt8.toNat_ofNat, Nat.reducePow, Nat.reduceMod] at hd
  focus
    refine ct_seq ?_
    (refine ct_region' rfl ?_; simp only [List.map, lite])
    (refine rg rfl (g_assign (by conv => lhs; whnf)) rfl rfl ?_)
    (refine rg rfl (g_assign (by conv => lhs; whnf)) rfl rfl ?_)
    refine rt_nil ?_
    refine q_then ?_
    refine ct_seq ?_
    refine ct_seq ?_
    (refine ct_region' rfl ?_; simp only [List.map, lite])
    (refine rg rfl (g_move (by conv => lhs; whnf)) rfl rfl ?_)
    (refine rg rfl (g_geq rfl rfl) rfl rfl ?_)
    (refine rg rfl (g_move (by conv => lhs; whnf)) rfl rfl ?_)
    refine rt_split 6 rfl (fun h6 => ?_) (fun h6 => ?_)
    (refine rgw rfl rfl rfl rfl (g_move (by conv => lhs; whnf)) rfl rfl ?_)
    (refine rgw rfl rfl rfl rfl (g_leq rfl rfl) rfl rfl ?_)
    (refine rg rfl (g_pick_t rfl (by conv => lhs; whnf)) rfl rfl ?_)
    refine rt_nil ?_
    refine q_then ?_
    refine ct_if rfl (fun h9 => ?_) (fun h9 => ?_)
    refine ct_seq ?_
    (refine ct_region' rfl ?_; simp only [List.map, lite])
    (refine rg rfl (g_move (by conv => lhs; whnf)) rfl rfl ?_)
    (refine rg rfl (g_subNN rfl rfl ?_ ?_) rfl rfl ?_; (· (omega)); (· (constructor <;> omega)))
    (refine rg rfl (g_assign (by conv => lhs; whnf)) rfl rfl ?_)
    (refine rg rfl (g_assign (by conv => lhs; whnf)) rfl rfl ?_)
    refine rt_nil ?_
    refine q_then ?_
    refine ct_ret ?_
    refine q_then_ret ?_
    rotate_left
    refine ct_skip ?_
    refine q_then ?_
    refine ct_seq ?_
    refine ct_seq ?_
    (refine ct_region' rfl ?_; simp only [List.map, lite])
    (refine rg rfl (g_move (by conv => lhs; whnf)) rfl rfl ?_)
    (refine rg rfl (g_geq rfl rfl) rfl rfl ?_)
    (refine rg rfl (g_move (by conv => lhs; whnf)) rfl rfl ?_)
    refine rt_split 14 rfl (fun h14 => ?_) (fun h14 => ?_)
    (refine rgw rfl rfl rfl rfl (g_move (by conv => lhs; whnf)) rfl rfl ?_)
    (refine rgw rfl rfl rfl rfl (g_leq rfl rfl) rfl rfl ?_)
    (refine rg rfl (g_pick_t rfl (by conv => lhs; whnf)) rfl rfl ?_)
    refine rt_nil ?_
    refine q_then ?_
    refine ct_if rfl (fun h17 => ?_) (fun h17 => ?_)
    refine ct_seq ?_
    (refine ct_region' rfl ?_; simp only [List.map, lite])
    (refine rg rfl (g_move (by conv => lhs; whnf)) rfl rfl ?_)
    (refine rg rfl (g_subN rfl rfl ?_) rfl rfl ?_; (· (constructor <;> omega)))
    (refine rg rfl (g_addN rfl rfl ?_) rfl rfl ?_; (· (constructor <;> omega)))
    (refine rg rfl (g_assign (by conv => lhs; whnf)) rfl rfl ?_)
    (refine rg rfl (g_assign (by conv => lhs; whnf)) rfl rfl ?_)
    refine rt_nil ?_
    refine q_then ?_
    refine ct_ret ?_
    refine q_then_ret ?_
    rotate_left
    refine ct_skip ?_
    refine q_then ?_
    refine ct_seq ?_
    (refine ct_region' rfl ?_; simp only [List.map, lite])
    (refine rg rfl (g_assign (by conv => lhs; whnf)) rfl rfl ?_)
    (refine rg rfl (g_assign (by conv => lhs; whnf)) rfl rfl ?_)
    refine rt_nil ?_
    refine q_then ?_
    refine ct_ret ?_
    rotate_left
    refine rgs rfl rfl rfl rfl rfl rfl ?_
    refine rgs rfl rfl rfl rfl rfl rfl ?_
    (refine rg rfl (g_pick_f rfl (by conv => lhs; whnf)) rfl rfl ?_)
    refine rt_nil ?_
    refine q_then ?_
    refine ct_false rfl ?_
    refine ct_skip ?_
    refine q_then ?_
    refine ct_seq ?_
    (refine ct_region' rfl ?_; simp only [List.map, lite])
    (refine rg rfl (g_assign (by conv => lhs; whnf)) rfl rfl ?_)
    (refine rg rfl (g_assign (by conv => lhs; whnf)) rfl rfl ?_)
    refine rt_nil ?_
    refine q_then ?_
    refine ct_ret ?_
    rotate_left
    refine rgs rfl rfl rfl rfl rfl rfl ?_
    refine rgs rfl rfl rfl rfl rfl rfl ?_
    (refine rg rfl (g_pick_f rfl (by conv => lhs; whnf)) rfl rfl ?_)
    refine rt_nil ?_
    refine q_then ?_
    refine ct_false rfl ?_
    refine ct_skip ?_
    refine q_then ?_
    refine ct_seq ?_
    refine ct_seq ?_
    (refine ct_region' rfl ?_; simp only [List.map, lite])
    (refine rg rfl (g_move (by conv => lhs; whnf)) rfl rfl ?_)
    (refine rg rfl (g_geqF rfl rfl ?_) rfl rfl ?_; (· (omega)))
    (refine rg rfl (g_move (by conv => lhs; whnf)) rfl rfl ?_)
    refine rgs rfl rfl rfl rfl rfl rfl ?_
    refine rgs rfl rfl rfl rfl rfl rfl ?_
    (refine rg rfl (g_pick_f rfl (by conv => lhs; whnf)) rfl rfl ?_)
    refine rt_nil ?_
    refine q_then ?_
    refine ct_false rfl ?_
    refine ct_skip ?_
    refine q_then ?_
    refine ct_seq ?_
    (refine ct_region' rfl ?_; simp only [List.map, lite])
    (refine rg rfl (g_assign (by conv => lhs; whnf)) rfl rfl ?_)
    (refine rg rfl (g_assign (by conv => lhs; whnf)) rfl rfl ?_)
    refine rt_nil ?_
    refine q_then ?_
    refine ct_ret ?_
    rotate_left
  · have e : dig c = (c.toNat : Int) - 48 := by rw [hd, if_pos (by omega)]
    exact q_ret2 rfl rfl rfl () (tup (by omega) (decide_eq_true (by omega)).symm) (Ent.refl _)
  · have e : dig c = (c.toNat : Int) - 87 := by rw [hd, if_neg (by omega), if_pos (by omega)]
    exact q_ret2 rfl rfl rfl () (tup (by omega) (decide_eq_true (by omega)).symm) (Ent.refl _)
  all_goals
    have e : dig c = -1 := by rw [hd, if_neg (by omega), if_neg (by omega)]
    exact q_ret2 rfl rfl rfl () (tup (by omega) (decide_eq_false (by omega)).symm) (Ent.refl _)
end Go.Proofs.Ytmhddmenmkjdlaa
