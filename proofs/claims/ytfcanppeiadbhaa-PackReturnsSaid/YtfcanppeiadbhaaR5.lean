/- Errors: told, oneErr, wrong. -/
import Derived.Test.YtfcanppeiadbhaaR4
namespace Go.Proofs.Ytfcanppeiadbhaa
open Go.RowKit
attribute [local irreducible] Gives RT CT QT Spec Wants Reads Src Ent OT RQ AnyT AnyOp Again Code.wp Post

theorem told_u (R : HP) (p : Nat) (a : Option Addr) (cap : Nat) (xs : List UInt8) (pos : Nat) (e : Option (Nat × Nat)) (he : EOk e) :
    Spec Try.prog 28 [errV (e.map Prod.fst)] (InA p a cap xs pos e * R) (fun _ : Unit => .tuple #[errR (whyOf e) pos, .bool true]) (fun _ => InA p a cap xs pos e * R) := by
  cases e with
  | none => exact spec_conseq (told_none (InA p a cap xs pos none * R)) (Ent.refl _) fun _ => ⟨(), rfl, Ent.refl _⟩
  | some x =>
    obtain ⟨q, w⟩ := x
    have hw : w ≠ 0 := he _ rfl
    have h1 := told_bad (Blk p [.slice a xs.length cap, .int .i64 (pos : Int), errV ((some (q, w)).map Prod.fst)] 90 * (Arr 5 1 a cap xs.length (xs.map bv) * R)) q w pos hw
    refine spec_conseq h1 ?_ fun _ => ⟨(), ?_, ?_⟩
    · unfold InA; exact En.ent
    · show _ = Value.tuple #[.agg #[.int .i64 (w : Int), .int .i64 (atOf w pos : Nat)], .bool true]
      rw [atOf_pos hw]
    · unfold InA; exact En.ent
theorem told_some (R : HP) (p : Nat) (a : Option Addr) (cap : Nat) (xs : List UInt8) (pos q w : Nat) (he : EOk (some (q, w))) :
    Spec Try.prog 28 [.iface 22 (.pointer (some ⟨q, 0, none⟩))] (InA p a cap xs pos (some (q, w)) * R) (fun _ : Unit => .tuple #[errR w pos, .bool true]) (fun _ => InA p a cap xs pos (some (q, w)) * R) := told_u R p a cap xs pos (some (q, w)) he
theorem told_nil (R : HP) :
    Spec Try.prog 28 [.nilIface] R (fun _ : Unit => .tuple #[errR 0 0, .bool true]) (fun _ => R) := told_none R
theorem oneErr_same (R : HP) (q : Nat) : Spec Try.prog 67 [.iface 22 (.pointer (some ⟨q, 0, none⟩)), .iface 22 (.pointer (some ⟨q, 0, none⟩))] R (fun _ : Unit => .bool true) (fun _ => R) := by
  refine spec_of Try.func67 rfl Try.ntmps67 rfl fun W0 => ?_
  focus
    refine ct_seq ?_
    (refine ct_region' rfl ?_; simp only [List.map, lite])
    (refine rg rfl (g_assign (by conv => lhs; whnf)) rfl rfl ?_)
    refine rt_nil ?_
    refine q_then ?_
    refine ct_seq ?_
    refine ct_seq ?_
    (refine ct_region' rfl ?_; simp only [List.map, lite])
    (refine rg rfl (g_move (by conv => lhs; whnf)) rfl rfl ?_)
    (refine rg rfl (g_err_eq (by conv => lhs; whnf) (by first | exact .inl rfl | exact .inr ⟨_, _, rfl⟩ | assumption)) rfl rfl ?_)
    (refine rg rfl (g_move (by conv => lhs; whnf)) rfl rfl ?_)
    (refine rgw rfl rfl rfl rfl (g_move (by conv => lhs; whnf)) rfl rfl ?_)
    (refine rgw rfl rfl rfl rfl (g_err_eq (by conv => lhs; whnf) (by first | exact .inl rfl | exact .inr ⟨_, _, rfl⟩ | assumption)) rfl rfl ?_)
    (refine rg rfl (g_pick_f rfl (by conv => lhs; whnf)) rfl rfl ?_)
    refine rt_nil ?_
    refine q_then ?_
    refine ct_false rfl ?_
    refine ct_skip ?_
    refine q_then ?_
    refine ct_seq ?_
    (refine ct_region' rfl ?_; simp only [List.map, lite])
    (refine rg rfl (g_move (by conv => lhs; whnf)) rfl rfl ?_)
    (refine rg rfl (g_move (by conv => lhs; whnf)) rfl rfl ?_)
    (refine rg rfl (g_ifpT rfl rfl (by kernel_rfl)) rfl rfl ?_)
    (refine rg rfl (g_assign (by conv => lhs; whnf)) rfl rfl ?_)
    refine rt_nil ?_
    refine q_then ?_
    refine ct_ret ?_
    exact q_ret1 rfl rfl () rfl En.ent
/-- a block that holds a reader, the reference's, the first error, and more -/
abbrev HB (h p x : Nat) (fst v3 v4 v5 v6 : Value) : HP := Blk h [.pointer (some ⟨p, 0, none⟩), .pointer (some ⟨x, 0, none⟩), fst, v3, v4, v5, v6] 63
theorem wrong_none (R : HP) (h p x pos : Nat) (v3 v4 v5 v6 : Value) :
    Spec Try.prog 50 [.pointer (some ⟨h, 0, none⟩), .nilIface, errR 0 pos] (HB h p x .nilIface v3 v4 v5 v6 * R) (fun _ : Unit => .bool true) (fun _ => HB h p x .nilIface v3 v4 v5 v6 * R) := by
  refine spec_of Try.func50 rfl Try.ntmps50 rfl fun W0 => ?_
  focus
    refine ct_seq ?_
    (refine ct_region' rfl ?_; simp only [List.map, lite])
    (refine rt_op (wants_none rfl) (o_box rfl (by conv => lhs; whnf) (by conv => lhs; whnf) fun b5 => ?_))
    (refine rg rfl (g_assign (by conv => lhs; whnf)) rfl rfl ?_)
    refine rt_nil ?_
    refine q_then ?_
    refine ct_seq ?_
    (refine ct_region' rfl ?_; simp only [List.map, lite])
    (refine rg rfl (g_move (by conv => lhs; whnf)) rfl rfl ?_)
    (refine rt_op (wants_none rfl) (o_callE rfl rfl (Ent.refl _) (Go.Proofs.Ytfcanppeiadbhaa.told_none _) fun i11 => ?_))
    (refine rg rfl (g_move (by conv => lhs; whnf)) rfl rfl ?_)
    (refine rg rfl (g_extract rfl (by conv => lhs; whnf)) rfl rfl ?_)
    (refine rg rfl (g_extract rfl (by conv => lhs; whnf)) rfl rfl ?_)
    (refine rt_op (wants_none rfl) (o_alloc rfl (by conv => lhs; whnf) fun b7 => ?_))
    (refine rt_op (wants_none rfl) (o_storeAgg rfl (by conv => lhs; whnf) (by conv => lhs; whnf) (by first | rfl | exact bvsAll _ | exact wvs_all _ | assumption) (by first | rfl | assumption | (simp; done) | (simp; omega)) (by first | rfl | assumption | (simp; done) | (simp; omega)) ?_))
    (refine rg rfl (g_assign (by conv => lhs; whnf)) rfl rfl ?_)
    refine rt_nil ?_
    refine q_then ?_
    refine ct_seq ?_
    refine ct_seq ?_
    (refine ct_region' rfl ?_; simp only [List.map, lite])
    (refine rg rfl (g_move (by conv => lhs; whnf)) rfl rfl ?_)
    (refine rg rfl (g_notT rfl) rfl rfl ?_)
    (refine rg rfl (g_move (by conv => lhs; whnf)) rfl rfl ?_)
    (refine rgw rfl rfl rfl rfl (g_loadAgg_blk rfl (by first | rfl | assumption | (simp; done) | (simp; omega))) rfl rfl ?_)
    (refine rgw rfl rfl rfl rfl (g_loadAgg_blk rfl (by first | rfl | assumption | (simp; done) | (simp; omega))) rfl rfl ?_)
    (refine rgw rfl rfl rfl rfl (g_neS2F rfl rfl (by decide) (by kernel_rfl) (by kernel_rfl) ?_) rfl rfl ?_; (· (first | exact ⟨rfl, rfl⟩ | (constructor <;> omega))))
    (refine rg rfl (g_pick_f rfl (by conv => lhs; whnf)) rfl rfl ?_)
    refine rt_nil ?_
    refine q_then ?_
    refine ct_false rfl ?_
    refine ct_skip ?_
    refine q_then ?_
    refine ct_seq ?_
    refine ct_seq ?_
    (refine ct_region' rfl ?_; simp only [List.map, lite])
    (refine rg rfl (g_move (by conv => lhs; whnf)) rfl rfl ?_)
    (refine rg rfl (g_err_eq (by conv => lhs; whnf) (by first | exact .inl rfl | exact .inr ⟨_, _, rfl⟩ | assumption)) rfl rfl ?_)
    refine rt_nil ?_
    refine q_then ?_
    refine ct_true rfl ?_
    refine ct_seq ?_
    (refine ct_region' rfl ?_; simp only [List.map, lite])
    (refine rg rfl (g_move (by conv => lhs; whnf)) rfl rfl ?_)
    (refine rg rfl (g_nil rfl) rfl rfl ?_)
    (refine rg rfl (g_field0 rfl) rfl rfl ?_)
    (refine rg rfl (g_load rfl (by conv => lhs; whnf)) rfl rfl ?_)
    (refine rg rfl (g_err_eq (by conv => lhs; whnf) (by first | exact .inl rfl | exact .inr ⟨_, _, rfl⟩ | assumption)) rfl rfl ?_)
    (refine rg rfl (g_assign (by conv => lhs; whnf)) rfl rfl ?_)
    refine rt_nil ?_
    refine q_then ?_
    refine ct_ret ?_
    refine q_then_ret ?_
    exact q_ret1 rfl rfl () rfl En.ent
theorem wrong_same (R : HP) (h p x : Nat) (v3 v4 v5 v6 : Value) (a : Option Addr) (cap : Nat) (xs : List UInt8) (pos q w : Nat) (he : EOk (some (q, w))) :
    Spec Try.prog 50 [.pointer (some ⟨h, 0, none⟩), .iface 22 (.pointer (some ⟨q, 0, none⟩)), errR w pos] (HB h p x (.iface 22 (.pointer (some ⟨q, 0, none⟩))) v3 v4 v5 v6 * (InA p a cap xs pos (some (q, w)) * R)) (fun _ : Unit => .bool true) (fun _ => HB h p x (.iface 22 (.pointer (some ⟨q, 0, none⟩))) v3 v4 v5 v6 * (InA p a cap xs pos (some (q, w)) * R)) := by
  refine spec_of Try.func50 rfl Try.ntmps50 rfl fun W0 => ?_
  focus
    refine ct_seq ?_
    (refine ct_region' rfl ?_; simp only [List.map, lite])
    (refine rt_op (wants_none rfl) (o_box rfl (by conv => lhs; whnf) (by conv => lhs; whnf) fun b5 => ?_))
    (refine rg rfl (g_assign (by conv => lhs; whnf)) rfl rfl ?_)
    refine rt_nil ?_
    refine q_then ?_
    refine ct_seq ?_
    (refine ct_region' rfl ?_; simp only [List.map, lite])
    (refine rg rfl (g_move (by conv => lhs; whnf)) rfl rfl ?_)
    (refine rt_op (wants_none rfl) (o_callE rfl rfl (ent_right (ent_right (Ent.refl _))) (Go.Proofs.Ytfcanppeiadbhaa.told_some _ _ _ _ _ _ _ _ ?_) fun i11 => ?_); (· (first | assumption | omega | rfl | decide | infer_instance | (simp; done) | (simp; omega) | (simp only [*]; done))))
    (refine rg rfl (g_move (by conv => lhs; whnf)) rfl rfl ?_)
    (refine rg rfl (g_extract rfl (by conv => lhs; whnf)) rfl rfl ?_)
    (refine rg rfl (g_extract rfl (by conv => lhs; whnf)) rfl rfl ?_)
    (refine rt_op (wants_none rfl) (o_alloc rfl (by conv => lhs; whnf) fun b7 => ?_))
    (refine rt_op (wants_none rfl) (o_storeAgg rfl (by conv => lhs; whnf) (by conv => lhs; whnf) (by first | rfl | exact bvsAll _ | exact wvs_all _ | assumption) (by first | rfl | assumption | (simp; done) | (simp; omega)) (by first | rfl | assumption | (simp; done) | (simp; omega)) ?_))
    (refine rg rfl (g_assign (by conv => lhs; whnf)) rfl rfl ?_)
    refine rt_nil ?_
    refine q_then ?_
    refine ct_seq ?_
    refine ct_seq ?_
    (refine ct_region' rfl ?_; simp only [List.map, lite])
    (refine rg rfl (g_move (by conv => lhs; whnf)) rfl rfl ?_)
    (refine rg rfl (g_notT rfl) rfl rfl ?_)
    (refine rg rfl (g_move (by conv => lhs; whnf)) rfl rfl ?_)
    (refine rgw rfl rfl rfl rfl (g_loadAgg_blk rfl (by first | rfl | assumption | (simp; done) | (simp; omega))) rfl rfl ?_)
    (refine rgw rfl rfl rfl rfl (g_loadAgg_blk rfl (by first | rfl | assumption | (simp; done) | (simp; omega))) rfl rfl ?_)
    (refine rgw rfl rfl rfl rfl (g_neS2F rfl rfl (by decide) (by kernel_rfl) (by kernel_rfl) ?_) rfl rfl ?_; (· (first | exact ⟨rfl, rfl⟩ | (constructor <;> omega))))
    (refine rg rfl (g_pick_f rfl (by conv => lhs; whnf)) rfl rfl ?_)
    refine rt_nil ?_
    refine q_then ?_
    refine ct_false rfl ?_
    refine ct_skip ?_
    refine q_then ?_
    refine ct_seq ?_
    refine ct_seq ?_
    (refine ct_region' rfl ?_; simp only [List.map, lite])
    (refine rg rfl (g_move (by conv => lhs; whnf)) rfl rfl ?_)
    (refine rg rfl (g_err_eq (by conv => lhs; whnf) (by first | exact .inl rfl | exact .inr ⟨_, _, rfl⟩ | assumption)) rfl rfl ?_)
    refine rt_nil ?_
    refine q_then ?_
    refine ct_false rfl ?_
    refine ct_skip ?_
    refine q_then ?_
    refine ct_seq ?_
    refine ct_seq ?_
    (refine ct_region' rfl ?_; simp only [List.map, lite])
    (refine rg rfl (g_move (by conv => lhs; whnf)) rfl rfl ?_)
    (refine rg rfl (g_nil rfl) rfl rfl ?_)
    (refine rg rfl (g_field0 rfl) rfl rfl ?_)
    (refine rg rfl (g_load rfl (by conv => lhs; whnf)) rfl rfl ?_)
    (refine rg rfl (g_err_eq (by conv => lhs; whnf) (by first | exact .inl rfl | exact .inr ⟨_, _, rfl⟩ | assumption)) rfl rfl ?_)
    refine rt_nil ?_
    refine q_then ?_
    refine ct_false rfl ?_
    refine ct_skip ?_
    refine q_then ?_
    refine ct_seq ?_
    (refine ct_region' rfl ?_; simp only [List.map, lite])
    (refine rg rfl (g_move (by conv => lhs; whnf)) rfl rfl ?_)
    (refine rg rfl (g_move (by conv => lhs; whnf)) rfl rfl ?_)
    (refine rg rfl (g_nil rfl) rfl rfl ?_)
    (refine rg rfl (g_field0 rfl) rfl rfl ?_)
    (refine rg rfl (g_load rfl (by conv => lhs; whnf)) rfl rfl ?_)
    (refine rt_op (wants_none rfl) (o_callE rfl rfl (Ent.refl _) (Go.Proofs.Ytfcanppeiadbhaa.oneErr_same _ _) fun i42 => ?_))
    (refine rg rfl (g_assign (by conv => lhs; whnf)) rfl rfl ?_)
    refine rt_nil ?_
    refine q_then ?_
    refine ct_ret ?_
    exact q_ret1 rfl rfl () rfl En.ent
theorem wrong_first (R : HP) (h p x : Nat) (v3 v4 v5 v6 : Value) (a : Option Addr) (cap : Nat) (xs : List UInt8) (pos q w : Nat) (he : EOk (some (q, w))) :
    Spec Try.prog 50 [.pointer (some ⟨h, 0, none⟩), .iface 22 (.pointer (some ⟨q, 0, none⟩)), errR w pos] (HB h p x .nilIface v3 v4 v5 v6 * (InA p a cap xs pos (some (q, w)) * R)) (fun _ : Unit => .bool true) (fun _ => HB h p x (.iface 22 (.pointer (some ⟨q, 0, none⟩))) v3 v4 v5 v6 * (InA p a cap xs pos (some (q, w)) * R)) := by
  refine spec_of Try.func50 rfl Try.ntmps50 rfl fun W0 => ?_
  focus
    refine ct_seq ?_
    (refine ct_region' rfl ?_; simp only [List.map, lite])
    (refine rt_op (wants_none rfl) (o_box rfl (by conv => lhs; whnf) (by conv => lhs; whnf) fun b5 => ?_))
    (refine rg rfl (g_assign (by conv => lhs; whnf)) rfl rfl ?_)
    refine rt_nil ?_
    refine q_then ?_
    refine ct_seq ?_
    (refine ct_region' rfl ?_; simp only [List.map, lite])
    (refine rg rfl (g_move (by conv => lhs; whnf)) rfl rfl ?_)
    (refine rt_op (wants_none rfl) (o_callE rfl rfl (ent_right (ent_right (Ent.refl _))) (Go.Proofs.Ytfcanppeiadbhaa.told_some _ _ _ _ _ _ _ _ ?_) fun i11 => ?_); (· (first | assumption | omega | rfl | decide | infer_instance | (simp; done) | (simp; omega) | (simp only [*]; done))))
    (refine rg rfl (g_move (by conv => lhs; whnf)) rfl rfl ?_)
    (refine rg rfl (g_extract rfl (by conv => lhs; whnf)) rfl rfl ?_)
    (refine rg rfl (g_extract rfl (by conv => lhs; whnf)) rfl rfl ?_)
    (refine rt_op (wants_none rfl) (o_alloc rfl (by conv => lhs; whnf) fun b7 => ?_))
    (refine rt_op (wants_none rfl) (o_storeAgg rfl (by conv => lhs; whnf) (by conv => lhs; whnf) (by first | rfl | exact bvsAll _ | exact wvs_all _ | assumption) (by first | rfl | assumption | (simp; done) | (simp; omega)) (by first | rfl | assumption | (simp; done) | (simp; omega)) ?_))
    (refine rg rfl (g_assign (by conv => lhs; whnf)) rfl rfl ?_)
    refine rt_nil ?_
    refine q_then ?_
    refine ct_seq ?_
    refine ct_seq ?_
    (refine ct_region' rfl ?_; simp only [List.map, lite])
    (refine rg rfl (g_move (by conv => lhs; whnf)) rfl rfl ?_)
    (refine rg rfl (g_notT rfl) rfl rfl ?_)
    (refine rg rfl (g_move (by conv => lhs; whnf)) rfl rfl ?_)
    (refine rgw rfl rfl rfl rfl (g_loadAgg_blk rfl (by first | rfl | assumption | (simp; done) | (simp; omega))) rfl rfl ?_)
    (refine rgw rfl rfl rfl rfl (g_loadAgg_blk rfl (by first | rfl | assumption | (simp; done) | (simp; omega))) rfl rfl ?_)
    (refine rgw rfl rfl rfl rfl (g_neS2F rfl rfl (by decide) (by kernel_rfl) (by kernel_rfl) ?_) rfl rfl ?_; (· (first | exact ⟨rfl, rfl⟩ | (constructor <;> omega))))
    (refine rg rfl (g_pick_f rfl (by conv => lhs; whnf)) rfl rfl ?_)
    refine rt_nil ?_
    refine q_then ?_
    refine ct_false rfl ?_
    refine ct_skip ?_
    refine q_then ?_
    refine ct_seq ?_
    refine ct_seq ?_
    (refine ct_region' rfl ?_; simp only [List.map, lite])
    (refine rg rfl (g_move (by conv => lhs; whnf)) rfl rfl ?_)
    (refine rg rfl (g_err_eq (by conv => lhs; whnf) (by first | exact .inl rfl | exact .inr ⟨_, _, rfl⟩ | assumption)) rfl rfl ?_)
    refine rt_nil ?_
    refine q_then ?_
    refine ct_false rfl ?_
    refine ct_skip ?_
    refine q_then ?_
    refine ct_seq ?_
    refine ct_seq ?_
    (refine ct_region' rfl ?_; simp only [List.map, lite])
    (refine rg rfl (g_move (by conv => lhs; whnf)) rfl rfl ?_)
    (refine rg rfl (g_nil rfl) rfl rfl ?_)
    (refine rg rfl (g_field0 rfl) rfl rfl ?_)
    (refine rg rfl (g_load rfl (by conv => lhs; whnf)) rfl rfl ?_)
    (refine rg rfl (g_err_eq (by conv => lhs; whnf) (by first | exact .inl rfl | exact .inr ⟨_, _, rfl⟩ | assumption)) rfl rfl ?_)
    refine rt_nil ?_
    refine q_then ?_
    refine ct_true rfl ?_
    (refine ct_region' rfl ?_; simp only [List.map, lite])
    (refine rg rfl (g_move (by conv => lhs; whnf)) rfl rfl ?_)
    (refine rg rfl (g_move (by conv => lhs; whnf)) rfl rfl ?_)
    (refine rg rfl (g_nil rfl) rfl rfl ?_)
    (refine rg rfl (g_field0 rfl) rfl rfl ?_)
    (refine rt_op (wants_none rfl) (o_store rfl (by conv => lhs; whnf) rfl rfl (by first | (simp only [List.set_cons_zero, List.set_cons_succ]; exact rfl) | exact rfl) ?_))
    refine rt_nil ?_
    refine q_then ?_
    refine ct_seq ?_
    (refine ct_region' rfl ?_; simp only [List.map, lite])
    (refine rg rfl (g_move (by conv => lhs; whnf)) rfl rfl ?_)
    (refine rg rfl (g_move (by conv => lhs; whnf)) rfl rfl ?_)
    (refine rg rfl (g_nil rfl) rfl rfl ?_)
    (refine rg rfl (g_field0 rfl) rfl rfl ?_)
    (refine rg rfl (g_load rfl (by conv => lhs; whnf)) rfl rfl ?_)
    (refine rt_op (wants_none rfl) (o_callE rfl rfl (Ent.refl _) (Go.Proofs.Ytfcanppeiadbhaa.oneErr_same _ _) fun i42 => ?_))
    (refine rg rfl (g_assign (by conv => lhs; whnf)) rfl rfl ?_)
    refine rt_nil ?_
    refine q_then ?_
    refine ct_ret ?_
    exact q_ret1 rfl rfl () rfl En.ent
theorem wrong_u (R : HP) (h p x : Nat) (v3 v4 v5 v6 : Value) (a : Option Addr) (cap : Nat) (xs : List UInt8) (pos w : Nat) (e0 e : Option (Nat × Nat)) (he : EOk e) (h0 : e0 = e ∨ e0 = none) (hw : w = whyOf e) :
    Spec Try.prog 50 [.pointer (some ⟨h, 0, none⟩), errV (e.map Prod.fst), errR w pos] (HB h p x (errV (e0.map Prod.fst)) v3 v4 v5 v6 * (InA p a cap xs pos e * R)) (fun _ : Unit => .bool true) (fun _ => HB h p x (errV (e.map Prod.fst)) v3 v4 v5 v6 * (InA p a cap xs pos e * R)) := by
  subst hw
  cases e with
  | none =>
    obtain rfl : e0 = none := by rcases h0 with h | h <;> exact h
    exact wrong_none _ h p x pos v3 v4 v5 v6
  | some y =>
    obtain ⟨q, w⟩ := y
    rcases h0 with rfl | rfl
    · exact wrong_same R h p x v3 v4 v5 v6 a cap xs pos q w he
    · exact wrong_first R h p x v3 v4 v5 v6 a cap xs pos q w he
theorem whyOf_nx {e : Option (Nat × Nat)} {q w : Nat} (h : whyOf e ≠ 0 → w = whyOf e) (he : EOk e) : whyOf (nx e q w) = w := by
  cases e with
  | some x => exact (h (he x rfl)).symm
  | none =>
    unfold nx
    by_cases hw : w = 0
    · subst hw; rfl
    · simp only [hw, if_false]; rfl
theorem nx_first {e : Option (Nat × Nat)} {q w : Nat} : e = nx e q w ∨ e = none := by
  cases e with
  | some x => exact .inl rfl
  | none => exact .inr rfl
end Go.Proofs.Ytfcanppeiadbhaa
