/- sha: a step of ShaPieces. -/
import Derived.Test.YtmhddmenmkjdlaaD2
import Derived.Test.YtmhddmenmkjdlaaStars
namespace Go.Proofs.Ytmhddmenmkjdlaa
open Go.RowKit
attribute [local irreducible] Gives RT CT QT Spec Wants Reads Src Ent OT RQ AnyT AnyOp Again Code.wp Post

structure PEnt where
  (k d : Nat) (a : Option Addr) (c : Nat) (b : List UInt8)
def PEnt.hp (e : PEnt) : HP := Blk e.k [.pointer (some ⟨e.d, 0, none⟩), .slice e.a e.b.length e.c] 37 * DigA e.d e.b
def PEnt.ok (X : HP) (e : PEnt) : Prop := Rd X e.a (e.b.map bv) ∧ e.b.length ≤ e.c ∧ (e.a = none → e.c = 0)
abbrev StepE (k d n : Nat) (a : Option Addr) (c : Nat) (b : List UInt8) := { t : PEnt × HP // t.1.k = k ∧ t.1.d = d ∧ t.1.b.length ≤ n ∧ ((t.1.a = a ∧ t.1.c = c ∧ t.1.b = b) ∨ t.1.ok t.2) }
set_option maxRecDepth 100000 in
set_option maxHeartbeats 8000000 in
theorem step_spec (R : HP) (k d : Nat) (a : Option Addr) (c : Nat) (b : List UInt8) (o : SOp) [hr : Rd R a (b.map bv)] [ho : Rd R o.a (o.b.map bv)] (hl : b.length + o.b.length ≤ 140737488351000) (hc : b.length ≤ c) (hn : a = none → c = 0) (hoc : o.b.length ≤ o.c) (hon : o.a = none → o.c = 0) :
    Spec Try.prog 20 [.pointer (some ⟨k, 0, none⟩), .agg o.cells.toArray] (Blk k [.pointer (some ⟨d, 0, none⟩), .slice a b.length c] 37 * (DigA d b * R)) (fun _ : StepE k d (b.length + o.b.length) a c b => .bool true) (fun t => t.1.1.hp * (t.1.2 * R)) := by
  refine spec_of Try.func20 rfl Try.ntmps20 rfl fun W0 => ?_
  obtain ⟨kind, on, oa, oc, ob⟩ := o
  unfold SOp.cells
  dsimp only at ho hl hoc hon ⊢
  focus
    refine ct_seq ?_
    (refine ct_region' rfl ?_; simp only [List.map, lite])
    (refine rt_op (wants_none rfl) (o_box rfl (by conv => lhs; whnf) (by conv => lhs; whnf) fun b3 => ?_))
    (refine rg rfl (g_assign (by conv => lhs; whnf)) rfl rfl ?_)
    refine rt_nil ?_
    refine q_then ?_
    refine ct_seq ?_
    refine ct_seq ?_
    (refine ct_region' rfl ?_; simp only [List.map, lite])
    (refine rg rfl (g_field0 rfl) rfl rfl ?_)
    (refine rg rfl (g_load rfl (by conv => lhs; whnf)) rfl rfl ?_)
    refine rt_nil ?_
    refine q_then ?_
    refine ct_block ?_
    refine ct_seq ?_
    (refine ct_region' rfl ?_; simp only [List.map, lite])
    (refine rg rfl (g_eql rfl rfl) rfl rfl ?_)
    (refine rg rfl (g_assign (by conv => lhs; whnf)) rfl rfl ?_)
    refine rt_nil ?_
    refine q_then ?_
    refine ct_if rfl (fun h20 => ?_) (fun h20 => ?_)
    refine ct_seq ?_
    (refine ct_region' rfl ?_; simp only [List.map, lite])
    (refine rg rfl (g_field0 rfl) rfl rfl ?_)
    (refine rg rfl (g_load rfl (by conv => lhs; whnf)) rfl rfl ?_)
    (refine rt_op (wants_none rfl) (o_appR rfl rfl rfl (by first | rfl | simp | (simp; omega)) (by first | rfl | exact bvsAll _ | exact wvs_all _ | assumption) (by rfl) (by rfl) ?_ (by first | with_reducible exact Nat.zero_add _ | exact rfl) (by first | with_reducible exact List.nil_append _ | exact List.map_append.symm | exact rfl) fun ad24 cap24 hc24 hn24 => ?_); (· (first | omega | decide)))
    (refine rg rfl (g_assign (by conv => lhs; whnf)) rfl rfl ?_)
    refine rt_nil ?_
    refine q_then ?_
    refine ct_seq ?_
    (refine ct_region' rfl ?_; simp only [List.map, lite])
    (refine rg rfl (g_move (by conv => lhs; whnf)) rfl rfl ?_)
    (refine rg rfl (g_nil rfl) rfl rfl ?_)
    (refine rg rfl (g_field0 rfl) rfl rfl ?_)
    (refine rg rfl (g_load rfl (by conv => lhs; whnf)) rfl rfl ?_)
    (refine rg rfl (g_move (by conv => lhs; whnf)) rfl rfl ?_)
    rotate_left
    refine ct_seq ?_
    (refine ct_region' rfl ?_; simp only [List.map, lite])
    (refine rg rfl (g_eql rfl rfl) rfl rfl ?_)
    (refine rg rfl (g_assign (by conv => lhs; whnf)) rfl rfl ?_)
    refine rt_nil ?_
    refine q_then ?_
    refine ct_if rfl (fun h54 => ?_) (fun h54 => ?_)
    refine ct_seq ?_
    refine ct_quiet (by kernel_rfl) rfl ?_
    simp only [List.map, lite]
    (refine qg rfl (g_move (by conv => lhs; whnf)) rfl rfl ?_)
    (refine qg rfl (g_nil rfl) rfl rfl ?_)
    (refine qg rfl (g_field0 rfl) rfl rfl ?_)
    (refine qg rfl (g_load rfl (by conv => lhs; whnf)) rfl rfl ?_)
    (refine rq_callE (wants_none rfl) rfl rfl (ent_right (ent_right (Ent.refl _))) (Go.Proofs.Ytmhddmenmkjdlaa.len_spec _ _ _ ?_) (fun _ => rfl) (fun _ => En.ent) ?_; (· (first | assumption | omega | rfl | decide | infer_instance | (simp; done) | (simp; omega) | (simp only [*]; done))))
    (refine qg rfl (g_move (by conv => lhs; whnf)) rfl rfl ?_)
    (refine qg rfl (g_nil rfl) rfl rfl ?_)
    (refine qg rfl (g_field0 rfl) rfl rfl ?_)
    (refine qg rfl (g_load rfl (by conv => lhs; whnf)) rfl rfl ?_)
    (refine qg rfl (g_len_slice rfl) rfl rfl ?_)
    (refine qg rfl (g_eqlT rfl rfl ?_) rfl rfl ?_; (· (omega)))
    (refine qg rfl (g_assign (by conv => lhs; whnf)) rfl rfl ?_)
    refine rq_nil ?_
    refine q_then ?_
    refine ct_ret ?_
    refine q_block_ret ?_
    refine q_then_ret ?_
    rotate_left
    refine ct_seq ?_
    (refine ct_region' rfl ?_; simp only [List.map, lite])
    (refine rg rfl (g_eql rfl rfl) rfl rfl ?_)
    (refine rg rfl (g_assign (by conv => lhs; whnf)) rfl rfl ?_)
    refine rt_nil ?_
    refine q_then ?_
    refine ct_if rfl (fun h67 => ?_) (fun h67 => ?_)
    refine ct_seq ?_
    (refine ct_region' rfl ?_; simp only [List.map, lite])
    (refine rg rfl (g_move (by conv => lhs; whnf)) rfl rfl ?_)
    (refine rg rfl (g_nil rfl) rfl rfl ?_)
    (refine rg rfl (g_field0 rfl) rfl rfl ?_)
    (refine rg rfl (g_load rfl (by conv => lhs; whnf)) rfl rfl ?_)
    (refine rt_op (wants_none rfl) (o_callE rfl rfl (ent_right (ent_right (Ent.refl _))) (Go.Proofs.Ytmhddmenmkjdlaa.reset_spec _ _ _) fun i73 => ?_))
    refine rt_nil ?_
    refine q_then ?_
    (refine ct_region' rfl ?_; simp only [List.map, lite])
    (refine rg rfl (g_move (by conv => lhs; whnf)) rfl rfl ?_)
    (refine rg rfl (g_nil rfl) rfl rfl ?_)
    (refine rg rfl (g_field0 rfl) rfl rfl ?_)
    (refine rt_op (wants_none rfl) (o_store rfl (by conv => lhs; whnf) rfl rfl (by first | (simp only [List.set_cons_zero, List.set_cons_succ]; exact rfl) | exact rfl) ?_))
    refine rt_nil ?_
    refine q_block ?_
    refine q_then ?_
    refine ct_seq ?_
    (refine ct_region' rfl ?_; simp only [List.map, lite])
    (refine rg rfl (g_assign (by conv => lhs; whnf)) rfl rfl ?_)
    refine rt_nil ?_
    refine q_then ?_
    refine ct_ret ?_
    rotate_left
    refine ct_seq ?_
    refine ct_quiet (by kernel_rfl) rfl ?_
    simp only [List.map, lite]
    (refine qg rfl (g_move (by conv => lhs; whnf)) rfl rfl ?_)
    (refine qg rfl (g_nil rfl) rfl rfl ?_)
    (refine qg rfl (g_field0 rfl) rfl rfl ?_)
    (refine qg rfl (g_load rfl (by conv => lhs; whnf)) rfl rfl ?_)
    (refine rq_callE (wants_none rfl) rfl rfl (ent_right (ent_right (Ent.refl _))) (Go.Proofs.Ytmhddmenmkjdlaa.sum_spec _ _ _ ?_) (fun _ => rfl) (fun _ => En.ent) ?_; (· (first | assumption | omega | rfl | decide | infer_instance | (simp; done) | (simp; omega) | (simp only [*]; done))))
    (refine qg rfl (g_move (by conv => lhs; whnf)) rfl rfl ?_)
    (refine qg rfl (g_nil rfl) rfl rfl ?_)
    (refine qg rfl (g_field0 rfl) rfl rfl ?_)
    (refine qg rfl (g_load rfl (by conv => lhs; whnf)) rfl rfl ?_)
    (refine rq_callE (wants_none rfl) rfl rfl (Ent.refl _) (Go.Proofs.Ytmhddmenmkjdlaa.ofR_spec _ _ _ _ ?_) (fun _ => rfl) (fun _ => En.ent) ?_; (· (first | assumption | omega | rfl | decide | infer_instance | (simp; done) | (simp; omega) | (simp only [*]; done))))
    (refine qg rfl (g_eqHT rfl rfl (by kernel_rfl) (by first | rfl | assumption | (simp; done) | (simp; omega)) ?_) rfl rfl ?_; (· (first | rfl | assumption)))
    (refine qg rfl (g_assign (by conv => lhs; whnf)) rfl rfl ?_)
    refine rq_nil ?_
    refine q_then ?_
    refine ct_ret ?_
    refine q_block_ret ?_
    refine q_then_ret ?_
    rotate_left
  · refine rt_ar ad24 fun _ hx _ _ => ?_
    have hx2 : ad24 = none → cap24 = 0 := fun h => (hx h).2
    focus
      (refine rt_op (wants_none rfl) (o_callE rfl rfl (ent_right (ent_right (ent_right (Ent.refl _)))) (Go.Proofs.Ytmhddmenmkjdlaa.write_spec _ _ _ _ _ _ ?_ ?_ ?_) fun i30 => ?_); (· (first | assumption | omega | rfl | decide | infer_instance | (simp; done) | (simp; omega) | (simp only [*]; done))); (· (first | assumption | omega | rfl | decide | infer_instance | (simp; done) | (simp; omega) | (simp only [*]; done))); (· (first | assumption | omega | rfl | decide | infer_instance | (simp; done) | (simp; omega) | (simp only [*]; done))))
      refine rt_nil ?_
      refine q_then ?_
      refine ct_seq ?_
      refine ct_seq ?_
      (refine ct_region' rfl ?_; simp only [List.map, lite])
      (refine rg rfl (g_assign (by conv => lhs; whnf)) rfl rfl ?_)
      refine rt_nil ?_
      refine q_then ?_
      refine ct_block ?_
      rotate_left
    refine ct_loop (ι := { i : Nat × List Int // i.1 ≤ ob.length ∧ i.2.length = ob.length }) (fun i => [(0, .pointer (some ⟨k, 0, none⟩)), (3, .pointer (some ⟨b3, 0, none⟩)), (5, .slice ad24 ob.length cap24), (6, .int .i64 (i.1.1 : Int))]) (fun i => Arr 5 1 ad24 cap24 ob.length (i.1.2.map (Value.int .u8)) * (DigA d (b ++ ob) * (Blk b3 [Value.int IntKind.i64 kind, Value.int IntKind.i64 on, Value.slice oa ob.length oc] 40 * (Blk k [Value.pointer (some { block := d, off := 0 }), Value.slice a b.length c] 37 * R)))) (fun i => ob.length - i.1.1)
      ⟨(0, ob.map fun c => (c.toNat : Int)), by omega, by simp⟩ ⟨rfl, rfl, rfl, rfl, trivial⟩ (by dsimp only; rw [List.map_map]; show Ent _ (Arr 5 1 ad24 cap24 ob.length (ob.map bv) * _); exact En.ent) fun i ρ' => ?_
    obtain ⟨⟨i, zs⟩, hi1, hzl⟩ := i
    dsimp only at hi1 hzl ⊢
    by_cases h : i < ob.length
    · focus
        refine ct_seq ?_
        refine ct_seq ?_
        (refine ct_region' rfl ?_; simp only [List.map, lite])
        (refine rg rfl (g_move (by conv => lhs; whnf)) rfl rfl ?_)
        (refine rg rfl (g_move (by conv => lhs; whnf)) rfl rfl ?_)
        (refine rg rfl (g_len_slice rfl) rfl rfl ?_)
        (refine rg rfl (g_lssT rfl rfl ?_) rfl rfl ?_; (· (omega)))
        refine rt_nil ?_
        refine q_then ?_
        refine ct_true rfl ?_
        refine ct_skip ?_
        refine q_then ?_
        refine ct_seq ?_
        refine ct_block ?_
        (refine ct_region' rfl ?_; simp only [List.map, lite])
        (refine rg rfl (g_move (by conv => lhs; whnf)) rfl rfl ?_)
        (refine rg rfl (g_move (by conv => lhs; whnf)) rfl rfl ?_)
        (refine rg rfl (g_elemO1 rfl rfl ?_ ?_) rfl rfl ?_; (· (first | omega | decide)); (· (first | omega | decide | (exact pos_of_get (by assumption)) | (simp only [List.length_map, List.length_append, List.length_replicate, List.length_set, List.length_cons, List.length_nil]; omega) | (simp; omega))))
        (refine rg rfl (g_load_rd rfl (int_at ?_)) rfl rfl ?_; (· (first | omega | decide | (exact pos_of_get (by assumption)) | (simp only [List.length_map, List.length_append, List.length_replicate, List.length_set, List.length_cons, List.length_nil]; omega) | (simp; omega))))
        (refine rg rfl (g_xor rfl rfl) rfl rfl ?_)
        (refine rg rfl (g_elemO1 rfl rfl ?_ ?_) rfl rfl ?_; (· (first | omega | decide)); (· (first | omega | decide | (exact pos_of_get (by assumption)) | (simp only [List.length_map, List.length_append, List.length_replicate, List.length_set, List.length_cons, List.length_nil]; omega) | (simp; omega))))
        (refine rt_op (wants_none rfl) (o_storeArr rfl (by conv => lhs; whnf) rfl ?_ (by first | (simp only [List.set_cons_zero, List.set_cons_succ]; exact rfl) | exact rfl) ?_); (· (first | omega | decide | (exact pos_of_get (by assumption)) | (simp only [List.length_map, List.length_append, List.length_replicate, List.length_set, List.length_cons, List.length_nil]; omega) | (simp; omega))))
        refine rt_nil ?_
        refine q_block ?_
        refine q_then ?_
        (refine ct_region' rfl ?_; simp only [List.map, lite])
        (refine rg rfl (g_move (by conv => lhs; whnf)) rfl rfl ?_)
        (refine rg rfl (g_addN rfl rfl ?_) rfl rfl ?_; (· (constructor <;> omega)))
        (refine rg rfl (g_assign (by conv => lhs; whnf)) rfl rfl ?_)
        refine rt_nil ?_
        rotate_left
      rw [← List.map_set]
      exact q_again ⟨(i + 1, zs.set i _), by omega, by rw [List.length_set]; exact hzl⟩ (by show ob.length - (i + 1) < ob.length - i; omega) ⟨rfl, rfl, rfl, rfl, trivial⟩ (Ent.refl _)
    · focus
        refine ct_seq ?_
        refine ct_seq ?_
        (refine ct_region' rfl ?_; simp only [List.map, lite])
        (refine rg rfl (g_move (by conv => lhs; whnf)) rfl rfl ?_)
        (refine rg rfl (g_move (by conv => lhs; whnf)) rfl rfl ?_)
        (refine rg rfl (g_len_slice rfl) rfl rfl ?_)
        (refine rg rfl (g_lssF rfl rfl ?_) rfl rfl ?_; (· (omega)))
        refine rt_nil ?_
        refine q_then ?_
        refine ct_false rfl ?_
        refine ct_exit ?_
        refine q_then_exit ?_
        refine q_then_exit ?_
        refine q_block_exit ?_
        refine q_then ?_
        refine ct_anyA 11 ?_
        (refine any_take 0 rfl (by kernel_rfl) (by first | exact Ent.refl _ | exact En.ent) (wants_none rfl) (g_move (by conv => lhs; whnf)) rfl rfl ?_)
        (refine any_take 1 rfl (by kernel_rfl) (by first | exact Ent.refl _ | exact En.ent) (wants_none rfl) (g_move (by conv => lhs; whnf)) rfl rfl ?_)
        (refine any_take 2 rfl (by kernel_rfl) (by first | exact Ent.refl _ | exact En.ent) (wants_none rfl) (g_nil rfl) rfl rfl ?_)
        (refine any_take 3 rfl (by kernel_rfl) (by first | exact Ent.refl _ | exact En.ent) (wants_none rfl) (g_field0 rfl) rfl rfl ?_)
        (refine any_take 4 rfl (by kernel_rfl) (by first | exact Ent.refl _ | exact En.ent) (wants_none rfl) (g_load rfl (by conv => lhs; whnf)) rfl rfl ?_)
        (refine any_take 6 rfl (by kernel_rfl) (by first | exact Ent.refl _ | exact En.ent) (wants_none rfl) (g_field0 rfl) rfl rfl ?_)
        (refine any_take 7 rfl (by kernel_rfl) (by first | exact Ent.refl _ | exact En.ent) (wants_none rfl) (g_load rfl (by conv => lhs; whnf)) rfl rfl ?_)
        (refine any_one 5 (by kernel_rfl) rfl (wants_none rfl) (o_appR rfl rfl rfl (by first | rfl | simp | (simp; omega)) (by first | rfl | exact bvsAll _ | exact wvs_all _ | assumption) (by rfl) (by rfl) ?_ (by first | with_reducible exact Nat.zero_add _ | exact rfl) (by first | with_reducible exact List.nil_append _ | exact List.map_append.symm | exact rfl) fun ad48 cap48 hc48 hn48 => ⟨.inr (by first | exact Ent.refl _ | exact En.ent), ?_⟩); (· (first | omega | decide)))
        (refine any_one 8 (by kernel_rfl) rfl (wants_none rfl) (o_appR rfl rfl rfl (by first | rfl | simp | (simp; omega)) (by first | rfl | exact bvsAll _ | exact wvs_all _ | assumption) (by rfl) (by rfl) ?_ (by first | with_reducible exact Nat.zero_add _ | exact rfl) (by first | with_reducible exact List.nil_append _ | exact List.map_append.symm | exact rfl) fun ad51 cap51 hc51 hn51 => ⟨.inr (by first | exact Ent.refl _ | exact En.ent), ?_⟩); (· (first | omega | decide)))
        (refine any_one 9 (by kernel_rfl) rfl (wants_none rfl) (o_give (g_nil rfl) rfl rfl ⟨.inr (by first | exact Ent.refl _ | exact En.ent), ?_⟩))
        (refine any_take 10 rfl (by kernel_rfl) (by first | exact Ent.refl _ | exact En.ent) (wants_none rfl) (g_field0 rfl) rfl rfl ?_)
        (refine any_one 11 (by kernel_rfl) rfl (wants_none rfl) (o_store rfl (by conv => lhs; whnf) rfl rfl (by first | (simp only [List.set_cons_zero, List.set_cons_succ]; exact rfl) | exact rfl) ⟨.inl rfl, ?_⟩))
        refine any_done (by kernel_rfl) ?_
        refine q_block ?_
        refine q_then ?_
        refine ct_seq ?_
        (refine ct_region' rfl ?_; simp only [List.map, lite])
        (refine rg rfl (g_assign (by conv => lhs; whnf)) rfl rfl ?_)
        refine rt_nil ?_
        refine q_then ?_
        refine ct_ret ?_
        rotate_left
      refine qt_ar ad51 fun _ hx3 hx4 _ => ?_
      refine q_ret1 rfl (by conv => lhs; whnf) ⟨(⟨k, d, ad51, cap51, b ++ ob⟩, Arr 5 1 ad51 cap51 (b.length + ob.length) ((b ++ ob).map bv)), rfl, rfl, by simp, .inr ⟨inferInstance, by simpa using hx4, fun h => (hx3 h).2⟩⟩ rfl ?_
      unfold PEnt.hp
      dsimp only
      rw [List.length_append]
      exact En.ent
  · exact q_ret1 rfl (by conv => lhs; whnf) ⟨(⟨k, d, a, c, b⟩, emp), rfl, rfl, by show b.length ≤ _; omega, .inl ⟨rfl, rfl, rfl⟩⟩ rfl (by unfold PEnt.hp; exact En.ent)
  · exact q_ret1 rfl (by conv => lhs; whnf) ⟨(⟨k, d, none, 0, []⟩, emp), rfl, rfl, by simp, .inr ⟨⟨fun _ _ _ _ => rfl, fun _ h => (by cases h)⟩, by simp, fun _ => rfl⟩⟩ rfl (by unfold PEnt.hp; exact En.ent)
  · exact q_ret1 rfl (by conv => lhs; whnf) ⟨(⟨k, d, a, c, b⟩, emp), rfl, rfl, by show b.length ≤ _; omega, .inl ⟨rfl, rfl, rfl⟩⟩ rfl (by unfold PEnt.hp; exact En.ent)
end Go.Proofs.Ytmhddmenmkjdlaa
