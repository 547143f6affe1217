/- sha: Digest.Len, Reset, Copy; place; beyond. -/
import Derived.Test.YtmhddmenmkjdlaaT2
namespace Go.Proofs.Ytmhddmenmkjdlaa
open Go.RowKit
attribute [local irreducible] Gives RT CT QT Spec Wants Reads Src Ent OT RQ AnyT AnyOp Again Code.wp Post

theorem dgC_one {w : S8} {r : List UInt8} {n : Nat} : (dgC w r n).all Value.oneCell' = true := by
  rw [List.all_eq_true]
  intro v hv
  unfold dgC at hv
  simp only [List.mem_append, List.mem_map, List.mem_singleton] at hv
  rcases hv with ⟨x, _, rfl⟩ | ⟨x, _, rfl⟩ | rfl <;> rfl
theorem len_spec (R : HP) (d : Nat) (bs : List UInt8) (hl : bs.length ≤ 140737488354000) :
    Spec Try.prog 22 [.pointer (some ⟨d, 0, none⟩)] (DigA d bs * R) (fun _ : Unit => .int .i64 (bs.length : Int)) (fun _ => DigA d bs * R) := by
  refine spec_of Try.func22 rfl Try.ntmps22 rfl fun W0 => ?_
  refine ct_ent (B := DigA d bs * R) ?_ (Ent.refl _)
  unfold DigA
  refine ct_ex fun t => ?_
  obtain ⟨⟨w, r⟩, hd⟩ := t
  dsimp only at hd ⊢
  have hcn := dgC_num (w := w) (n := bs.length) hd.2.1
  focus
    refine ct_seq ?_
    (refine ct_region' rfl ?_; simp only [List.map, lite])
    (refine rg rfl (g_assign (by conv => lhs; whnf)) rfl rfl ?_)
    refine rt_nil ?_
    refine q_then ?_
    refine ct_seq ?_
    (refine ct_region' rfl ?_; simp only [List.map, lite])
    (refine rg rfl (g_move (by conv => lhs; whnf)) rfl rfl ?_)
    (refine rg rfl (g_nil rfl) rfl rfl ?_)
    (refine rg rfl (g_field0 rfl) rfl rfl ?_)
    (refine rg rfl (g_load rfl (by assumption)) rfl rfl ?_)
    (refine rg rfl (g_assign (by conv => lhs; whnf)) rfl rfl ?_)
    refine rt_nil ?_
    refine q_then ?_
    refine ct_ret ?_
    rotate_left
  exact q_ret1 rfl (by conv => lhs; whnf) () rfl (Ent.mul (dig_mk hd) (Ent.refl _))
theorem reset_spec (R : HP) (d : Nat) (bs : List UInt8) :
    Spec Try.prog 35 [.pointer (some ⟨d, 0, none⟩)] (DigA d bs * R) (fun _ : Unit => .tuple #[]) (fun _ => DigA d [] * R) := by
  refine spec_of Try.func35 rfl Try.ntmps35 rfl fun W0 => ?_
  refine ct_ent (B := DigA d bs * R) ?_ (Ent.refl _)
  unfold DigA
  refine ct_ex fun t => ?_
  obtain ⟨⟨w, r⟩, hd⟩ := t
  dsimp only at hd ⊢
  have hcl := dgC_len (w := w) (n := bs.length) hd.2.1
  focus
    (refine ct_region' rfl ?_; simp only [List.map, lite])
    (refine rg rfl (g_move (by conv => lhs; whnf)) rfl rfl ?_)
    (refine rt_op (wants_none rfl) (o_callE rfl rfl (Ent.refl _) (Go.Proofs.Ytmhddmenmkjdlaa.begins_spec _) fun i3 => ?_))
    (refine rg rfl (g_build (cells := dgC begins8 (List.replicate 64 0) 0) (by simp only [ev, upd, updl, argl, nat_beq_def, Nat.reduceBEq, cond_true, cond_false, List.map_cons, List.map_nil]; rfl) (by kernel_rfl)) rfl rfl ?_)
    (refine rg rfl (g_nil rfl) rfl rfl ?_)
    (refine rt_op (wants_none rfl) (o_storeAgg (vl := dgC begins8 (List.replicate 64 0) (0 : Nat)) rfl rfl rfl dgC_one (dgC_len rfl) hcl ?_))
    refine rt_nil ?_
    rotate_left
  exact q_ret0 rfl () rfl (by show Ent (Blk d (dgC begins8 (List.replicate 64 0) (([] : List UInt8).length : Int)) _ * R) _; exact Ent.mul (dig_mk ⟨rfl, rfl, rfl⟩) (Ent.refl _)) (by first | exact .inl rfl | exact .inr rfl)
theorem copy_spec (R : HP) (d : Nat) (bs : List UInt8) :
    Spec Try.prog 19 [.pointer (some ⟨d, 0, none⟩)] (DigA d bs * R) (fun e : Nat => .pointer (some ⟨e, 0, none⟩)) (fun e => DigA e bs * (DigA d bs * R)) := by
  refine spec_of Try.func19 rfl Try.ntmps19 rfl fun W0 => ?_
  refine ct_ent (B := DigA d bs * R) ?_ (Ent.refl _)
  unfold DigA
  refine ct_ex fun t => ?_
  obtain ⟨⟨w, r⟩, hd⟩ := t
  dsimp only at hd ⊢
  have hcl := dgC_len (w := w) (n := bs.length) hd.2.1
  focus
    refine ct_seq ?_
    (refine ct_region' rfl ?_; simp only [List.map, lite])
    (refine rg rfl (g_assign (by conv => lhs; whnf)) rfl rfl ?_)
    refine rt_nil ?_
    refine q_then ?_
    refine ct_seq ?_
    (refine ct_region' rfl ?_; simp only [List.map, lite])
    (refine rg rfl (g_move (by conv => lhs; whnf)) rfl rfl ?_)
    (refine rg rfl (g_nil rfl) rfl rfl ?_)
    (refine rg rfl (g_loadAgg_blk rfl (by first | rfl | assumption | (simp; done) | (simp; omega))) rfl rfl ?_)
    (refine rt_op (wants_none rfl) (o_alloc rfl (by conv => lhs; whnf) fun b3 => ?_))
    (refine rt_op (wants_none rfl) (o_storeAgg (vl := dgC w r bs.length) rfl rfl rfl dgC_one hcl rfl ?_))
    refine rt_nil ?_
    refine q_then ?_
    refine ct_seq ?_
    (refine ct_region' rfl ?_; simp only [List.map, lite])
    (refine rg rfl (g_assign (by conv => lhs; whnf)) rfl rfl ?_)
    refine rt_nil ?_
    refine q_then ?_
    refine ct_ret ?_
    rotate_left
  exact q_ret1 rfl (by conv => lhs; whnf) b3 rfl (Ent.mul (dig_mk hd) (Ent.mul (dig_mk hd) (Ent.refl _)))
end Go.Proofs.Ytmhddmenmkjdlaa
