/- An Out, what is laid read wherever it is; 'lay' of the statements. -/
import Derived.Test.YtfcanppeiadbhaaB4
namespace Go.Proofs.Ytfcanppeiadbhaa
open Go.RowKit
attribute [local irreducible] Gives RT CT QT Spec Wants Reads Src Ent OT RQ AnyT AnyOp Again Code.wp Post

theorem outRaw_spec (R : HP) (p : Nat) (xs ys : List UInt8) (a : Option Addr) (c : Nat) [hr : Rd R a (ys.map bv)] (hl : xs.length + ys.length ≤ 140737488355328) :
    Spec Try.prog 37 [.pointer (some ⟨p, 0, none⟩), .slice a ys.length c] (IsOut p xs * R) (fun _ : Unit => .tuple #[]) (fun _ => IsOut p (xs ++ ys) * R) := by
  refine spec_of Try.func37 rfl Try.ntmps37 rfl fun W0 => ?_
  refine ct_ex fun v => ?_
  focus
    (refine ct_region' rfl ?_; simp only [List.map, lite])
    (refine rg rfl (g_move (by conv => lhs; whnf)) rfl rfl ?_)
    (refine rg rfl (g_move (by conv => lhs; whnf)) rfl rfl ?_)
    (refine rg rfl (g_nil rfl) rfl rfl ?_)
    (refine rg rfl (g_field0 rfl) rfl rfl ?_)
    (refine rg rfl (g_load rfl (by conv => lhs; whnf)) rfl rfl ?_)
    (refine rg rfl (g_move (by conv => lhs; whnf)) rfl rfl ?_)
    (refine rt_op (wants_none rfl) (o_appR rfl rfl rfl (by first | rfl | simp | (simp; omega)) (by first | rfl | exact bvsAll _ | exact wvs_all _ | assumption) (by rfl) (by rfl) ?_ (by first | with_reducible exact Nat.zero_add _ | exact rfl) (by first | with_reducible exact List.nil_append _ | exact List.map_append.symm | exact rfl) fun ad10 cap10 hc10 hn10 => ?_); (· (first | omega | decide)))
    (refine rg rfl (g_nil rfl) rfl rfl ?_)
    (refine rg rfl (g_field0 rfl) rfl rfl ?_)
    (refine rt_op (wants_none rfl) (o_store rfl (by conv => lhs; whnf) rfl rfl (by first | (simp only [List.set_cons_zero, List.set_cons_succ]; rfl) | rfl) ?_))
    refine rt_nil ?_
    rotate_left
  exact q_ret0 rfl () rfl (isOut_mk _ _ _ _ (by simp) (by simp)) (.inl rfl)
theorem layBytes_spec (R : HP) (p : Nat) (xs ys : List UInt8) (a : Option Addr) (c : Nat) [hr : Rd R a (ys.map bv)] (hy : ys.length < 2 ^ 64) (hl : xs.length + 10 + ys.length ≤ 140737488355328) :
    Spec Try.prog 62 [.pointer (some ⟨p, 0, none⟩), .slice a ys.length c] (IsOut p xs * R) (fun _ : Unit => .tuple #[]) (fun _ => IsOut p (xs ++ (numForm ys.length ++ ys)) * R) := by
  refine spec_of Try.func62 rfl Try.ntmps62 rfl fun W0 => ?_
  have h10 := numForm_ten hy
  have hT : (xs ++ numForm ys.length).length + ys.length ≤ 140737488355328 := by rw [List.length_append]; omega
  focus
    refine ct_seq ?_
    (refine ct_region' rfl ?_; simp only [List.map, lite])
    (refine rg rfl (g_move (by conv => lhs; whnf)) rfl rfl ?_)
    (refine rg rfl (g_move (by conv => lhs; whnf)) rfl rfl ?_)
    (refine rg rfl (g_len_slice rfl) rfl rfl ?_)
    (refine rg rfl (g_convN rfl ?_) rfl rfl ?_; (· (constructor <;> omega)))
    (refine rt_op (wants_none rfl) (o_callE rfl rfl (Ent.refl _) (Go.Proofs.Ytfcanppeiadbhaa.out_number _ _ _ _ ?_ ?_) fun i8 => ?_); (· (first | assumption | omega | rfl | decide | (simp; done) | (simp; omega) | (simp only [*]; done))); (· (first | assumption | omega | rfl | decide | (simp; done) | (simp; omega) | (simp only [*]; done))))
    refine rt_nil ?_
    refine q_then ?_
    (refine ct_region' rfl ?_; simp only [List.map, lite])
    (refine rg rfl (g_move (by conv => lhs; whnf)) rfl rfl ?_)
    (refine rg rfl (g_move (by conv => lhs; whnf)) rfl rfl ?_)
    (refine rg rfl (g_nil rfl) rfl rfl ?_)
    (refine rg rfl (g_field0 rfl) rfl rfl ?_)
    rotate_left
  refine rt_ex fun v => ?_
  focus
    (refine rg rfl (g_load rfl (by conv => lhs; whnf)) rfl rfl ?_)
    (refine rg rfl (g_move (by conv => lhs; whnf)) rfl rfl ?_)
    (refine rt_op (wants_none rfl) (o_appR rfl rfl rfl (by first | rfl | simp | (simp; omega)) (by first | rfl | exact bvsAll _ | exact wvs_all _ | assumption) (by rfl) (by rfl) ?_ (by first | with_reducible exact Nat.zero_add _ | exact rfl) (by first | with_reducible exact List.nil_append _ | exact List.map_append.symm | exact rfl) fun ad15 cap15 hc15 hn15 => ?_); (· (first | omega | decide)))
    (refine rg rfl (g_nil rfl) rfl rfl ?_)
    (refine rg rfl (g_field0 rfl) rfl rfl ?_)
    (refine rt_op (wants_none rfl) (o_store rfl (by conv => lhs; whnf) rfl rfl (by first | (simp only [List.set_cons_zero, List.set_cons_succ]; rfl) | rfl) ?_))
    refine rt_nil ?_
    rotate_left
  exact q_ret0 rfl () rfl (isOut_mk _ _ _ _ (by simp; omega) (by simp)) (.inl rfl)
theorem outBytes_spec (R : HP) (p : Nat) (xs ys : List UInt8) (a : Option Addr) (c : Nat) [hr : Rd R a (ys.map bv)] (hy : ys.length < 2 ^ 64) (hl : xs.length + 10 + ys.length ≤ 140737488355328) :
    Spec Try.prog 38 [.pointer (some ⟨p, 0, none⟩), .slice a ys.length c] (IsOut p xs * R) (fun _ : Unit => .tuple #[]) (fun _ => IsOut p (xs ++ (numForm ys.length ++ ys)) * R) := by
  refine spec_of Try.func38 rfl Try.ntmps38 rfl fun W0 => ?_
  focus
    (refine ct_region' rfl ?_; simp only [List.map, lite])
    (refine rg rfl (g_move (by conv => lhs; whnf)) rfl rfl ?_)
    (refine rg rfl (g_move (by conv => lhs; whnf)) rfl rfl ?_)
    (refine rt_op (wants_none rfl) (o_callE rfl rfl (Ent.refl _) (Go.Proofs.Ytfcanppeiadbhaa.layBytes_spec _ _ _ _ _ _ ?_ ?_) fun i6 => ?_); (· (first | assumption | omega | rfl | decide | (simp; done) | (simp; omega) | (simp only [*]; done))); (· (first | assumption | omega | rfl | decide | (simp; done) | (simp; omega) | (simp only [*]; done))))
    refine rt_nil ?_
    exact q_ret0 rfl () rfl En.ent (by first | exact .inl rfl | exact .inr rfl)
theorem outText_spec (R : HP) (p : Nat) (xs ys : List UInt8) (hy : ys.length < 2 ^ 64) (hl : xs.length + 10 + ys.length ≤ 140737488355328) :
    Spec Try.prog 32 [.pointer (some ⟨p, 0, none⟩), .string ⟨ys.toArray⟩] (IsOut p xs * R) (fun _ : Unit => .tuple #[]) (fun _ => IsOut p (xs ++ (numForm ys.length ++ ys)) * R) := out_text R p xs ⟨ys.toArray⟩ hy hl

theorem byte_conv (x : Nat) : Value.int .u8 (IntKind.u8.wrap (x : Int)) = bv (UInt8.ofNat (x % 256)) := by
  show _ = Value.int .u8 (((UInt8.ofNat (x % 256)).toNat : Nat) : Int)
  rw [UInt8.toNat_ofNat_of_lt' (by show _ < 256; omega)]
  congr 1
theorem wrap_i64_in (z : Int) : -9223372036854775808 ≤ IntKind.i64.wrap z ∧ IntKind.i64.wrap z ≤ 9223372036854775807 := by
  rw [IntKind.wrap_i64]; omega
/-- a call of a script -/
structure OpV where
  (kind : Int) (x : Nat) (n : Int) (a : Option Addr) (c : Nat) (b : List UInt8)
def OpV.cells (o : OpV) : List Value := [.int .i64 o.kind, .int .u64 (o.x : Int), .int .i64 o.n, .slice o.a o.b.length o.c]
def OpV.form (o : OpV) : List UInt8 :=
  if o.kind = 0 then [UInt8.ofNat (o.x % 256)] else if o.kind = 1 then numForm o.x else if o.kind = 2 then numForm (zig (IntKind.i64.wrap (o.x : Int)))
  else if o.kind = 3 then o.b else if o.kind = 4 then numForm o.b.length ++ o.b else if o.kind = 5 then numForm o.b.length ++ o.b else if o.kind = 6 then hash32 o.b else []
theorem lay_spec (R : HP) (p : Nat) (ys xs : List UInt8) (a : Option Addr) (c : Nat) (o : OpV) [hr : Rd R o.a (o.b.map bv)] (hx : o.x < 2 ^ 64) (hl : xs.length + 32 + o.b.length ≤ 140737488351232) (hl2 : ys.length + 32 + o.b.length ≤ 140737488351232) :
    Spec Try.prog 12 [.pointer (some ⟨p, 0, none⟩), .slice a xs.length c, .agg o.cells.toArray] (IsOut p ys * (Arr 5 1 a c xs.length (xs.map bv) * R)) (fun i : { i : Option Addr × Nat // a ≠ none → i.1 ≠ none } => .slice i.1.1 (xs ++ o.form).length i.1.2)
      (fun i => Arr 5 1 i.1.1 i.1.2 (xs ++ o.form).length ((xs ++ o.form).map bv) * (IsOut p (ys ++ o.form) * R)) := by
  refine spec_of Try.func12 rfl Try.ntmps12 rfl fun W0 => ?_
  obtain ⟨kind, x, n, oa, oc, b⟩ := o
  dsimp only at hr hx hl hl2
  unfold OpV.cells
  dsimp only
  have hw := wrap_i64_in (x : Int)
  have hz := zig_lt hw
  have h32 := hash32_len b
  generalize hF : OpV.form ⟨kind, x, n, oa, oc, b⟩ = F
  symm at hF
  focus
    refine ct_seq ?_
    (refine ct_region' rfl ?_; simp only [List.map, lite])
    (refine rt_op (wants_none rfl) (o_box rfl (by conv => lhs; whnf) (by conv => lhs; whnf) fun b5 => ?_))
    (refine rg rfl (g_assign (by conv => lhs; whnf)) rfl rfl ?_)
    refine rt_nil ?_
    refine q_then ?_
    refine ct_seq ?_
    (refine ct_region' rfl ?_; simp only [List.map, lite])
    (refine rg rfl (g_field0 rfl) rfl rfl ?_)
    (refine rg rfl (g_load rfl (by conv => lhs; whnf)) rfl rfl ?_)
    (refine rt_op (wants_none rfl) (o_callE rfl rfl (Ent.refl _) (Go.Proofs.Ytfcanppeiadbhaa.wide_spec _ _ _ _ ?_) fun i11 => ?_); (· (first | assumption | omega | rfl | decide | (simp; done) | (simp; omega) | (simp only [*]; done))))
    (refine rg rfl (g_assign (by conv => lhs; whnf)) rfl rfl ?_)
    refine rt_nil ?_
    refine q_then ?_
    rotate_left
  refine ct_cut (ι := { i : Option Addr × Nat // a ≠ none → i.1 ≠ none }) (fun i => [(7, .slice i11.1.1 b.length i11.1.2), (5, .pointer (some ⟨b5, 0, none⟩)), (1, .slice i.1.1 (xs ++ F).length i.1.2)])
    (fun i => Arr 5 1 i.1.1 i.1.2 (xs ++ F).length ((xs ++ F).map bv) * (IsOut p (ys ++ F) * (WideA i11.1.1 i11.1.2 b * (Blk b5 [.int .i64 kind, .int .u64 (x : Int), .int .i64 n, .slice oa b.length oc] 43 * R)))) ?_ ?_
  · focus
      refine ct_seq ?_
      (refine ct_region' rfl ?_; simp only [List.map, lite])
      (refine rg rfl (g_field0 rfl) rfl rfl ?_)
      (refine rg rfl (g_load rfl (by conv => lhs; whnf)) rfl rfl ?_)
      refine rt_nil ?_
      refine q_then ?_
      refine ct_block ?_
      refine ct_seq ?_
      (refine ct_region' rfl ?_; simp only [List.map, lite])
      (refine rg rfl (g_eql rfl rfl) rfl rfl ?_)
      (refine rg rfl (g_assign (by conv => lhs; whnf)) rfl rfl ?_)
      refine rt_nil ?_
      refine q_then ?_
      refine ct_if rfl (fun h14 => ?_) (fun h14 => ?_)
      refine ct_seq ?_
      (refine ct_region' rfl ?_; simp only [List.map, lite])
      (refine rg rfl (g_move (by conv => lhs; whnf)) rfl rfl ?_)
      (refine rg rfl (g_field0 rfl) rfl rfl ?_)
      (refine rg rfl (g_load rfl (by conv => lhs; whnf)) rfl rfl ?_)
      (refine rg rfl (g_as (byte_conv _) (g_conv rfl)) rfl rfl ?_)
      (refine rt_op (wants_none rfl) (o_callE rfl rfl (ent_right (ent_right (Ent.refl _))) (Go.Proofs.Ytfcanppeiadbhaa.out_byte _ _ _ _ ?_) fun i20 => ?_); (· (first | assumption | omega | rfl | decide | (simp; done) | (simp; omega) | (simp only [*]; done))))
      refine rt_nil ?_
      refine q_then ?_
      (refine ct_region' rfl ?_; simp only [List.map, lite])
      (refine rg rfl (g_move (by conv => lhs; whnf)) rfl rfl ?_)
      (refine rg rfl (g_field0 rfl) rfl rfl ?_)
      (refine rg rfl (g_load rfl (by conv => lhs; whnf)) rfl rfl ?_)
      (refine rg rfl (g_as (byte_conv _) (g_conv rfl)) rfl rfl ?_)
      (refine rt_op (wants_none rfl) (o_build1 rfl (by conv => lhs; whnf) (by rfl) (by rfl) (by rfl) (by conv => lhs; whnf) fun b25 => ?_))
      (refine rt_op (wants_none rfl) (o_app2 rfl rfl rfl (by rfl) (by first | rfl | exact bvsAll _ | exact wvs_all _ | assumption) (by rfl) ?_ (by first | with_reducible exact Nat.zero_add _ | exact rfl) (by first | with_reducible exact List.nil_append _ | exact List.map_append.symm | exact rfl) fun ad26 cap26 hc26 hn26 => ?_); (· (first | omega | decide)))
      (refine rg rfl (g_assign (by conv => lhs; whnf)) rfl rfl ?_)
      refine rt_nil ?_
      refine q_block ?_
      rotate_left
      refine ct_seq ?_
      (refine ct_region' rfl ?_; simp only [List.map, lite])
      (refine rg rfl (g_eql rfl rfl) rfl rfl ?_)
      (refine rg rfl (g_assign (by conv => lhs; whnf)) rfl rfl ?_)
      refine rt_nil ?_
      refine q_then ?_
      refine ct_if rfl (fun h27 => ?_) (fun h27 => ?_)
      refine ct_seq ?_
      (refine ct_region' rfl ?_; simp only [List.map, lite])
      (refine rg rfl (g_move (by conv => lhs; whnf)) rfl rfl ?_)
      (refine rg rfl (g_field0 rfl) rfl rfl ?_)
      (refine rg rfl (g_load rfl (by conv => lhs; whnf)) rfl rfl ?_)
      (refine rt_op (wants_none rfl) (o_callE rfl rfl (ent_right (ent_right (Ent.refl _))) (Go.Proofs.Ytfcanppeiadbhaa.out_number _ _ _ _ ?_ ?_) fun i32 => ?_); (· (first | assumption | omega | rfl | decide | (simp; done) | (simp; omega) | (simp only [*]; done))); (· (first | assumption | omega | rfl | decide | (simp; done) | (simp; omega) | (simp only [*]; done))))
      refine rt_nil ?_
      refine q_then ?_
      (refine ct_region' rfl ?_; simp only [List.map, lite])
      (refine rg rfl (g_move (by conv => lhs; whnf)) rfl rfl ?_)
      (refine rg rfl (g_field0 rfl) rfl rfl ?_)
      (refine rg rfl (g_load rfl (by conv => lhs; whnf)) rfl rfl ?_)
      (refine rt_op (wants_none rfl) (o_callE rfl rfl (ent_right (ent_right (ent_right (Ent.refl _)))) (Go.Proofs.Ytfcanppeiadbhaa.refNumber_spec _ _ _ _ _ ?_ ?_) fun i36 => ?_); (· (first | assumption | omega | rfl | decide | (simp; done) | (simp; omega) | (simp only [*]; done))); (· (first | assumption | omega | rfl | decide | (simp; done) | (simp; omega) | (simp only [*]; done))))
      (refine rg rfl (g_assign (by conv => lhs; whnf)) rfl rfl ?_)
      refine rt_nil ?_
      refine q_block ?_
      rotate_left
      refine ct_seq ?_
      (refine ct_region' rfl ?_; simp only [List.map, lite])
      (refine rg rfl (g_eql rfl rfl) rfl rfl ?_)
      (refine rg rfl (g_assign (by conv => lhs; whnf)) rfl rfl ?_)
      refine rt_nil ?_
      refine q_then ?_
      refine ct_if rfl (fun h37 => ?_) (fun h37 => ?_)
      refine ct_seq ?_
      (refine ct_region' rfl ?_; simp only [List.map, lite])
      (refine rg rfl (g_move (by conv => lhs; whnf)) rfl rfl ?_)
      (refine rg rfl (g_field0 rfl) rfl rfl ?_)
      (refine rg rfl (g_load rfl (by conv => lhs; whnf)) rfl rfl ?_)
      (refine rg rfl (g_conv rfl) rfl rfl ?_)
      (refine rt_op (wants_none rfl) (o_callE rfl rfl (ent_right (ent_right (Ent.refl _))) (Go.Proofs.Ytfcanppeiadbhaa.out_signed _ _ _ _ ?_ ?_) fun i43 => ?_); (· (first | assumption | omega | rfl | decide | (simp; done) | (simp; omega) | (simp only [*]; done))); (· (first | assumption | omega | rfl | decide | (simp; done) | (simp; omega) | (simp only [*]; done))))
      refine rt_nil ?_
      refine q_then ?_
      (refine ct_region' rfl ?_; simp only [List.map, lite])
      (refine rg rfl (g_move (by conv => lhs; whnf)) rfl rfl ?_)
      (refine rg rfl (g_field0 rfl) rfl rfl ?_)
      (refine rg rfl (g_load rfl (by conv => lhs; whnf)) rfl rfl ?_)
      (refine rg rfl (g_conv rfl) rfl rfl ?_)
      (refine rt_op (wants_none rfl) (o_callE rfl rfl (Ent.refl _) (Go.Proofs.Ytfcanppeiadbhaa.refZig_spec _ _ ?_) fun i48 => ?_); (· (first | assumption | omega | rfl | decide | (simp; done) | (simp; omega) | (simp only [*]; done))))
      (refine rt_op (wants_none rfl) (o_callE rfl rfl (ent_right (ent_right (ent_right (Ent.refl _)))) (Go.Proofs.Ytfcanppeiadbhaa.refNumber_spec _ _ _ _ _ ?_ ?_) fun i49 => ?_); (· (first | assumption | omega | rfl | decide | (simp; done) | (simp; omega) | (simp only [*]; done))); (· (first | assumption | omega | rfl | decide | (simp; done) | (simp; omega) | (simp only [*]; done))))
      (refine rg rfl (g_assign (by conv => lhs; whnf)) rfl rfl ?_)
      refine rt_nil ?_
      refine q_block ?_
      rotate_left
      refine ct_seq ?_
      (refine ct_region' rfl ?_; simp only [List.map, lite])
      (refine rg rfl (g_eql rfl rfl) rfl rfl ?_)
      (refine rg rfl (g_assign (by conv => lhs; whnf)) rfl rfl ?_)
      refine rt_nil ?_
      refine q_then ?_
      refine ct_if rfl (fun h50 => ?_) (fun h50 => ?_)
      refine ct_seq ?_
      (refine ct_region' rfl ?_; simp only [List.map, lite])
      (refine rg rfl (g_move (by conv => lhs; whnf)) rfl rfl ?_)
      (refine rg rfl (g_move (by conv => lhs; whnf)) rfl rfl ?_)
      (refine rt_op (wants_none rfl) (o_callE rfl rfl (ent_right (ent_right (Ent.refl _))) (Go.Proofs.Ytfcanppeiadbhaa.outRaw_spec _ _ _ _ _ _ ?_) fun i54 => ?_); (· (first | assumption | omega | rfl | decide | (simp; done) | (simp; omega) | (simp only [*]; done))))
      refine rt_nil ?_
      refine q_then ?_
      (refine ct_region' rfl ?_; simp only [List.map, lite])
      (refine rg rfl (g_move (by conv => lhs; whnf)) rfl rfl ?_)
      (refine rg rfl (g_field0 rfl) rfl rfl ?_)
      (refine rg rfl (g_load rfl (by conv => lhs; whnf)) rfl rfl ?_)
      (refine rt_op (wants_none rfl) (o_appR rfl rfl rfl (by first | rfl | simp | (simp; omega)) (by first | rfl | exact bvsAll _ | exact wvs_all _ | assumption) (by rfl) (by rfl) ?_ (by first | with_reducible exact Nat.zero_add _ | exact rfl) (by first | with_reducible exact List.nil_append _ | exact List.map_append.symm | exact rfl) fun ad58 cap58 hc58 hn58 => ?_); (· (first | omega | decide)))
      (refine rg rfl (g_assign (by conv => lhs; whnf)) rfl rfl ?_)
      refine rt_nil ?_
      refine q_block ?_
      rotate_left
      refine ct_seq ?_
      (refine ct_region' rfl ?_; simp only [List.map, lite])
      (refine rg rfl (g_eql rfl rfl) rfl rfl ?_)
      (refine rg rfl (g_assign (by conv => lhs; whnf)) rfl rfl ?_)
      refine rt_nil ?_
      refine q_then ?_
      refine ct_if rfl (fun h59 => ?_) (fun h59 => ?_)
      refine ct_seq ?_
      (refine ct_region' rfl ?_; simp only [List.map, lite])
      (refine rg rfl (g_move (by conv => lhs; whnf)) rfl rfl ?_)
      (refine rg rfl (g_move (by conv => lhs; whnf)) rfl rfl ?_)
      (refine rt_op (wants_none rfl) (o_callE rfl rfl (ent_right (ent_right (Ent.refl _))) (Go.Proofs.Ytfcanppeiadbhaa.outBytes_spec _ _ _ _ _ _ ?_ ?_) fun i63 => ?_); (· (first | assumption | omega | rfl | decide | (simp; done) | (simp; omega) | (simp only [*]; done))); (· (first | assumption | omega | rfl | decide | (simp; done) | (simp; omega) | (simp only [*]; done))))
      refine rt_nil ?_
      refine q_then ?_
      (refine ct_region' rfl ?_; simp only [List.map, lite])
      (refine rg rfl (g_move (by conv => lhs; whnf)) rfl rfl ?_)
      (refine rg rfl (g_field0 rfl) rfl rfl ?_)
      (refine rg rfl (g_load rfl (by conv => lhs; whnf)) rfl rfl ?_)
      (refine rt_op (wants_none rfl) (o_callE rfl rfl (ent_right (ent_right (ent_right (Ent.refl _)))) (Go.Proofs.Ytfcanppeiadbhaa.refBytes_spec _ _ _ _ _ _ _ ?_ ?_) fun i67 => ?_); (· (first | assumption | omega | rfl | decide | (simp; done) | (simp; omega) | (simp only [*]; done))); (· (first | assumption | omega | rfl | decide | (simp; done) | (simp; omega) | (simp only [*]; done))))
      (refine rg rfl (g_assign (by conv => lhs; whnf)) rfl rfl ?_)
      refine rt_nil ?_
      refine q_block ?_
      rotate_left
      refine ct_seq ?_
      (refine ct_region' rfl ?_; simp only [List.map, lite])
      (refine rg rfl (g_eql rfl rfl) rfl rfl ?_)
      (refine rg rfl (g_assign (by conv => lhs; whnf)) rfl rfl ?_)
      refine rt_nil ?_
      refine q_then ?_
      refine ct_if rfl (fun h68 => ?_) (fun h68 => ?_)
      refine ct_seq ?_
      (refine ct_region' rfl ?_; simp only [List.map, lite])
      (refine rg rfl (g_move (by conv => lhs; whnf)) rfl rfl ?_)
      (refine rg rfl (g_field0 rfl) rfl rfl ?_)
      (refine rg rfl (g_load rfl (by conv => lhs; whnf)) rfl rfl ?_)
      (refine rg rfl (g_convRd rfl ?_ (by first | exact List.take_length | exact List.take_left | exact rfl)) rfl rfl ?_; (· (first | omega | (simp; omega) | simp)))
      (refine rt_op (wants_none rfl) (o_callE rfl rfl (ent_right (ent_right (Ent.refl _))) (Go.Proofs.Ytfcanppeiadbhaa.outText_spec _ _ _ _ ?_ ?_) fun i74 => ?_); (· (first | assumption | omega | rfl | decide | (simp; done) | (simp; omega) | (simp only [*]; done))); (· (first | assumption | omega | rfl | decide | (simp; done) | (simp; omega) | (simp only [*]; done))))
      refine rt_nil ?_
      refine q_then ?_
      (refine ct_region' rfl ?_; simp only [List.map, lite])
      (refine rg rfl (g_move (by conv => lhs; whnf)) rfl rfl ?_)
      (refine rg rfl (g_field0 rfl) rfl rfl ?_)
      (refine rg rfl (g_load rfl (by conv => lhs; whnf)) rfl rfl ?_)
      (refine rt_op (wants_none rfl) (o_callE rfl rfl (ent_right (ent_right (ent_right (Ent.refl _)))) (Go.Proofs.Ytfcanppeiadbhaa.refBytes_spec _ _ _ _ _ _ _ ?_ ?_) fun i78 => ?_); (· (first | assumption | omega | rfl | decide | (simp; done) | (simp; omega) | (simp only [*]; done))); (· (first | assumption | omega | rfl | decide | (simp; done) | (simp; omega) | (simp only [*]; done))))
      (refine rg rfl (g_assign (by conv => lhs; whnf)) rfl rfl ?_)
      refine rt_nil ?_
      refine q_block ?_
      rotate_left
      refine ct_seq ?_
      (refine ct_region' rfl ?_; simp only [List.map, lite])
      (refine rg rfl (g_eql rfl rfl) rfl rfl ?_)
      (refine rg rfl (g_assign (by conv => lhs; whnf)) rfl rfl ?_)
      refine rt_nil ?_
      refine q_then ?_
      refine ct_if rfl (fun h79 => ?_) (fun h79 => ?_)
      refine ct_seq ?_
      (refine ct_region' rfl ?_; simp only [List.map, lite])
      (refine rg rfl (g_move (by conv => lhs; whnf)) rfl rfl ?_)
      (refine rg rfl (g_field0 rfl) rfl rfl ?_)
      (refine rg rfl (g_load rfl (by conv => lhs; whnf)) rfl rfl ?_)
      (refine rt_op (wants_none rfl) (o_callE rfl rfl (Ent.refl _) (Go.Proofs.Ytfcanppeiadbhaa.hashOf_spec _ _ _ _ ?_) fun i84 => ?_); (· (first | assumption | omega | rfl | decide | (simp; done) | (simp; omega) | (simp only [*]; done))))
      (refine rt_op (wants_none rfl) (o_callE rfl rfl (ent_right (ent_right (Ent.refl _))) (Go.Proofs.Ytfcanppeiadbhaa.out_hash _ _ _ _ ?_ ?_) fun i85 => ?_); (· (first | assumption | omega | rfl | decide | (simp; done) | (simp; omega) | (simp only [*]; done))); (· (first | assumption | omega | rfl | decide | (simp; done) | (simp; omega) | (simp only [*]; done))))
      refine rt_nil ?_
      refine q_then ?_
      (refine ct_region' rfl ?_; simp only [List.map, lite])
      (refine rg rfl (g_move (by conv => lhs; whnf)) rfl rfl ?_)
      (refine rg rfl (g_field0 rfl) rfl rfl ?_)
      (refine rg rfl (g_load rfl (by conv => lhs; whnf)) rfl rfl ?_)
      (refine rt_op (wants_none rfl) (o_callE rfl rfl (Ent.refl _) (Go.Proofs.Ytfcanppeiadbhaa.hashOf_spec _ _ _ _ ?_) fun i89 => ?_); (· (first | assumption | omega | rfl | decide | (simp; done) | (simp; omega) | (simp only [*]; done))))
      (refine rt_op (wants_none rfl) (o_callE rfl rfl (ent_right (ent_right (ent_right (Ent.refl _)))) (Go.Proofs.Ytfcanppeiadbhaa.refHash_spec _ _ _ _ _ ?_ ?_) fun i90 => ?_); (· (first | assumption | omega | rfl | decide | (simp; done) | (simp; omega) | (simp only [*]; done))); (· (first | assumption | omega | rfl | decide | (simp; done) | (simp; omega) | (simp only [*]; done))))
      (refine rg rfl (g_assign (by conv => lhs; whnf)) rfl rfl ?_)
      refine rt_nil ?_
      refine q_block ?_
      rotate_left
      refine ct_skip ?_
      refine q_block ?_
      rotate_left
    · obtain rfl : F = [UInt8.ofNat (x % 256)] := by rw [hF]; simp [OpV.form, h14]
      exact q_cut ⟨(ad26, cap26), fun _ => hn26⟩ ⟨rfl, rfl, by simp; rfl, trivial⟩ (Ent.mul (arr_cast (by simp) (by simp)) (Ent.refl _))
    · obtain rfl : F = numForm x := by rw [hF]; simp [OpV.form, h27]
      exact q_cut ⟨i36.1, fun _ => i36.2.1⟩ ⟨rfl, rfl, rfl, trivial⟩ (Ent.refl _)
    · obtain rfl : F = numForm (zig (IntKind.i64.wrap (x : Int))) := by rw [hF]; simp [OpV.form, h37]
      exact q_cut ⟨i49.1, fun _ => i49.2.1⟩ ⟨rfl, rfl, rfl, trivial⟩ (Ent.refl _)
    · obtain rfl : F = b := by rw [hF]; simp [OpV.form, h50]
      exact q_cut ⟨(ad58, cap58), fun h e => h (hn58 e).2⟩ ⟨rfl, rfl, by simp; rfl, trivial⟩ (Ent.mul (arr_cast (by simp) rfl) (Ent.refl _))
    · obtain rfl : F = numForm b.length ++ b := by rw [hF]; simp [OpV.form, h59]
      exact q_cut ⟨i67.1, fun _ => i67.2.1⟩ ⟨rfl, rfl, by rw [← List.append_assoc]; rfl, trivial⟩ (Ent.mul (arr_cast (by rw [List.append_assoc]) (by rw [List.append_assoc])) (Ent.refl _))
    · obtain rfl : F = numForm b.length ++ b := by rw [hF]; simp [OpV.form, h68]
      exact q_cut ⟨i78.1, fun _ => i78.2.1⟩ ⟨rfl, rfl, by rw [← List.append_assoc]; rfl, trivial⟩ (Ent.mul (arr_cast (by rw [List.append_assoc]) (by rw [List.append_assoc])) (Ent.refl _))
    · obtain rfl : F = hash32 b := by rw [hF]; simp [OpV.form, h79]
      exact q_cut ⟨i90.1, fun _ => i90.2.1⟩ ⟨rfl, rfl, rfl, trivial⟩ (Ent.refl _)
    · obtain rfl : F = [] := by rw [hF]; simp [OpV.form, *]
      exact q_cut ⟨(a, c), fun h => h⟩ ⟨rfl, rfl, by simp; rfl, trivial⟩ (by simp only [List.append_nil]; exact En.ent)
  · intro i ρ'
    clear hF
    obtain ⟨⟨wa, wc⟩, hwa⟩ := i
    dsimp only at hwa ⊢
    focus
      refine ct_seq ?_
      refine ct_seq ?_
      (refine ct_region' rfl ?_; simp only [List.map, lite])
      (refine rg rfl (g_move (by conv => lhs; whnf)) rfl rfl ?_)
      (refine rg rfl (g_field0 rfl) rfl rfl ?_)
      (refine rg rfl (g_load rfl (by conv => lhs; whnf)) rfl rfl ?_)
      (refine rt_op (wants_none rfl) (o_callE rfl rfl (ent_right (ent_right (Ent.refl _))) (Go.Proofs.Ytfcanppeiadbhaa.kept_spec _ _ _ _ _ _ ?_ ?_) fun i94 => ?_); (· (first | assumption | omega | rfl | decide | (simp; done) | (simp; omega) | (simp only [*]; done))); (· (first | assumption | omega | rfl | decide | (simp; done) | (simp; omega) | (simp only [*]; done))))
      (refine rg rfl (g_notT rfl) rfl rfl ?_)
      refine rt_nil ?_
      refine q_then ?_
      refine ct_false rfl ?_
      refine ct_skip ?_
      refine q_then ?_
      refine ct_seq ?_
      refine ct_seq ?_
      (refine ct_region' rfl ?_; simp only [List.map, lite])
      (refine rg rfl (g_move (by conv => lhs; whnf)) rfl rfl ?_)
      (refine rg rfl (g_len_slice rfl) rfl rfl ?_)
      (refine rg rfl (g_move (by conv => lhs; whnf)) rfl rfl ?_)
      refine rt_nil ?_
      refine q_then ?_
      refine ct_block ?_
      rotate_left
    obtain ⟨⟨oa2, oc2⟩, h1, h2⟩ := i11
    dsimp only at h1 h2 ⊢
    refine ct_loop (ι := { i : Nat × List Int // i.1 ≤ b.length ∧ i.2.length = b.length + 7 }) (fun i => [(1, .slice wa (xs ++ F).length wc), (7, .slice oa2 b.length oc2), (97, .int .i64 (b.length : Int)), (98, .int .i64 (i.1.1 : Int))]) (fun i => Arr 5 1 oa2 oc2 (b.length + 7) (i.1.2.map (Value.int .u8)) * (Arr 5 1 wa wc (xs ++ F).length ((xs ++ F).map bv) * (IsOut p (ys ++ F) * R))) (fun i => b.length - i.1.1)
      ⟨(0, (b ++ marks).map fun c => (c.toNat : Int)), by omega, by simp [marks]⟩ ⟨rfl, rfl, rfl, rfl, trivial⟩ ?_ fun i ρ' => ?_
    · rw [List.map_map]
      exact Ent.mul (Ent.refl _) En.ent
    · obtain ⟨⟨i, zs⟩, hi, hzl⟩ := i
      dsimp only at hi hzl ⊢
      by_cases h : i < b.length
      · focus
          refine ct_seq ?_
          (refine ct_region' rfl ?_; simp only [List.map, lite])
          (refine rg rfl (g_lssT rfl rfl ?_) rfl rfl ?_; (· (omega)))
          refine rt_nil ?_
          refine q_then ?_
          refine ct_seq ?_
          refine ct_true rfl ?_
          refine ct_skip ?_
          refine q_then ?_
          refine ct_seq ?_
          refine ct_block ?_
          refine ct_seq ?_
          (refine ct_region' rfl ?_; simp only [List.map, lite])
          (refine rg rfl (g_move (by conv => lhs; whnf)) rfl rfl ?_)
          (refine rg rfl (g_assign (by conv => lhs; whnf)) rfl rfl ?_)
          refine rt_nil ?_
          refine q_then ?_
          (refine ct_region' rfl ?_; simp only [List.map, lite])
          (refine rg rfl (g_move (by conv => lhs; whnf)) rfl rfl ?_)
          (refine rg rfl (g_move (by conv => lhs; whnf)) rfl rfl ?_)
          (refine rg rfl (g_elemO1 rfl rfl ?_ ?_) rfl rfl ?_; (· (first | omega | decide)); (· (first | omega | decide | (exact pos_of_get (by assumption)) | (simp only [List.length_map, List.length_append, List.length_replicate, List.length_cons, List.length_nil]; omega) | (simp; omega))))
          (refine rg rfl (g_load_rd rfl (int_at ?_)) rfl rfl ?_; (· (first | omega | decide | (exact pos_of_get (by assumption)) | (simp only [List.length_map, List.length_append, List.length_replicate, List.length_cons, List.length_nil]; omega) | (simp; omega))))
          (refine rg rfl (g_xor rfl rfl) rfl rfl ?_)
          (refine rg rfl (g_elemO1 rfl rfl ?_ ?_) rfl rfl ?_; (· (first | omega | decide)); (· (first | omega | decide | (exact pos_of_get (by assumption)) | (simp only [List.length_map, List.length_append, List.length_replicate, List.length_cons, List.length_nil]; omega) | (simp; omega))))
          (refine rt_op (wants_none rfl) (o_storeArr rfl (by conv => lhs; whnf) rfl ?_ rfl ?_); (· (first | omega | decide | (exact pos_of_get (by assumption)) | (simp only [List.length_map, List.length_append, List.length_replicate, List.length_cons, List.length_nil]; omega) | (simp; omega))))
          refine rt_nil ?_
          refine q_block ?_
          refine q_then ?_
          (refine ct_region' rfl ?_; simp only [List.map, lite])
          (refine rg rfl (g_addN rfl rfl ?_) rfl rfl ?_; (· (constructor <;> omega)))
          (refine rg rfl (g_move (by conv => lhs; whnf)) rfl rfl ?_)
          refine rt_nil ?_
          rotate_left
        rw [← List.map_set]
        exact q_again ⟨(i + 1, zs.set i _), by omega, by rw [List.length_set]; exact hzl⟩ (by show b.length - (i + 1) < b.length - i; omega) ⟨rfl, rfl, rfl, rfl, trivial⟩ (Ent.refl _)
      · focus
          refine ct_seq ?_
          (refine ct_region' rfl ?_; simp only [List.map, lite])
          (refine rg rfl (g_lssF rfl rfl ?_) rfl rfl ?_; (· (omega)))
          refine rt_nil ?_
          refine q_then ?_
          refine ct_seq ?_
          refine ct_false rfl ?_
          refine ct_exit ?_
          refine q_then_exit ?_
          refine q_then_exit ?_
          refine q_block_exit ?_
          refine q_then ?_
          refine ct_seq ?_
          (refine ct_region' rfl ?_; simp only [List.map, lite])
          (refine rg rfl (g_move (by conv => lhs; whnf)) rfl rfl ?_)
          (refine rg rfl (g_assign (by conv => lhs; whnf)) rfl rfl ?_)
          refine rt_nil ?_
          refine q_then ?_
          refine ct_ret ?_
          rotate_left
        exact q_ret1 rfl (by conv => lhs; whnf) ⟨(wa, wc), hwa⟩ rfl (Ent.dropL _ _)
end Go.Proofs.Ytfcanppeiadbhaa
