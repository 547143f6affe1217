/- A step of PackReads. -/
import Derived.Test.YtfcanppeiadbhaaB7
namespace Go.Proofs.Ytfcanppeiadbhaa
open Go.RowKit
attribute [local irreducible] Gives RT CT QT Spec Wants Reads Src Ent OT RQ AnyT AnyOp Again Code.wp Post

instance HeldO.rd (k p x : Nat) (fst : Value) (s : BookSt) : Rd (HeldO k p x fst s) (some ⟨k, 0, none⟩) [.pointer (some ⟨p, 0, none⟩), .pointer (some ⟨x, 0, none⟩), fst, .slice s.la s.es.length s.lc, .slice s.ga s.es.length s.gc, .int .i64 (s.n : Int), .bool false] := by
  unfold HeldO; infer_instance
theorem any_op {P : Program} {Q : Exit → Act → World → Prop} {n : Nat} {D : List Deferred} {W0 : World} {ρ : Env} {A R : HP} {l : List Oper} {o : Oper} {e fuel : Nat} {listed : Array Bool} {k : Nat} (ho : l[k]? = some o) (hw : Wants l.toArray n D o ρ) (h : OT P Q n D W0 o ρ A fun ρ' A' => ((listed.setIfInBounds k true).getD e false = true ∨ Ent A' R) ∧ AnyT P l.toArray Q n D W0 R e fuel (listed.setIfInBounds k true) ρ' A') : AnyOp P l Q n D W0 R e fuel listed ρ A k := by unfold AnyOp; exact ⟨o, ho, hw, h⟩
def HeldR (k p x : Nat) : HP := ex fun t : Value × BookSt => HeldO k p x t.1 t.2
instance (priority := 1200) Fr.heldHere (k p x : Nat) (f : Value) (s : BookSt) (B : HP) : Fr (HeldO k p x f s * B) (HeldR k p x) B := ⟨Ent.mul (Ent.ex (f := fun t : Value × BookSt => HeldO k p x t.1 t.2) (f, s)) (Ent.refl _)⟩
instance (priority := 1100) Fr.heldThere (k p x : Nat) (f : Value) (s : BookSt) (B : HP) : Fr (B * HeldO k p x f s) (HeldR k p x) B := ⟨(Ent.comm _ _).trans (Ent.mul (Ent.ex (f := fun t : Value × BookSt => HeldO k p x t.1 t.2) (f, s)) (Ent.refl _))⟩
theorem heldR_cell {k p x i : Nat} {v : Value} (h : ∀ (f : Value) (s : BookSt), [Value.pointer (some ⟨p, 0, none⟩), .pointer (some ⟨x, 0, none⟩), f, .slice s.la s.es.length s.lc, .slice s.ga s.es.length s.gc, .int .i64 (s.n : Int), .bool false][i]? = some v) : RdC (HeldR k p x) k i v := ⟨fun W0 w s => by
  obtain ⟨⟨f, b⟩, s1⟩ := (s.ent (Ent.addEmp _)).ex
  have s2 := s1.ent (Ent.dropR _ _)
  unfold HeldO at s2
  have s3 := s2.ent (Ent.dropR _ _)
  rw [(s3.ent (Ent.addEmp _)).cell]
  exact h f b⟩
instance HeldR.r (k p x : Nat) : RdC (HeldR k p x) k 0 (.pointer (some ⟨p, 0, none⟩)) := heldR_cell fun _ _ => rfl
instance HeldR.x (k p x : Nat) : RdC (HeldR k p x) k 1 (.pointer (some ⟨x, 0, none⟩)) := heldR_cell fun _ _ => rfl
theorem byteS_keep {xs : List UInt8} {pos why : Nat} (h : why ≠ 0) : (byteS xs pos why).2.2 = why := by unfold byteS; rw [if_pos h]
theorem numberS_keep {xs : List UInt8} {pos why most : Nat} (h : why ≠ 0) : (numberS xs pos why most).2.2 = why := by unfold numberS; rw [if_pos h]
theorem signedS_keep {xs : List UInt8} {pos why : Nat} (h : why ≠ 0) : (signedS xs pos why).2.2 = why := by
  unfold signedS; dsimp only; rw [numberS_keep h, if_pos h]
theorem rawS_keep {xs : List UInt8} {pos why : Nat} {n : Int} (h : why ≠ 0) : (rawS xs pos why n).2.2 = why := by unfold rawS; rw [if_pos h]
theorem bytesS_keep {xs : List UInt8} {pos why : Nat} {n : Int} (h : why ≠ 0) : (bytesS xs pos why n).2.2 = why := by rw [bytesS_bad h]
theorem hashS_keep {xs : List UInt8} {pos why : Nat} (h : why ≠ 0) : (hashS xs pos why).2.2 = why := rawS_keep h
theorem endS_keep {xs : List UInt8} {pos why : Nat} (h : why ≠ 0) : (endS xs pos why).2 = why := by unfold endS; rw [if_pos h]
theorem byteS_pos (xs : List UInt8) (pos why : Nat) (hp : pos ≤ xs.length) : (byteS xs pos why).2.1 ≤ xs.length := by
  unfold byteS; split
  · exact hp
  · split
    · exact hp
    · dsimp only; omega
theorem signedS_pos (xs : List UInt8) (pos why : Nat) (hp : pos ≤ xs.length) : (signedS xs pos why).2.1 ≤ xs.length := by
  unfold signedS; dsimp only; split <;> exact numberS_pos _ _ _ _ hp
theorem hashS_pos (xs : List UInt8) (pos why : Nat) (hp : pos ≤ xs.length) : (hashS xs pos why).2.1 ≤ xs.length := rawS_pos _ _ _ _ hp
theorem endS_pos (xs : List UInt8) (pos why : Nat) (hp : pos ≤ xs.length) : (endS xs pos why).1 ≤ xs.length := by
  unfold endS; split
  · exact hp
  · split <;> exact hp
theorem wrong_h (R : HP) (h p x : Nat) (s : BookSt) (a : Option Addr) (cap : Nat) (xs : List UInt8) (pos w : Nat) (e0 e : Option (Nat × Nat)) (he : EOk e) (h0 : e0 = e ∨ e0 = none) (hw : w = whyOf e) :
    Spec Try.prog 50 [.pointer (some ⟨h, 0, none⟩), errV (e.map Prod.fst), errR w pos] (HeldO h p x (errV (e0.map Prod.fst)) s * (InA p a cap xs pos e * R)) (fun _ : Unit => .bool true) (fun _ => HeldO h p x (errV (e.map Prod.fst)) s * (InA p a cap xs pos e * R)) := by
  unfold HeldO
  refine spec_conseq (wrong_u (Arr 36 1 s.la s.lc s.es.length (s.es.map BkE.lv) * (Arr 36 1 s.ga s.gc s.es.length (s.es.map BkE.gv) * (s.X * R))) h p x (.slice s.la s.es.length s.lc) (.slice s.ga s.es.length s.gc) (.int .i64 (s.n : Int)) (.bool false) a cap xs pos w e0 e he h0 hw) ?_ fun _ => ⟨(), rfl, ?_⟩
  · exact En.ent
  · exact En.ent
abbrev BkS := { s : BookSt // s.n ≤ 281474976710656 }
/-- where the two readers stand behind a step -/
abbrev StepSt (xs : List UInt8) := { t : Nat × Option (Nat × Nat) × BkS // t.1 ≤ xs.length ∧ EOk t.2.1 }
set_option maxRecDepth 100000 in
set_option maxHeartbeats 8000000 in
theorem step_spec (R : HP) (h p x : Nat) (s : BookSt) (a b : Option Addr) (cap c : Nat) (xs : List UInt8) (pos : Nat) (e : Option (Nat × Nat)) (o : OpV) [hr : Rd R b (xs.map bv)] (hs : s.n ≤ 281474976710656) (he : EOk e) (hp : pos ≤ xs.length) (hl : xs.length ≤ 140737488351232) (hc : xs.length ≤ c) (hcn : b = none → c = 0) (hx : o.x < 2 ^ 64) (hi : -9223372036854775808 ≤ o.n ∧ o.n ≤ 9223372036854775807) :
    Spec Try.prog 25 [.pointer (some ⟨h, 0, none⟩), .agg o.cells.toArray] (HeldO h p x (errV (e.map Prod.fst)) s * (InA p a cap xs pos e * (RinA x b c xs.length pos (whyOf e) * R))) (fun _ : StepSt xs => .bool true)
      (fun t => HeldO h p x (errV (t.1.2.1.map Prod.fst)) t.1.2.2.1 * (InA p a cap xs t.1.1 t.1.2.1 * (RinA x b c xs.length t.1.1 (whyOf t.1.2.1) * R))) := by
  refine spec_of Try.func25 rfl Try.ntmps25 rfl fun W0 => ?_
  obtain ⟨kind, ox, on, oa, oc, ob⟩ := o
  unfold OpV.cells
  dsimp only at hx hi ⊢
  have hl' : xs.length ≤ 140737488355328 := by omega
  have b1 := rawS_len xs pos (whyOf e) on
  have b2 := bytesS_len xs pos (whyOf e) on
  have w0 := fun (q : Nat) (s : BookSt) (R' : HP) => wrong_h R' h p x s a cap xs (byteS xs pos (whyOf e)).2.1 (byteS xs pos (whyOf e)).2.2 e (nx e q (byteS xs pos (whyOf e)).2.2) (nx_ok he) nx_first (whyOf_nx byteS_keep he).symm
  have w1 := fun (q : Nat) (s : BookSt) (R' : HP) => wrong_h R' h p x s a cap xs (numberS xs pos (whyOf e) ox).2.1 (numberS xs pos (whyOf e) ox).2.2 e (nx e q (numberS xs pos (whyOf e) ox).2.2) (nx_ok he) nx_first (whyOf_nx numberS_keep he).symm
  have w2 := fun (q : Nat) (s : BookSt) (R' : HP) => wrong_h R' h p x s a cap xs (signedS xs pos (whyOf e)).2.1 (signedS xs pos (whyOf e)).2.2 e (nx e q (signedS xs pos (whyOf e)).2.2) (nx_ok he) nx_first (whyOf_nx signedS_keep he).symm
  have w3 := fun (q : Nat) (s : BookSt) (R' : HP) => wrong_h R' h p x s a cap xs (rawS xs pos (whyOf e) on).2.1 (rawS xs pos (whyOf e) on).2.2 e (nx e q (rawS xs pos (whyOf e) on).2.2) (nx_ok he) nx_first (whyOf_nx rawS_keep he).symm
  have w4 := fun (q : Nat) (s : BookSt) (R' : HP) => wrong_h R' h p x s a cap xs (bytesS xs pos (whyOf e) on).2.1 (bytesS xs pos (whyOf e) on).2.2 e (nx e q (bytesS xs pos (whyOf e) on).2.2) (nx_ok he) nx_first (whyOf_nx bytesS_keep he).symm
  have w6 := fun (q : Nat) (s : BookSt) (R' : HP) => wrong_h R' h p x s a cap xs (hashS xs pos (whyOf e)).2.1 (hashS xs pos (whyOf e)).2.2 e (nx e q (hashS xs pos (whyOf e)).2.2) (nx_ok he) nx_first (whyOf_nx hashS_keep he).symm
  have w7 := fun (q : Nat) (s : BookSt) (R' : HP) => wrong_h R' h p x s a cap xs (endS xs pos (whyOf e)).1 (endS xs pos (whyOf e)).2 e (nx e q (endS xs pos (whyOf e)).2) (nx_ok he) nx_first (whyOf_nx endS_keep he).symm
  have hh32 : ((hashS xs pos (whyOf e)).1.map bv).length = 32 := by rw [List.length_map]; exact hash32_len _
  focus
    refine ct_seq ?_
    (refine ct_region' rfl ?_; simp only [List.map, lite])
    (refine rt_op (wants_none rfl) (o_box rfl (by conv => lhs; whnf) (by conv => lhs; whnf) fun b3 => ?_))
    (refine rg rfl (g_assign (by conv => lhs; whnf)) rfl rfl ?_)
    refine rt_nil ?_
    refine q_then ?_
    refine ct_seq ?_
    refine ct_seq ?_
    (refine ct_region' rfl ?_; simp only [List.map, lite])
    (refine rg rfl (g_field0 rfl) rfl rfl ?_)
    (refine rg rfl (g_load rfl (by conv => lhs; whnf)) rfl rfl ?_)
    refine rt_nil ?_
    refine q_then ?_
    refine ct_block ?_
    refine ct_seq ?_
    (refine ct_region' rfl ?_; simp only [List.map, lite])
    (refine rg rfl (g_eql rfl rfl) rfl rfl ?_)
    (refine rg rfl (g_assign (by conv => lhs; whnf)) rfl rfl ?_)
    refine rt_nil ?_
    refine q_then ?_
    refine ct_if rfl (fun h37 => ?_) (fun h37 => ?_)
    refine ct_seq ?_
    (refine ct_region' rfl ?_; simp only [List.map, lite])
    (refine rg rfl (g_move (by conv => lhs; whnf)) rfl rfl ?_)
    (refine rg rfl (g_nil rfl) rfl rfl ?_)
    (refine rg rfl (g_field0 rfl) rfl rfl ?_)
    (refine rg rfl (g_load_rd0 rfl (by conv => lhs; whnf)) rfl rfl ?_)
    (refine rt_op (wants_none rfl) (o_callE rfl rfl (ent_right (ent_right (Ent.refl _))) (Go.Proofs.Ytfcanppeiadbhaa.inByte_u _ _ _ _ _ _ _ ?_ ?_ ?_) fun i44 => ?_); (· (first | assumption | omega | rfl | decide | infer_instance | (simp; done) | (simp; omega) | (simp only [*]; done))); (· (first | assumption | omega | rfl | decide | infer_instance | (simp; done) | (simp; omega) | (simp only [*]; done))); (· (first | assumption | omega | rfl | decide | infer_instance | (simp; done) | (simp; omega) | (simp only [*]; done))))
    (refine rg rfl (g_move (by conv => lhs; whnf)) rfl rfl ?_)
    (refine rg rfl (g_extract rfl (by conv => lhs; whnf)) rfl rfl ?_)
    (refine rg rfl (g_extract rfl (by conv => lhs; whnf)) rfl rfl ?_)
    (refine rg rfl (g_assign (by conv => lhs; whnf)) rfl rfl ?_)
    (refine rg rfl (g_assign (by conv => lhs; whnf)) rfl rfl ?_)
    refine rt_nil ?_
    refine q_then ?_
    refine ct_seq ?_
    (refine ct_region' rfl ?_; simp only [List.map, lite])
    (refine rg rfl (g_move (by conv => lhs; whnf)) rfl rfl ?_)
    (refine rg rfl (g_nil rfl) rfl rfl ?_)
    (refine rg rfl (g_field0 rfl) rfl rfl ?_)
    (refine rg rfl (g_load_rd0 rfl (by conv => lhs; whnf)) rfl rfl ?_)
    (refine rt_op (wants_none rfl) (o_callE rfl rfl (ent_right (ent_right (ent_right (Ent.refl _)))) (Go.Proofs.Ytfcanppeiadbhaa.refByte_spec _ _ _ _ _ _ _ ?_ ?_) fun i52 => ?_); (· (first | assumption | omega | rfl | decide | infer_instance | (simp; done) | (simp; omega) | (simp only [*]; done))); (· (first | assumption | omega | rfl | decide | infer_instance | (simp; done) | (simp; omega) | (simp only [*]; done))))
    (refine rg rfl (g_move (by conv => lhs; whnf)) rfl rfl ?_)
    (refine rg rfl (g_extract rfl (by conv => lhs; whnf)) rfl rfl ?_)
    (refine rg rfl (g_extract rfl (by conv => lhs; whnf)) rfl rfl ?_)
    (refine rt_op (wants_none rfl) (o_alloc rfl (by conv => lhs; whnf) fun b8 => ?_))
    (refine rg rfl (g_assign (by conv => lhs; whnf)) rfl rfl ?_)
    (refine rt_op (wants_none rfl) (o_storeAgg rfl (by conv => lhs; whnf) (by first | exact List.toList_toArray | (conv => lhs; whnf)) (by first | rfl | exact bvsAll _ | exact wvs_all _ | assumption) (by first | rfl | assumption | (simp; done) | (simp; omega)) (by first | rfl | assumption | (simp; done) | (simp; omega)) ?_))
    refine rt_nil ?_
    refine q_then ?_
    refine ct_seq ?_
    (refine ct_region' rfl ?_; simp only [List.map, lite])
    (refine rg rfl (g_move (by conv => lhs; whnf)) rfl rfl ?_)
    (refine rg rfl (g_move (by conv => lhs; whnf)) rfl rfl ?_)
    (refine rg rfl (g_eqlT rfl rfl ?_) rfl rfl ?_; (· (omega)))
    (refine rg rfl (g_move (by conv => lhs; whnf)) rfl rfl ?_)
    (refine rgw rfl rfl rfl rfl (g_move (by conv => lhs; whnf)) rfl rfl ?_)
    (refine rgw rfl rfl rfl rfl (g_move (by conv => lhs; whnf)) rfl rfl ?_)
    (refine rgw rfl rfl rfl rfl (g_loadAgg_blk rfl (by first | rfl | assumption | (simp; done) | (simp; omega))) rfl rfl ?_)
    (refine rt_op (wants_some rfl rfl rfl rfl) (o_callE rfl rfl ((ent_right (ent_right (ent_right (ent_right (Ent.refl _))))).trans (Ent.mul (Ent.refl _) (ent_right (ent_right (Ent.refl _))))) (w0 _ _ _) fun i62 => ?_))
    (refine rg rfl (g_pick_t rfl (by conv => lhs; whnf)) rfl rfl ?_)
    (refine rg rfl (g_assign (by conv => lhs; whnf)) rfl rfl ?_)
    refine rt_nil ?_
    refine q_then ?_
    refine ct_ret ?_
    refine q_block_ret ?_
    refine q_then_ret ?_
    rotate_left
    refine ct_seq ?_
    (refine ct_region' rfl ?_; simp only [List.map, lite])
    (refine rg rfl (g_eql rfl rfl) rfl rfl ?_)
    (refine rg rfl (g_assign (by conv => lhs; whnf)) rfl rfl ?_)
    refine rt_nil ?_
    refine q_then ?_
    refine ct_if rfl (fun h64 => ?_) (fun h64 => ?_)
    refine ct_seq ?_
    refine ct_any (HeldR h p x * R) 11 ?_
    (refine any_take 0 rfl (by kernel_rfl) (by first | exact Ent.refl _ | exact En.ent) (wants_none rfl) (g_move (by conv => lhs; whnf)) rfl rfl ?_)
    (refine any_take 1 rfl (by kernel_rfl) (by first | exact Ent.refl _ | exact En.ent) (wants_none rfl) (g_nil rfl) rfl rfl ?_)
    (refine any_take 2 rfl (by kernel_rfl) (by first | exact Ent.refl _ | exact En.ent) (wants_none rfl) (g_field0 rfl) rfl rfl ?_)
    (refine any_take 3 rfl (by kernel_rfl) (by first | exact Ent.refl _ | exact En.ent) (wants_none rfl) (g_load_rdc rfl) rfl rfl ?_)
    (refine any_take 4 rfl (by kernel_rfl) (by first | exact Ent.refl _ | exact En.ent) (wants_none rfl) (g_field0 rfl) rfl rfl ?_)
    (refine any_one 5 (by kernel_rfl) rfl (wants_none rfl) (o_give (g_load rfl (by conv => lhs; whnf)) rfl rfl ⟨.inr (by first | exact Ent.refl _ | exact En.ent), ?_⟩))
    (refine any_one 6 (by kernel_rfl) rfl (wants_none rfl) (o_callE rfl rfl (ent_right (ent_right (Ent.refl _))) (Go.Proofs.Ytfcanppeiadbhaa.inNumber_u _ _ _ _ _ _ _ _ ?_ ?_ ?_) fun i73 => ⟨.inr (by first | exact Ent.refl _ | exact En.ent), ?_⟩); (· (first | assumption | omega | rfl | decide | infer_instance | (simp; done) | (simp; omega) | (simp only [*]; done))); (· (first | assumption | omega | rfl | decide | infer_instance | (simp; done) | (simp; omega) | (simp only [*]; done))); (· (first | assumption | omega | rfl | decide | infer_instance | (simp; done) | (simp; omega) | (simp only [*]; done))))
    (refine any_take 7 rfl (by kernel_rfl) (by first | exact Ent.refl _ | exact En.ent) (wants_none rfl) (g_move (by conv => lhs; whnf)) rfl rfl ?_)
    (refine any_take 8 rfl (by kernel_rfl) (by first | exact Ent.refl _ | exact En.ent) (wants_none rfl) (g_extract rfl (by conv => lhs; whnf)) rfl rfl ?_)
    (refine any_take 9 rfl (by kernel_rfl) (by first | exact Ent.refl _ | exact En.ent) (wants_none rfl) (g_extract rfl (by conv => lhs; whnf)) rfl rfl ?_)
    (refine any_take 10 rfl (by kernel_rfl) (by first | exact Ent.refl _ | exact En.ent) (wants_none rfl) (g_assign (by conv => lhs; whnf)) rfl rfl ?_)
    (refine any_one 11 (by kernel_rfl) rfl (wants_none rfl) (o_give (g_assign (by conv => lhs; whnf)) rfl rfl ⟨.inl rfl, ?_⟩))
    refine any_done (by kernel_rfl) ?_
    refine q_then ?_
    refine ct_seq ?_
    rotate_left
    refine ct_seq ?_
    (refine ct_region' rfl ?_; simp only [List.map, lite])
    (refine rg rfl (g_eql rfl rfl) rfl rfl ?_)
    (refine rg rfl (g_assign (by conv => lhs; whnf)) rfl rfl ?_)
    refine rt_nil ?_
    refine q_then ?_
    refine ct_if rfl (fun h95 => ?_) (fun h95 => ?_)
    refine ct_seq ?_
    (refine ct_region' rfl ?_; simp only [List.map, lite])
    (refine rg rfl (g_move (by conv => lhs; whnf)) rfl rfl ?_)
    (refine rg rfl (g_nil rfl) rfl rfl ?_)
    (refine rg rfl (g_field0 rfl) rfl rfl ?_)
    (refine rg rfl (g_load_rd0 rfl (by conv => lhs; whnf)) rfl rfl ?_)
    (refine rt_op (wants_none rfl) (o_callE rfl rfl (ent_right (ent_right (Ent.refl _))) (Go.Proofs.Ytfcanppeiadbhaa.inSigned_u _ _ _ _ _ _ _ ?_ ?_ ?_) fun i102 => ?_); (· (first | assumption | omega | rfl | decide | infer_instance | (simp; done) | (simp; omega) | (simp only [*]; done))); (· (first | assumption | omega | rfl | decide | infer_instance | (simp; done) | (simp; omega) | (simp only [*]; done))); (· (first | assumption | omega | rfl | decide | infer_instance | (simp; done) | (simp; omega) | (simp only [*]; done))))
    (refine rg rfl (g_move (by conv => lhs; whnf)) rfl rfl ?_)
    (refine rg rfl (g_extract rfl (by conv => lhs; whnf)) rfl rfl ?_)
    (refine rg rfl (g_extract rfl (by conv => lhs; whnf)) rfl rfl ?_)
    (refine rg rfl (g_assign (by conv => lhs; whnf)) rfl rfl ?_)
    (refine rg rfl (g_assign (by conv => lhs; whnf)) rfl rfl ?_)
    refine rt_nil ?_
    refine q_then ?_
    refine ct_seq ?_
    (refine ct_region' rfl ?_; simp only [List.map, lite])
    (refine rg rfl (g_move (by conv => lhs; whnf)) rfl rfl ?_)
    (refine rg rfl (g_nil rfl) rfl rfl ?_)
    (refine rg rfl (g_field0 rfl) rfl rfl ?_)
    (refine rg rfl (g_load_rd0 rfl (by conv => lhs; whnf)) rfl rfl ?_)
    (refine rt_op (wants_none rfl) (o_callE rfl rfl (ent_right (ent_right (ent_right (Ent.refl _)))) (Go.Proofs.Ytfcanppeiadbhaa.refSigned_spec _ _ _ _ _ _ _ ?_ ?_) fun i110 => ?_); (· (first | assumption | omega | rfl | decide | infer_instance | (simp; done) | (simp; omega) | (simp only [*]; done))); (· (first | assumption | omega | rfl | decide | infer_instance | (simp; done) | (simp; omega) | (simp only [*]; done))))
    (refine rg rfl (g_move (by conv => lhs; whnf)) rfl rfl ?_)
    (refine rg rfl (g_extract rfl (by conv => lhs; whnf)) rfl rfl ?_)
    (refine rg rfl (g_extract rfl (by conv => lhs; whnf)) rfl rfl ?_)
    (refine rt_op (wants_none rfl) (o_alloc rfl (by conv => lhs; whnf) fun b16 => ?_))
    (refine rg rfl (g_assign (by conv => lhs; whnf)) rfl rfl ?_)
    (refine rt_op (wants_none rfl) (o_storeAgg rfl (by conv => lhs; whnf) (by first | exact List.toList_toArray | (conv => lhs; whnf)) (by first | rfl | exact bvsAll _ | exact wvs_all _ | assumption) (by first | rfl | assumption | (simp; done) | (simp; omega)) (by first | rfl | assumption | (simp; done) | (simp; omega)) ?_))
    refine rt_nil ?_
    refine q_then ?_
    refine ct_seq ?_
    (refine ct_region' rfl ?_; simp only [List.map, lite])
    (refine rg rfl (g_move (by conv => lhs; whnf)) rfl rfl ?_)
    (refine rg rfl (g_move (by conv => lhs; whnf)) rfl rfl ?_)
    (refine rg rfl (g_eqlT rfl rfl ?_) rfl rfl ?_; (· (omega)))
    (refine rg rfl (g_move (by conv => lhs; whnf)) rfl rfl ?_)
    (refine rgw rfl rfl rfl rfl (g_move (by conv => lhs; whnf)) rfl rfl ?_)
    (refine rgw rfl rfl rfl rfl (g_move (by conv => lhs; whnf)) rfl rfl ?_)
    (refine rgw rfl rfl rfl rfl (g_loadAgg_blk rfl (by first | rfl | assumption | (simp; done) | (simp; omega))) rfl rfl ?_)
    (refine rt_op (wants_some rfl rfl rfl rfl) (o_callE rfl rfl ((ent_right (ent_right (ent_right (ent_right (Ent.refl _))))).trans (Ent.mul (Ent.refl _) (ent_right (ent_right (Ent.refl _))))) (w2 _ _ _) fun i120 => ?_))
    (refine rg rfl (g_pick_t rfl (by conv => lhs; whnf)) rfl rfl ?_)
    (refine rg rfl (g_assign (by conv => lhs; whnf)) rfl rfl ?_)
    refine rt_nil ?_
    refine q_then ?_
    refine ct_ret ?_
    refine q_block_ret ?_
    refine q_then_ret ?_
    rotate_left
    refine ct_seq ?_
    (refine ct_region' rfl ?_; simp only [List.map, lite])
    (refine rg rfl (g_eql rfl rfl) rfl rfl ?_)
    (refine rg rfl (g_assign (by conv => lhs; whnf)) rfl rfl ?_)
    refine rt_nil ?_
    refine q_then ?_
    refine ct_if rfl (fun h122 => ?_) (fun h122 => ?_)
    refine ct_seq ?_
    refine ct_any (HeldR h p x * R) 11 ?_
    (refine any_take 0 rfl (by kernel_rfl) (by first | exact Ent.refl _ | exact En.ent) (wants_none rfl) (g_move (by conv => lhs; whnf)) rfl rfl ?_)
    (refine any_take 1 rfl (by kernel_rfl) (by first | exact Ent.refl _ | exact En.ent) (wants_none rfl) (g_nil rfl) rfl rfl ?_)
    (refine any_take 2 rfl (by kernel_rfl) (by first | exact Ent.refl _ | exact En.ent) (wants_none rfl) (g_field0 rfl) rfl rfl ?_)
    (refine any_take 3 rfl (by kernel_rfl) (by first | exact Ent.refl _ | exact En.ent) (wants_none rfl) (g_load_rdc rfl) rfl rfl ?_)
    (refine any_take 4 rfl (by kernel_rfl) (by first | exact Ent.refl _ | exact En.ent) (wants_none rfl) (g_field0 rfl) rfl rfl ?_)
    (refine any_one 5 (by kernel_rfl) rfl (wants_none rfl) (o_give (g_load rfl (by conv => lhs; whnf)) rfl rfl ⟨.inr (by first | exact Ent.refl _ | exact En.ent), ?_⟩))
    (refine any_one 6 (by kernel_rfl) rfl (wants_none rfl) (o_callE rfl rfl (ent_right (ent_right (Ent.refl _))) (Go.Proofs.Ytfcanppeiadbhaa.inRaw_u _ _ _ _ _ _ _ _ ?_ ?_ ?_ ?_) fun i131 => ⟨.inr (by first | exact Ent.refl _ | exact En.ent), ?_⟩); (· (first | assumption | omega | rfl | decide | infer_instance | (simp; done) | (simp; omega) | (simp only [*]; done))); (· (first | assumption | omega | rfl | decide | infer_instance | (simp; done) | (simp; omega) | (simp only [*]; done))); (· (first | assumption | omega | rfl | decide | infer_instance | (simp; done) | (simp; omega) | (simp only [*]; done))); (· (first | assumption | omega | rfl | decide | infer_instance | (simp; done) | (simp; omega) | (simp only [*]; done))))
    (refine any_take 7 rfl (by kernel_rfl) (by first | exact Ent.refl _ | exact En.ent) (wants_none rfl) (g_move (by conv => lhs; whnf)) rfl rfl ?_)
    (refine any_take 8 rfl (by kernel_rfl) (by first | exact Ent.refl _ | exact En.ent) (wants_none rfl) (g_extract rfl (by conv => lhs; whnf)) rfl rfl ?_)
    (refine any_take 9 rfl (by kernel_rfl) (by first | exact Ent.refl _ | exact En.ent) (wants_none rfl) (g_extract rfl (by conv => lhs; whnf)) rfl rfl ?_)
    (refine any_take 10 rfl (by kernel_rfl) (by first | exact Ent.refl _ | exact En.ent) (wants_none rfl) (g_assign (by conv => lhs; whnf)) rfl rfl ?_)
    (refine any_one 11 (by kernel_rfl) rfl (wants_none rfl) (o_give (g_assign (by conv => lhs; whnf)) rfl rfl ⟨.inl rfl, ?_⟩))
    refine any_done (by kernel_rfl) ?_
    refine q_then ?_
    refine ct_seq ?_
    rotate_left
    refine ct_seq ?_
    (refine ct_region' rfl ?_; simp only [List.map, lite])
    (refine rg rfl (g_eql rfl rfl) rfl rfl ?_)
    (refine rg rfl (g_assign (by conv => lhs; whnf)) rfl rfl ?_)
    refine rt_nil ?_
    refine q_then ?_
    refine ct_if rfl (fun h161 => ?_) (fun h161 => ?_)
    refine ct_seq ?_
    refine ct_any (HeldR h p x * R) 11 ?_
    (refine any_take 0 rfl (by kernel_rfl) (by first | exact Ent.refl _ | exact En.ent) (wants_none rfl) (g_move (by conv => lhs; whnf)) rfl rfl ?_)
    (refine any_take 1 rfl (by kernel_rfl) (by first | exact Ent.refl _ | exact En.ent) (wants_none rfl) (g_nil rfl) rfl rfl ?_)
    (refine any_take 2 rfl (by kernel_rfl) (by first | exact Ent.refl _ | exact En.ent) (wants_none rfl) (g_field0 rfl) rfl rfl ?_)
    (refine any_take 3 rfl (by kernel_rfl) (by first | exact Ent.refl _ | exact En.ent) (wants_none rfl) (g_load_rdc rfl) rfl rfl ?_)
    (refine any_take 4 rfl (by kernel_rfl) (by first | exact Ent.refl _ | exact En.ent) (wants_none rfl) (g_field0 rfl) rfl rfl ?_)
    (refine any_one 5 (by kernel_rfl) rfl (wants_none rfl) (o_give (g_load rfl (by conv => lhs; whnf)) rfl rfl ⟨.inr (by first | exact Ent.refl _ | exact En.ent), ?_⟩))
    (refine any_one 6 (by kernel_rfl) rfl (wants_none rfl) (o_callE rfl rfl (ent_right (ent_right (Ent.refl _))) (Go.Proofs.Ytfcanppeiadbhaa.inBytes_u _ _ _ _ _ _ _ _ ?_ ?_ ?_ ?_) fun i170 => ⟨.inr (by first | exact Ent.refl _ | exact En.ent), ?_⟩); (· (first | assumption | omega | rfl | decide | infer_instance | (simp; done) | (simp; omega) | (simp only [*]; done))); (· (first | assumption | omega | rfl | decide | infer_instance | (simp; done) | (simp; omega) | (simp only [*]; done))); (· (first | assumption | omega | rfl | decide | infer_instance | (simp; done) | (simp; omega) | (simp only [*]; done))); (· (first | assumption | omega | rfl | decide | infer_instance | (simp; done) | (simp; omega) | (simp only [*]; done))))
    (refine any_take 7 rfl (by kernel_rfl) (by first | exact Ent.refl _ | exact En.ent) (wants_none rfl) (g_move (by conv => lhs; whnf)) rfl rfl ?_)
    (refine any_take 8 rfl (by kernel_rfl) (by first | exact Ent.refl _ | exact En.ent) (wants_none rfl) (g_extract rfl (by conv => lhs; whnf)) rfl rfl ?_)
    (refine any_take 9 rfl (by kernel_rfl) (by first | exact Ent.refl _ | exact En.ent) (wants_none rfl) (g_extract rfl (by conv => lhs; whnf)) rfl rfl ?_)
    (refine any_take 10 rfl (by kernel_rfl) (by first | exact Ent.refl _ | exact En.ent) (wants_none rfl) (g_assign (by conv => lhs; whnf)) rfl rfl ?_)
    (refine any_one 11 (by kernel_rfl) rfl (wants_none rfl) (o_give (g_assign (by conv => lhs; whnf)) rfl rfl ⟨.inl rfl, ?_⟩))
    refine any_done (by kernel_rfl) ?_
    refine q_then ?_
    refine ct_seq ?_
    rotate_left
    refine ct_seq ?_
    (refine ct_region' rfl ?_; simp only [List.map, lite])
    (refine rg rfl (g_eql rfl rfl) rfl rfl ?_)
    (refine rg rfl (g_assign (by conv => lhs; whnf)) rfl rfl ?_)
    refine rt_nil ?_
    refine q_then ?_
    refine ct_if rfl (fun h200 => ?_) (fun h200 => ?_)
    refine ct_seq ?_
    refine ct_any (HeldR h p x * R) 11 ?_
    (refine any_take 0 rfl (by kernel_rfl) (by first | exact Ent.refl _ | exact En.ent) (wants_none rfl) (g_move (by conv => lhs; whnf)) rfl rfl ?_)
    (refine any_take 1 rfl (by kernel_rfl) (by first | exact Ent.refl _ | exact En.ent) (wants_none rfl) (g_nil rfl) rfl rfl ?_)
    (refine any_take 2 rfl (by kernel_rfl) (by first | exact Ent.refl _ | exact En.ent) (wants_none rfl) (g_field0 rfl) rfl rfl ?_)
    (refine any_take 3 rfl (by kernel_rfl) (by first | exact Ent.refl _ | exact En.ent) (wants_none rfl) (g_load_rdc rfl) rfl rfl ?_)
    (refine any_take 4 rfl (by kernel_rfl) (by first | exact Ent.refl _ | exact En.ent) (wants_none rfl) (g_field0 rfl) rfl rfl ?_)
    (refine any_one 5 (by kernel_rfl) rfl (wants_none rfl) (o_give (g_load rfl (by conv => lhs; whnf)) rfl rfl ⟨.inr (by first | exact Ent.refl _ | exact En.ent), ?_⟩))
    (refine any_one 6 (by kernel_rfl) rfl (wants_none rfl) (o_callE rfl rfl (ent_right (ent_right (Ent.refl _))) (Go.Proofs.Ytfcanppeiadbhaa.inText_u _ _ _ _ _ _ _ _ ?_ ?_ ?_ ?_) fun i209 => ⟨.inr (by first | exact Ent.refl _ | exact En.ent), ?_⟩); (· (first | assumption | omega | rfl | decide | infer_instance | (simp; done) | (simp; omega) | (simp only [*]; done))); (· (first | assumption | omega | rfl | decide | infer_instance | (simp; done) | (simp; omega) | (simp only [*]; done))); (· (first | assumption | omega | rfl | decide | infer_instance | (simp; done) | (simp; omega) | (simp only [*]; done))); (· (first | assumption | omega | rfl | decide | infer_instance | (simp; done) | (simp; omega) | (simp only [*]; done))))
    (refine any_take 7 rfl (by kernel_rfl) (by first | exact Ent.refl _ | exact En.ent) (wants_none rfl) (g_move (by conv => lhs; whnf)) rfl rfl ?_)
    (refine any_take 8 rfl (by kernel_rfl) (by first | exact Ent.refl _ | exact En.ent) (wants_none rfl) (g_extract rfl (by conv => lhs; whnf)) rfl rfl ?_)
    (refine any_take 9 rfl (by kernel_rfl) (by first | exact Ent.refl _ | exact En.ent) (wants_none rfl) (g_extract rfl (by conv => lhs; whnf)) rfl rfl ?_)
    (refine any_take 10 rfl (by kernel_rfl) (by first | exact Ent.refl _ | exact En.ent) (wants_none rfl) (g_assign (by conv => lhs; whnf)) rfl rfl ?_)
    (refine any_one 11 (by kernel_rfl) rfl (wants_none rfl) (o_give (g_assign (by conv => lhs; whnf)) rfl rfl ⟨.inl rfl, ?_⟩))
    refine any_done (by kernel_rfl) ?_
    refine q_then ?_
    refine ct_seq ?_
    rotate_left
    refine ct_seq ?_
    (refine ct_region' rfl ?_; simp only [List.map, lite])
    (refine rg rfl (g_eql rfl rfl) rfl rfl ?_)
    (refine rg rfl (g_assign (by conv => lhs; whnf)) rfl rfl ?_)
    refine rt_nil ?_
    refine q_then ?_
    refine ct_if rfl (fun h231 => ?_) (fun h231 => ?_)
    refine ct_seq ?_
    (refine ct_region' rfl ?_; simp only [List.map, lite])
    (refine rg rfl (g_move (by conv => lhs; whnf)) rfl rfl ?_)
    (refine rg rfl (g_nil rfl) rfl rfl ?_)
    (refine rg rfl (g_field0 rfl) rfl rfl ?_)
    (refine rg rfl (g_load_rd0 rfl (by conv => lhs; whnf)) rfl rfl ?_)
    (refine rt_op (wants_none rfl) (o_callE rfl rfl (ent_right (ent_right (Ent.refl _))) (Go.Proofs.Ytfcanppeiadbhaa.inHash_u _ _ _ _ _ _ _ ?_ ?_ ?_) fun i238 => ?_); (· (first | assumption | omega | rfl | decide | infer_instance | (simp; done) | (simp; omega) | (simp only [*]; done))); (· (first | assumption | omega | rfl | decide | infer_instance | (simp; done) | (simp; omega) | (simp only [*]; done))); (· (first | assumption | omega | rfl | decide | infer_instance | (simp; done) | (simp; omega) | (simp only [*]; done))))
    (refine rg rfl (g_move (by conv => lhs; whnf)) rfl rfl ?_)
    (refine rg rfl (g_extract rfl (by conv => lhs; whnf)) rfl rfl ?_)
    (refine rg rfl (g_extract rfl (by conv => lhs; whnf)) rfl rfl ?_)
    (refine rt_op (wants_none rfl) (o_alloc rfl (by conv => lhs; whnf) fun b31 => ?_))
    (refine rt_op (wants_none rfl) (o_storeAgg rfl (by conv => lhs; whnf) (by first | exact List.toList_toArray | (conv => lhs; whnf)) (by first | rfl | exact bvsAll _ | exact wvs_all _ | assumption) (by first | rfl | assumption | (simp; done) | (simp; omega)) (by first | rfl | assumption | (simp; done) | (simp; omega)) ?_))
    (refine rg rfl (g_assign (by conv => lhs; whnf)) rfl rfl ?_)
    refine rt_nil ?_
    refine q_then ?_
    refine ct_seq ?_
    (refine ct_region' rfl ?_; simp only [List.map, lite])
    (refine rg rfl (g_move (by conv => lhs; whnf)) rfl rfl ?_)
    (refine rg rfl (g_nil rfl) rfl rfl ?_)
    (refine rg rfl (g_field0 rfl) rfl rfl ?_)
    (refine rg rfl (g_load_rd0 rfl (by conv => lhs; whnf)) rfl rfl ?_)
    (refine rt_op (wants_none rfl) (o_callE rfl rfl (ent_right (ent_right (ent_right (ent_right (Ent.refl _))))) (Go.Proofs.Ytfcanppeiadbhaa.refInHash_spec _ _ _ _ _ _ _ ?_ ?_ ?_ ?_) fun i246 => ?_); (· (first | assumption | omega | rfl | decide | infer_instance | (simp; done) | (simp; omega) | (simp only [*]; done))); (· (first | assumption | omega | rfl | decide | infer_instance | (simp; done) | (simp; omega) | (simp only [*]; done))); (· (first | assumption | omega | rfl | decide | infer_instance | (simp; done) | (simp; omega) | (simp only [*]; done))); (· (first | assumption | omega | rfl | decide | infer_instance | (simp; done) | (simp; omega) | (simp only [*]; done))))
    (refine rg rfl (g_move (by conv => lhs; whnf)) rfl rfl ?_)
    (refine rg rfl (g_extract rfl (by conv => lhs; whnf)) rfl rfl ?_)
    (refine rg rfl (g_extract rfl (by conv => lhs; whnf)) rfl rfl ?_)
    (refine rt_op (wants_none rfl) (o_alloc rfl (by conv => lhs; whnf) fun b33 => ?_))
    (refine rt_op (wants_none rfl) (o_alloc rfl (by conv => lhs; whnf) fun b34 => ?_))
    (refine rt_op (wants_none rfl) (o_storeAgg rfl (by conv => lhs; whnf) (by first | exact List.toList_toArray | (conv => lhs; whnf)) (by first | rfl | exact bvsAll _ | exact wvs_all _ | assumption) (by first | rfl | assumption | (simp; done) | (simp; omega)) (by first | rfl | assumption | (simp; done) | (simp; omega)) ?_))
    (refine rt_op (wants_none rfl) (o_storeAgg rfl (by conv => lhs; whnf) (by first | exact List.toList_toArray | (conv => lhs; whnf)) (by first | rfl | exact bvsAll _ | exact wvs_all _ | assumption) (by first | rfl | assumption | (simp; done) | (simp; omega)) (by first | rfl | assumption | (simp; done) | (simp; omega)) ?_))
    refine rt_nil ?_
    refine q_then ?_
    refine ct_seq ?_
    (refine ct_region' rfl ?_; simp only [List.map, lite])
    (refine rg rfl (g_loadAgg_blk rfl (by first | rfl | assumption | (simp; done) | (simp; omega))) rfl rfl ?_)
    (refine rg rfl (g_loadAgg_blk rfl (by first | rfl | assumption | (simp; done) | (simp; omega))) rfl rfl ?_)
    refine rg rfl (g_eqHT rfl rfl rfl (hash32_len _) rfl) rfl rfl ?_
    (refine rg rfl (g_move (by conv => lhs; whnf)) rfl rfl ?_)
    (refine rgw rfl rfl rfl rfl (g_move (by conv => lhs; whnf)) rfl rfl ?_)
    (refine rgw rfl rfl rfl rfl (g_move (by conv => lhs; whnf)) rfl rfl ?_)
    (refine rgw rfl rfl rfl rfl (g_loadAgg_blk rfl (by first | rfl | assumption | (simp; done) | (simp; omega))) rfl rfl ?_)
    (refine rt_op (wants_some rfl rfl rfl rfl) (o_callE rfl rfl ((ent_right (ent_right (ent_right (ent_right (ent_right (ent_right (Ent.refl _))))))).trans (Ent.mul (Ent.refl _) (ent_right (ent_right (ent_right (ent_right (Ent.refl _))))))) (w6 _ _ _) fun i256 => ?_))
    (refine rg rfl (g_pick_t rfl (by conv => lhs; whnf)) rfl rfl ?_)
    (refine rg rfl (g_assign (by conv => lhs; whnf)) rfl rfl ?_)
    refine rt_nil ?_
    refine q_then ?_
    refine ct_ret ?_
    refine q_block_ret ?_
    refine q_then_ret ?_
    rotate_left
    refine ct_skip ?_
    refine q_block ?_
    refine q_then ?_
    refine ct_seq ?_
    refine ct_any (HeldR h p x * R) 12 ?_
    (refine any_take 0 rfl (by kernel_rfl) (by first | exact Ent.refl _ | exact En.ent) (wants_none rfl) (g_move (by conv => lhs; whnf)) rfl rfl ?_)
    (refine any_take 1 rfl (by kernel_rfl) (by first | exact Ent.refl _ | exact En.ent) (wants_none rfl) (g_move (by conv => lhs; whnf)) rfl rfl ?_)
    (refine any_take 2 rfl (by kernel_rfl) (by first | exact Ent.refl _ | exact En.ent) (wants_none rfl) (g_nil rfl) rfl rfl ?_)
    (refine any_take 3 rfl (by kernel_rfl) (by first | exact Ent.refl _ | exact En.ent) (wants_none rfl) (g_field0 rfl) rfl rfl ?_)
    (refine any_take 4 rfl (by kernel_rfl) (by first | exact Ent.refl _ | exact En.ent) (wants_none rfl) (g_load_rdc rfl) rfl rfl ?_)
    (refine any_take 6 rfl (by kernel_rfl) (by first | exact Ent.refl _ | exact En.ent) (wants_none rfl) (g_move (by conv => lhs; whnf)) rfl rfl ?_)
    (refine any_take 7 rfl (by kernel_rfl) (by first | exact Ent.refl _ | exact En.ent) (wants_none rfl) (g_nil rfl) rfl rfl ?_)
    (refine any_take 8 rfl (by kernel_rfl) (by first | exact Ent.refl _ | exact En.ent) (wants_none rfl) (g_field0 rfl) rfl rfl ?_)
    (refine any_take 9 rfl (by kernel_rfl) (by first | exact Ent.refl _ | exact En.ent) (wants_none rfl) (g_load_rdc rfl) rfl rfl ?_)
    (refine any_one 5 (by kernel_rfl) rfl (wants_none rfl) (o_callE rfl rfl (ent_right (ent_right (Ent.refl _))) (Go.Proofs.Ytfcanppeiadbhaa.inEnd_u _ _ _ _ _ _ _ ?_) fun i263 => ⟨.inr (by first | exact Ent.refl _ | exact En.ent), ?_⟩); (· (first | assumption | omega | rfl | decide | infer_instance | (simp; done) | (simp; omega) | (simp only [*]; done))))
    (refine any_one 10 (by kernel_rfl) rfl (wants_none rfl) (o_callE rfl rfl (ent_right (ent_right (ent_right (Ent.refl _)))) (Go.Proofs.Ytfcanppeiadbhaa.refEnd_spec _ _ _ _ _ _ _ ?_ ?_) fun i268 => ⟨.inr (by first | exact Ent.refl _ | exact En.ent), ?_⟩); (· (first | assumption | omega | rfl | decide | infer_instance | (simp; done) | (simp; omega) | (simp only [*]; done))); (· (first | assumption | omega | rfl | decide | infer_instance | (simp; done) | (simp; omega) | (simp only [*]; done))))
    (refine any_one 11 (by kernel_rfl) rfl (wants_none rfl) (o_callE rfl rfl ((ent_right (ent_right (ent_right (Ent.refl _)))).trans (Ent.mul (Ent.refl _) (ent_right (Ent.refl _)))) (w7 _ _ _) fun i269 => ⟨.inr (by first | exact Ent.refl _ | exact En.ent), ?_⟩))
    (refine any_one 12 (by kernel_rfl) rfl (wants_none rfl) (o_give (g_assign (by conv => lhs; whnf)) rfl rfl ⟨.inl rfl, ?_⟩))
    refine any_done (by kernel_rfl) ?_
    refine q_then ?_
    refine ct_ret ?_
    rotate_left
  · exact q_ret1 rfl (by conv => lhs; whnf) ⟨((byteS xs pos (whyOf e)).2.1, nx e i44 (byteS xs pos (whyOf e)).2.2, ⟨s, hs⟩), byteS_pos _ _ _ hp, nx_ok he⟩ rfl (by dsimp only; rw [whyOf_nx byteS_keep he]; exact En.ent)
  · refine ct_join (fun bb : Nat => [(0, .pointer (some ⟨h, 0, none⟩)), (9, .int .u64 (numberS xs pos (whyOf e) ox).1), (10, errV ((nx e i73 (numberS xs pos (whyOf e) ox).2.2).map Prod.fst)), (11, .int .u64 (numberS xs pos (whyOf e) ox).1), (12, .pointer (some ⟨bb, 0, none⟩))]) (fun bb => Blk bb [.int .i64 ((numberS xs pos (whyOf e) ox).2.2:Int), .int .i64 (atOf (numberS xs pos (whyOf e) ox).2.2 (numberS xs pos (whyOf e) ox).2.1 : Nat)] 59 * (RinA x b c xs.length (numberS xs pos (whyOf e) ox).2.1 (numberS xs pos (whyOf e) ox).2.2 * (InA p a cap xs (numberS xs pos (whyOf e) ox).2.1 (nx e i73 (numberS xs pos (whyOf e) ox).2.2) * (HeldO h p x (errV (e.map Prod.fst)) s * R)))) ?_ ?_
    · focus
        refine ct_anyP 12 (ent_right (ent_right (ent_right (Ent.refl _)))) ?_
        (refine any_take 0 rfl (by kernel_rfl) (by first | exact Ent.refl _ | exact En.ent) (wants_none rfl) (g_move (by conv => lhs; whnf)) rfl rfl ?_)
        (refine any_take 1 rfl (by kernel_rfl) (by first | exact Ent.refl _ | exact En.ent) (wants_none rfl) (g_nil rfl) rfl rfl ?_)
        (refine any_take 2 rfl (by kernel_rfl) (by first | exact Ent.refl _ | exact En.ent) (wants_none rfl) (g_field0 rfl) rfl rfl ?_)
        (refine any_take 3 rfl (by kernel_rfl) (by first | exact Ent.refl _ | exact En.ent) (wants_none rfl) (g_load_rd0 rfl (by conv => lhs; whnf)) rfl rfl ?_)
        (refine any_take 4 rfl (by kernel_rfl) (by first | exact Ent.refl _ | exact En.ent) (wants_none rfl) (g_field0 rfl) rfl rfl ?_)
        (refine any_take 5 rfl (by kernel_rfl) (by first | exact Ent.refl _ | exact En.ent) (wants_none rfl) (g_load rfl (by conv => lhs; whnf)) rfl rfl ?_)
        refine any_two 6 10 (by kernel_rfl) (any_op rfl (wants_none rfl) ?_) (any_op rfl (wants_none rfl) ?_)
        (refine o_callE rfl rfl (ent_right (ent_right (ent_right (Ent.refl _)))) (Go.Proofs.Ytfcanppeiadbhaa.refInNumber_spec _ _ _ _ _ _ _ _ ?_ ?_) fun i83 => ⟨(by first | exact .inl rfl | exact .inr (Ent.refl _) | exact .inr En.ent), ?_⟩; (· (first | assumption | omega | rfl | decide | infer_instance | (simp; done) | (simp; omega) | (simp only [*]; done))); (· (first | assumption | omega | rfl | decide | infer_instance | (simp; done) | (simp; omega) | (simp only [*]; done))))
        (refine any_take 7 rfl (by kernel_rfl) (by first | exact Ent.refl _ | exact En.ent) (wants_none rfl) (g_move (by conv => lhs; whnf)) rfl rfl ?_)
        (refine any_take 8 rfl (by kernel_rfl) (by first | exact Ent.refl _ | exact En.ent) (wants_none rfl) (g_extract rfl (by conv => lhs; whnf)) rfl rfl ?_)
        (refine any_take 9 rfl (by kernel_rfl) (by first | exact Ent.refl _ | exact En.ent) (wants_none rfl) (g_extract rfl (by conv => lhs; whnf)) rfl rfl ?_)
        (refine any_one 10 (by kernel_rfl) rfl (wants_none rfl) (o_alloc rfl (by conv => lhs; whnf) fun b12 => ⟨.inr (by first | exact Ent.refl _ | exact En.ent), ?_⟩))
        (refine any_take 11 rfl (by kernel_rfl) (by first | exact Ent.refl _ | exact En.ent) (wants_none rfl) (g_assign (by conv => lhs; whnf)) rfl rfl ?_)
        (refine any_one 12 (by kernel_rfl) rfl (wants_none rfl) (o_storeAgg rfl (by conv => lhs; whnf) (by first | exact List.toList_toArray | (conv => lhs; whnf)) (by first | rfl | exact bvsAll _ | exact wvs_all _ | assumption) (by first | rfl | assumption | (simp; done) | (simp; omega)) (by first | rfl | assumption | (simp; done) | (simp; omega)) ⟨.inl rfl, ?_⟩))
        refine any_done (by kernel_rfl) ?_
        rotate_left
        (refine o_alloc rfl (by conv => lhs; whnf) fun b12 => ⟨(by first | exact .inl rfl | exact .inr (Ent.refl _) | exact .inr En.ent), ?_⟩)
        (refine any_one 6 (by kernel_rfl) rfl (wants_none rfl) (o_callE rfl rfl (ent_right (ent_right (ent_right (ent_right (Ent.refl _))))) (Go.Proofs.Ytfcanppeiadbhaa.refInNumber_spec _ _ _ _ _ _ _ _ ?_ ?_) fun i83 => ⟨.inr (by first | exact Ent.refl _ | exact En.ent), ?_⟩); (· (first | assumption | omega | rfl | decide | infer_instance | (simp; done) | (simp; omega) | (simp only [*]; done))); (· (first | assumption | omega | rfl | decide | infer_instance | (simp; done) | (simp; omega) | (simp only [*]; done))))
        (refine any_take 7 rfl (by kernel_rfl) (by first | exact Ent.refl _ | exact En.ent) (wants_none rfl) (g_move (by conv => lhs; whnf)) rfl rfl ?_)
        (refine any_take 8 rfl (by kernel_rfl) (by first | exact Ent.refl _ | exact En.ent) (wants_none rfl) (g_extract rfl (by conv => lhs; whnf)) rfl rfl ?_)
        (refine any_take 9 rfl (by kernel_rfl) (by first | exact Ent.refl _ | exact En.ent) (wants_none rfl) (g_extract rfl (by conv => lhs; whnf)) rfl rfl ?_)
        (refine any_take 11 rfl (by kernel_rfl) (by first | exact Ent.refl _ | exact En.ent) (wants_none rfl) (g_assign (by conv => lhs; whnf)) rfl rfl ?_)
        (refine any_one 12 (by kernel_rfl) rfl (wants_none rfl) (o_storeAgg rfl (by conv => lhs; whnf) (by first | exact List.toList_toArray | (conv => lhs; whnf)) (by first | rfl | exact bvsAll _ | exact wvs_all _ | assumption) (by first | rfl | assumption | (simp; done) | (simp; omega)) (by first | rfl | assumption | (simp; done) | (simp; omega)) ⟨.inl rfl, ?_⟩))
        refine any_done (by kernel_rfl) ?_
        rotate_left
      all_goals exact q_cut _ ⟨rfl, rfl, rfl, rfl, rfl, trivial⟩ (by exact En.ent)
    · intro b12 ρ'
      focus
        refine q_then ?_
        refine ct_seq ?_
        (refine ct_region' rfl ?_; simp only [List.map, lite])
        (refine rg rfl (g_move (by conv => lhs; whnf)) rfl rfl ?_)
        (refine rg rfl (g_move (by conv => lhs; whnf)) rfl rfl ?_)
        (refine rg rfl (g_eqlT rfl rfl ?_) rfl rfl ?_; (· (omega)))
        (refine rg rfl (g_move (by conv => lhs; whnf)) rfl rfl ?_)
        (refine rgw rfl rfl rfl rfl (g_move (by conv => lhs; whnf)) rfl rfl ?_)
        (refine rgw rfl rfl rfl rfl (g_move (by conv => lhs; whnf)) rfl rfl ?_)
        (refine rgw rfl rfl rfl rfl (g_loadAgg_blk rfl (by first | rfl | assumption | (simp; done) | (simp; omega))) rfl rfl ?_)
        (refine rt_op (wants_some rfl rfl rfl rfl) (o_callE rfl rfl ((ent_right (ent_right (ent_right (Ent.refl _)))).trans (Ent.mul (Ent.refl _) (ent_right (ent_right (Ent.refl _))))) (w1 _ _ _) fun i93 => ?_))
        (refine rg rfl (g_pick_t rfl (by conv => lhs; whnf)) rfl rfl ?_)
        (refine rg rfl (g_assign (by conv => lhs; whnf)) rfl rfl ?_)
        refine rt_nil ?_
        refine q_then ?_
        refine ct_ret ?_
        refine q_block_ret ?_
        refine q_then_ret ?_
        rotate_left
      exact q_ret1 rfl (by conv => lhs; whnf) ⟨((numberS xs pos (whyOf e) ox).2.1, nx e i73 (numberS xs pos (whyOf e) ox).2.2, ⟨s, hs⟩), numberS_pos _ _ _ _ hp, nx_ok he⟩ rfl (by dsimp only; rw [whyOf_nx numberS_keep he]; exact En.ent)
  · exact q_ret1 rfl (by conv => lhs; whnf) ⟨((signedS xs pos (whyOf e)).2.1, nx e i102 (signedS xs pos (whyOf e)).2.2, ⟨s, hs⟩), signedS_pos _ _ _ hp, nx_ok he⟩ rfl (by dsimp only; rw [whyOf_nx signedS_keep he]; exact En.ent)
  · refine ct_join (fun bb : Nat × Option Addr × Nat => [(0, .pointer (some ⟨h, 0, none⟩)), (17, .slice i131.2.1 (rawS xs pos (whyOf e) on).1.length i131.2.2), (18, errV ((nx e i131.1 (rawS xs pos (whyOf e) on).2.2).map Prod.fst)), (19, .slice bb.2.1 (rawS xs pos (whyOf e) on).1.length bb.2.2), (20, .pointer (some ⟨bb.1, 0, none⟩))]) (fun bb => Blk bb.1 [.int .i64 ((rawS xs pos (whyOf e) on).2.2:Int), .int .i64 (atOf (rawS xs pos (whyOf e) on).2.2 (rawS xs pos (whyOf e) on).2.1 : Nat)] 59 * (Arr 5 1 bb.2.1 bb.2.2 (rawS xs pos (whyOf e) on).1.length ((rawS xs pos (whyOf e) on).1.map bv) * (RinA x b c xs.length (rawS xs pos (whyOf e) on).2.1 (rawS xs pos (whyOf e) on).2.2 * (Arr 5 1 i131.2.1 i131.2.2 (rawS xs pos (whyOf e) on).1.length ((rawS xs pos (whyOf e) on).1.map bv) * (InA p a cap xs (rawS xs pos (whyOf e) on).2.1 (nx e i131.1 (rawS xs pos (whyOf e) on).2.2) * (HeldO h p x (errV (e.map Prod.fst)) s * R)))))) ?_ ?_
    · focus
        refine ct_anyP 12 (ent_right (ent_right (ent_right (ent_right (Ent.refl _))))) ?_
        (refine any_take 0 rfl (by kernel_rfl) (by first | exact Ent.refl _ | exact En.ent) (wants_none rfl) (g_move (by conv => lhs; whnf)) rfl rfl ?_)
        (refine any_take 1 rfl (by kernel_rfl) (by first | exact Ent.refl _ | exact En.ent) (wants_none rfl) (g_nil rfl) rfl rfl ?_)
        (refine any_take 2 rfl (by kernel_rfl) (by first | exact Ent.refl _ | exact En.ent) (wants_none rfl) (g_field0 rfl) rfl rfl ?_)
        (refine any_take 3 rfl (by kernel_rfl) (by first | exact Ent.refl _ | exact En.ent) (wants_none rfl) (g_load_rd0 rfl (by conv => lhs; whnf)) rfl rfl ?_)
        (refine any_take 4 rfl (by kernel_rfl) (by first | exact Ent.refl _ | exact En.ent) (wants_none rfl) (g_field0 rfl) rfl rfl ?_)
        (refine any_take 5 rfl (by kernel_rfl) (by first | exact Ent.refl _ | exact En.ent) (wants_none rfl) (g_load rfl (by conv => lhs; whnf)) rfl rfl ?_)
        refine any_two 6 10 (by kernel_rfl) (any_op rfl (wants_none rfl) ?_) (any_op rfl (wants_none rfl) ?_)
        (refine o_callE rfl rfl (ent_right (ent_right (ent_right (ent_right (Ent.refl _))))) (Go.Proofs.Ytfcanppeiadbhaa.refRaw_spec _ _ _ _ _ _ _ _ ?_ ?_ ?_ ?_ ?_) fun i141 => ⟨(by first | exact .inl rfl | exact .inr (Ent.refl _) | exact .inr En.ent), ?_⟩; (· (first | assumption | omega | rfl | decide | infer_instance | (simp; done) | (simp; omega) | (simp only [*]; done))); (· (first | assumption | omega | rfl | decide | infer_instance | (simp; done) | (simp; omega) | (simp only [*]; done))); (· (first | assumption | omega | rfl | decide | infer_instance | (simp; done) | (simp; omega) | (simp only [*]; done))); (· (first | assumption | omega | rfl | decide | infer_instance | (simp; done) | (simp; omega) | (simp only [*]; done))); (· (first | assumption | omega | rfl | decide | infer_instance | (simp; done) | (simp; omega) | (simp only [*]; done))))
        (refine any_take 7 rfl (by kernel_rfl) (by first | exact Ent.refl _ | exact En.ent) (wants_none rfl) (g_move (by conv => lhs; whnf)) rfl rfl ?_)
        (refine any_take 8 rfl (by kernel_rfl) (by first | exact Ent.refl _ | exact En.ent) (wants_none rfl) (g_extract rfl (by conv => lhs; whnf)) rfl rfl ?_)
        (refine any_take 9 rfl (by kernel_rfl) (by first | exact Ent.refl _ | exact En.ent) (wants_none rfl) (g_extract rfl (by conv => lhs; whnf)) rfl rfl ?_)
        (refine any_one 10 (by kernel_rfl) rfl (wants_none rfl) (o_alloc rfl (by conv => lhs; whnf) fun b20 => ⟨.inr (by first | exact Ent.refl _ | exact En.ent), ?_⟩))
        (refine any_take 11 rfl (by kernel_rfl) (by first | exact Ent.refl _ | exact En.ent) (wants_none rfl) (g_assign (by conv => lhs; whnf)) rfl rfl ?_)
        (refine any_one 12 (by kernel_rfl) rfl (wants_none rfl) (o_storeAgg rfl (by conv => lhs; whnf) (by first | exact List.toList_toArray | (conv => lhs; whnf)) (by first | rfl | exact bvsAll _ | exact wvs_all _ | assumption) (by first | rfl | assumption | (simp; done) | (simp; omega)) (by first | rfl | assumption | (simp; done) | (simp; omega)) ⟨.inl rfl, ?_⟩))
        refine any_done (by kernel_rfl) ?_
        rotate_left
        (refine o_alloc rfl (by conv => lhs; whnf) fun b20 => ⟨(by first | exact .inl rfl | exact .inr (Ent.refl _) | exact .inr En.ent), ?_⟩)
        (refine any_one 6 (by kernel_rfl) rfl (wants_none rfl) (o_callE rfl rfl (ent_right (ent_right (ent_right (ent_right (ent_right (Ent.refl _)))))) (Go.Proofs.Ytfcanppeiadbhaa.refRaw_spec _ _ _ _ _ _ _ _ ?_ ?_ ?_ ?_ ?_) fun i141 => ⟨.inr (by first | exact Ent.refl _ | exact En.ent), ?_⟩); (· (first | assumption | omega | rfl | decide | infer_instance | (simp; done) | (simp; omega) | (simp only [*]; done))); (· (first | assumption | omega | rfl | decide | infer_instance | (simp; done) | (simp; omega) | (simp only [*]; done))); (· (first | assumption | omega | rfl | decide | infer_instance | (simp; done) | (simp; omega) | (simp only [*]; done))); (· (first | assumption | omega | rfl | decide | infer_instance | (simp; done) | (simp; omega) | (simp only [*]; done))); (· (first | assumption | omega | rfl | decide | infer_instance | (simp; done) | (simp; omega) | (simp only [*]; done))))
        (refine any_take 7 rfl (by kernel_rfl) (by first | exact Ent.refl _ | exact En.ent) (wants_none rfl) (g_move (by conv => lhs; whnf)) rfl rfl ?_)
        (refine any_take 8 rfl (by kernel_rfl) (by first | exact Ent.refl _ | exact En.ent) (wants_none rfl) (g_extract rfl (by conv => lhs; whnf)) rfl rfl ?_)
        (refine any_take 9 rfl (by kernel_rfl) (by first | exact Ent.refl _ | exact En.ent) (wants_none rfl) (g_extract rfl (by conv => lhs; whnf)) rfl rfl ?_)
        (refine any_take 11 rfl (by kernel_rfl) (by first | exact Ent.refl _ | exact En.ent) (wants_none rfl) (g_assign (by conv => lhs; whnf)) rfl rfl ?_)
        (refine any_one 12 (by kernel_rfl) rfl (wants_none rfl) (o_storeAgg rfl (by conv => lhs; whnf) (by first | exact List.toList_toArray | (conv => lhs; whnf)) (by first | rfl | exact bvsAll _ | exact wvs_all _ | assumption) (by first | rfl | assumption | (simp; done) | (simp; omega)) (by first | rfl | assumption | (simp; done) | (simp; omega)) ⟨.inl rfl, ?_⟩))
        refine any_done (by kernel_rfl) ?_
        rotate_left
      all_goals exact q_cut (_, _, _) ⟨rfl, rfl, rfl, rfl, rfl, trivial⟩ (by exact En.ent)
    · intro bb ρ'
      obtain ⟨b1x, b2x, b3x⟩ := bb
      dsimp only
      focus
        refine q_then ?_
        refine ct_seq ?_
        (refine ct_region' rfl ?_; simp only [List.map, lite])
        (refine rg rfl (g_move (by conv => lhs; whnf)) rfl rfl ?_)
        (refine rg rfl (g_convA rfl rfl rfl) rfl rfl ?_)
        (refine rg rfl (g_move (by conv => lhs; whnf)) rfl rfl ?_)
        (refine rg rfl (g_convA rfl rfl rfl) rfl rfl ?_)
        (refine rg rfl (g_eqsT rfl rfl ?_) rfl rfl ?_; (· (first | rfl | assumption)))
        (refine rg rfl (g_assign (by conv => lhs; whnf)) rfl rfl ?_)
        refine rt_nil ?_
        refine q_then ?_
        refine ct_seq ?_
        (refine ct_region' rfl ?_; simp only [List.map, lite])
        (refine rg rfl (g_move (by conv => lhs; whnf)) rfl rfl ?_)
        (refine rg rfl (g_nil rfl) rfl rfl ?_)
        (refine rg rfl (g_field0 rfl) rfl rfl ?_)
        (refine rg rfl (g_move (by conv => lhs; whnf)) rfl rfl ?_)
        (refine rt_op (wants_none rfl) (o_callE rfl rfl ((ent_right (ent_right (ent_right (ent_right (ent_right (Ent.refl _)))))).trans (Ent.mul (Ent.refl _) (ent_right (ent_right (ent_right (Ent.refl _)))))) (Go.Proofs.Ytfcanppeiadbhaa.hadd_spec _ _ _ _ _ _ _ _ _ _ ?_ ?_ ?_) fun i153 => ?_); (· (first | assumption | omega | rfl | decide | infer_instance | (simp; done) | (simp; omega) | (simp only [*]; done))); (· (first | assumption | omega | rfl | decide | infer_instance | (simp; done) | (simp; omega) | (simp only [*]; done))); (· (first | assumption | omega | rfl | decide | infer_instance | (simp; done) | (simp; omega) | (simp only [*]; done))))
        refine rt_nil ?_
        refine q_then ?_
        refine ct_seq ?_
        (refine ct_region' rfl ?_; simp only [List.map, lite])
        (refine rg rfl (g_move (by conv => lhs; whnf)) rfl rfl ?_)
        (refine rg rfl (g_move (by conv => lhs; whnf)) rfl rfl ?_)
        (refine rgw rfl rfl rfl rfl (g_move (by conv => lhs; whnf)) rfl rfl ?_)
        (refine rgw rfl rfl rfl rfl (g_move (by conv => lhs; whnf)) rfl rfl ?_)
        (refine rgw rfl rfl rfl rfl (g_loadAgg_blk rfl (by first | rfl | assumption | (simp; done) | (simp; omega))) rfl rfl ?_)
        (refine rt_op (wants_some rfl rfl rfl rfl) (o_callE rfl rfl ((Ent.refl _).trans (Ent.mul (Ent.refl _) (ent_right (ent_right (ent_right (Ent.refl _)))))) (w3 _ _ _) fun i159 => ?_))
        (refine rg rfl (g_pick_t rfl (by conv => lhs; whnf)) rfl rfl ?_)
        (refine rg rfl (g_assign (by conv => lhs; whnf)) rfl rfl ?_)
        refine rt_nil ?_
        refine q_then ?_
        refine ct_ret ?_
        refine q_block_ret ?_
        refine q_then_ret ?_
        rotate_left
      exact q_ret1 rfl (by conv => lhs; whnf) ⟨((rawS xs pos (whyOf e) on).2.1, nx e i131.1 (rawS xs pos (whyOf e) on).2.2, i153), rawS_pos _ _ _ _ hp, nx_ok he⟩ rfl (by dsimp only; rw [whyOf_nx rawS_keep he]; exact En.ent)
  · refine ct_join (fun bb : Nat × Option Addr × Nat => [(0, .pointer (some ⟨h, 0, none⟩)), (22, .slice i170.2.1 (bytesS xs pos (whyOf e) on).1.length i170.2.2), (23, errV ((nx e i170.1 (bytesS xs pos (whyOf e) on).2.2).map Prod.fst)), (24, .slice bb.2.1 (bytesS xs pos (whyOf e) on).1.length bb.2.2), (25, .pointer (some ⟨bb.1, 0, none⟩))]) (fun bb => Blk bb.1 [.int .i64 ((bytesS xs pos (whyOf e) on).2.2:Int), .int .i64 (atOf (bytesS xs pos (whyOf e) on).2.2 (bytesS xs pos (whyOf e) on).2.1 : Nat)] 59 * (Arr 5 1 bb.2.1 bb.2.2 (bytesS xs pos (whyOf e) on).1.length ((bytesS xs pos (whyOf e) on).1.map bv) * (RinA x b c xs.length (bytesS xs pos (whyOf e) on).2.1 (bytesS xs pos (whyOf e) on).2.2 * (Arr 5 1 i170.2.1 i170.2.2 (bytesS xs pos (whyOf e) on).1.length ((bytesS xs pos (whyOf e) on).1.map bv) * (InA p a cap xs (bytesS xs pos (whyOf e) on).2.1 (nx e i170.1 (bytesS xs pos (whyOf e) on).2.2) * (HeldO h p x (errV (e.map Prod.fst)) s * R)))))) ?_ ?_
    · focus
        refine ct_anyP 12 (ent_right (ent_right (ent_right (ent_right (Ent.refl _))))) ?_
        (refine any_take 0 rfl (by kernel_rfl) (by first | exact Ent.refl _ | exact En.ent) (wants_none rfl) (g_move (by conv => lhs; whnf)) rfl rfl ?_)
        (refine any_take 1 rfl (by kernel_rfl) (by first | exact Ent.refl _ | exact En.ent) (wants_none rfl) (g_nil rfl) rfl rfl ?_)
        (refine any_take 2 rfl (by kernel_rfl) (by first | exact Ent.refl _ | exact En.ent) (wants_none rfl) (g_field0 rfl) rfl rfl ?_)
        (refine any_take 3 rfl (by kernel_rfl) (by first | exact Ent.refl _ | exact En.ent) (wants_none rfl) (g_load_rd0 rfl (by conv => lhs; whnf)) rfl rfl ?_)
        (refine any_take 4 rfl (by kernel_rfl) (by first | exact Ent.refl _ | exact En.ent) (wants_none rfl) (g_field0 rfl) rfl rfl ?_)
        (refine any_take 5 rfl (by kernel_rfl) (by first | exact Ent.refl _ | exact En.ent) (wants_none rfl) (g_load rfl (by conv => lhs; whnf)) rfl rfl ?_)
        refine any_two 6 10 (by kernel_rfl) (any_op rfl (wants_none rfl) ?_) (any_op rfl (wants_none rfl) ?_)
        (refine o_callE rfl rfl (ent_right (ent_right (ent_right (ent_right (Ent.refl _))))) (Go.Proofs.Ytfcanppeiadbhaa.refInBytes_spec _ _ _ _ _ _ _ _ ?_ ?_ ?_ ?_ ?_) fun i180 => ⟨(by first | exact .inl rfl | exact .inr (Ent.refl _) | exact .inr En.ent), ?_⟩; (· (first | assumption | omega | rfl | decide | infer_instance | (simp; done) | (simp; omega) | (simp only [*]; done))); (· (first | assumption | omega | rfl | decide | infer_instance | (simp; done) | (simp; omega) | (simp only [*]; done))); (· (first | assumption | omega | rfl | decide | infer_instance | (simp; done) | (simp; omega) | (simp only [*]; done))); (· (first | assumption | omega | rfl | decide | infer_instance | (simp; done) | (simp; omega) | (simp only [*]; done))); (· (first | assumption | omega | rfl | decide | infer_instance | (simp; done) | (simp; omega) | (simp only [*]; done))))
        (refine any_take 7 rfl (by kernel_rfl) (by first | exact Ent.refl _ | exact En.ent) (wants_none rfl) (g_move (by conv => lhs; whnf)) rfl rfl ?_)
        (refine any_take 8 rfl (by kernel_rfl) (by first | exact Ent.refl _ | exact En.ent) (wants_none rfl) (g_extract rfl (by conv => lhs; whnf)) rfl rfl ?_)
        (refine any_take 9 rfl (by kernel_rfl) (by first | exact Ent.refl _ | exact En.ent) (wants_none rfl) (g_extract rfl (by conv => lhs; whnf)) rfl rfl ?_)
        (refine any_one 10 (by kernel_rfl) rfl (wants_none rfl) (o_alloc rfl (by conv => lhs; whnf) fun b25 => ⟨.inr (by first | exact Ent.refl _ | exact En.ent), ?_⟩))
        (refine any_take 11 rfl (by kernel_rfl) (by first | exact Ent.refl _ | exact En.ent) (wants_none rfl) (g_assign (by conv => lhs; whnf)) rfl rfl ?_)
        (refine any_one 12 (by kernel_rfl) rfl (wants_none rfl) (o_storeAgg rfl (by conv => lhs; whnf) (by first | exact List.toList_toArray | (conv => lhs; whnf)) (by first | rfl | exact bvsAll _ | exact wvs_all _ | assumption) (by first | rfl | assumption | (simp; done) | (simp; omega)) (by first | rfl | assumption | (simp; done) | (simp; omega)) ⟨.inl rfl, ?_⟩))
        refine any_done (by kernel_rfl) ?_
        rotate_left
        (refine o_alloc rfl (by conv => lhs; whnf) fun b25 => ⟨(by first | exact .inl rfl | exact .inr (Ent.refl _) | exact .inr En.ent), ?_⟩)
        (refine any_one 6 (by kernel_rfl) rfl (wants_none rfl) (o_callE rfl rfl (ent_right (ent_right (ent_right (ent_right (ent_right (Ent.refl _)))))) (Go.Proofs.Ytfcanppeiadbhaa.refInBytes_spec _ _ _ _ _ _ _ _ ?_ ?_ ?_ ?_ ?_) fun i180 => ⟨.inr (by first | exact Ent.refl _ | exact En.ent), ?_⟩); (· (first | assumption | omega | rfl | decide | infer_instance | (simp; done) | (simp; omega) | (simp only [*]; done))); (· (first | assumption | omega | rfl | decide | infer_instance | (simp; done) | (simp; omega) | (simp only [*]; done))); (· (first | assumption | omega | rfl | decide | infer_instance | (simp; done) | (simp; omega) | (simp only [*]; done))); (· (first | assumption | omega | rfl | decide | infer_instance | (simp; done) | (simp; omega) | (simp only [*]; done))); (· (first | assumption | omega | rfl | decide | infer_instance | (simp; done) | (simp; omega) | (simp only [*]; done))))
        (refine any_take 7 rfl (by kernel_rfl) (by first | exact Ent.refl _ | exact En.ent) (wants_none rfl) (g_move (by conv => lhs; whnf)) rfl rfl ?_)
        (refine any_take 8 rfl (by kernel_rfl) (by first | exact Ent.refl _ | exact En.ent) (wants_none rfl) (g_extract rfl (by conv => lhs; whnf)) rfl rfl ?_)
        (refine any_take 9 rfl (by kernel_rfl) (by first | exact Ent.refl _ | exact En.ent) (wants_none rfl) (g_extract rfl (by conv => lhs; whnf)) rfl rfl ?_)
        (refine any_take 11 rfl (by kernel_rfl) (by first | exact Ent.refl _ | exact En.ent) (wants_none rfl) (g_assign (by conv => lhs; whnf)) rfl rfl ?_)
        (refine any_one 12 (by kernel_rfl) rfl (wants_none rfl) (o_storeAgg rfl (by conv => lhs; whnf) (by first | exact List.toList_toArray | (conv => lhs; whnf)) (by first | rfl | exact bvsAll _ | exact wvs_all _ | assumption) (by first | rfl | assumption | (simp; done) | (simp; omega)) (by first | rfl | assumption | (simp; done) | (simp; omega)) ⟨.inl rfl, ?_⟩))
        refine any_done (by kernel_rfl) ?_
        rotate_left
      all_goals exact q_cut (_, _, _) ⟨rfl, rfl, rfl, rfl, rfl, trivial⟩ (by exact En.ent)
    · intro bb ρ'
      obtain ⟨b1x, b2x, b3x⟩ := bb
      dsimp only
      focus
        refine q_then ?_
        refine ct_seq ?_
        (refine ct_region' rfl ?_; simp only [List.map, lite])
        (refine rg rfl (g_move (by conv => lhs; whnf)) rfl rfl ?_)
        (refine rg rfl (g_convA rfl rfl rfl) rfl rfl ?_)
        (refine rg rfl (g_move (by conv => lhs; whnf)) rfl rfl ?_)
        (refine rg rfl (g_convA rfl rfl rfl) rfl rfl ?_)
        (refine rg rfl (g_eqsT rfl rfl ?_) rfl rfl ?_; (· (first | rfl | assumption)))
        (refine rg rfl (g_assign (by conv => lhs; whnf)) rfl rfl ?_)
        refine rt_nil ?_
        refine q_then ?_
        refine ct_seq ?_
        (refine ct_region' rfl ?_; simp only [List.map, lite])
        (refine rg rfl (g_move (by conv => lhs; whnf)) rfl rfl ?_)
        (refine rg rfl (g_nil rfl) rfl rfl ?_)
        (refine rg rfl (g_field0 rfl) rfl rfl ?_)
        (refine rg rfl (g_move (by conv => lhs; whnf)) rfl rfl ?_)
        (refine rt_op (wants_none rfl) (o_callE rfl rfl ((ent_right (ent_right (ent_right (ent_right (ent_right (Ent.refl _)))))).trans (Ent.mul (Ent.refl _) (ent_right (ent_right (ent_right (Ent.refl _)))))) (Go.Proofs.Ytfcanppeiadbhaa.hadd_spec _ _ _ _ _ _ _ _ _ _ ?_ ?_ ?_) fun i192 => ?_); (· (first | assumption | omega | rfl | decide | infer_instance | (simp; done) | (simp; omega) | (simp only [*]; done))); (· (first | assumption | omega | rfl | decide | infer_instance | (simp; done) | (simp; omega) | (simp only [*]; done))); (· (first | assumption | omega | rfl | decide | infer_instance | (simp; done) | (simp; omega) | (simp only [*]; done))))
        refine rt_nil ?_
        refine q_then ?_
        refine ct_seq ?_
        (refine ct_region' rfl ?_; simp only [List.map, lite])
        (refine rg rfl (g_move (by conv => lhs; whnf)) rfl rfl ?_)
        (refine rg rfl (g_move (by conv => lhs; whnf)) rfl rfl ?_)
        (refine rgw rfl rfl rfl rfl (g_move (by conv => lhs; whnf)) rfl rfl ?_)
        (refine rgw rfl rfl rfl rfl (g_move (by conv => lhs; whnf)) rfl rfl ?_)
        (refine rgw rfl rfl rfl rfl (g_loadAgg_blk rfl (by first | rfl | assumption | (simp; done) | (simp; omega))) rfl rfl ?_)
        (refine rt_op (wants_some rfl rfl rfl rfl) (o_callE rfl rfl ((Ent.refl _).trans (Ent.mul (Ent.refl _) (ent_right (ent_right (ent_right (Ent.refl _)))))) (w4 _ _ _) fun i198 => ?_))
        (refine rg rfl (g_pick_t rfl (by conv => lhs; whnf)) rfl rfl ?_)
        (refine rg rfl (g_assign (by conv => lhs; whnf)) rfl rfl ?_)
        refine rt_nil ?_
        refine q_then ?_
        refine ct_ret ?_
        refine q_block_ret ?_
        refine q_then_ret ?_
        rotate_left
      exact q_ret1 rfl (by conv => lhs; whnf) ⟨((bytesS xs pos (whyOf e) on).2.1, nx e i170.1 (bytesS xs pos (whyOf e) on).2.2, i192), bytesS_pos _ _ _ _ hp, nx_ok he⟩ rfl (by dsimp only; rw [whyOf_nx bytesS_keep he]; exact En.ent)
  · refine ct_join (fun bb : Nat => [(0, .pointer (some ⟨h, 0, none⟩)), (27, .string ⟨(bytesS xs pos (whyOf e) on).1.toArray⟩), (28, errV ((nx e i209 (bytesS xs pos (whyOf e) on).2.2).map Prod.fst)), (29, .string ⟨(bytesS xs pos (whyOf e) on).1.toArray⟩), (30, .pointer (some ⟨bb, 0, none⟩))]) (fun bb => Blk bb [.int .i64 ((bytesS xs pos (whyOf e) on).2.2:Int), .int .i64 (atOf (bytesS xs pos (whyOf e) on).2.2 (bytesS xs pos (whyOf e) on).2.1 : Nat)] 59 * (RinA x b c xs.length (bytesS xs pos (whyOf e) on).2.1 (bytesS xs pos (whyOf e) on).2.2 * (InA p a cap xs (bytesS xs pos (whyOf e) on).2.1 (nx e i209 (bytesS xs pos (whyOf e) on).2.2) * (HeldO h p x (errV (e.map Prod.fst)) s * R)))) ?_ ?_
    · focus
        refine ct_anyP 12 (ent_right (ent_right (ent_right (Ent.refl _)))) ?_
        (refine any_take 0 rfl (by kernel_rfl) (by first | exact Ent.refl _ | exact En.ent) (wants_none rfl) (g_move (by conv => lhs; whnf)) rfl rfl ?_)
        (refine any_take 1 rfl (by kernel_rfl) (by first | exact Ent.refl _ | exact En.ent) (wants_none rfl) (g_nil rfl) rfl rfl ?_)
        (refine any_take 2 rfl (by kernel_rfl) (by first | exact Ent.refl _ | exact En.ent) (wants_none rfl) (g_field0 rfl) rfl rfl ?_)
        (refine any_take 3 rfl (by kernel_rfl) (by first | exact Ent.refl _ | exact En.ent) (wants_none rfl) (g_load_rd0 rfl (by conv => lhs; whnf)) rfl rfl ?_)
        (refine any_take 4 rfl (by kernel_rfl) (by first | exact Ent.refl _ | exact En.ent) (wants_none rfl) (g_field0 rfl) rfl rfl ?_)
        (refine any_take 5 rfl (by kernel_rfl) (by first | exact Ent.refl _ | exact En.ent) (wants_none rfl) (g_load rfl (by conv => lhs; whnf)) rfl rfl ?_)
        refine any_two 6 10 (by kernel_rfl) (any_op rfl (wants_none rfl) ?_) (any_op rfl (wants_none rfl) ?_)
        (refine o_callE rfl rfl (ent_right (ent_right (ent_right (Ent.refl _)))) (Go.Proofs.Ytfcanppeiadbhaa.refText_spec _ _ _ _ _ _ _ _ ?_ ?_ ?_ ?_ ?_) fun i219 => ⟨(by first | exact .inl rfl | exact .inr (Ent.refl _) | exact .inr En.ent), ?_⟩; (· (first | assumption | omega | rfl | decide | infer_instance | (simp; done) | (simp; omega) | (simp only [*]; done))); (· (first | assumption | omega | rfl | decide | infer_instance | (simp; done) | (simp; omega) | (simp only [*]; done))); (· (first | assumption | omega | rfl | decide | infer_instance | (simp; done) | (simp; omega) | (simp only [*]; done))); (· (first | assumption | omega | rfl | decide | infer_instance | (simp; done) | (simp; omega) | (simp only [*]; done))); (· (first | assumption | omega | rfl | decide | infer_instance | (simp; done) | (simp; omega) | (simp only [*]; done))))
        (refine any_take 7 rfl (by kernel_rfl) (by first | exact Ent.refl _ | exact En.ent) (wants_none rfl) (g_move (by conv => lhs; whnf)) rfl rfl ?_)
        (refine any_take 8 rfl (by kernel_rfl) (by first | exact Ent.refl _ | exact En.ent) (wants_none rfl) (g_extract rfl (by conv => lhs; whnf)) rfl rfl ?_)
        (refine any_take 9 rfl (by kernel_rfl) (by first | exact Ent.refl _ | exact En.ent) (wants_none rfl) (g_extract rfl (by conv => lhs; whnf)) rfl rfl ?_)
        (refine any_one 10 (by kernel_rfl) rfl (wants_none rfl) (o_alloc rfl (by conv => lhs; whnf) fun b30 => ⟨.inr (by first | exact Ent.refl _ | exact En.ent), ?_⟩))
        (refine any_take 11 rfl (by kernel_rfl) (by first | exact Ent.refl _ | exact En.ent) (wants_none rfl) (g_assign (by conv => lhs; whnf)) rfl rfl ?_)
        (refine any_one 12 (by kernel_rfl) rfl (wants_none rfl) (o_storeAgg rfl (by conv => lhs; whnf) (by first | exact List.toList_toArray | (conv => lhs; whnf)) (by first | rfl | exact bvsAll _ | exact wvs_all _ | assumption) (by first | rfl | assumption | (simp; done) | (simp; omega)) (by first | rfl | assumption | (simp; done) | (simp; omega)) ⟨.inl rfl, ?_⟩))
        refine any_done (by kernel_rfl) ?_
        rotate_left
        (refine o_alloc rfl (by conv => lhs; whnf) fun b30 => ⟨(by first | exact .inl rfl | exact .inr (Ent.refl _) | exact .inr En.ent), ?_⟩)
        (refine any_one 6 (by kernel_rfl) rfl (wants_none rfl) (o_callE rfl rfl (ent_right (ent_right (ent_right (ent_right (Ent.refl _))))) (Go.Proofs.Ytfcanppeiadbhaa.refText_spec _ _ _ _ _ _ _ _ ?_ ?_ ?_ ?_ ?_) fun i219 => ⟨.inr (by first | exact Ent.refl _ | exact En.ent), ?_⟩); (· (first | assumption | omega | rfl | decide | infer_instance | (simp; done) | (simp; omega) | (simp only [*]; done))); (· (first | assumption | omega | rfl | decide | infer_instance | (simp; done) | (simp; omega) | (simp only [*]; done))); (· (first | assumption | omega | rfl | decide | infer_instance | (simp; done) | (simp; omega) | (simp only [*]; done))); (· (first | assumption | omega | rfl | decide | infer_instance | (simp; done) | (simp; omega) | (simp only [*]; done))); (· (first | assumption | omega | rfl | decide | infer_instance | (simp; done) | (simp; omega) | (simp only [*]; done))))
        (refine any_take 7 rfl (by kernel_rfl) (by first | exact Ent.refl _ | exact En.ent) (wants_none rfl) (g_move (by conv => lhs; whnf)) rfl rfl ?_)
        (refine any_take 8 rfl (by kernel_rfl) (by first | exact Ent.refl _ | exact En.ent) (wants_none rfl) (g_extract rfl (by conv => lhs; whnf)) rfl rfl ?_)
        (refine any_take 9 rfl (by kernel_rfl) (by first | exact Ent.refl _ | exact En.ent) (wants_none rfl) (g_extract rfl (by conv => lhs; whnf)) rfl rfl ?_)
        (refine any_take 11 rfl (by kernel_rfl) (by first | exact Ent.refl _ | exact En.ent) (wants_none rfl) (g_assign (by conv => lhs; whnf)) rfl rfl ?_)
        (refine any_one 12 (by kernel_rfl) rfl (wants_none rfl) (o_storeAgg rfl (by conv => lhs; whnf) (by first | exact List.toList_toArray | (conv => lhs; whnf)) (by first | rfl | exact bvsAll _ | exact wvs_all _ | assumption) (by first | rfl | assumption | (simp; done) | (simp; omega)) (by first | rfl | assumption | (simp; done) | (simp; omega)) ⟨.inl rfl, ?_⟩))
        refine any_done (by kernel_rfl) ?_
        rotate_left
      all_goals exact q_cut _ ⟨rfl, rfl, rfl, rfl, rfl, trivial⟩ (by exact En.ent)
    · intro b30 ρ'
      focus
        refine q_then ?_
        refine ct_seq ?_
        (refine ct_region' rfl ?_; simp only [List.map, lite])
        (refine rg rfl (g_move (by conv => lhs; whnf)) rfl rfl ?_)
        (refine rg rfl (g_move (by conv => lhs; whnf)) rfl rfl ?_)
        (refine rg rfl (g_eqsT rfl rfl ?_) rfl rfl ?_; (· (first | rfl | assumption)))
        (refine rg rfl (g_move (by conv => lhs; whnf)) rfl rfl ?_)
        (refine rgw rfl rfl rfl rfl (g_move (by conv => lhs; whnf)) rfl rfl ?_)
        (refine rgw rfl rfl rfl rfl (g_move (by conv => lhs; whnf)) rfl rfl ?_)
        (refine rgw rfl rfl rfl rfl (g_loadAgg_blk rfl (by first | rfl | assumption | (simp; done) | (simp; omega))) rfl rfl ?_)
        (refine rt_op (wants_some rfl rfl rfl rfl) (o_callE rfl rfl ((ent_right (ent_right (ent_right (Ent.refl _)))).trans (Ent.mul (Ent.refl _) (ent_right (ent_right (Ent.refl _))))) (w4 _ _ _) fun i229 => ?_))
        (refine rg rfl (g_pick_t rfl (by conv => lhs; whnf)) rfl rfl ?_)
        (refine rg rfl (g_assign (by conv => lhs; whnf)) rfl rfl ?_)
        refine rt_nil ?_
        refine q_then ?_
        refine ct_ret ?_
        refine q_block_ret ?_
        refine q_then_ret ?_
        rotate_left
      exact q_ret1 rfl (by conv => lhs; whnf) ⟨((bytesS xs pos (whyOf e) on).2.1, nx e i209 (bytesS xs pos (whyOf e) on).2.2, ⟨s, hs⟩), bytesS_pos _ _ _ _ hp, nx_ok he⟩ rfl (by dsimp only; rw [whyOf_nx bytesS_keep he]; exact En.ent)
  · exact q_ret1 rfl (by conv => lhs; whnf) ⟨((hashS xs pos (whyOf e)).2.1, nx e i238 (hashS xs pos (whyOf e)).2.2, ⟨s, hs⟩), hashS_pos _ _ _ hp, nx_ok he⟩ rfl (by dsimp only; rw [whyOf_nx hashS_keep he]; exact En.ent)
  · exact q_ret1 rfl (by conv => lhs; whnf) ⟨((endS xs pos (whyOf e)).1, nx e i263 (endS xs pos (whyOf e)).2, ⟨s, hs⟩), endS_pos _ _ _ hp, nx_ok he⟩ rfl (by dsimp only; rw [whyOf_nx endS_keep he]; exact En.ent)
end Go.Proofs.Ytfcanppeiadbhaa
