/- pack.In: next, Byte. -/
import Derived.Test.YtfcanppeiadbhaaP4
namespace Go.Proofs.Ytfcanppeiadbhaa
open Go.RowKit
attribute [local irreducible] Gives RT CT QT Spec Wants Reads Src Ent OT RQ AnyT AnyOp Again Code.wp Post

theorem in_next_bad (R : HP) (p : Nat) (a : Option Addr) (cap : Nat) (xs : List UInt8) (pos q why : Nat) (n : Int) :
    Spec Try.prog 63 [.pointer (some ⟨p, 0, none⟩), .int .i64 n] (InA p a cap xs pos (some (q, why)) * R) (fun _ : Unit => .tuple #[.slice none 0 0, errV (some q)]) (fun _ => InA p a cap xs pos (some (q, why)) * R) := by
  refine spec_of Try.func63 rfl Try.ntmps63 rfl fun W0 => ?_
  unfold InA
  simp only [Option.map_some]
  repeat (first | refine ct_seq ?_ | (refine ct_region' rfl ?_; simp only [List.map, lite]) | refine rt_nil ?_ | refine q_then ?_ | refine ct_true rfl ?_ | refine rg rfl (g_move (by conv => lhs; whnf)) rfl rfl ?_ | refine rg rfl (g_assign (by conv => lhs; whnf)) rfl rfl ?_ | refine rg rfl (g_nil rfl) rfl rfl ?_ | refine rg rfl (g_field0 rfl) rfl rfl ?_ | refine rg rfl (g_load rfl (by conv => lhs; whnf)) rfl rfl ?_ | refine rg rfl (g_err_ne (by conv => lhs; whnf) (by first | exact .inl rfl | exact .inr ⟨_, _, rfl⟩ | assumption)) rfl rfl ?_)
  refine ct_quiet (by kernel_rfl) rfl ?_
  simp only [List.map, lite]
  repeat (first | refine rq_nil ?_ | refine qg rfl (g_move (by conv => lhs; whnf)) rfl rfl ?_ | refine qg rfl (g_assign (by conv => lhs; whnf)) rfl rfl ?_ | refine qg rfl (g_nil rfl) rfl rfl ?_ | refine qg rfl (g_field0 rfl) rfl rfl ?_ | refine qg rfl (g_load rfl (by conv => lhs; whnf)) rfl rfl ?_)
  repeat (first | refine ct_ret ?_ | refine q_then ?_ | refine q_then_ret ?_)
  exact q_ret2 Try.results63 rfl rfl () rfl (Ent.refl _)

theorem in_next_short (R : HP) (p : Nat) (a : Option Addr) (cap : Nat) (xs : List UInt8) (pos n : Nat) (hp : pos ≤ xs.length) (hl : xs.length ≤ 140737488355328) (hn : n ≤ 9223372036854775807) (h : xs.length < pos + n) :
    Spec Try.prog 63 [.pointer (some ⟨p, 0, none⟩), .int .i64 (n : Int)] (InA p a cap xs pos none * R) (fun q : Nat => .tuple #[.slice none 0 0, errV (some q)]) (fun q => InA p a cap xs pos (some (q, 20)) * R) := by
  refine spec_of Try.func63 rfl Try.ntmps63 rfl fun W0 => ?_
  unfold InA
  simp only [Option.map_none]
  repeat (first | refine ct_seq ?_ | (refine ct_region' rfl ?_; simp only [List.map, lite]) | refine rt_nil ?_ | refine ct_skip ?_ | refine q_then ?_ | refine ct_false rfl ?_ | refine rg rfl (g_move (by conv => lhs; whnf)) rfl rfl ?_ | refine rg rfl (g_assign (by conv => lhs; whnf)) rfl rfl ?_ | refine rg rfl (g_nil rfl) rfl rfl ?_ | refine rg rfl (g_field0 rfl) rfl rfl ?_ | refine rg rfl (g_load rfl (by conv => lhs; whnf)) rfl rfl ?_ | refine rg rfl (g_err_ne (by conv => lhs; whnf) (by first | exact .inl rfl | exact .inr ⟨_, _, rfl⟩ | assumption)) rfl rfl ?_)
  refine ct_quiet (by kernel_rfl) rfl ?_
  simp only [List.map, lite]
  repeat (first | refine rq_nil ?_ | refine qg rfl (g_move (by conv => lhs; whnf)) rfl rfl ?_ | refine qg rfl (g_nil rfl) rfl rfl ?_ | refine qg rfl (g_field0 rfl) rfl rfl ?_ | refine qg rfl (g_load rfl (by conv => lhs; whnf)) rfl rfl ?_ | (refine qg rfl (g_subN rfl rfl ?_) rfl rfl ?_; (· (constructor <;> omega))) | (refine qg rfl (g_gtrT rfl rfl ?_) rfl rfl ?_; (· (omega))) | refine qg rfl (g_len_slice rfl) rfl rfl ?_)
  repeat (first | refine ct_seq ?_ | (refine ct_region' rfl ?_; simp only [List.map, lite]) | refine q_then ?_ | refine ct_true rfl ?_ | refine rg rfl (g_move (by conv => lhs; whnf)) rfl rfl ?_ | refine rg rfl (g_nil rfl) rfl rfl ?_ | refine rg rfl (g_field0 rfl) rfl rfl ?_ | refine rg rfl (g_load rfl (by conv => lhs; whnf)) rfl rfl ?_)
  refine rt_ent (B := InA p a cap xs pos none * R) ?_ (Ent.refl _)
  refine rt_op (wants_none rfl) (o_callF rfl rfl (in_fail _ p a cap xs pos 20) fun q => ?_)
  repeat (first | refine rt_nil ?_ | refine ct_ret ?_ | refine q_then ?_ | refine q_then_ret ?_ | refine rg rfl (g_assign (by conv => lhs; whnf)) rfl rfl ?_)
  refine q_ret2 Try.results63 rfl rfl q rfl (Ent.refl _)

/-- where a piece of a reader's bytes lies -/
def cutO (a : Option Addr) (cap pos : Nat) : Option Addr := a.map fun g => cutAt g cap pos 1
theorem in_next_ok (R : HP) (p : Nat) (a : Option Addr) (cap : Nat) (xs : List UInt8) (pos n : Nat) (hl : xs.length ≤ 140737488355328) (h : pos + n ≤ xs.length) :
    Spec Try.prog 63 [.pointer (some ⟨p, 0, none⟩), .int .i64 (n : Int)] (InA p a cap xs pos none * R) (fun _ : Unit => .tuple #[.slice (cutO a cap pos) n (cap - pos), .nilIface]) (fun _ => InA p a cap xs (pos + n) none * R) := by
  refine spec_of Try.func63 rfl Try.ntmps63 rfl fun W0 => ?_
  unfold InA
  simp only [Option.map_none]
  refine ct_arr 5 1 a cap fun _ h0 hcap _ => ?_
  repeat (first | refine ct_seq ?_ | (refine ct_region' rfl ?_; simp only [List.map, lite]) | refine rt_nil ?_ | refine ct_skip ?_ | refine q_then ?_ | refine ct_false rfl ?_ | refine rg rfl (g_move (by conv => lhs; whnf)) rfl rfl ?_ | refine rg rfl (g_assign (by conv => lhs; whnf)) rfl rfl ?_ | refine rg rfl (g_nil rfl) rfl rfl ?_ | refine rg rfl (g_field0 rfl) rfl rfl ?_ | refine rg rfl (g_load rfl (by conv => lhs; whnf)) rfl rfl ?_ | refine rg rfl (g_err_ne (by conv => lhs; whnf) (by first | exact .inl rfl | exact .inr ⟨_, _, rfl⟩ | assumption)) rfl rfl ?_)
  refine ct_quiet (by kernel_rfl) rfl ?_
  simp only [List.map, lite]
  repeat (first | refine rq_nil ?_ | refine qg rfl (g_move (by conv => lhs; whnf)) rfl rfl ?_ | refine qg rfl (g_nil rfl) rfl rfl ?_ | refine qg rfl (g_field0 rfl) rfl rfl ?_ | refine qg rfl (g_load rfl (by conv => lhs; whnf)) rfl rfl ?_ | (refine qg rfl (g_subN rfl rfl ?_) rfl rfl ?_; (· (constructor <;> omega))) | (refine qg rfl (g_gtrF rfl rfl ?_) rfl rfl ?_; (· (omega))) | refine qg rfl (g_len_slice rfl) rfl rfl ?_)
  repeat (first | refine ct_seq ?_ | (refine ct_region' rfl ?_; simp only [List.map, lite]) | refine ct_skip ?_ | refine q_then ?_ | refine ct_false rfl ?_ | refine rg rfl (g_move (by conv => lhs; whnf)) rfl rfl ?_ | refine rg rfl (g_nil rfl) rfl rfl ?_ | refine rg rfl (g_field0 rfl) rfl rfl ?_ | refine rg rfl (g_load rfl (by conv => lhs; whnf)) rfl rfl ?_ | (refine rg rfl (g_addN rfl rfl ?_) rfl rfl ?_; (· (constructor <;> omega))))
  refine rt_op (wants_none rfl) (o_store rfl (by conv => lhs; whnf) rfl rfl (by first | (simp only [List.set_cons_zero, List.set_cons_succ]; rfl) | rfl) ?_)
  repeat (first | refine ct_seq ?_ | refine rt_nil ?_ | refine q_then ?_)
  cases a with
  | none =>
    obtain ⟨hx, hc0⟩ := h0 rfl
    obtain rfl : xs = [] := List.eq_nil_of_length_eq_zero hx
    obtain rfl : pos = 0 := by simp at h; omega
    obtain rfl : n = 0 := by simpa using h
    subst hc0
    refine ct_quiet (by kernel_rfl) rfl ?_
    simp only [List.map, lite]
    repeat (first | refine qg rfl (g_move (by conv => lhs; whnf)) rfl rfl ?_ | refine qg rfl (g_nil rfl) rfl rfl ?_ | refine qg rfl (g_field0 rfl) rfl rfl ?_ | refine qg rfl (g_load rfl (by conv => lhs; whnf)) rfl rfl ?_ | (refine qg rfl (g_subN rfl rfl ?_) rfl rfl ?_; (· (constructor <;> omega))))
    refine rq_give (wants_none rfl) (g_cut_lohi_nil rfl rfl rfl (by simp) (by simp)) rfl rfl ?_
    repeat (first | refine rq_nil ?_ | refine qg rfl (g_assign (by conv => lhs; whnf)) rfl rfl ?_)
    repeat (first | refine ct_ret ?_ | refine q_then ?_)
    exact q_ret2 Try.results63 rfl rfl () rfl ((Ent.refl _).trans (by first | exact En.ent | (simp only [Int.natCast_add, Int.natCast_one]; exact En.ent)))
  | some g =>
    refine ct_quiet (by kernel_rfl) rfl ?_
    simp only [List.map, lite]
    repeat (first | refine qg rfl (g_move (by conv => lhs; whnf)) rfl rfl ?_ | refine qg rfl (g_nil rfl) rfl rfl ?_ | refine qg rfl (g_field0 rfl) rfl rfl ?_ | refine qg rfl (g_load rfl (by conv => lhs; whnf)) rfl rfl ?_ | (refine qg rfl (g_subN rfl rfl ?_) rfl rfl ?_; (· (constructor <;> omega))))
    refine rq_give (wants_none rfl) (g_cut_lohi (j := pos) (j' := pos + n) rfl rfl rfl (by omega) (by omega) (by omega) (by omega) (by omega)) rfl rfl ?_
    repeat (first | refine rq_nil ?_ | refine qg rfl (g_assign (by conv => lhs; whnf)) rfl rfl ?_)
    repeat (first | refine ct_ret ?_ | refine q_then ?_)
    exact q_ret2 Try.results63 (by conv => lhs; whnf) (by conv => lhs; whnf) () (by simp [cutO]) (by simp only [Int.natCast_add, badAt_none]; exact En.ent)

theorem rdB_cut {R : HP} {p : Nat} {a : Option Addr} {cap : Nat} {xs : List UInt8} {pos pos' : Nat} {e : Option (Nat × Nat)} (n : Nat) (h0 : a = none → xs = []) (hcap : xs.length ≤ cap) (h : pos + n ≤ xs.length) :
    RdB (InA p a cap xs pos' e * R) (cutO a cap pos) ((xs.drop pos).take n) := by
  cases a with
  | none => exact ⟨fun _ => by rw [h0 rfl]; simp, fun g hg => by simp [cutO] at hg⟩
  | some g =>
    refine ⟨fun hg => by simp [cutO] at hg, fun g' hg => ?_⟩
    simp only [cutO, Option.map_some, Option.some.injEq] at hg
    subst hg
    have hr : Reads (InA p (some g) cap xs pos' e * R) g (xs.map bv) := by unfold InA; exact reads_arr (cap := cap) (E := 5) (size := 1)
    unfold cutAt
    split
    · have : (xs.drop pos).take n = [] := by simp; omega
      rw [this]; exact Reads.nil
    · have := (hr.drop pos).take n
      rw [Nat.mul_one]
      rwa [← List.map_drop, ← List.map_take] at this
theorem ct_in {c : Code} {Q : Exit → Act → World → Prop} {n : Nat} {D : List Deferred} {W0 : World} {ρ : Env} {R : HP} {p : Nat} {a : Option Addr} {cap : Nat} {xs : List UInt8} {pos : Nat} {e : Option (Nat × Nat)}
    (h : (a = none → xs = []) → xs.length ≤ cap → CT Try.prog c Q n D W0 ρ (InA p a cap xs pos e * R)) : CT Try.prog c Q n D W0 ρ (InA p a cap xs pos e * R) := by
  unfold InA at *
  exact ct_arr 5 1 a cap fun _ h0 hcap _ => h (fun hn => List.eq_nil_of_length_eq_zero (h0 hn).1) hcap

theorem in_byte_bad (R : HP) (p : Nat) (a : Option Addr) (cap : Nat) (xs : List UInt8) (pos q why : Nat) :
    Spec Try.prog 44 [.pointer (some ⟨p, 0, none⟩)] (InA p a cap xs pos (some (q, why)) * R) (fun _ : Unit => .tuple #[.int .u8 0, errV (some q)]) (fun _ => InA p a cap xs pos (some (q, why)) * R) := by
  refine spec_of Try.func44 rfl Try.ntmps44 rfl fun W0 => ?_
  repeat (first | refine ct_seq ?_ | (refine ct_region' rfl ?_; simp only [List.map, lite]) | refine rt_nil ?_ | refine q_then ?_ | refine rg rfl (g_move (by conv => lhs; whnf)) rfl rfl ?_ | refine rg rfl (g_assign (by conv => lhs; whnf)) rfl rfl ?_)
  refine rt_op (wants_none rfl) (o_callF rfl rfl (in_next_bad _ p a cap xs pos q why 1) fun _ => ?_)
  repeat (first | refine ct_seq ?_ | (refine ct_region' rfl ?_; simp only [List.map, lite]) | refine rt_nil ?_ | refine ct_ret ?_ | refine q_then ?_ | refine q_then_ret ?_ | refine ct_true rfl ?_ | refine rg rfl (g_move (by conv => lhs; whnf)) rfl rfl ?_ | refine rg rfl (g_assign (by conv => lhs; whnf)) rfl rfl ?_ | refine rg rfl (g_extract rfl (by conv => lhs; whnf)) rfl rfl ?_ | refine rg rfl (g_err_ne (by conv => lhs; whnf) (by first | exact .inl rfl | exact .inr ⟨_, _, rfl⟩ | assumption)) rfl rfl ?_)
  exact q_ret2 Try.results44 rfl rfl () rfl (Ent.refl _)
theorem in_byte_short (R : HP) (p : Nat) (a : Option Addr) (cap : Nat) (xs : List UInt8) (pos : Nat) (hl : xs.length ≤ 140737488355328) (h : xs.length = pos) :
    Spec Try.prog 44 [.pointer (some ⟨p, 0, none⟩)] (InA p a cap xs pos none * R) (fun q : Nat => .tuple #[.int .u8 0, errV (some q)]) (fun q => InA p a cap xs pos (some (q, 20)) * R) := by
  refine spec_of Try.func44 rfl Try.ntmps44 rfl fun W0 => ?_
  repeat (first | refine ct_seq ?_ | (refine ct_region' rfl ?_; simp only [List.map, lite]) | refine rt_nil ?_ | refine q_then ?_ | refine rg rfl (g_move (by conv => lhs; whnf)) rfl rfl ?_ | refine rg rfl (g_assign (by conv => lhs; whnf)) rfl rfl ?_)
  refine rt_op (wants_none rfl) (o_callF rfl rfl (in_next_short _ p a cap xs pos 1 (by omega) hl (by decide) (by omega)) fun q => ?_)
  repeat (first | refine ct_seq ?_ | (refine ct_region' rfl ?_; simp only [List.map, lite]) | refine rt_nil ?_ | refine ct_ret ?_ | refine q_then ?_ | refine q_then_ret ?_ | refine ct_true rfl ?_ | refine rg rfl (g_move (by conv => lhs; whnf)) rfl rfl ?_ | refine rg rfl (g_assign (by conv => lhs; whnf)) rfl rfl ?_ | refine rg rfl (g_extract rfl (by conv => lhs; whnf)) rfl rfl ?_ | refine rg rfl (g_err_ne (by conv => lhs; whnf) (by first | exact .inl rfl | exact .inr ⟨_, _, rfl⟩ | assumption)) rfl rfl ?_)
  exact q_ret2 Try.results44 rfl rfl q rfl (Ent.refl _)
theorem in_byte_ok (R : HP) (p : Nat) (a : Option Addr) (cap : Nat) (xs : List UInt8) (pos : Nat) (c : UInt8) (hl : xs.length ≤ 140737488355328) (h : xs[pos]? = some c) :
    Spec Try.prog 44 [.pointer (some ⟨p, 0, none⟩)] (InA p a cap xs pos none * R) (fun _ : Unit => .tuple #[bv c, .nilIface]) (fun _ => InA p a cap xs (pos + 1) none * R) := by
  have hlt : pos < xs.length := (List.getElem?_eq_some_iff.1 h).1
  refine spec_of Try.func44 rfl Try.ntmps44 rfl fun W0 => ?_
  refine ct_in fun h0 hcap => ?_
  repeat (first | refine ct_seq ?_ | (refine ct_region' rfl ?_; simp only [List.map, lite]) | refine rt_nil ?_ | refine q_then ?_ | refine rg rfl (g_move (by conv => lhs; whnf)) rfl rfl ?_ | refine rg rfl (g_assign (by conv => lhs; whnf)) rfl rfl ?_)
  refine rt_op (wants_none rfl) (o_callF rfl rfl (in_next_ok _ p a cap xs pos 1 hl (by omega)) fun _ => ?_)
  have hrd := rdB_cut (R := R) (p := p) (pos' := pos + 1) (e := none) 1 h0 hcap (show pos + 1 ≤ xs.length by omega)
  have e1 : (xs.drop pos).take 1 = [c] := by rw [List.drop_eq_getElem_cons hlt]; simp [(List.getElem?_eq_some_iff.1 h).2]
  rw [e1] at hrd
  cases a with
  | none => exact absurd (hrd.1 rfl) (by simp)
  | some g =>
    repeat (first | refine ct_seq ?_ | (refine ct_region' rfl ?_; simp only [List.map, lite]) | refine rt_nil ?_ | refine ct_skip ?_ | refine q_then ?_ | refine ct_false rfl ?_ | refine rg rfl (g_move (by conv => lhs; whnf)) rfl rfl ?_ | refine rg rfl (g_assign (by conv => lhs; whnf)) rfl rfl ?_ | refine rg rfl (g_extract rfl (by conv => lhs; whnf)) rfl rfl ?_ | refine rg rfl (g_err_ne (by conv => lhs; whnf) (by first | exact .inl rfl | exact .inr ⟨_, _, rfl⟩ | assumption)) rfl rfl ?_)
    refine rg rfl (g_elemR (j := 0) rfl rfl (by decide) (by decide) rfl) rfl rfl ?_
    refine rg rfl (g_load_at (i := 0) rfl (hrd.2 _ rfl) rfl) rfl rfl ?_
    repeat (first | refine rt_nil ?_ | refine ct_ret ?_ | refine q_then ?_ | refine rg rfl (g_assign (by conv => lhs; whnf)) rfl rfl ?_)
    exact q_ret2 Try.results44 rfl rfl () rfl (Ent.refl _)
end Go.Proofs.Ytfcanppeiadbhaa
