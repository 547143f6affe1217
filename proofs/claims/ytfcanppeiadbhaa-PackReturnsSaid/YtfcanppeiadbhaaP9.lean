/- pack.In: Bytes, Text, Raw, Hash, End. -/
import Derived.Test.YtfcanppeiadbhaaP8
namespace Go.Proofs.Ytfcanppeiadbhaa
open Go.RowKit
attribute [local irreducible] Gives RT CT QT Spec Wants Reads Src Ent OT RQ AnyT AnyOp Again Code.wp Post

theorem in_bytes_bad (R : HP) (p : Nat) (a : Option Addr) (cap : Nat) (xs : List UInt8) (pos : Nat) (q why : Nat) (most : Int) (m : Nat) (hi : -9223372036854775808 ≤ most ∧ most ≤ 9223372036854775807) (hm : max 0 most = (m : Int)) :
    Spec Try.prog 46 [.pointer (some ⟨p, 0, none⟩), .int .i64 most] (InA p a cap xs pos (some (q, why)) * R) (fun _ : Unit => .tuple #[.slice none 0 0, errV (some q)]) (fun _ => InA p a cap xs pos (some (q, why)) * R) := by
  refine spec_of Try.func46 rfl Try.ntmps46 rfl fun W0 => ?_
  repeat (first | refine ct_seq ?_ | (refine ct_region' rfl ?_; simp only [List.map, lite]) | refine rt_nil ?_ | refine q_then ?_ | refine rg rfl (g_move (by conv => lhs; whnf)) rfl rfl ?_ | refine rg rfl (g_assign (by conv => lhs; whnf)) rfl rfl ?_)
  refine rt_op (wants_none rfl) (o_call rfl rfl (readB_bad R p a cap xs pos q why most m hi hm) fun i => ?_)
  repeat (first | refine rt_nil ?_ | refine ct_ret ?_ | refine q_then ?_ | refine rg rfl (g_assign (by conv => lhs; whnf)) rfl rfl ?_ | refine rg rfl (g_extract rfl (by conv => lhs; whnf)) rfl rfl ?_)
  exact q_ret2 Try.results46 rfl rfl () rfl (Ent.refl _)
theorem in_bytes_fail (R : HP) (p : Nat) (a : Option Addr) (cap : Nat) (xs : List UInt8) (pos : Nat) (most : Int) (m : Nat) (hi : -9223372036854775808 ≤ most ∧ most ≤ 9223372036854775807) (hm : max 0 most = (m : Int)) (hp : pos ≤ xs.length) (hl : xs.length ≤ 140737488355328) (h : numWhy xs pos m ≠ 0) :
    Spec Try.prog 46 [.pointer (some ⟨p, 0, none⟩), .int .i64 most] (InA p a cap xs pos none * R) (fun q : Nat => .tuple #[.slice none 0 0, errV (some q)]) (fun q => InA p a cap xs pos (some (q, numWhy xs pos m)) * R) := by
  refine spec_of Try.func46 rfl Try.ntmps46 rfl fun W0 => ?_
  repeat (first | refine ct_seq ?_ | (refine ct_region' rfl ?_; simp only [List.map, lite]) | refine rt_nil ?_ | refine q_then ?_ | refine rg rfl (g_move (by conv => lhs; whnf)) rfl rfl ?_ | refine rg rfl (g_assign (by conv => lhs; whnf)) rfl rfl ?_)
  refine rt_op (wants_none rfl) (o_call rfl rfl (readB_fail R p a cap xs pos most m hi hm hp hl h) fun i => ?_)
  repeat (first | refine rt_nil ?_ | refine ct_ret ?_ | refine q_then ?_ | refine rg rfl (g_assign (by conv => lhs; whnf)) rfl rfl ?_ | refine rg rfl (g_extract rfl (by conv => lhs; whnf)) rfl rfl ?_)
  exact q_ret2 Try.results46 rfl rfl i rfl (Ent.refl _)
theorem in_bytes_short (R : HP) (p : Nat) (a : Option Addr) (cap : Nat) (xs : List UInt8) (pos : Nat) (most : Int) (m : Nat) (hi : -9223372036854775808 ≤ most ∧ most ≤ 9223372036854775807) (hm : max 0 most = (m : Int)) (hp : pos ≤ xs.length) (hl : xs.length ≤ 140737488355328) (h : numWhy xs pos m = 0) (hs : xs.length < pos + (numAt (xs.drop pos) 10 0 0).2.1 + (numAt (xs.drop pos) 10 0 0).1) :
    Spec Try.prog 46 [.pointer (some ⟨p, 0, none⟩), .int .i64 most] (InA p a cap xs pos none * R) (fun q : Nat => .tuple #[.slice none 0 0, errV (some q)]) (fun q => InA p a cap xs (pos + (numAt (xs.drop pos) 10 0 0).2.1) (some (q, 20)) * R) := by
  refine spec_of Try.func46 rfl Try.ntmps46 rfl fun W0 => ?_
  repeat (first | refine ct_seq ?_ | (refine ct_region' rfl ?_; simp only [List.map, lite]) | refine rt_nil ?_ | refine q_then ?_ | refine rg rfl (g_move (by conv => lhs; whnf)) rfl rfl ?_ | refine rg rfl (g_assign (by conv => lhs; whnf)) rfl rfl ?_)
  refine rt_op (wants_none rfl) (o_call rfl rfl (readB_short R p a cap xs pos most m hi hm hp hl h hs) fun i => ?_)
  repeat (first | refine rt_nil ?_ | refine ct_ret ?_ | refine q_then ?_ | refine rg rfl (g_assign (by conv => lhs; whnf)) rfl rfl ?_ | refine rg rfl (g_extract rfl (by conv => lhs; whnf)) rfl rfl ?_)
  exact q_ret2 Try.results46 rfl rfl i rfl (Ent.refl _)
theorem in_bytes_ok (R : HP) (p : Nat) (a : Option Addr) (cap : Nat) (xs : List UInt8) (pos : Nat) (most : Int) (m : Nat) (hi : -9223372036854775808 ≤ most ∧ most ≤ 9223372036854775807) (hm : max 0 most = (m : Int)) (hp : pos ≤ xs.length) (hl : xs.length ≤ 140737488355328) (h : numWhy xs pos m = 0) (hs : pos + (numAt (xs.drop pos) 10 0 0).2.1 + (numAt (xs.drop pos) 10 0 0).1 ≤ xs.length) :
    Spec Try.prog 46 [.pointer (some ⟨p, 0, none⟩), .int .i64 most] (InA p a cap xs pos none * R) (fun i : Option Addr × Nat => .tuple #[.slice i.1 (numAt (xs.drop pos) 10 0 0).1 i.2, .nilIface]) (fun i => Arr 5 1 i.1 i.2 (numAt (xs.drop pos) 10 0 0).1 (((xs.drop (pos + (numAt (xs.drop pos) 10 0 0).2.1)).take (numAt (xs.drop pos) 10 0 0).1).map bv) * (InA p a cap xs (pos + (numAt (xs.drop pos) 10 0 0).2.1 + (numAt (xs.drop pos) 10 0 0).1) none * R)) := by
  refine spec_of Try.func46 rfl Try.ntmps46 rfl fun W0 => ?_
  repeat (first | refine ct_seq ?_ | (refine ct_region' rfl ?_; simp only [List.map, lite]) | refine rt_nil ?_ | refine q_then ?_ | refine rg rfl (g_move (by conv => lhs; whnf)) rfl rfl ?_ | refine rg rfl (g_assign (by conv => lhs; whnf)) rfl rfl ?_)
  refine rt_op (wants_none rfl) (o_call rfl rfl (readB_ok R p a cap xs pos most m hi hm hp hl h hs) fun i => ?_)
  repeat (first | refine rt_nil ?_ | refine ct_ret ?_ | refine q_then ?_ | refine rg rfl (g_assign (by conv => lhs; whnf)) rfl rfl ?_ | refine rg rfl (g_extract rfl (by conv => lhs; whnf)) rfl rfl ?_)
  exact q_ret2 Try.results46 rfl rfl i rfl (Ent.refl _)

theorem in_text_bad (R : HP) (p : Nat) (a : Option Addr) (cap : Nat) (xs : List UInt8) (pos : Nat) (q why : Nat) (most : Int) (m : Nat) (hi : -9223372036854775808 ≤ most ∧ most ≤ 9223372036854775807) (hm : max 0 most = (m : Int)) :
    Spec Try.prog 47 [.pointer (some ⟨p, 0, none⟩), .int .i64 most] (InA p a cap xs pos (some (q, why)) * R) (fun _ : Unit => .tuple #[.string ⟨#[]⟩, errV (some q)]) (fun _ => InA p a cap xs pos (some (q, why)) * R) := by
  refine spec_of Try.func47 rfl Try.ntmps47 rfl fun W0 => ?_
  repeat (first | refine ct_seq ?_ | (refine ct_region' rfl ?_; simp only [List.map, lite]) | refine rt_nil ?_ | refine q_then ?_ | refine rg rfl (g_move (by conv => lhs; whnf)) rfl rfl ?_ | refine rg rfl (g_assign (by conv => lhs; whnf)) rfl rfl ?_)
  refine rt_op (wants_none rfl) (o_call rfl rfl (readS_bad R p a cap xs pos q why most m hi hm) fun i => ?_)
  repeat (first | refine rt_nil ?_ | refine ct_ret ?_ | refine q_then ?_ | refine rg rfl (g_assign (by conv => lhs; whnf)) rfl rfl ?_ | refine rg rfl (g_extract rfl (by conv => lhs; whnf)) rfl rfl ?_)
  exact q_ret2 Try.results47 rfl rfl () rfl (Ent.refl _)
theorem in_text_fail (R : HP) (p : Nat) (a : Option Addr) (cap : Nat) (xs : List UInt8) (pos : Nat) (most : Int) (m : Nat) (hi : -9223372036854775808 ≤ most ∧ most ≤ 9223372036854775807) (hm : max 0 most = (m : Int)) (hp : pos ≤ xs.length) (hl : xs.length ≤ 140737488355328) (h : numWhy xs pos m ≠ 0) :
    Spec Try.prog 47 [.pointer (some ⟨p, 0, none⟩), .int .i64 most] (InA p a cap xs pos none * R) (fun q : Nat => .tuple #[.string ⟨#[]⟩, errV (some q)]) (fun q => InA p a cap xs pos (some (q, numWhy xs pos m)) * R) := by
  refine spec_of Try.func47 rfl Try.ntmps47 rfl fun W0 => ?_
  repeat (first | refine ct_seq ?_ | (refine ct_region' rfl ?_; simp only [List.map, lite]) | refine rt_nil ?_ | refine q_then ?_ | refine rg rfl (g_move (by conv => lhs; whnf)) rfl rfl ?_ | refine rg rfl (g_assign (by conv => lhs; whnf)) rfl rfl ?_)
  refine rt_op (wants_none rfl) (o_call rfl rfl (readS_fail R p a cap xs pos most m hi hm hp hl h) fun i => ?_)
  repeat (first | refine rt_nil ?_ | refine ct_ret ?_ | refine q_then ?_ | refine rg rfl (g_assign (by conv => lhs; whnf)) rfl rfl ?_ | refine rg rfl (g_extract rfl (by conv => lhs; whnf)) rfl rfl ?_)
  exact q_ret2 Try.results47 rfl rfl i rfl (Ent.refl _)
theorem in_text_short (R : HP) (p : Nat) (a : Option Addr) (cap : Nat) (xs : List UInt8) (pos : Nat) (most : Int) (m : Nat) (hi : -9223372036854775808 ≤ most ∧ most ≤ 9223372036854775807) (hm : max 0 most = (m : Int)) (hp : pos ≤ xs.length) (hl : xs.length ≤ 140737488355328) (h : numWhy xs pos m = 0) (hs : xs.length < pos + (numAt (xs.drop pos) 10 0 0).2.1 + (numAt (xs.drop pos) 10 0 0).1) :
    Spec Try.prog 47 [.pointer (some ⟨p, 0, none⟩), .int .i64 most] (InA p a cap xs pos none * R) (fun q : Nat => .tuple #[.string ⟨#[]⟩, errV (some q)]) (fun q => InA p a cap xs (pos + (numAt (xs.drop pos) 10 0 0).2.1) (some (q, 20)) * R) := by
  refine spec_of Try.func47 rfl Try.ntmps47 rfl fun W0 => ?_
  repeat (first | refine ct_seq ?_ | (refine ct_region' rfl ?_; simp only [List.map, lite]) | refine rt_nil ?_ | refine q_then ?_ | refine rg rfl (g_move (by conv => lhs; whnf)) rfl rfl ?_ | refine rg rfl (g_assign (by conv => lhs; whnf)) rfl rfl ?_)
  refine rt_op (wants_none rfl) (o_call rfl rfl (readS_short R p a cap xs pos most m hi hm hp hl h hs) fun i => ?_)
  repeat (first | refine rt_nil ?_ | refine ct_ret ?_ | refine q_then ?_ | refine rg rfl (g_assign (by conv => lhs; whnf)) rfl rfl ?_ | refine rg rfl (g_extract rfl (by conv => lhs; whnf)) rfl rfl ?_)
  exact q_ret2 Try.results47 rfl rfl i rfl (Ent.refl _)
theorem in_text_ok (R : HP) (p : Nat) (a : Option Addr) (cap : Nat) (xs : List UInt8) (pos : Nat) (most : Int) (m : Nat) (hi : -9223372036854775808 ≤ most ∧ most ≤ 9223372036854775807) (hm : max 0 most = (m : Int)) (hp : pos ≤ xs.length) (hl : xs.length ≤ 140737488355328) (h : numWhy xs pos m = 0) (hs : pos + (numAt (xs.drop pos) 10 0 0).2.1 + (numAt (xs.drop pos) 10 0 0).1 ≤ xs.length) :
    Spec Try.prog 47 [.pointer (some ⟨p, 0, none⟩), .int .i64 most] (InA p a cap xs pos none * R) (fun _ : Unit => .tuple #[.string ⟨((xs.drop (pos + (numAt (xs.drop pos) 10 0 0).2.1)).take (numAt (xs.drop pos) 10 0 0).1).toArray⟩, .nilIface]) (fun _ => InA p a cap xs (pos + (numAt (xs.drop pos) 10 0 0).2.1 + (numAt (xs.drop pos) 10 0 0).1) none * R) := by
  refine spec_of Try.func47 rfl Try.ntmps47 rfl fun W0 => ?_
  repeat (first | refine ct_seq ?_ | (refine ct_region' rfl ?_; simp only [List.map, lite]) | refine rt_nil ?_ | refine q_then ?_ | refine rg rfl (g_move (by conv => lhs; whnf)) rfl rfl ?_ | refine rg rfl (g_assign (by conv => lhs; whnf)) rfl rfl ?_)
  refine rt_op (wants_none rfl) (o_call rfl rfl (readS_ok R p a cap xs pos most m hi hm hp hl h hs) fun i => ?_)
  repeat (first | refine rt_nil ?_ | refine ct_ret ?_ | refine q_then ?_ | refine rg rfl (g_assign (by conv => lhs; whnf)) rfl rfl ?_ | refine rg rfl (g_extract rfl (by conv => lhs; whnf)) rfl rfl ?_)
  exact q_ret2 Try.results47 rfl rfl i rfl (Ent.refl _)

theorem in_raw_bad (R : HP) (p : Nat) (a : Option Addr) (cap : Nat) (xs : List UInt8) (pos : Nat) (q why : Nat) (n : Int) :
    Spec Try.prog 53 [.pointer (some ⟨p, 0, none⟩), .int .i64 n] (InA p a cap xs pos (some (q, why)) * R) (fun _ : Unit => .tuple #[.slice none 0 0, errV (some q)]) (fun _ => InA p a cap xs pos (some (q, why)) * R) := by
  refine spec_of Try.func53 rfl Try.ntmps53 rfl fun W0 => ?_
  unfold InA
  simp only [Option.map_some]
  repeat (first | refine ct_seq ?_ | (refine ct_region' rfl ?_; simp only [List.map, lite]) | refine rt_nil ?_ | refine ct_skip ?_ | refine q_then ?_ | refine ct_false rfl ?_ | refine rgs rfl rfl rfl rfl rfl rfl ?_ | refine rg rfl (g_move (by conv => lhs; whnf)) rfl rfl ?_ | refine rg rfl (g_assign (by conv => lhs; whnf)) rfl rfl ?_ | refine rg rfl (g_nil rfl) rfl rfl ?_ | refine rg rfl (g_field0 rfl) rfl rfl ?_ | refine rg rfl (g_load rfl (by conv => lhs; whnf)) rfl rfl ?_ | refine rg rfl (g_err_eq (by conv => lhs; whnf) (by first | exact .inl rfl | exact .inr ⟨_, _, rfl⟩ | assumption)) rfl rfl ?_ | refine rg rfl (g_pick_f rfl (by conv => lhs; whnf)) rfl rfl ?_)
  refine rt_ent (B := InA p a cap xs pos (some (q, why)) * R) ?_ (Ent.refl _)
  refine rt_op (wants_none rfl) (o_callF rfl rfl (in_next_bad _ p a cap xs pos q why n) fun _ => ?_)
  repeat (first | refine ct_seq ?_ | (refine ct_region' rfl ?_; simp only [List.map, lite]) | refine rt_nil ?_ | refine ct_ret ?_ | refine q_then ?_ | refine q_then_ret ?_ | refine ct_true rfl ?_ | refine rg rfl (g_move (by conv => lhs; whnf)) rfl rfl ?_ | refine rg rfl (g_assign (by conv => lhs; whnf)) rfl rfl ?_ | refine rg rfl (g_extract rfl (by conv => lhs; whnf)) rfl rfl ?_ | refine rg rfl (g_err_ne (by conv => lhs; whnf) (by first | exact .inl rfl | exact .inr ⟨_, _, rfl⟩ | assumption)) rfl rfl ?_)
  exact q_ret2 Try.results53 rfl rfl () rfl (Ent.refl _)
theorem in_raw_neg (R : HP) (p : Nat) (a : Option Addr) (cap : Nat) (xs : List UInt8) (pos : Nat) (n : Int) (hn : n < 0) :
    Spec Try.prog 53 [.pointer (some ⟨p, 0, none⟩), .int .i64 n] (InA p a cap xs pos none * R) (fun q : Nat => .tuple #[.slice none 0 0, errV (some q)]) (fun q => InA p a cap xs pos (some (q, 1)) * R) := by
  refine spec_of Try.func53 rfl Try.ntmps53 rfl fun W0 => ?_
  unfold InA
  simp only [Option.map_none]
  repeat (first | refine ct_seq ?_ | (refine ct_region' rfl ?_; simp only [List.map, lite]) | refine rt_nil ?_ | refine q_then ?_ | refine ct_true rfl ?_ | refine rg rfl (g_move (by conv => lhs; whnf)) rfl rfl ?_ | refine rg rfl (g_assign (by conv => lhs; whnf)) rfl rfl ?_ | refine rg rfl (g_nil rfl) rfl rfl ?_ | refine rg rfl (g_field0 rfl) rfl rfl ?_ | refine rg rfl (g_load rfl (by conv => lhs; whnf)) rfl rfl ?_ | refine rg rfl (g_err_eq (by conv => lhs; whnf) (by first | exact .inl rfl | exact .inr ⟨_, _, rfl⟩ | assumption)) rfl rfl ?_ | refine rg rfl (g_pick_t rfl (by conv => lhs; whnf)) rfl rfl ?_ | refine rgw rfl rfl rfl rfl (g_move (by conv => lhs; whnf)) rfl rfl ?_ | (refine rgw rfl rfl rfl rfl (g_lssT rfl rfl ?_) rfl rfl ?_; (· (omega))))
  refine rt_ent (B := InA p a cap xs pos none * R) ?_ (Ent.refl _)
  refine rt_op (wants_none rfl) (o_callF rfl rfl (in_fail _ p a cap xs pos 1) fun q => ?_)
  repeat (first | refine rt_nil ?_ | refine ct_ret ?_ | refine q_then ?_ | refine q_then_ret ?_ | refine rg rfl (g_assign (by conv => lhs; whnf)) rfl rfl ?_)
  exact q_ret2 Try.results53 rfl rfl q rfl (Ent.refl _)
theorem in_raw_short (R : HP) (p : Nat) (a : Option Addr) (cap : Nat) (xs : List UInt8) (pos : Nat) (n : Nat) (hp : pos ≤ xs.length) (hl : xs.length ≤ 140737488355328) (hn : n ≤ 9223372036854775807) (h : xs.length < pos + n) :
    Spec Try.prog 53 [.pointer (some ⟨p, 0, none⟩), .int .i64 (n : Int)] (InA p a cap xs pos none * R) (fun q : Nat => .tuple #[.slice none 0 0, errV (some q)]) (fun q => InA p a cap xs pos (some (q, 20)) * R) := by
  refine spec_of Try.func53 rfl Try.ntmps53 rfl fun W0 => ?_
  unfold InA
  simp only [Option.map_none]
  repeat (first | refine ct_seq ?_ | (refine ct_region' rfl ?_; simp only [List.map, lite]) | refine rt_nil ?_ | refine ct_skip ?_ | refine q_then ?_ | refine ct_false rfl ?_ | refine rg rfl (g_move (by conv => lhs; whnf)) rfl rfl ?_ | refine rg rfl (g_assign (by conv => lhs; whnf)) rfl rfl ?_ | refine rg rfl (g_nil rfl) rfl rfl ?_ | refine rg rfl (g_field0 rfl) rfl rfl ?_ | refine rg rfl (g_load rfl (by conv => lhs; whnf)) rfl rfl ?_ | refine rg rfl (g_err_eq (by conv => lhs; whnf) (by first | exact .inl rfl | exact .inr ⟨_, _, rfl⟩ | assumption)) rfl rfl ?_ | refine rg rfl (g_pick_t rfl (by conv => lhs; whnf)) rfl rfl ?_ | refine rgw rfl rfl rfl rfl (g_move (by conv => lhs; whnf)) rfl rfl ?_ | (refine rgw rfl rfl rfl rfl (g_lssF rfl rfl ?_) rfl rfl ?_; (· (omega))))
  refine rt_ent (B := InA p a cap xs pos none * R) ?_ (Ent.refl _)
  refine rt_op (wants_none rfl) (o_callF rfl rfl (in_next_short _ p a cap xs pos n hp hl hn h) fun q => ?_)
  repeat (first | refine ct_seq ?_ | (refine ct_region' rfl ?_; simp only [List.map, lite]) | refine rt_nil ?_ | refine ct_ret ?_ | refine q_then ?_ | refine q_then_ret ?_ | refine ct_true rfl ?_ | refine rg rfl (g_move (by conv => lhs; whnf)) rfl rfl ?_ | refine rg rfl (g_assign (by conv => lhs; whnf)) rfl rfl ?_ | refine rg rfl (g_extract rfl (by conv => lhs; whnf)) rfl rfl ?_ | refine rg rfl (g_err_ne (by conv => lhs; whnf) (by first | exact .inl rfl | exact .inr ⟨_, _, rfl⟩ | assumption)) rfl rfl ?_)
  exact q_ret2 Try.results53 rfl rfl q rfl (Ent.refl _)
theorem in_raw_ok (R : HP) (p : Nat) (a : Option Addr) (cap : Nat) (xs : List UInt8) (pos : Nat) (n : Nat) (hl : xs.length ≤ 140737488355328) (h : pos + n ≤ xs.length) :
    Spec Try.prog 53 [.pointer (some ⟨p, 0, none⟩), .int .i64 (n : Int)] (InA p a cap xs pos none * R) (fun i : Option Addr × Nat => .tuple #[.slice i.1 n i.2, .nilIface]) (fun i => Arr 5 1 i.1 i.2 n (((xs.drop pos).take n).map bv) * (InA p a cap xs (pos + n) none * R)) := by
  refine spec_of Try.func53 rfl Try.ntmps53 rfl fun W0 => ?_
  refine ct_in fun h0 hcap => ?_
  unfold InA
  simp only [Option.map_none]
  repeat (first | refine ct_seq ?_ | (refine ct_region' rfl ?_; simp only [List.map, lite]) | refine rt_nil ?_ | refine ct_skip ?_ | refine q_then ?_ | refine ct_false rfl ?_ | refine rg rfl (g_move (by conv => lhs; whnf)) rfl rfl ?_ | refine rg rfl (g_assign (by conv => lhs; whnf)) rfl rfl ?_ | refine rg rfl (g_nil rfl) rfl rfl ?_ | refine rg rfl (g_field0 rfl) rfl rfl ?_ | refine rg rfl (g_load rfl (by conv => lhs; whnf)) rfl rfl ?_ | refine rg rfl (g_err_eq (by conv => lhs; whnf) (by first | exact .inl rfl | exact .inr ⟨_, _, rfl⟩ | assumption)) rfl rfl ?_ | refine rg rfl (g_pick_t rfl (by conv => lhs; whnf)) rfl rfl ?_ | refine rgw rfl rfl rfl rfl (g_move (by conv => lhs; whnf)) rfl rfl ?_ | (refine rgw rfl rfl rfl rfl (g_lssF rfl rfl ?_) rfl rfl ?_; (· (omega))))
  refine rt_ent (B := InA p a cap xs pos none * R) ?_ (Ent.refl _)
  refine rt_op (wants_none rfl) (o_callF rfl rfl (in_next_ok _ p a cap xs pos n hl h) fun _ => ?_)
  repeat (first | refine ct_seq ?_ | (refine ct_region' rfl ?_; simp only [List.map, lite]) | refine rt_nil ?_ | refine ct_skip ?_ | refine q_then ?_ | refine ct_false rfl ?_ | refine rg rfl (g_move (by conv => lhs; whnf)) rfl rfl ?_ | refine rg rfl (g_assign (by conv => lhs; whnf)) rfl rfl ?_ | refine rg rfl (g_extract rfl (by conv => lhs; whnf)) rfl rfl ?_ | refine rg rfl (g_err_ne (by conv => lhs; whnf) (by first | exact .inl rfl | exact .inr ⟨_, _, rfl⟩ | assumption)) rfl rfl ?_)
  have hrd := rdB_cut (R := R) (p := p) (pos' := pos + n) (e := none) n h0 hcap h
  have hlen : ((xs.drop pos).take n).length = n := by simp; omega
  have hsrc := hrd.src (P := Try.prog) (c := cap - pos)
  rw [hlen] at hsrc
  refine rt_op (wants_none rfl) (o_append rfl rfl rfl hsrc bvs_one (by unfold maxLen; omega) (by omega) (.inl ⟨_, rfl⟩) fun ad' cap' => ?_)
  simp only [Nat.zero_add, List.nil_append]
  repeat (first | refine rt_nil ?_ | refine ct_ret ?_ | refine q_then ?_ | refine rg rfl (g_assign (by conv => lhs; whnf)) rfl rfl ?_)
  exact q_ret2 Try.results53 rfl rfl (ad', cap') rfl (by show Ent _ (_ * (InA p a cap xs (pos + n) none * R)); exact En.ent)

theorem in_end_bad (R : HP) (p : Nat) (a : Option Addr) (cap : Nat) (xs : List UInt8) (pos : Nat) (q why : Nat) :
    Spec Try.prog 29 [.pointer (some ⟨p, 0, none⟩)] (InA p a cap xs pos (some (q, why)) * R) (fun _ : Unit => errV (some q)) (fun _ => InA p a cap xs pos (some (q, why)) * R) := by
  refine spec_of Try.func29 rfl Try.ntmps29 rfl fun W0 => ?_
  unfold InA
  simp only [Option.map_some]
  repeat (first | refine ct_seq ?_ | (refine ct_region' rfl ?_; simp only [List.map, lite]) | refine rt_nil ?_ | refine q_then ?_ | refine rg rfl (g_assign (by conv => lhs; whnf)) rfl rfl ?_)
  refine ct_quiet (by kernel_rfl) rfl ?_
  simp only [List.map, lite]
  repeat (first | refine rq_nil ?_ | refine qgs rfl rfl rfl rfl rfl rfl ?_ | refine qg rfl (g_move (by conv => lhs; whnf)) rfl rfl ?_ | refine qg rfl (g_nil rfl) rfl rfl ?_ | refine qg rfl (g_field0 rfl) rfl rfl ?_ | refine qg rfl (g_load rfl (by conv => lhs; whnf)) rfl rfl ?_ | refine qg rfl (g_err_eq (by conv => lhs; whnf) (by first | exact .inl rfl | exact .inr ⟨_, _, rfl⟩ | assumption)) rfl rfl ?_ | refine qg rfl (g_pick_f rfl (by conv => lhs; whnf)) rfl rfl ?_)
  repeat (first | refine ct_seq ?_ | (refine ct_region' rfl ?_; simp only [List.map, lite]) | refine rt_nil ?_ | refine ct_skip ?_ | refine ct_ret ?_ | refine q_then ?_ | refine ct_false rfl ?_ | refine rg rfl (g_move (by conv => lhs; whnf)) rfl rfl ?_ | refine rg rfl (g_assign (by conv => lhs; whnf)) rfl rfl ?_ | refine rg rfl (g_nil rfl) rfl rfl ?_ | refine rg rfl (g_field0 rfl) rfl rfl ?_ | refine rg rfl (g_load rfl (by conv => lhs; whnf)) rfl rfl ?_)
  exact q_ret1 Try.results29 rfl () rfl (Ent.refl _)
theorem in_end_rest (R : HP) (p : Nat) (a : Option Addr) (cap : Nat) (xs : List UInt8) (pos : Nat) (h : pos < xs.length) :
    Spec Try.prog 29 [.pointer (some ⟨p, 0, none⟩)] (InA p a cap xs pos none * R) (fun q : Nat => errV (some q)) (fun q => InA p a cap xs pos (some (q, 23)) * R) := by
  refine spec_of Try.func29 rfl Try.ntmps29 rfl fun W0 => ?_
  unfold InA
  simp only [Option.map_none]
  repeat (first | refine ct_seq ?_ | (refine ct_region' rfl ?_; simp only [List.map, lite]) | refine rt_nil ?_ | refine q_then ?_ | refine rg rfl (g_assign (by conv => lhs; whnf)) rfl rfl ?_)
  refine ct_quiet (by kernel_rfl) rfl ?_
  simp only [List.map, lite]
  repeat (first | refine rq_nil ?_ | refine qg rfl (g_move (by conv => lhs; whnf)) rfl rfl ?_ | refine qg rfl (g_nil rfl) rfl rfl ?_ | refine qg rfl (g_field0 rfl) rfl rfl ?_ | refine qg rfl (g_load rfl (by conv => lhs; whnf)) rfl rfl ?_ | refine qg rfl (g_err_eq (by conv => lhs; whnf) (by first | exact .inl rfl | exact .inr ⟨_, _, rfl⟩ | assumption)) rfl rfl ?_ | refine qg rfl (g_pick_t rfl (by conv => lhs; whnf)) rfl rfl ?_ | refine qgw rfl rfl rfl rfl (g_move (by conv => lhs; whnf)) rfl rfl ?_ | refine qgw rfl rfl rfl rfl (g_nil rfl) rfl rfl ?_ | refine qgw rfl rfl rfl rfl (g_field0 rfl) rfl rfl ?_ | refine qgw rfl rfl rfl rfl (g_load rfl (by conv => lhs; whnf)) rfl rfl ?_ | (refine qgw rfl rfl rfl rfl (g_lssT rfl rfl ?_) rfl rfl ?_; (· (omega))) | refine qgw rfl rfl rfl rfl (g_len_slice rfl) rfl rfl ?_)
  repeat (first | refine ct_seq ?_ | (refine ct_region' rfl ?_; simp only [List.map, lite]) | refine q_then ?_ | refine ct_true rfl ?_ | refine rg rfl (g_move (by conv => lhs; whnf)) rfl rfl ?_ | refine rg rfl (g_nil rfl) rfl rfl ?_ | refine rg rfl (g_field0 rfl) rfl rfl ?_ | refine rg rfl (g_load rfl (by conv => lhs; whnf)) rfl rfl ?_)
  refine rt_ent (B := InA p a cap xs pos none * R) ?_ (Ent.refl _)
  refine rt_op (wants_none rfl) (o_callF rfl rfl (in_fail _ p a cap xs pos 23) fun q => ?_)
  repeat (first | refine rt_nil ?_ | refine ct_ret ?_ | refine q_then ?_ | refine q_then_ret ?_ | refine rg rfl (g_assign (by conv => lhs; whnf)) rfl rfl ?_)
  exact q_ret1 Try.results29 rfl q rfl (Ent.refl _)
theorem in_end_ok (R : HP) (p : Nat) (a : Option Addr) (cap : Nat) (xs : List UInt8) (pos : Nat) (h : xs.length ≤ pos) :
    Spec Try.prog 29 [.pointer (some ⟨p, 0, none⟩)] (InA p a cap xs pos none * R) (fun _ : Unit => .nilIface) (fun _ => InA p a cap xs pos none * R) := by
  refine spec_of Try.func29 rfl Try.ntmps29 rfl fun W0 => ?_
  unfold InA
  simp only [Option.map_none]
  repeat (first | refine ct_seq ?_ | (refine ct_region' rfl ?_; simp only [List.map, lite]) | refine rt_nil ?_ | refine q_then ?_ | refine rg rfl (g_assign (by conv => lhs; whnf)) rfl rfl ?_)
  refine ct_quiet (by kernel_rfl) rfl ?_
  simp only [List.map, lite]
  repeat (first | refine rq_nil ?_ | refine qg rfl (g_move (by conv => lhs; whnf)) rfl rfl ?_ | refine qg rfl (g_nil rfl) rfl rfl ?_ | refine qg rfl (g_field0 rfl) rfl rfl ?_ | refine qg rfl (g_load rfl (by conv => lhs; whnf)) rfl rfl ?_ | refine qg rfl (g_err_eq (by conv => lhs; whnf) (by first | exact .inl rfl | exact .inr ⟨_, _, rfl⟩ | assumption)) rfl rfl ?_ | refine qg rfl (g_pick_t rfl (by conv => lhs; whnf)) rfl rfl ?_ | refine qgw rfl rfl rfl rfl (g_move (by conv => lhs; whnf)) rfl rfl ?_ | refine qgw rfl rfl rfl rfl (g_nil rfl) rfl rfl ?_ | refine qgw rfl rfl rfl rfl (g_field0 rfl) rfl rfl ?_ | refine qgw rfl rfl rfl rfl (g_load rfl (by conv => lhs; whnf)) rfl rfl ?_ | (refine qgw rfl rfl rfl rfl (g_lssF rfl rfl ?_) rfl rfl ?_; (· (omega))) | refine qgw rfl rfl rfl rfl (g_len_slice rfl) rfl rfl ?_)
  repeat (first | refine ct_seq ?_ | (refine ct_region' rfl ?_; simp only [List.map, lite]) | refine rt_nil ?_ | refine ct_skip ?_ | refine ct_ret ?_ | refine q_then ?_ | refine ct_false rfl ?_ | refine rg rfl (g_move (by conv => lhs; whnf)) rfl rfl ?_ | refine rg rfl (g_assign (by conv => lhs; whnf)) rfl rfl ?_ | refine rg rfl (g_nil rfl) rfl rfl ?_ | refine rg rfl (g_field0 rfl) rfl rfl ?_ | refine rg rfl (g_load rfl (by conv => lhs; whnf)) rfl rfl ?_)
  exact q_ret1 Try.results29 rfl () rfl (Ent.refl _)

theorem bvs_all (l : List UInt8) : (l.map bv).all (fun v => v.oneCell') = true := List.all_eq_true.2 fun v h => bvs_one v h
def hashV (b : List UInt8) : Value := .agg (b.map bv).toArray
def hash0 : List UInt8 := List.replicate 32 0
theorem in_hash_bad (R : HP) (p : Nat) (a : Option Addr) (cap : Nat) (xs : List UInt8) (pos : Nat) (q why : Nat) :
    Spec Try.prog 48 [.pointer (some ⟨p, 0, none⟩)] (InA p a cap xs pos (some (q, why)) * R) (fun _ : Unit => .tuple #[hashV hash0, errV (some q)]) (fun _ => InA p a cap xs pos (some (q, why)) * R) := by
  refine spec_of Try.func48 rfl Try.ntmps48 rfl fun W0 => ?_
  repeat (first | refine ct_seq ?_ | (refine ct_region' rfl ?_; simp only [List.map, lite]))
  refine rt_op (wants_none rfl) (o_alloc rfl (by conv => lhs; whnf) fun b => ?_)
  repeat (first | refine ct_seq ?_ | (refine ct_region' rfl ?_; simp only [List.map, lite]) | refine rt_nil ?_ | refine q_then ?_ | refine rg rfl (g_move (by conv => lhs; whnf)) rfl rfl ?_ | refine rg rfl (g_assign (by conv => lhs; whnf)) rfl rfl ?_)
  refine rt_op (wants_none rfl) (o_callF rfl rfl (in_next_bad _ p a cap xs pos q why 32) fun _ => ?_)
  repeat (first | refine ct_seq ?_ | (refine ct_region' rfl ?_; simp only [List.map, lite]) | refine rt_nil ?_ | refine q_then ?_ | refine ct_true rfl ?_ | refine rg rfl (g_move (by conv => lhs; whnf)) rfl rfl ?_ | refine rg rfl (g_assign (by conv => lhs; whnf)) rfl rfl ?_ | refine rg rfl (g_extract rfl (by conv => lhs; whnf)) rfl rfl ?_ | refine rg rfl (g_err_ne (by conv => lhs; whnf) (by first | exact .inl rfl | exact .inr ⟨_, _, rfl⟩ | assumption)) rfl rfl ?_)
  refine rg rfl (g_buildA0 rfl) rfl rfl ?_
  refine rg rfl (g_move (by conv => lhs; whnf)) rfl rfl ?_
  refine rt_op (wants_none rfl) (o_storeAgg rfl (by conv => lhs; whnf) (by rfl) (by rfl) (by rfl) (by rfl) ?_)
  repeat (first | refine rt_nil ?_ | refine ct_ret ?_ | refine q_then ?_ | refine q_then_ret ?_ | refine rg rfl (g_assign (by conv => lhs; whnf)) rfl rfl ?_)
  exact q_retCT Try.results48 (cell_blk (by conv => lhs; whnf) (by rfl)) rfl () rfl (by first | exact En.ent | (simp only [Int.natCast_add, Int.natCast_one]; exact En.ent))
theorem in_hash_short (R : HP) (p : Nat) (a : Option Addr) (cap : Nat) (xs : List UInt8) (pos : Nat) (hp : pos ≤ xs.length) (hl : xs.length ≤ 140737488355328) (h : xs.length < pos + 32) :
    Spec Try.prog 48 [.pointer (some ⟨p, 0, none⟩)] (InA p a cap xs pos none * R) (fun q : Nat => .tuple #[hashV hash0, errV (some q)]) (fun q => InA p a cap xs pos (some (q, 20)) * R) := by
  refine spec_of Try.func48 rfl Try.ntmps48 rfl fun W0 => ?_
  repeat (first | refine ct_seq ?_ | (refine ct_region' rfl ?_; simp only [List.map, lite]))
  refine rt_op (wants_none rfl) (o_alloc rfl (by conv => lhs; whnf) fun b => ?_)
  repeat (first | refine ct_seq ?_ | (refine ct_region' rfl ?_; simp only [List.map, lite]) | refine rt_nil ?_ | refine q_then ?_ | refine rg rfl (g_move (by conv => lhs; whnf)) rfl rfl ?_ | refine rg rfl (g_assign (by conv => lhs; whnf)) rfl rfl ?_)
  refine rt_op (wants_none rfl) (o_callF rfl rfl (in_next_short _ p a cap xs pos 32 hp hl (by decide) h) fun q => ?_)
  repeat (first | refine ct_seq ?_ | (refine ct_region' rfl ?_; simp only [List.map, lite]) | refine rt_nil ?_ | refine q_then ?_ | refine ct_true rfl ?_ | refine rg rfl (g_move (by conv => lhs; whnf)) rfl rfl ?_ | refine rg rfl (g_assign (by conv => lhs; whnf)) rfl rfl ?_ | refine rg rfl (g_extract rfl (by conv => lhs; whnf)) rfl rfl ?_ | refine rg rfl (g_err_ne (by conv => lhs; whnf) (by first | exact .inl rfl | exact .inr ⟨_, _, rfl⟩ | assumption)) rfl rfl ?_)
  refine rg rfl (g_buildA0 rfl) rfl rfl ?_
  refine rg rfl (g_move (by conv => lhs; whnf)) rfl rfl ?_
  refine rt_op (wants_none rfl) (o_storeAgg rfl (by conv => lhs; whnf) (by rfl) (by rfl) (by rfl) (by rfl) ?_)
  repeat (first | refine rt_nil ?_ | refine ct_ret ?_ | refine q_then ?_ | refine q_then_ret ?_ | refine rg rfl (g_assign (by conv => lhs; whnf)) rfl rfl ?_)
  exact q_retCT Try.results48 (cell_blk (by conv => lhs; whnf) (by rfl)) rfl q rfl (by first | exact En.ent | (simp only [Int.natCast_add, Int.natCast_one]; exact En.ent))
theorem in_hash_ok (R : HP) (p : Nat) (a : Option Addr) (cap : Nat) (xs : List UInt8) (pos : Nat) (hl : xs.length ≤ 140737488355328) (h : pos + 32 ≤ xs.length) :
    Spec Try.prog 48 [.pointer (some ⟨p, 0, none⟩)] (InA p a cap xs pos none * R) (fun _ : Unit => .tuple #[hashV ((xs.drop pos).take 32), .nilIface]) (fun _ => InA p a cap xs (pos + 32) none * R) := by
  refine spec_of Try.func48 rfl Try.ntmps48 rfl fun W0 => ?_
  refine ct_in fun h0 hcap => ?_
  repeat (first | refine ct_seq ?_ | (refine ct_region' rfl ?_; simp only [List.map, lite]))
  refine rt_op (wants_none rfl) (o_alloc rfl (by conv => lhs; whnf) fun b => ?_)
  repeat (first | refine ct_seq ?_ | (refine ct_region' rfl ?_; simp only [List.map, lite]) | refine rt_nil ?_ | refine q_then ?_ | refine rg rfl (g_move (by conv => lhs; whnf)) rfl rfl ?_ | refine rg rfl (g_assign (by conv => lhs; whnf)) rfl rfl ?_)
  refine rt_op (wants_none rfl) (o_callF rfl rfl (in_next_ok _ p a cap xs pos 32 hl h) fun _ => ?_)
  repeat (first | refine ct_seq ?_ | (refine ct_region' rfl ?_; simp only [List.map, lite]) | refine rt_nil ?_ | refine ct_skip ?_ | refine q_then ?_ | refine ct_false rfl ?_ | refine rg rfl (g_move (by conv => lhs; whnf)) rfl rfl ?_ | refine rg rfl (g_assign (by conv => lhs; whnf)) rfl rfl ?_ | refine rg rfl (g_extract rfl (by conv => lhs; whnf)) rfl rfl ?_ | refine rg rfl (g_err_ne (by conv => lhs; whnf) (by first | exact .inl rfl | exact .inr ⟨_, _, rfl⟩ | assumption)) rfl rfl ?_)
  have hrd := fun R => rdB_cut (R := R) (p := p) (pos' := pos + 32) (e := none) 32 h0 hcap h
  have hlen : ((xs.drop pos).take 32).length = 32 := by simp; omega
  refine rg rfl (g_s2a rfl (by decide)) rfl rfl ?_
  cases a with
  | none =>
    have := (hrd R).1 rfl
    rw [this] at hlen; cases hlen
  | some g =>
    have hl2 : (((xs.drop pos).take 32).map bv).length = 32 := by rw [List.length_map, hlen]
    refine rg rfl (g_load_agg rfl hl2 ((hrd _).2 _ rfl)) rfl rfl ?_
    skip
    refine rt_op (wants_none rfl) (o_storeAgg rfl rfl rfl (bvs_all _) hl2 (by rfl) ?_)
    repeat (first | refine rt_nil ?_ | refine ct_ret ?_ | refine q_then ?_ | refine rg rfl (g_assign (by conv => lhs; whnf)) rfl rfl ?_)
    exact q_retCT Try.results48 (cell_blk rfl hl2) rfl () rfl (Ent.dropL _ _)
end Go.Proofs.Ytfcanppeiadbhaa
