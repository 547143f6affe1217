/- The reference's marks: Wide, Kept, full. -/
import Derived.Test.YtfcanppeiadbhaaP9
import Derived.Test.YtfcanppeiadbhaaW
namespace Go.Proofs.Ytfcanppeiadbhaa
open Go.RowKit
attribute [local irreducible] Gives RT CT QT Spec Wants Reads Src Ent OT RQ AnyT AnyOp Again Code.wp Post

def marks : List UInt8 := [0xC0, 0xC1, 0xC2, 0xC3, 0xC4, 0xC5, 0xC6]
theorem marks_next (xs : List UInt8) : ∀ i, i < 7 → (xs ++ marks.take i).map bv ++ [.int .u8 (192 + (i : Int))] = (xs ++ marks.take (i + 1)).map bv
  | 0, _ | 1, _ | 2, _ | 3, _ | 4, _ | 5, _ | 6, _ => by simp [marks]
  | n + 7, h => by omega
/-- what Wide makes -/
def WideA (ad : Option Addr) (cap : Nat) (b : List UInt8) : HP := Arr 5 1 ad cap (b.length + 7) ((b ++ marks).map bv)
instance WideA.rd (ad : Option Addr) (cap : Nat) (b : List UInt8) : Rd (WideA ad cap b) ad (b.map bv) := by
  have := (Rd.arr 5 1 ad cap (b.length + 7) ((b ++ marks).map bv)).take b.length
  rwa [← List.map_take, List.take_left] at this
theorem wide_spec (R : HP) (ad : Option Addr) (c : Nat) (xs : List UInt8) [hr : Rd R ad (xs.map bv)] (hl : xs.length ≤ 140737488351232) :
    Spec Try.prog 23 [.slice ad xs.length c] R (fun i : { i : Option Addr × Nat // i.1 ≠ none ∧ xs.length + 7 ≤ i.2 } => .slice i.1.1 xs.length i.1.2) (fun i => WideA i.1.1 i.1.2 xs * R) := by
  refine spec_of Try.func23 rfl Try.ntmps23 rfl fun W0 => ?_
  focus
    refine ct_seq ?_
    (refine ct_region' rfl ?_; simp only [List.map, lite])
    (refine rg rfl (g_assign (by conv => lhs; whnf)) rfl rfl ?_)
    refine rt_nil ?_
    refine q_then ?_
    refine ct_seq ?_
    (refine ct_region' rfl ?_; simp only [List.map, lite])
    (refine rg rfl (g_move (by conv => lhs; whnf)) rfl rfl ?_)
    (refine rg rfl (g_len_slice rfl) rfl rfl ?_)
    (refine rg rfl (g_addN rfl rfl ?_) rfl rfl ?_; (· (constructor <;> omega)))
    (refine rt_op (wants_none rfl) (o_make1 rfl rfl rfl ?_ rfl (by rfl) ?_ (by first | with_reducible exact List.replicate_zero | exact rfl) fun b8 => ?_); (· (first | omega | decide)); (· (first | omega | decide)))
    (refine rg rfl (g_assign (by conv => lhs; whnf)) rfl rfl ?_)
    refine rt_nil ?_
    refine q_then ?_
    refine ct_seq ?_
    (refine ct_region' rfl ?_; simp only [List.map, lite])
    (refine rg rfl (g_move (by conv => lhs; whnf)) rfl rfl ?_)
    (refine rg rfl (g_move (by conv => lhs; whnf)) rfl rfl ?_)
    (refine rt_op (wants_none rfl) (o_appR rfl rfl rfl (by first | rfl | simp | (simp; omega)) (by first | rfl | exact bvsAll _ | exact wvs_all _ | assumption) (by rfl) (by rfl) ?_ (by first | with_reducible exact Nat.zero_add _ | exact rfl) (by first | with_reducible exact List.nil_append _ | exact List.map_append.symm | exact rfl) fun ad11 cap11 hc11 hn11 => ?_); (· (first | omega | decide)))
    (refine rg rfl (g_assign (by conv => lhs; whnf)) rfl rfl ?_)
    refine rt_nil ?_
    refine q_then ?_
    refine ct_seq ?_
    refine ct_seq ?_
    (refine ct_region' rfl ?_; simp only [List.map, lite])
    (refine rg rfl (g_assign (by conv => lhs; whnf)) rfl rfl ?_)
    refine rt_nil ?_
    refine q_then ?_
    refine ct_block ?_
    rotate_left
  refine ct_loop (ι := { i : Nat × Option Addr × Nat // i.1 ≤ 7 ∧ xs.length + i.1 ≤ i.2.2 ∧ (i.2.1 = none → xs.length + i.1 = 0) }) (fun i => [(0, .slice ad xs.length c), (3, .slice i.1.2.1 (xs.length + i.1.1) i.1.2.2), (4, .int .i64 (i.1.1 : Int))]) (fun i => Arr 5 1 i.1.2.1 i.1.2.2 (xs.length + i.1.1) ((xs ++ marks.take i.1.1).map bv) * R) (fun i => 7 - i.1.1)
    ⟨(0, ad11, cap11), by omega, hc11, fun h => (hn11 h).1⟩ ⟨rfl, rfl, rfl, trivial⟩ (by simp only [List.take_zero, List.append_nil, Nat.add_zero]; exact En.ent) fun i ρ' => ?_
  obtain ⟨⟨i, ad', cap'⟩, hi, hcp, hnn⟩ := i
  dsimp only at hi hcp hnn ⊢
  focus
    refine ct_seq ?_
    refine ct_seq ?_
    (refine ct_region' rfl ?_; simp only [List.map, lite])
    (refine rg rfl (g_move (by conv => lhs; whnf)) rfl rfl ?_)
    (refine rg rfl (g_lss rfl rfl) rfl rfl ?_)
    refine rt_nil ?_
    refine q_then ?_
    refine ct_if rfl (fun h13 => ?_) (fun h13 => ?_)
    refine ct_skip ?_
    refine q_then ?_
    refine ct_seq ?_
    refine ct_block ?_
    (refine ct_region' rfl ?_; simp only [List.map, lite])
    (refine rg rfl (g_move (by conv => lhs; whnf)) rfl rfl ?_)
    (refine rg rfl (g_move (by conv => lhs; whnf)) rfl rfl ?_)
    (refine rg rfl (g_addN rfl rfl ?_) rfl rfl ?_; (· (constructor <;> omega)))
    (refine rg rfl (g_convN rfl ?_) rfl rfl ?_; (· (constructor <;> omega)))
    (refine rt_op (wants_none rfl) (o_build1 rfl (by conv => lhs; whnf) (by rfl) (by rfl) (by rfl) (by conv => lhs; whnf) fun b20 => ?_))
    (refine rt_op (wants_none rfl) (o_app2 rfl rfl rfl (by rfl) (by first | rfl | exact bvsAll _ | exact wvs_all _ | assumption) (by rfl) ?_ (by first | with_reducible exact Nat.zero_add _ | exact rfl) (by first | with_reducible exact List.nil_append _ | exact List.map_append.symm | exact rfl) fun ad21 cap21 hc21 hn21 => ?_); (· (first | omega | decide)))
    (refine rg rfl (g_assign (by conv => lhs; whnf)) rfl rfl ?_)
    refine rt_nil ?_
    refine q_block ?_
    refine q_then ?_
    (refine ct_region' rfl ?_; simp only [List.map, lite])
    (refine rg rfl (g_move (by conv => lhs; whnf)) rfl rfl ?_)
    (refine rg rfl (g_addN rfl rfl ?_) rfl rfl ?_; (· (constructor <;> omega)))
    (refine rg rfl (g_assign (by conv => lhs; whnf)) rfl rfl ?_)
    refine rt_nil ?_
    rotate_left
    refine ct_exit ?_
    refine q_then_exit ?_
    refine q_then_exit ?_
    refine q_block_exit ?_
    refine q_then ?_
    refine ct_seq ?_
    (refine ct_region' rfl ?_; simp only [List.map, lite])
    (refine rg rfl (g_move (by conv => lhs; whnf)) rfl rfl ?_)
    (refine rg rfl (g_move (by conv => lhs; whnf)) rfl rfl ?_)
    (refine rg rfl (g_len_slice rfl) rfl rfl ?_)
    (refine rg rfl (g_cut_hi rfl rfl ?_ ?_ (by exact Int.toNat_natCast _)) rfl rfl ?_; (· (omega)); (· (omega)))
    (refine rg rfl (g_assign (by conv => lhs; whnf)) rfl rfl ?_)
    refine rt_nil ?_
    refine q_then ?_
    refine ct_ret ?_
    rotate_left
  · rw [marks_next xs i (by omega)]
    exact q_again ⟨(i + 1, ad21, cap21), by omega, hc21, fun h => absurd h hn21⟩ (by show 7 - (i + 1) < 7 - i; omega) ⟨rfl, rfl, rfl, trivial⟩ En.ent
  · obtain rfl : i = 7 := by omega
    exact q_ret1 rfl rfl ⟨(ad', cap'), fun h => by have := hnn h; omega, hcp⟩ rfl (Ent.refl _)

theorem marks_at : ∀ i, i < 7 → marks[i]? = some (UInt8.ofNat (192 + i)) ∧ bv (UInt8.ofNat (192 + i)) = .int .u8 (192 + (i : Int))
  | 0, _ | 1, _ | 2, _ | 3, _ | 4, _ | 5, _ | 6, _ => ⟨rfl, rfl⟩
  | n + 7, h => by omega
theorem kept_spec (R : HP) (a b : Option Addr) (c c' : Nat) (xs : List UInt8) [hs : Rd R b (xs.map bv)] (hc : xs.length + 7 ≤ c) (hl : xs.length ≤ 140737488351232) :
    Spec Try.prog 24 [.slice a xs.length c, .slice b xs.length c'] (WideA a c xs * R) (fun _ : Unit => .bool true) (fun _ => WideA a c xs * R) := by
  refine spec_of Try.func24 rfl Try.ntmps24 rfl fun W0 => ?_
  unfold WideA
  focus
    refine ct_seq ?_
    (refine ct_region' rfl ?_; simp only [List.map, lite])
    (refine rg rfl (g_assign (by conv => lhs; whnf)) rfl rfl ?_)
    refine rt_nil ?_
    refine q_then ?_
    refine ct_seq ?_
    refine ct_seq ?_
    (refine ct_region' rfl ?_; simp only [List.map, lite])
    (refine rg rfl (g_move (by conv => lhs; whnf)) rfl rfl ?_)
    (refine rg rfl (g_convRd rfl ?_ (by first | exact List.take_length | exact List.take_left | exact rfl)) rfl rfl ?_; (· (first | omega | (simp; omega) | simp)))
    (refine rg rfl (g_move (by conv => lhs; whnf)) rfl rfl ?_)
    (refine rg rfl (g_convRd rfl ?_ (by first | exact List.take_length | exact List.take_left | exact rfl)) rfl rfl ?_; (· (first | omega | (simp; omega) | simp)))
    (refine rg rfl (g_nesF rfl rfl ?_) rfl rfl ?_; (· (first | rfl | assumption)))
    refine rt_nil ?_
    refine q_then ?_
    refine ct_false rfl ?_
    refine ct_skip ?_
    refine q_then ?_
    refine ct_seq ?_
    (refine ct_region' rfl ?_; simp only [List.map, lite])
    (refine rg rfl (g_move (by conv => lhs; whnf)) rfl rfl ?_)
    (refine rg rfl (g_move (by conv => lhs; whnf)) rfl rfl ?_)
    (refine rg rfl (g_len_slice rfl) rfl rfl ?_)
    (refine rg rfl (g_addN rfl rfl ?_) rfl rfl ?_; (· (constructor <;> omega)))
    (refine rg rfl (g_cut_hi rfl rfl ?_ ?_ (by exact Int.toNat_natCast _)) rfl rfl ?_; (· (omega)); (· (omega)))
    (refine rg rfl (g_assign (by conv => lhs; whnf)) rfl rfl ?_)
    refine rt_nil ?_
    refine q_then ?_
    refine ct_seq ?_
    refine ct_seq ?_
    (refine ct_region' rfl ?_; simp only [List.map, lite])
    (refine rg rfl (g_assign (by conv => lhs; whnf)) rfl rfl ?_)
    refine rt_nil ?_
    refine q_then ?_
    refine ct_block ?_
    rotate_left
  refine ct_loop (ι := { i : Nat // i ≤ 7 }) (fun i => [(1, .slice b xs.length c'), (5, .slice a (xs.length + 7) c), (6, .int .i64 (i.1 : Int))]) (fun _ => Arr 5 1 a c (xs.length + 7) ((xs ++ marks).map bv) * R) (fun i => 7 - i.1) ⟨0, by omega⟩ ⟨rfl, rfl, rfl, trivial⟩ (Ent.refl _) fun i ρ' => ?_
  obtain ⟨i, hi⟩ := i
  dsimp only at hi ⊢
  by_cases h : i < 7
  · have hm : ((xs ++ marks).map bv)[xs.length + i]? = some (.int .u8 (192 + (i : Int))) := by
      rw [List.getElem?_map, List.getElem?_append_right (by omega), show xs.length + i - xs.length = i by omega, (marks_at i h).1, ← (marks_at i h).2]; rfl
    focus
      refine ct_seq ?_
      refine ct_seq ?_
      (refine ct_region' rfl ?_; simp only [List.map, lite])
      (refine rg rfl (g_move (by conv => lhs; whnf)) rfl rfl ?_)
      (refine rg rfl (g_lssT rfl rfl ?_) rfl rfl ?_; (· (omega)))
      refine rt_nil ?_
      refine q_then ?_
      refine ct_true rfl ?_
      refine ct_skip ?_
      refine q_then ?_
      refine ct_seq ?_
      refine ct_block ?_
      refine ct_seq ?_
      (refine ct_region' rfl ?_; simp only [List.map, lite])
      (refine rg rfl (g_move (by conv => lhs; whnf)) rfl rfl ?_)
      (refine rg rfl (g_move (by conv => lhs; whnf)) rfl rfl ?_)
      (refine rg rfl (g_len_slice rfl) rfl rfl ?_)
      (refine rg rfl (g_move (by conv => lhs; whnf)) rfl rfl ?_)
      (refine rg rfl (g_addN rfl rfl ?_) rfl rfl ?_; (· (constructor <;> omega)))
      (refine rg rfl (g_elemO1 rfl rfl ?_ ?_) rfl rfl ?_; (· (first | omega | decide)); (· (first | omega | decide | (exact pos_of_get (by assumption)) | (simp only [List.length_map, List.length_append, List.length_replicate, List.length_cons, List.length_nil]; omega) | (simp; omega))))
      (refine rg rfl (g_load_rd rfl (by assumption)) rfl rfl ?_)
      (refine rg rfl (g_move (by conv => lhs; whnf)) rfl rfl ?_)
      (refine rg rfl (g_addN rfl rfl ?_) rfl rfl ?_; (· (constructor <;> omega)))
      (refine rg rfl (g_convN rfl ?_) rfl rfl ?_; (· (constructor <;> omega)))
      (refine rg rfl (g_neqF rfl rfl ?_) rfl rfl ?_; (· (omega)))
      refine rt_nil ?_
      refine q_then ?_
      refine ct_false rfl ?_
      refine ct_skip ?_
      refine q_block ?_
      refine q_then ?_
      (refine ct_region' rfl ?_; simp only [List.map, lite])
      (refine rg rfl (g_move (by conv => lhs; whnf)) rfl rfl ?_)
      (refine rg rfl (g_addN rfl rfl ?_) rfl rfl ?_; (· (constructor <;> omega)))
      (refine rg rfl (g_assign (by conv => lhs; whnf)) rfl rfl ?_)
      refine rt_nil ?_
      rotate_left
    exact q_again ⟨i + 1, by omega⟩ (by show 7 - (i + 1) < 7 - i; omega) ⟨rfl, rfl, rfl, trivial⟩ (Ent.refl _)
  · focus
      refine ct_seq ?_
      refine ct_seq ?_
      (refine ct_region' rfl ?_; simp only [List.map, lite])
      (refine rg rfl (g_move (by conv => lhs; whnf)) rfl rfl ?_)
      (refine rg rfl (g_lssF rfl rfl ?_) rfl rfl ?_; (· (omega)))
      refine rt_nil ?_
      refine q_then ?_
      refine ct_false rfl ?_
      refine ct_exit ?_
      refine q_then_exit ?_
      refine q_then_exit ?_
      refine q_block_exit ?_
      refine q_then ?_
      refine ct_seq ?_
      (refine ct_region' rfl ?_; simp only [List.map, lite])
      (refine rg rfl (g_assign (by conv => lhs; whnf)) rfl rfl ?_)
      refine rt_nil ?_
      refine q_then ?_
      refine ct_ret ?_
      exact q_ret1 rfl rfl () rfl En.ent

theorem full_spec (R : HP) (a : Option Addr) (n c : Nat) (m : UInt8) [hr : Rd R a ((List.replicate n m).map bv)] (hl : n ≤ 9223372036854775807) :
    Spec Try.prog 43 [.slice a n c, bv m] R (fun _ : Unit => .bool true) (fun _ => R) := by
  refine spec_of Try.func43 rfl Try.ntmps43 rfl fun W0 => ?_
  focus
    refine ct_seq ?_
    (refine ct_region' rfl ?_; simp only [List.map, lite])
    (refine rg rfl (g_assign (by conv => lhs; whnf)) rfl rfl ?_)
    refine rt_nil ?_
    refine q_then ?_
    refine ct_seq ?_
    refine ct_seq ?_
    (refine ct_region' rfl ?_; simp only [List.map, lite])
    (refine rg rfl (g_assign (by conv => lhs; whnf)) rfl rfl ?_)
    refine rt_nil ?_
    refine q_then ?_
    refine ct_block ?_
    rotate_left
  refine ct_loop (ι := { i : Nat // i ≤ n }) (fun i => [(0, .slice a n c), (1, bv m), (5, .int .i64 (i.1 : Int))]) (fun _ => R) (fun i => n - i.1) ⟨0, by omega⟩ ⟨rfl, rfl, rfl, trivial⟩ (Ent.refl _) fun i ρ' => ?_
  obtain ⟨i, hi⟩ := i
  dsimp only at hi ⊢
  focus
    refine ct_seq ?_
    refine ct_seq ?_
    (refine ct_region' rfl ?_; simp only [List.map, lite])
    (refine rg rfl (g_move (by conv => lhs; whnf)) rfl rfl ?_)
    (refine rg rfl (g_move (by conv => lhs; whnf)) rfl rfl ?_)
    (refine rg rfl (g_len_slice rfl) rfl rfl ?_)
    (refine rg rfl (g_lss rfl rfl) rfl rfl ?_)
    refine rt_nil ?_
    refine q_then ?_
    refine ct_if rfl (fun h9 => ?_) (fun h9 => ?_)
    refine ct_skip ?_
    refine q_then ?_
    refine ct_seq ?_
    refine ct_block ?_
    refine ct_seq ?_
    (refine ct_region' rfl ?_; simp only [List.map, lite])
    (refine rg rfl (g_move (by conv => lhs; whnf)) rfl rfl ?_)
    (refine rg rfl (g_move (by conv => lhs; whnf)) rfl rfl ?_)
    (refine rg rfl (g_elemO1 rfl rfl ?_ ?_) rfl rfl ?_; (· (first | omega | decide)); (· (first | omega | decide | (exact pos_of_get (by assumption)) | (simp only [List.length_map, List.length_append, List.length_replicate, List.length_cons, List.length_nil]; omega) | (simp; omega))))
    (refine rg rfl (g_load_rd rfl (rep_at ?_)) rfl rfl ?_; (· (first | omega | decide)))
    (refine rg rfl (g_move (by conv => lhs; whnf)) rfl rfl ?_)
    (refine rg rfl (g_neqF rfl rfl ?_) rfl rfl ?_; (· (omega)))
    refine rt_nil ?_
    refine q_then ?_
    refine ct_false rfl ?_
    refine ct_skip ?_
    refine q_block ?_
    refine q_then ?_
    (refine ct_region' rfl ?_; simp only [List.map, lite])
    (refine rg rfl (g_move (by conv => lhs; whnf)) rfl rfl ?_)
    (refine rg rfl (g_addN rfl rfl ?_) rfl rfl ?_; (· (constructor <;> omega)))
    (refine rg rfl (g_assign (by conv => lhs; whnf)) rfl rfl ?_)
    refine rt_nil ?_
    rotate_left
    refine ct_exit ?_
    refine q_then_exit ?_
    refine q_then_exit ?_
    refine q_block_exit ?_
    refine q_then ?_
    refine ct_seq ?_
    (refine ct_region' rfl ?_; simp only [List.map, lite])
    (refine rg rfl (g_assign (by conv => lhs; whnf)) rfl rfl ?_)
    refine rt_nil ?_
    refine q_then ?_
    refine ct_ret ?_
    exact q_ret1 rfl rfl () rfl En.ent
  exact q_again ⟨i + 1, by omega⟩ (by show n - (i + 1) < n - i; omega) ⟨rfl, rfl, rfl, trivial⟩ (Ent.refl _)
end Go.Proofs.Ytfcanppeiadbhaa
