/- Hashes: Compare, Rising, Same, of the program and of the reference. -/
import Derived.Test.YtijplicijmpknaaHo
import Derived.Test.YtijplicijmpknaaTy
namespace Go.Proofs.Ytijplicijmpknaa
open Go.RowKit
attribute [local irreducible] Gives RT CT QT Spec Wants Reads Src Ent OT RQ AnyT AnyOp Again Code.wp Post

theorem bytesCompare_spec (R : HP) (a b : Option Addr) (c c' : Nat) (xs ys : List UInt8) [hr : Rd R a (xs.map bv)] [hr' : Rd R b (ys.map bv)] (hl : xs.length = ys.length) :
    Spec Try.prog 83 [.slice a xs.length c, .slice b ys.length c'] R (fun _ : Unit => .int .i64 (cmpL xs ys)) (fun _ => R) := by
  refine spec_of Try.func83 rfl Try.ntmps83 rfl fun W0 => ?_
  focus
    refine ct_seq ?_
    (refine ct_region' rfl ?_; simp only [List.map, lite])
    (refine rg rfl (g_assign (by conv => lhs; whnf)) rfl rfl ?_)
    refine rt_nil ?_
    refine q_then ?_
    refine ct_seq ?_
    (refine ct_region' rfl ?_; simp only [List.map, lite])
    (refine rg rfl (g_move (by conv => lhs; whnf)) rfl rfl ?_)
    (refine rg rfl (g_move (by conv => lhs; whnf)) rfl rfl ?_)
    (refine rg rfl (g_bytealgCompare (xs := xs) (ys := ys) Try.func92 (by kernel_rfl) (by kernel_rfl) (by kernel_rfl) (by kernel_rfl) rfl rfl rfl rfl hl) rfl rfl ?_)
    (refine rg rfl (g_assign (by conv => lhs; whnf)) rfl rfl ?_)
    refine rt_nil ?_
    refine q_then ?_
    refine ct_ret ?_
    exact q_ret1 rfl rfl () rfl En.ent
theorem compare_spec (R : HP) (x y : Hs) :
    Spec Try.prog 52 [.agg (hc x).toArray, .agg (hc y).toArray] R (fun _ : Unit => .int .i64 (cmpH x y)) (fun _ => R) := by
  refine spec_of Try.func52 rfl Try.ntmps52 rfl fun W0 => ?_
  obtain ⟨x, hx2⟩ := x
  obtain ⟨y, hy2⟩ := y
  have hx : (x.map bv).length = 32 := by simpa using hx2
  have hy : (y.map bv).length = 32 := by simpa using hy2
  have hbc := fun (R' : HP) (a b : Option Addr) [Rd R' a (x.map bv)] [Rd R' b (y.map bv)] => bytesCompare_spec R' a b 32 32 x y (by rw [hx2, hy2])
  rw [hx2, hy2] at hbc
  focus
    refine ct_seq ?_
    (refine ct_region' rfl ?_; simp only [List.map, lite])
    (refine rt_op (wants_none rfl) (o_box rfl (by conv => lhs; whnf) (by conv => lhs; whnf) fun b2 => ?_))
    (refine rt_op (wants_none rfl) (o_box rfl (by conv => lhs; whnf) (by conv => lhs; whnf) fun b3 => ?_))
    (refine rg rfl (g_assign (by conv => lhs; whnf)) rfl rfl ?_)
    refine rt_nil ?_
    refine q_then ?_
    refine ct_seq ?_
    refine ct_seq ?_
    (refine ct_region' rfl ?_; simp only [List.map, lite])
    (refine rg rfl (g_loadAgg_blk rfl (by first | rfl | assumption | (simp; done) | (simp; omega))) rfl rfl ?_)
    (refine rg rfl (g_loadAgg_blk rfl (by first | rfl | assumption | (simp; done) | (simp; omega))) rfl rfl ?_)
    (refine rg rfl (g_eqH rfl rfl (by kernel_rfl) (by first | rfl | assumption | (simp; done) | (simp; omega)) (by first | rfl | assumption | (simp; done) | (simp; omega))) rfl rfl ?_)
    refine rt_nil ?_
    refine q_then ?_
    refine ct_if rfl (fun h7 => ?_) (fun h7 => ?_)
    refine ct_seq ?_
    (refine ct_region' rfl ?_; simp only [List.map, lite])
    (refine rg rfl (g_assign (by conv => lhs; whnf)) rfl rfl ?_)
    refine rt_nil ?_
    refine q_then ?_
    refine ct_ret ?_
    refine q_then_ret ?_
    rotate_left
    refine ct_skip ?_
    refine q_then ?_
    refine ct_seq ?_
    refine ct_quiet (by kernel_rfl) rfl ?_
    simp only [List.map, lite]
    (refine qg rfl (g_cutA rfl) rfl rfl ?_)
    (refine qg rfl (g_cutA rfl) rfl rfl ?_)
    (refine rq_callE (wants_none rfl) rfl rfl (Ent.refl _) (hbc _ _ _) (fun _ => rfl) (fun _ => En.ent) ?_)
    (refine qg rfl (g_assign (by conv => lhs; whnf)) rfl rfl ?_)
    refine rq_nil ?_
    refine q_then ?_
    refine ct_ret ?_
    exact q_ret1 rfl rfl () rfl En.ent
  exact q_ret1 rfl (by conv => lhs; whnf) () (by subst h7; show Value.int .i64 0 = .int .i64 (cmpL x x); rw [cmpL_self]) (by exact En.ent)
theorem compareR_spec (R : HP) (x y : Hs) :
    Spec Try.prog 37 [.agg (hc x).toArray, .agg (hc y).toArray] R (fun _ : Unit => .int .i64 (cmpH x y)) (fun _ => R) := by
  refine spec_of Try.func37 rfl Try.ntmps37 rfl fun W0 => ?_
  obtain ⟨x, hx2⟩ := x
  obtain ⟨y, hy2⟩ := y
  have hx : (x.map bv).length = 32 := by simpa using hx2
  have hy : (y.map bv).length = 32 := by simpa using hy2
  focus
    refine ct_seq ?_
    (refine ct_region' rfl ?_; simp only [List.map, lite])
    (refine rt_op (wants_none rfl) (o_box rfl (by conv => lhs; whnf) (by conv => lhs; whnf) fun b2 => ?_))
    (refine rt_op (wants_none rfl) (o_box rfl (by conv => lhs; whnf) (by conv => lhs; whnf) fun b3 => ?_))
    (refine rg rfl (g_assign (by conv => lhs; whnf)) rfl rfl ?_)
    refine rt_nil ?_
    refine q_then ?_
    refine ct_seq ?_
    refine ct_seq ?_
    (refine ct_region' rfl ?_; simp only [List.map, lite])
    (refine rg rfl (g_assign (by conv => lhs; whnf)) rfl rfl ?_)
    refine rt_nil ?_
    refine q_then ?_
    refine ct_block ?_
    rotate_left
  refine ct_loop (ι := { i : Nat // i ≤ 32 ∧ cmpL x y = cmpL (x.drop i) (y.drop i) }) (fun i => [(2, .pointer (some ⟨b2, 0, none⟩)), (3, .pointer (some ⟨b3, 0, none⟩)), (5, .int .i64 (i.1 : Int))]) (fun _ => Blk b3 (y.map bv) 32 * (Blk b2 (x.map bv) 32 * R)) (fun i => 32 - i.1) ⟨0, by omega, rfl⟩ ⟨rfl, rfl, rfl, trivial⟩ (Ent.refl _) fun i ρ' => ?_
  obtain ⟨i, hi, hq⟩ := i
  dsimp only at hi ⊢
  by_cases h : i < 32
  · have hd := cmpL_drop x y i (by omega) (by omega)
    have hxi : (x.map bv)[i]? = some (bv x[i]) := by rw [List.getElem?_map, List.getElem?_eq_getElem (by omega)]; rfl
    have hyi : (y.map bv)[i]? = some (bv y[i]) := by rw [List.getElem?_map, List.getElem?_eq_getElem (by omega)]; rfl
    simp only [UInt8.lt_iff_toNat_lt] at hd
    focus
      refine ct_seq ?_
      refine ct_seq ?_
      (refine ct_region' rfl ?_; simp only [List.map, lite])
      (refine rg rfl (g_move (by conv => lhs; whnf)) rfl rfl ?_)
      (refine rg rfl (g_lssT rfl rfl ?_) rfl rfl ?_; (· (omega)))
      refine rt_nil ?_
      refine q_then ?_
      refine ct_true rfl ?_
      refine ct_skip ?_
      refine q_then ?_
      refine ct_seq ?_
      refine ct_block ?_
      refine ct_seq ?_
      refine ct_seq ?_
      refine ct_quiet (by kernel_rfl) rfl ?_
      simp only [List.map, lite]
      (refine qg rfl (g_move (by conv => lhs; whnf)) rfl rfl ?_)
      (refine qg rfl (g_elemB1 rfl rfl ?_) rfl rfl ?_; (· (first | omega | decide)))
      (refine qg rfl (g_load rfl (by assumption)) rfl rfl ?_)
      (refine qg rfl (g_move (by conv => lhs; whnf)) rfl rfl ?_)
      (refine qg rfl (g_elemB1 rfl rfl ?_) rfl rfl ?_; (· (first | omega | decide)))
      (refine qg rfl (g_load rfl (by assumption)) rfl rfl ?_)
      (refine qg rfl (g_lss rfl rfl) rfl rfl ?_)
      refine rq_nil ?_
      refine q_then ?_
      refine ct_if rfl (fun h16 => ?_) (fun h16 => ?_)
      refine ct_seq ?_
      (refine ct_region' rfl ?_; simp only [List.map, lite])
      (refine rg rfl (g_assign (by conv => lhs; whnf)) rfl rfl ?_)
      refine rt_nil ?_
      refine q_then ?_
      refine ct_ret ?_
      refine q_then_ret ?_
      refine q_block_ret ?_
      refine q_then_ret ?_
      refine q_then_ret ?_
      refine q_block_ret ?_
      refine q_then_ret ?_
      rotate_left
      refine ct_skip ?_
      refine q_then ?_
      refine ct_seq ?_
      refine ct_quiet (by kernel_rfl) rfl ?_
      simp only [List.map, lite]
      (refine qg rfl (g_move (by conv => lhs; whnf)) rfl rfl ?_)
      (refine qg rfl (g_elemB1 rfl rfl ?_) rfl rfl ?_; (· (first | omega | decide)))
      (refine qg rfl (g_load rfl (by assumption)) rfl rfl ?_)
      (refine qg rfl (g_move (by conv => lhs; whnf)) rfl rfl ?_)
      (refine qg rfl (g_elemB1 rfl rfl ?_) rfl rfl ?_; (· (first | omega | decide)))
      (refine qg rfl (g_load rfl (by assumption)) rfl rfl ?_)
      (refine qg rfl (g_gtr rfl rfl) rfl rfl ?_)
      refine rq_nil ?_
      refine q_then ?_
      refine ct_if rfl (fun h23 => ?_) (fun h23 => ?_)
      refine ct_seq ?_
      (refine ct_region' rfl ?_; simp only [List.map, lite])
      (refine rg rfl (g_assign (by conv => lhs; whnf)) rfl rfl ?_)
      refine rt_nil ?_
      refine q_then ?_
      refine ct_ret ?_
      refine q_block_ret ?_
      refine q_then_ret ?_
      refine q_then_ret ?_
      refine q_block_ret ?_
      refine q_then_ret ?_
      rotate_left
      refine ct_skip ?_
      refine q_block ?_
      refine q_then ?_
      (refine ct_region' rfl ?_; simp only [List.map, lite])
      (refine rg rfl (g_move (by conv => lhs; whnf)) rfl rfl ?_)
      (refine rg rfl (g_addN rfl rfl ?_) rfl rfl ?_; (· (constructor <;> omega)))
      (refine rg rfl (g_assign (by conv => lhs; whnf)) rfl rfl ?_)
      refine rt_nil ?_
      rotate_left
    · exact q_ret1 rfl (by conv => lhs; whnf) () (congrArg (Value.int .i64) (by show (-1 : Int) = cmpL x y; rw [hq, hd, if_pos (by omega)])) (by exact En.ent)
    · exact q_ret1 rfl (by conv => lhs; whnf) () (congrArg (Value.int .i64) (by show (1 : Int) = cmpL x y; rw [hq, hd, if_neg (by omega), if_pos (by omega)])) (by exact En.ent)
    · rw [if_neg (by omega), if_neg (by omega)] at hd
      exact q_again ⟨i + 1, by omega, hq.trans hd⟩ (by show 32 - (i + 1) < 32 - i; omega) ⟨rfl, rfl, rfl, trivial⟩ (Ent.refl _)
  · focus
      refine ct_seq ?_
      refine ct_seq ?_
      (refine ct_region' rfl ?_; simp only [List.map, lite])
      (refine rg rfl (g_move (by conv => lhs; whnf)) rfl rfl ?_)
      (refine rg rfl (g_lssF rfl rfl ?_) rfl rfl ?_; (· (omega)))
      refine rt_nil ?_
      refine q_then ?_
      refine ct_false rfl ?_
      refine ct_exit ?_
      refine q_then_exit ?_
      refine q_then_exit ?_
      refine q_block_exit ?_
      refine q_then ?_
      refine ct_seq ?_
      (refine ct_region' rfl ?_; simp only [List.map, lite])
      (refine rg rfl (g_assign (by conv => lhs; whnf)) rfl rfl ?_)
      refine rt_nil ?_
      refine q_then ?_
      refine ct_ret ?_
      rotate_left
    have h0 : cmpL x y = 0 := by rw [hq, List.drop_eq_nil_of_le (by omega), List.drop_eq_nil_of_le (by omega)]; rfl
    exact q_ret1 rfl (by conv => lhs; whnf) () (congrArg (Value.int .i64) h0.symm) (by exact En.ent)
theorem rising_spec (R : HP) (a : Option Addr) (c : Nat) (l : List Hs) [hr : Rd R a (l.flatMap hc)] (hl : l.length ≤ 140737488351232) :
    Spec Try.prog 59 [.slice a l.length c] R (fun _ : Unit => .bool (risingS l)) (fun _ => R) := by
  refine spec_of Try.func59 rfl Try.ntmps59 rfl fun W0 => ?_
  focus
    refine ct_seq ?_
    (refine ct_region' rfl ?_; simp only [List.map, lite])
    (refine rg rfl (g_assign (by conv => lhs; whnf)) rfl rfl ?_)
    refine rt_nil ?_
    refine q_then ?_
    refine ct_seq ?_
    refine ct_seq ?_
    (refine ct_region' rfl ?_; simp only [List.map, lite])
    (refine rg rfl (g_assign (by conv => lhs; whnf)) rfl rfl ?_)
    refine rt_nil ?_
    refine q_then ?_
    refine ct_block ?_
    rotate_left
  refine ct_loop (ι := { i : Nat // 1 ≤ i ∧ ∀ j (h : j + 1 < l.length), j + 1 < i → cmpH l[j] l[j + 1] < 0 }) (fun i => [(0, .slice a l.length c), (3, .int .i64 (i.1 : Int))]) (fun _ => R) (fun i => l.length - i.1) ⟨1, by omega, fun j h hj => by omega⟩ ⟨rfl, rfl, trivial⟩ (Ent.refl _) fun i ρ' => ?_
  obtain ⟨i, hi, hq⟩ := i
  dsimp only at hi ⊢
  by_cases h : i < l.length
  · have hcs := fun (R' : HP) => compare_spec R' l[i - 1] l[i]
    obtain ⟨k, rfl⟩ : ∃ k, i = k + 1 := ⟨i - 1, by omega⟩
    focus
      refine ct_seq ?_
      refine ct_seq ?_
      (refine ct_region' rfl ?_; simp only [List.map, lite])
      (refine rg rfl (g_move (by conv => lhs; whnf)) rfl rfl ?_)
      (refine rg rfl (g_move (by conv => lhs; whnf)) rfl rfl ?_)
      (refine rg rfl (g_len_slice rfl) rfl rfl ?_)
      (refine rg rfl (g_lssT rfl rfl ?_) rfl rfl ?_; (· (omega)))
      refine rt_nil ?_
      refine q_then ?_
      refine ct_true rfl ?_
      refine ct_skip ?_
      refine q_then ?_
      refine ct_seq ?_
      refine ct_block ?_
      refine ct_seq ?_
      refine ct_quiet (by kernel_rfl) rfl ?_
      simp only [List.map, lite]
      (refine qg rfl (g_move (by conv => lhs; whnf)) rfl rfl ?_)
      (refine qg rfl (g_move (by conv => lhs; whnf)) rfl rfl ?_)
      (refine qg rfl (g_subNN rfl rfl ?_ ?_) rfl rfl ?_; (· (omega)); (· (constructor <;> omega)))
      (refine qg rfl (g_elemH rfl rfl ?_ ?_) rfl rfl ?_; (· (first | omega | decide)); (· (first | omega | decide | (exact pos_of_get (by assumption)) | (simp only [List.length_map, List.length_append, List.length_replicate, List.length_set, List.length_cons, List.length_nil]; omega) | (simp; omega))))
      (refine qg rfl (g_loadH rfl ?_) rfl rfl ?_; (· (first | omega | decide | (exact pos_of_get (by assumption)) | (simp only [List.length_map, List.length_append, List.length_replicate, List.length_set, List.length_cons, List.length_nil]; omega) | (simp; omega))))
      (refine qg rfl (g_move (by conv => lhs; whnf)) rfl rfl ?_)
      (refine qg rfl (g_move (by conv => lhs; whnf)) rfl rfl ?_)
      (refine qg rfl (g_elemH rfl rfl ?_ ?_) rfl rfl ?_; (· (first | omega | decide)); (· (first | omega | decide | (exact pos_of_get (by assumption)) | (simp only [List.length_map, List.length_append, List.length_replicate, List.length_set, List.length_cons, List.length_nil]; omega) | (simp; omega))))
      (refine qg rfl (g_loadH rfl ?_) rfl rfl ?_; (· (first | omega | decide | (exact pos_of_get (by assumption)) | (simp only [List.length_map, List.length_append, List.length_replicate, List.length_set, List.length_cons, List.length_nil]; omega) | (simp; omega))))
      (refine rq_callE (wants_none rfl) rfl rfl (Ent.refl _) (hcs _) (fun _ => rfl) (fun _ => En.ent) ?_)
      (refine qg rfl (g_geq rfl rfl) rfl rfl ?_)
      refine rq_nil ?_
      refine q_then ?_
      refine ct_if rfl (fun h20 => ?_) (fun h20 => ?_)
      refine ct_seq ?_
      (refine ct_region' rfl ?_; simp only [List.map, lite])
      (refine rg rfl (g_assign (by conv => lhs; whnf)) rfl rfl ?_)
      refine rt_nil ?_
      refine q_then ?_
      refine ct_ret ?_
      refine q_block_ret ?_
      refine q_then_ret ?_
      refine q_then_ret ?_
      refine q_block_ret ?_
      refine q_then_ret ?_
      rotate_left
      refine ct_skip ?_
      refine q_block ?_
      refine q_then ?_
      (refine ct_region' rfl ?_; simp only [List.map, lite])
      (refine rg rfl (g_move (by conv => lhs; whnf)) rfl rfl ?_)
      (refine rg rfl (g_addN rfl rfl ?_) rfl rfl ?_; (· (constructor <;> omega)))
      (refine rg rfl (g_assign (by conv => lhs; whnf)) rfl rfl ?_)
      refine rt_nil ?_
      rotate_left
    · have hn : risingS l = false := by
        cases e : risingS l with
        | false => rfl
        | true =>
          have h2 := risingS_get.1 e k h
          simp only [Nat.add_sub_cancel] at h20
          omega
      exact q_ret1 rfl (by conv => lhs; whnf) () (congrArg Value.bool hn.symm) (Ent.refl _)
    · simp only [Nat.add_sub_cancel] at h20
      refine q_again ⟨k + 1 + 1, by omega, fun j h' hj => ?_⟩ (by show l.length - (k + 1 + 1) < l.length - (k + 1); omega) ⟨rfl, rfl, trivial⟩ (Ent.refl _)
      by_cases e : j = k
      · subst e; omega
      · exact hq j h' (by omega)
  · focus
      refine ct_seq ?_
      refine ct_seq ?_
      (refine ct_region' rfl ?_; simp only [List.map, lite])
      (refine rg rfl (g_move (by conv => lhs; whnf)) rfl rfl ?_)
      (refine rg rfl (g_move (by conv => lhs; whnf)) rfl rfl ?_)
      (refine rg rfl (g_len_slice rfl) rfl rfl ?_)
      (refine rg rfl (g_lssF rfl rfl ?_) rfl rfl ?_; (· (omega)))
      refine rt_nil ?_
      refine q_then ?_
      refine ct_false rfl ?_
      refine ct_exit ?_
      refine q_then_exit ?_
      refine q_then_exit ?_
      refine q_block_exit ?_
      refine q_then ?_
      refine ct_seq ?_
      (refine ct_region' rfl ?_; simp only [List.map, lite])
      (refine rg rfl (g_assign (by conv => lhs; whnf)) rfl rfl ?_)
      refine rt_nil ?_
      refine q_then ?_
      refine ct_ret ?_
      rotate_left
    exact q_ret1 rfl (by conv => lhs; whnf) () (congrArg Value.bool (risingS_get.2 fun j h' => hq j h' (by omega)).symm) (Ent.refl _)
theorem risingR_spec (R : HP) (a : Option Addr) (c : Nat) (l : List Hs) [hr : Rd R a (l.flatMap hc)] (hl : l.length ≤ 140737488351232) :
    Spec Try.prog 73 [.slice a l.length c] R (fun _ : Unit => .bool (risingS l)) (fun _ => R) := by
  refine spec_of Try.func73 rfl Try.ntmps73 rfl fun W0 => ?_
  focus
    refine ct_seq ?_
    (refine ct_region' rfl ?_; simp only [List.map, lite])
    (refine rg rfl (g_assign (by conv => lhs; whnf)) rfl rfl ?_)
    refine rt_nil ?_
    refine q_then ?_
    refine ct_seq ?_
    refine ct_seq ?_
    (refine ct_region' rfl ?_; simp only [List.map, lite])
    (refine rg rfl (g_assign (by conv => lhs; whnf)) rfl rfl ?_)
    refine rt_nil ?_
    refine q_then ?_
    refine ct_block ?_
    rotate_left
  refine ct_loop (ι := { i : Nat // 1 ≤ i ∧ ∀ j (h : j + 1 < l.length), j + 1 < i → cmpH l[j] l[j + 1] < 0 }) (fun i => [(0, .slice a l.length c), (3, .int .i64 (i.1 : Int))]) (fun _ => R) (fun i => l.length - i.1) ⟨1, by omega, fun j h hj => by omega⟩ ⟨rfl, rfl, trivial⟩ (Ent.refl _) fun i ρ' => ?_
  obtain ⟨i, hi, hq⟩ := i
  dsimp only at hi ⊢
  by_cases h : i < l.length
  · have hcs := fun (R' : HP) => compareR_spec R' l[i - 1] l[i]
    obtain ⟨k, rfl⟩ : ∃ k, i = k + 1 := ⟨i - 1, by omega⟩
    focus
      refine ct_seq ?_
      refine ct_seq ?_
      (refine ct_region' rfl ?_; simp only [List.map, lite])
      (refine rg rfl (g_move (by conv => lhs; whnf)) rfl rfl ?_)
      (refine rg rfl (g_move (by conv => lhs; whnf)) rfl rfl ?_)
      (refine rg rfl (g_len_slice rfl) rfl rfl ?_)
      (refine rg rfl (g_lssT rfl rfl ?_) rfl rfl ?_; (· (omega)))
      refine rt_nil ?_
      refine q_then ?_
      refine ct_true rfl ?_
      refine ct_skip ?_
      refine q_then ?_
      refine ct_seq ?_
      refine ct_block ?_
      refine ct_seq ?_
      refine ct_quiet (by kernel_rfl) rfl ?_
      simp only [List.map, lite]
      (refine qg rfl (g_move (by conv => lhs; whnf)) rfl rfl ?_)
      (refine qg rfl (g_move (by conv => lhs; whnf)) rfl rfl ?_)
      (refine qg rfl (g_subNN rfl rfl ?_ ?_) rfl rfl ?_; (· (omega)); (· (constructor <;> omega)))
      (refine qg rfl (g_elemH rfl rfl ?_ ?_) rfl rfl ?_; (· (first | omega | decide)); (· (first | omega | decide | (exact pos_of_get (by assumption)) | (simp only [List.length_map, List.length_append, List.length_replicate, List.length_set, List.length_cons, List.length_nil]; omega) | (simp; omega))))
      (refine qg rfl (g_loadH rfl ?_) rfl rfl ?_; (· (first | omega | decide | (exact pos_of_get (by assumption)) | (simp only [List.length_map, List.length_append, List.length_replicate, List.length_set, List.length_cons, List.length_nil]; omega) | (simp; omega))))
      (refine qg rfl (g_move (by conv => lhs; whnf)) rfl rfl ?_)
      (refine qg rfl (g_move (by conv => lhs; whnf)) rfl rfl ?_)
      (refine qg rfl (g_elemH rfl rfl ?_ ?_) rfl rfl ?_; (· (first | omega | decide)); (· (first | omega | decide | (exact pos_of_get (by assumption)) | (simp only [List.length_map, List.length_append, List.length_replicate, List.length_set, List.length_cons, List.length_nil]; omega) | (simp; omega))))
      (refine qg rfl (g_loadH rfl ?_) rfl rfl ?_; (· (first | omega | decide | (exact pos_of_get (by assumption)) | (simp only [List.length_map, List.length_append, List.length_replicate, List.length_set, List.length_cons, List.length_nil]; omega) | (simp; omega))))
      (refine rq_callE (wants_none rfl) rfl rfl (Ent.refl _) (hcs _) (fun _ => rfl) (fun _ => En.ent) ?_)
      (refine qg rfl (g_geq rfl rfl) rfl rfl ?_)
      refine rq_nil ?_
      refine q_then ?_
      refine ct_if rfl (fun h20 => ?_) (fun h20 => ?_)
      refine ct_seq ?_
      (refine ct_region' rfl ?_; simp only [List.map, lite])
      (refine rg rfl (g_assign (by conv => lhs; whnf)) rfl rfl ?_)
      refine rt_nil ?_
      refine q_then ?_
      refine ct_ret ?_
      refine q_block_ret ?_
      refine q_then_ret ?_
      refine q_then_ret ?_
      refine q_block_ret ?_
      refine q_then_ret ?_
      rotate_left
      refine ct_skip ?_
      refine q_block ?_
      refine q_then ?_
      (refine ct_region' rfl ?_; simp only [List.map, lite])
      (refine rg rfl (g_move (by conv => lhs; whnf)) rfl rfl ?_)
      (refine rg rfl (g_addN rfl rfl ?_) rfl rfl ?_; (· (constructor <;> omega)))
      (refine rg rfl (g_assign (by conv => lhs; whnf)) rfl rfl ?_)
      refine rt_nil ?_
      rotate_left
    · have hn : risingS l = false := by
        cases e : risingS l with
        | false => rfl
        | true =>
          have h2 := risingS_get.1 e k h
          simp only [Nat.add_sub_cancel] at h20
          omega
      exact q_ret1 rfl (by conv => lhs; whnf) () (congrArg Value.bool hn.symm) (Ent.refl _)
    · simp only [Nat.add_sub_cancel] at h20
      refine q_again ⟨k + 1 + 1, by omega, fun j h' hj => ?_⟩ (by show l.length - (k + 1 + 1) < l.length - (k + 1); omega) ⟨rfl, rfl, trivial⟩ (Ent.refl _)
      by_cases e : j = k
      · subst e; omega
      · exact hq j h' (by omega)
  · focus
      refine ct_seq ?_
      refine ct_seq ?_
      (refine ct_region' rfl ?_; simp only [List.map, lite])
      (refine rg rfl (g_move (by conv => lhs; whnf)) rfl rfl ?_)
      (refine rg rfl (g_move (by conv => lhs; whnf)) rfl rfl ?_)
      (refine rg rfl (g_len_slice rfl) rfl rfl ?_)
      (refine rg rfl (g_lssF rfl rfl ?_) rfl rfl ?_; (· (omega)))
      refine rt_nil ?_
      refine q_then ?_
      refine ct_false rfl ?_
      refine ct_exit ?_
      refine q_then_exit ?_
      refine q_then_exit ?_
      refine q_block_exit ?_
      refine q_then ?_
      refine ct_seq ?_
      (refine ct_region' rfl ?_; simp only [List.map, lite])
      (refine rg rfl (g_assign (by conv => lhs; whnf)) rfl rfl ?_)
      refine rt_nil ?_
      refine q_then ?_
      refine ct_ret ?_
      rotate_left
    exact q_ret1 rfl (by conv => lhs; whnf) () (congrArg Value.bool (risingS_get.2 fun j h' => hq j h' (by omega)).symm) (Ent.refl _)
theorem same_spec (R : HP) (a b : Option Addr) (c c' : Nat) (l m : List Hs) [hr : Rd R a (l.flatMap hc)] [hr' : Rd R b (m.flatMap hc)] (hl : l.length ≤ 140737488351232) (hm : m.length ≤ 140737488351232) :
    Spec Try.prog 43 [.slice a l.length c, .slice b m.length c'] R (fun _ : Unit => .bool (decide (l = m))) (fun _ => R) := by
  refine spec_of Try.func43 rfl Try.ntmps43 rfl fun W0 => ?_
  focus
    refine ct_seq ?_
    (refine ct_region' rfl ?_; simp only [List.map, lite])
    (refine rg rfl (g_assign (by conv => lhs; whnf)) rfl rfl ?_)
    refine rt_nil ?_
    refine q_then ?_
    refine ct_seq ?_
    refine ct_seq ?_
    (refine ct_region' rfl ?_; simp only [List.map, lite])
    (refine rg rfl (g_move (by conv => lhs; whnf)) rfl rfl ?_)
    (refine rg rfl (g_len_slice rfl) rfl rfl ?_)
    (refine rg rfl (g_move (by conv => lhs; whnf)) rfl rfl ?_)
    (refine rg rfl (g_len_slice rfl) rfl rfl ?_)
    (refine rg rfl (g_neq rfl rfl) rfl rfl ?_)
    refine rt_nil ?_
    refine q_then ?_
    refine ct_if rfl (fun h10 => ?_) (fun h10 => ?_)
    refine ct_seq ?_
    (refine ct_region' rfl ?_; simp only [List.map, lite])
    (refine rg rfl (g_assign (by conv => lhs; whnf)) rfl rfl ?_)
    refine rt_nil ?_
    refine q_then ?_
    refine ct_ret ?_
    refine q_then_ret ?_
    rotate_left
    refine ct_skip ?_
    refine q_then ?_
    refine ct_seq ?_
    refine ct_seq ?_
    (refine ct_region' rfl ?_; simp only [List.map, lite])
    (refine rg rfl (g_assign (by conv => lhs; whnf)) rfl rfl ?_)
    refine rt_nil ?_
    refine q_then ?_
    refine ct_block ?_
    rotate_left
  · have hn : ¬ l = m := fun e => by subst e; omega
    exact q_ret1 rfl (by conv => lhs; whnf) () (congrArg Value.bool (decide_eq_false hn).symm) (Ent.refl _)
  · have hlm : l.length = m.length := by omega
    refine ct_loop (ι := { i : Nat // i ≤ l.length ∧ l.take i = m.take i }) (fun i => [(0, .slice a l.length c), (1, .slice b m.length c'), (5, .int .i64 (i.1 : Int))]) (fun _ => R) (fun i => l.length - i.1) ⟨0, by omega, by simp⟩ ⟨rfl, rfl, rfl, trivial⟩ (Ent.refl _) fun i ρ' => ?_
    obtain ⟨i, hi, hq⟩ := i
    dsimp only at hi ⊢
    by_cases h : i < l.length
    · have h1 := l[i].2
      have h2 := (m[i]'(by omega)).2
      focus
        refine ct_seq ?_
        refine ct_seq ?_
        (refine ct_region' rfl ?_; simp only [List.map, lite])
        (refine rg rfl (g_move (by conv => lhs; whnf)) rfl rfl ?_)
        (refine rg rfl (g_move (by conv => lhs; whnf)) rfl rfl ?_)
        (refine rg rfl (g_len_slice rfl) rfl rfl ?_)
        (refine rg rfl (g_lssT rfl rfl ?_) rfl rfl ?_; (· (omega)))
        refine rt_nil ?_
        refine q_then ?_
        refine ct_true rfl ?_
        refine ct_skip ?_
        refine q_then ?_
        refine ct_seq ?_
        refine ct_block ?_
        refine ct_seq ?_
        refine ct_quiet (by kernel_rfl) rfl ?_
        simp only [List.map, lite]
        (refine qg rfl (g_move (by conv => lhs; whnf)) rfl rfl ?_)
        (refine qg rfl (g_move (by conv => lhs; whnf)) rfl rfl ?_)
        (refine qg rfl (g_elemH rfl rfl ?_ ?_) rfl rfl ?_; (· (first | omega | decide)); (· (first | omega | decide | (exact pos_of_get (by assumption)) | (simp only [List.length_map, List.length_append, List.length_replicate, List.length_set, List.length_cons, List.length_nil]; omega) | (simp; omega))))
        (refine qg rfl (g_loadH rfl ?_) rfl rfl ?_; (· (first | omega | decide | (exact pos_of_get (by assumption)) | (simp only [List.length_map, List.length_append, List.length_replicate, List.length_set, List.length_cons, List.length_nil]; omega) | (simp; omega))))
        (refine qg rfl (g_move (by conv => lhs; whnf)) rfl rfl ?_)
        (refine qg rfl (g_move (by conv => lhs; whnf)) rfl rfl ?_)
        (refine qg rfl (g_elemH rfl rfl ?_ ?_) rfl rfl ?_; (· (first | omega | decide)); (· (first | omega | decide | (exact pos_of_get (by assumption)) | (simp only [List.length_map, List.length_append, List.length_replicate, List.length_set, List.length_cons, List.length_nil]; omega) | (simp; omega))))
        (refine qg rfl (g_loadH rfl ?_) rfl rfl ?_; (· (first | omega | decide | (exact pos_of_get (by assumption)) | (simp only [List.length_map, List.length_append, List.length_replicate, List.length_set, List.length_cons, List.length_nil]; omega) | (simp; omega))))
        (refine qg rfl (g_neH rfl rfl (by kernel_rfl) (by first | rfl | assumption | (simp; done) | (simp; omega)) (by first | rfl | assumption | (simp; done) | (simp; omega))) rfl rfl ?_)
        refine rq_nil ?_
        refine q_then ?_
        refine ct_if rfl (fun h25 => ?_) (fun h25 => ?_)
        refine ct_seq ?_
        (refine ct_region' rfl ?_; simp only [List.map, lite])
        (refine rg rfl (g_assign (by conv => lhs; whnf)) rfl rfl ?_)
        refine rt_nil ?_
        refine q_then ?_
        refine ct_ret ?_
        refine q_block_ret ?_
        refine q_then_ret ?_
        refine q_then_ret ?_
        refine q_block_ret ?_
        refine q_then_ret ?_
        rotate_left
        refine ct_skip ?_
        refine q_block ?_
        refine q_then ?_
        (refine ct_region' rfl ?_; simp only [List.map, lite])
        (refine rg rfl (g_move (by conv => lhs; whnf)) rfl rfl ?_)
        (refine rg rfl (g_addN rfl rfl ?_) rfl rfl ?_; (· (constructor <;> omega)))
        (refine rg rfl (g_assign (by conv => lhs; whnf)) rfl rfl ?_)
        refine rt_nil ?_
        rotate_left
      · have hn : ¬ l = m := fun e => by subst e; exact h25 rfl
        exact q_ret1 rfl (by conv => lhs; whnf) () (congrArg Value.bool (decide_eq_false hn).symm) (Ent.refl _)
      · have he : l[i] = m[i]'(by omega) := by
          by_cases e : (l[i]).1 = (m[i]'(by omega)).1
          · exact hc_inj e
          · exact absurd e h25
        refine q_again ⟨i + 1, by omega, ?_⟩ (by show l.length - (i + 1) < l.length - i; omega) ⟨rfl, rfl, rfl, trivial⟩ (Ent.refl _)
        rw [List.take_succ_eq_append_getElem h, List.take_succ_eq_append_getElem (by omega : i < m.length), hq, he]
    · focus
        refine ct_seq ?_
        refine ct_seq ?_
        (refine ct_region' rfl ?_; simp only [List.map, lite])
        (refine rg rfl (g_move (by conv => lhs; whnf)) rfl rfl ?_)
        (refine rg rfl (g_move (by conv => lhs; whnf)) rfl rfl ?_)
        (refine rg rfl (g_len_slice rfl) rfl rfl ?_)
        (refine rg rfl (g_lssF rfl rfl ?_) rfl rfl ?_; (· (omega)))
        refine rt_nil ?_
        refine q_then ?_
        refine ct_false rfl ?_
        refine ct_exit ?_
        refine q_then_exit ?_
        refine q_then_exit ?_
        refine q_block_exit ?_
        refine q_then ?_
        refine ct_seq ?_
        (refine ct_region' rfl ?_; simp only [List.map, lite])
        (refine rg rfl (g_assign (by conv => lhs; whnf)) rfl rfl ?_)
        refine rt_nil ?_
        refine q_then ?_
        refine ct_ret ?_
        rotate_left
      have hy : l = m := by
        rw [List.take_of_length_le (by omega), List.take_of_length_le (by omega)] at hq
        exact hq
      exact q_ret1 rfl (by conv => lhs; whnf) () (congrArg Value.bool (decide_eq_true hy).symm) (Ent.refl _)
end Go.Proofs.Ytijplicijmpknaa
