/- The bound of a script; a call of a script. -/
import Derived.Test.YtfcanppeiadbhaaB5
namespace Go.Proofs.Ytfcanppeiadbhaa
open Go.RowKit
attribute [local irreducible] Gives RT CT QT Spec Wants Reads Src Ent OT RQ AnyT AnyOp Again Code.wp Post

theorem opv_len (o : OpV) : o.cells.length = 4 := rfl
/-- a script in memory -/
structure Script (R : HP) (a : Option Addr) (l : List OpV) : Prop where
  rd : Rd R a (l.flatMap OpV.cells)
  sub : ∀ o ∈ l, Rd R o.a (o.b.map bv)
  xs : ∀ o ∈ l, o.x < 2 ^ 64
  ls : ∀ o ∈ l, o.b.length ≤ 140737488351232
  len : l.length ≤ 140737488351232
theorem op_cell {l : List OpV} {i j : Nat} (h : i < l.length) (hj : j < 4) : (l.flatMap OpV.cells)[i * 4 + j]? = (l[i].cells)[j]? :=
  flat_get opv_len l i j l[i] (List.getElem?_eq_getElem h) hj
theorem ops_pos {l : List OpV} {i : Nat} (h : i < l.length) : 0 < (l.flatMap OpV.cells).length := by rw [flat_len opv_len]; omega
theorem ops_ne {l : List OpV} {i : Nat} (h : i < l.length) : l.flatMap OpV.cells ≠ [] := fun e => by have := ops_pos h; rw [e] at this; simp at this
theorem op_sub {l : List OpV} {i : Nat} (h : i < l.length) : ∀ (j : Nat) (v : Value), (l[i].cells)[j]? = some v → (l.flatMap OpV.cells)[i * 4 + j]? = some v := fun j v e => by
  rw [op_cell h (List.getElem?_eq_some_iff.1 e).1]; exact e
/-- how much a script's calls lay at most -/
def tot : List OpV → Nat
  | [] => 0
  | o :: l => (32 + o.b.length) + tot l
theorem tot_app (a b : List OpV) : tot (a ++ b) = tot a + tot b := by
  induction a with
  | nil => simp [tot]
  | cons o a ih => simp only [List.cons_append, tot, ih]; omega
theorem tot_next (l : List OpV) (i : Nat) (h : i < l.length) : tot (l.take (i + 1)) = tot (l.take i) + (32 + l[i].b.length) := by
  rw [List.take_succ_eq_append_getElem h, tot_app]; rfl
theorem tot_le (l : List OpV) (i : Nat) : tot (l.take i) ≤ tot l := by
  have := tot_app (l.take i) (l.drop i)
  rw [List.take_append_drop] at this; omega
theorem form_len (o : OpV) (hx : o.x < 2 ^ 64) (hb : o.b.length ≤ 140737488351232) : o.form.length ≤ 32 + o.b.length := by
  have h1 := numForm_ten hx
  have h2 := numForm_ten (x := o.b.length) (by omega)
  have h3 := numForm_ten (zig_lt (wrap_i64_in (o.x : Int)))
  have h4 := hash32_len o.b
  unfold OpV.form
  split
  · simp; omega
  · split
    · omega
    · split
      · omega
      · split
        · omega
        · split
          · simp; omega
          · split
            · simp; omega
            · split
              · omega
              · simp
theorem beyond_spec (R : HP) (a : Option Addr) (c : Nat) (l : List OpV) (hs : Script R a l) :
    Spec Try.prog 10 [.slice a l.length c] R (fun _ : Unit => .bool (decide (2147483647 < tot l))) (fun _ => R) := by
  refine spec_of Try.func10 rfl Try.ntmps10 rfl fun W0 => ?_
  obtain ⟨hr, _, _, hls, hll⟩ := hs
  focus
    refine ct_seq ?_
    (refine ct_region' rfl ?_; simp only [List.map, lite])
    (refine rg rfl (g_assign (by conv => lhs; whnf)) rfl rfl ?_)
    refine rt_nil ?_
    refine q_then ?_
    refine ct_seq ?_
    (refine ct_region' rfl ?_; simp only [List.map, lite])
    (refine rg rfl (g_assign (by conv => lhs; whnf)) rfl rfl ?_)
    refine rt_nil ?_
    refine q_then ?_
    refine ct_seq ?_
    refine ct_seq ?_
    (refine ct_region' rfl ?_; simp only [List.map, lite])
    (refine rg rfl (g_assign (by conv => lhs; whnf)) rfl rfl ?_)
    refine rt_nil ?_
    refine q_then ?_
    refine ct_block ?_
    rotate_left
  refine ct_loop (ι := { i : Nat // i ≤ l.length ∧ (0 < i → tot (l.take (i - 1)) ≤ 2147483647) }) (fun i => [(0, .slice a l.length c), (3, .int .i64 (2147483647 - (tot (l.take i.1) : Int))), (4, .int .i64 (i.1 : Int))]) (fun _ => R) (fun i => l.length - i.1) ⟨0, by omega, by omega⟩ ⟨rfl, by simp [tot]; rfl, rfl, trivial⟩ (Ent.refl _) fun i ρ' => ?_
  obtain ⟨i, hi, hp⟩ := i
  dsimp only at hi hp ⊢
  have hle := tot_le l i
  by_cases h : i < l.length ∧ tot (l.take i) ≤ 2147483647
  · obtain ⟨h1, h2⟩ := h
    have hc := op_cell (j := 3) h1 (by omega)
    have hb := hls _ (List.getElem_mem h1)
    have hn := tot_next l i h1
    focus
      refine ct_seq ?_
      refine ct_seq ?_
      (refine ct_region' rfl ?_; simp only [List.map, lite])
      (refine rg rfl (g_move (by conv => lhs; whnf)) rfl rfl ?_)
      (refine rg rfl (g_move (by conv => lhs; whnf)) rfl rfl ?_)
      (refine rg rfl (g_len_slice rfl) rfl rfl ?_)
      (refine rg rfl (g_lssT rfl rfl ?_) rfl rfl ?_; (· (omega)))
      (refine rg rfl (g_move (by conv => lhs; whnf)) rfl rfl ?_)
      (refine rgw rfl rfl rfl rfl (g_move (by conv => lhs; whnf)) rfl rfl ?_)
      (refine rgw rfl rfl rfl rfl (g_geqT rfl rfl ?_) rfl rfl ?_; (· (omega)))
      (refine rg rfl (g_pick_t rfl (by conv => lhs; whnf)) rfl rfl ?_)
      refine rt_nil ?_
      refine q_then ?_
      refine ct_true rfl ?_
      refine ct_skip ?_
      refine q_then ?_
      refine ct_seq ?_
      refine ct_block ?_
      refine ct_seq ?_
      (refine ct_region' rfl ?_; simp only [List.map, lite])
      (refine rg rfl (g_move (by conv => lhs; whnf)) rfl rfl ?_)
      (refine rg rfl (g_subN rfl rfl ?_) rfl rfl ?_; (· (constructor <;> omega)))
      (refine rg rfl (g_assign (by conv => lhs; whnf)) rfl rfl ?_)
      refine rt_nil ?_
      refine q_then ?_
      (refine ct_region' rfl ?_; simp only [List.map, lite])
      (refine rg rfl (g_move (by conv => lhs; whnf)) rfl rfl ?_)
      (refine rg rfl (g_move (by conv => lhs; whnf)) rfl rfl ?_)
      (refine rg rfl (g_move (by conv => lhs; whnf)) rfl rfl ?_)
      (refine rg rfl (g_elemO rfl rfl ?_ ?_) rfl rfl ?_; (· (first | omega | decide)); (· (first | omega | decide | (exact pos_of_get (by assumption)) | (simp only [List.length_map, List.length_append, List.length_replicate, List.length_cons, List.length_nil]; omega) | (simp; omega))))
      (refine rg rfl (g_fieldR rfl) rfl rfl ?_)
      (refine rg rfl (g_load_rd rfl (by assumption)) rfl rfl ?_)
      (refine rg rfl (g_len_slice rfl) rfl rfl ?_)
      (refine rg rfl (g_subN rfl rfl ?_) rfl rfl ?_; (· (constructor <;> omega)))
      (refine rg rfl (g_assign (by conv => lhs; whnf)) rfl rfl ?_)
      refine rt_nil ?_
      refine q_block ?_
      refine q_then ?_
      (refine ct_region' rfl ?_; simp only [List.map, lite])
      (refine rg rfl (g_move (by conv => lhs; whnf)) rfl rfl ?_)
      (refine rg rfl (g_addN rfl rfl ?_) rfl rfl ?_; (· (constructor <;> omega)))
      (refine rg rfl (g_assign (by conv => lhs; whnf)) rfl rfl ?_)
      refine rt_nil ?_
      rotate_left
    exact q_again ⟨i + 1, by omega, fun _ => by simpa using h2⟩ (by show l.length - (i + 1) < l.length - i; omega) ⟨rfl, congrArg (Value.int .i64) (by rw [hn]; omega), rfl, trivial⟩ (Ent.refl _)
  · focus
      refine ct_seq ?_
      refine ct_seq ?_
      (refine ct_region' rfl ?_; simp only [List.map, lite])
      (refine rg rfl (g_move (by conv => lhs; whnf)) rfl rfl ?_)
      (refine rg rfl (g_move (by conv => lhs; whnf)) rfl rfl ?_)
      (refine rg rfl (g_len_slice rfl) rfl rfl ?_)
      (refine rg rfl (g_lss rfl rfl) rfl rfl ?_)
      (refine rg rfl (g_move (by conv => lhs; whnf)) rfl rfl ?_)
      refine rt_split 9 rfl (fun h9 => ?_) (fun h9 => ?_)
      (refine rgw rfl rfl rfl rfl (g_move (by conv => lhs; whnf)) rfl rfl ?_)
      (refine rgw rfl rfl rfl rfl (g_geqF rfl rfl ?_) rfl rfl ?_; (· (omega)))
      (refine rg rfl (g_pick_t rfl (by conv => lhs; whnf)) rfl rfl ?_)
      refine rt_nil ?_
      refine q_then ?_
      refine ct_false rfl ?_
      refine ct_exit ?_
      refine q_then_exit ?_
      refine q_then_exit ?_
      refine q_block_exit ?_
      refine q_then ?_
      refine ct_seq ?_
      (refine ct_region' rfl ?_; simp only [List.map, lite])
      (refine rg rfl (g_move (by conv => lhs; whnf)) rfl rfl ?_)
      (refine rg rfl (g_lssT rfl rfl ?_) rfl rfl ?_; (· (omega)))
      (refine rg rfl (g_assign (by conv => lhs; whnf)) rfl rfl ?_)
      refine rt_nil ?_
      refine q_then ?_
      refine ct_ret ?_
      rotate_left
      refine rgs rfl rfl rfl rfl rfl rfl ?_
      refine rgs rfl rfl rfl rfl rfl rfl ?_
      (refine rg rfl (g_pick_f rfl (by conv => lhs; whnf)) rfl rfl ?_)
      refine rt_nil ?_
      refine q_then ?_
      refine ct_false rfl ?_
      refine ct_exit ?_
      refine q_then_exit ?_
      refine q_then_exit ?_
      refine q_block_exit ?_
      refine q_then ?_
      refine ct_seq ?_
      (refine ct_region' rfl ?_; simp only [List.map, lite])
      (refine rg rfl (g_move (by conv => lhs; whnf)) rfl rfl ?_)
      (refine rg rfl (g_lss rfl rfl) rfl rfl ?_)
      (refine rg rfl (g_assign (by conv => lhs; whnf)) rfl rfl ?_)
      refine rt_nil ?_
      refine q_then ?_
      refine ct_ret ?_
      rotate_left
    · exact q_ret1 rfl rfl () (congrArg Value.bool (decide_eq_true (by omega)).symm) (Ent.refl _)
    · obtain rfl : i = l.length := by omega
      rw [List.take_length]
      exact q_ret1 rfl rfl () (congrArg Value.bool (decide_eq_decide.2 (by omega))) (Ent.refl _)
end Go.Proofs.Ytfcanppeiadbhaa
