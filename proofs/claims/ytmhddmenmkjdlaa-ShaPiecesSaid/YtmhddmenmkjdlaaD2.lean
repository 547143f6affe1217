/- sha: place; beyond. -/
import Derived.Test.YtmhddmenmkjdlaaD1
import Derived.Test.YtmhddmenmkjdlaaH1
namespace Go.Proofs.Ytmhddmenmkjdlaa
open Go.RowKit
attribute [local irreducible] Gives RT CT QT Spec Wants Reads Src Ent OT RQ AnyT AnyOp Again Code.wp Post

theorem place_spec (R : HP) (i : Int) (n : Nat) (hi : -9223372036854775808 ≤ i ∧ i ≤ 9223372036854775807) (h0 : 0 < n) (hn : n ≤ 140737488351232) :
    Spec Try.prog 18 [.int .i64 i, .int .i64 (n : Int)] R (fun _ : Unit => .int .i64 (((i % (n : Int)).toNat : Nat) : Int)) (fun _ => R) := by
  refine spec_of Try.func18 rfl Try.ntmps18 rfl fun W0 => ?_
  have hm : (i.tmod n = i % n ∧ 0 ≤ i.tmod n ∧ i.tmod n < n) ∨ (i.tmod n + n = i % n ∧ i.tmod n < 0 ∧ -(n : Int) < i.tmod n) := by
    have h1 := Int.emod_nonneg i (b := (n : Int)) (by omega)
    have h2 := Int.emod_lt_of_pos i (b := (n : Int)) (by omega)
    have h3 := Int.tmod_eq_emod (a := i) (b := (n : Int))
    split at h3
    · left; omega
    · next h =>
      right
      have h4 : i % (n : Int) ≠ 0 := fun e => h (.inr (Int.dvd_of_emod_eq_zero e))
      have h5 : ((n : Int).natAbs : Int) = n := by simp
      omega
  generalize hg : i.tmod n = m at hm
  have hr : ∀ (ρ : Env) (x y : Operand) (T T' ty : TypeId) (dst : Option Nat) (pos : String) (aft : Array Edge) (gd : Option (Nat × Bool)), ev ρ x = .int .i64 i → ev ρ y = .int .i64 (n : Int) → Gives Try.prog ⟨dst, .binOp .rem T x y T', ty, pos, aft, gd⟩ ρ R (.int .i64 m) := fun ρ x y T T' ty dst pos aft gd hx hy => by
    rw [← hg]; exact g_rem hx hy (by omega)
  focus
    refine ct_seq ?_
    (refine ct_region' rfl ?_; simp only [List.map, lite])
    (refine rg rfl (g_assign (by conv => lhs; whnf)) rfl rfl ?_)
    refine rt_nil ?_
    refine q_then ?_
    refine ct_seq ?_
    (refine ct_region' rfl ?_; simp only [List.map, lite])
    (refine rg rfl (g_move (by conv => lhs; whnf)) rfl rfl ?_)
    (refine rg rfl (g_move (by conv => lhs; whnf)) rfl rfl ?_)
    (refine rg rfl (hr _ _ _ _ _ _ _ _ _ _ rfl rfl) rfl rfl ?_)
    (refine rg rfl (g_assign (by conv => lhs; whnf)) rfl rfl ?_)
    refine rt_nil ?_
    refine q_then ?_
    refine ct_seq ?_
    refine ct_seq ?_
    (refine ct_region' rfl ?_; simp only [List.map, lite])
    (refine rg rfl (g_move (by conv => lhs; whnf)) rfl rfl ?_)
    (refine rg rfl (g_lss rfl rfl) rfl rfl ?_)
    refine rt_nil ?_
    refine q_then ?_
    refine ct_if rfl (fun h10 => ?_) (fun h10 => ?_)
    (refine ct_region' rfl ?_; simp only [List.map, lite])
    (refine rg rfl (g_move (by conv => lhs; whnf)) rfl rfl ?_)
    (refine rg rfl (g_move (by conv => lhs; whnf)) rfl rfl ?_)
    (refine rg rfl (g_addN rfl rfl ?_) rfl rfl ?_; (· (constructor <;> omega)))
    (refine rg rfl (g_assign (by conv => lhs; whnf)) rfl rfl ?_)
    refine rt_nil ?_
    refine q_then ?_
    refine ct_seq ?_
    (refine ct_region' rfl ?_; simp only [List.map, lite])
    (refine rg rfl (g_move (by conv => lhs; whnf)) rfl rfl ?_)
    (refine rg rfl (g_assign (by conv => lhs; whnf)) rfl rfl ?_)
    refine rt_nil ?_
    refine q_then ?_
    refine ct_ret ?_
    exact q_ret1 rfl (by conv => lhs; whnf) () (congrArg (Value.int _) (by omega)) En.ent
    refine ct_skip ?_
    refine q_then ?_
    refine ct_seq ?_
    (refine ct_region' rfl ?_; simp only [List.map, lite])
    (refine rg rfl (g_move (by conv => lhs; whnf)) rfl rfl ?_)
    (refine rg rfl (g_assign (by conv => lhs; whnf)) rfl rfl ?_)
    refine rt_nil ?_
    refine q_then ?_
    refine ct_ret ?_
    exact q_ret1 rfl (by conv => lhs; whnf) () (congrArg (Value.int _) (by omega)) En.ent
structure SOp where
  (kind on : Int) (a : Option Addr) (c : Nat) (b : List UInt8)
def SOp.cells (o : SOp) : List Value := [.int .i64 o.kind, .int .i64 o.on, .slice o.a o.b.length o.c]
def scat (l : List SOp) : List UInt8 := l.flatMap SOp.b
theorem sop_len (o : SOp) : o.cells.length = 3 := rfl
theorem sop_cell {l : List SOp} {i j : Nat} (h : i < l.length) (hj : j < 3) : (l.flatMap SOp.cells)[i * 3 + j]? = (l[i].cells)[j]? := flat_get sop_len l i j l[i] (List.getElem?_eq_getElem h) hj
theorem sops_pos {l : List SOp} {i : Nat} (h : i < l.length) : 0 < (l.flatMap SOp.cells).length := by rw [flat_len sop_len]; omega
theorem sops_ne {l : List SOp} {i : Nat} (h : i < l.length) : l.flatMap SOp.cells ≠ [] := fun e => by have := sops_pos h; rw [e] at this; simp at this
theorem sop_sub {l : List SOp} {i : Nat} (h : i < l.length) : ∀ (j : Nat) (v : Value), (l[i].cells)[j]? = some v → (l.flatMap SOp.cells)[i * 3 + j]? = some v := fun j v e => by
  rw [sop_cell h (List.getElem?_eq_some_iff.1 e).1]; exact e
theorem scat_next (l : List SOp) (i : Nat) (h : i < l.length) : scat (l.take (i + 1)) = scat (l.take i) ++ l[i].b := by
  unfold scat; rw [List.take_succ_eq_append_getElem h, List.flatMap_append]; simp
theorem scat_le (l : List SOp) (i : Nat) : (scat (l.take i)).length ≤ (scat l).length := by
  have e : scat l = scat (l.take i) ++ scat (l.drop i) := by
    unfold scat
    conv => lhs; rw [← List.take_append_drop i l, List.flatMap_append]
  rw [e, List.length_append]; omega
structure Steps (R : HP) (a : Option Addr) (l : List SOp) : Prop where
  rd : Rd R a (l.flatMap SOp.cells)
  sub : ∀ o ∈ l, Rd R o.a (o.b.map bv)
  cap : ∀ o ∈ l, o.b.length ≤ o.c
  nil : ∀ o ∈ l, o.a = none → o.c = 0
  big : ∀ o ∈ l, o.b.length ≤ 140737488351232
  on : ∀ o ∈ l, -9223372036854775808 ≤ o.on ∧ o.on ≤ 9223372036854775807
  len : l.length ≤ 3518437208780
theorem beyond_spec (R : HP) (a : Option Addr) (c : Nat) (l : List SOp) (hs : Steps R a l) :
    Spec Try.prog 16 [.slice a l.length c] R (fun _ : Unit => .bool (decide (2147483647 < (scat l).length))) (fun _ => R) := by
  refine spec_of Try.func16 rfl Try.ntmps16 rfl fun W0 => ?_
  obtain ⟨hr, _, _, _, hls, _, hll⟩ := hs
  focus
    refine ct_seq ?_
    (refine ct_region' rfl ?_; simp only [List.map, lite])
    (refine rg rfl (g_assign (by conv => lhs; whnf)) rfl rfl ?_)
    refine rt_nil ?_
    refine q_then ?_
    refine ct_seq ?_
    (refine ct_region' rfl ?_; simp only [List.map, lite])
    (refine rg rfl (g_assign (by conv => lhs; whnf)) rfl rfl ?_)
    refine rt_nil ?_
    refine q_then ?_
    refine ct_seq ?_
    refine ct_seq ?_
    (refine ct_region' rfl ?_; simp only [List.map, lite])
    (refine rg rfl (g_assign (by conv => lhs; whnf)) rfl rfl ?_)
    refine rt_nil ?_
    refine q_then ?_
    refine ct_block ?_
    rotate_left
  refine ct_loop (ι := { i : Nat // i ≤ l.length ∧ (0 < i → (scat (l.take (i - 1))).length ≤ 2147483647) }) (fun i => [(0, .slice a l.length c), (3, .int .i64 (2147483647 - ((scat (l.take i.1)).length : Int))), (4, .int .i64 (i.1 : Int))]) (fun _ => R) (fun i => l.length - i.1) ⟨0, by omega, by omega⟩ ⟨rfl, by simp [scat]; rfl, rfl, trivial⟩ (Ent.refl _) fun i ρ' => ?_
  obtain ⟨i, hi, hp⟩ := i
  dsimp only at hi hp ⊢
  have hle := scat_le l i
  by_cases h : i < l.length ∧ (scat (l.take i)).length ≤ 2147483647
  · obtain ⟨h1, h2⟩ := h
    have hc := sop_cell (j := 2) h1 (by omega)
    have hop := sops_pos h1
    have hb := hls _ (List.getElem_mem h1)
    have hn := congrArg List.length (scat_next l i h1)
    rw [List.length_append] at hn
    focus
      refine ct_seq ?_
      refine ct_seq ?_
      (refine ct_region' rfl ?_; simp only [List.map, lite])
      (refine rg rfl (g_move (by conv => lhs; whnf)) rfl rfl ?_)
      (refine rg rfl (g_move (by conv => lhs; whnf)) rfl rfl ?_)
      (refine rg rfl (g_len_slice rfl) rfl rfl ?_)
      (refine rg rfl (g_lssT rfl rfl ?_) rfl rfl ?_; (· (omega)))
      (refine rg rfl (g_move (by conv => lhs; whnf)) rfl rfl ?_)
      (refine rgw rfl rfl rfl rfl (g_move (by conv => lhs; whnf)) rfl rfl ?_)
      (refine rgw rfl rfl rfl rfl (g_geqT rfl rfl ?_) rfl rfl ?_; (· (omega)))
      (refine rg rfl (g_pick_t rfl (by conv => lhs; whnf)) rfl rfl ?_)
      refine rt_nil ?_
      refine q_then ?_
      refine ct_true rfl ?_
      refine ct_skip ?_
      refine q_then ?_
      refine ct_seq ?_
      refine ct_block ?_
      (refine ct_region' rfl ?_; simp only [List.map, lite])
      (refine rg rfl (g_move (by conv => lhs; whnf)) rfl rfl ?_)
      (refine rg rfl (g_move (by conv => lhs; whnf)) rfl rfl ?_)
      (refine rg rfl (g_move (by conv => lhs; whnf)) rfl rfl ?_)
      (refine rg rfl (g_elemO rfl rfl ?_ ?_) rfl rfl ?_; (· (first | omega | decide)); (· (first | omega | decide | (exact pos_of_get (by assumption)) | (simp only [List.length_map, List.length_append, List.length_replicate, List.length_set, List.length_cons, List.length_nil]; omega) | (simp; omega))))
      (refine rg rfl (g_fieldR rfl) rfl rfl ?_)
      (refine rg rfl (g_load_rd rfl (by assumption)) rfl rfl ?_)
      (refine rg rfl (g_len_slice rfl) rfl rfl ?_)
      (refine rg rfl (g_subN rfl rfl ?_) rfl rfl ?_; (· (constructor <;> omega)))
      (refine rg rfl (g_assign (by conv => lhs; whnf)) rfl rfl ?_)
      refine rt_nil ?_
      refine q_block ?_
      refine q_then ?_
      (refine ct_region' rfl ?_; simp only [List.map, lite])
      (refine rg rfl (g_move (by conv => lhs; whnf)) rfl rfl ?_)
      (refine rg rfl (g_addN rfl rfl ?_) rfl rfl ?_; (· (constructor <;> omega)))
      (refine rg rfl (g_assign (by conv => lhs; whnf)) rfl rfl ?_)
      refine rt_nil ?_
      rotate_left
    exact q_again ⟨i + 1, by omega, fun _ => by simpa using h2⟩ (by show l.length - (i + 1) < l.length - i; omega) ⟨rfl, congrArg (Value.int .i64) (by rw [hn]; omega), rfl, trivial⟩ (Ent.refl _)
  · focus
      refine ct_seq ?_
      refine ct_seq ?_
      (refine ct_region' rfl ?_; simp only [List.map, lite])
      (refine rg rfl (g_move (by conv => lhs; whnf)) rfl rfl ?_)
      (refine rg rfl (g_move (by conv => lhs; whnf)) rfl rfl ?_)
      (refine rg rfl (g_len_slice rfl) rfl rfl ?_)
      (refine rg rfl (g_lss rfl rfl) rfl rfl ?_)
      (refine rg rfl (g_move (by conv => lhs; whnf)) rfl rfl ?_)
      refine rt_split 9 rfl (fun h9 => ?_) (fun h9 => ?_)
      (refine rgw rfl rfl rfl rfl (g_move (by conv => lhs; whnf)) rfl rfl ?_)
      (refine rgw rfl rfl rfl rfl (g_geqF rfl rfl ?_) rfl rfl ?_; (· (omega)))
      (refine rg rfl (g_pick_t rfl (by conv => lhs; whnf)) rfl rfl ?_)
      refine rt_nil ?_
      refine q_then ?_
      refine ct_false rfl ?_
      refine ct_exit ?_
      refine q_then_exit ?_
      refine q_then_exit ?_
      refine q_block_exit ?_
      refine q_then ?_
      refine ct_seq ?_
      (refine ct_region' rfl ?_; simp only [List.map, lite])
      (refine rg rfl (g_move (by conv => lhs; whnf)) rfl rfl ?_)
      (refine rg rfl (g_lssT rfl rfl ?_) rfl rfl ?_; (· (omega)))
      (refine rg rfl (g_assign (by conv => lhs; whnf)) rfl rfl ?_)
      refine rt_nil ?_
      refine q_then ?_
      refine ct_ret ?_
      rotate_left
      refine rgs rfl rfl rfl rfl rfl rfl ?_
      refine rgs rfl rfl rfl rfl rfl rfl ?_
      (refine rg rfl (g_pick_f rfl (by conv => lhs; whnf)) rfl rfl ?_)
      refine rt_nil ?_
      refine q_then ?_
      refine ct_false rfl ?_
      refine ct_exit ?_
      refine q_then_exit ?_
      refine q_then_exit ?_
      refine q_block_exit ?_
      refine q_then ?_
      refine ct_seq ?_
      (refine ct_region' rfl ?_; simp only [List.map, lite])
      (refine rg rfl (g_move (by conv => lhs; whnf)) rfl rfl ?_)
      (refine rg rfl (g_lss rfl rfl) rfl rfl ?_)
      (refine rg rfl (g_assign (by conv => lhs; whnf)) rfl rfl ?_)
      refine rt_nil ?_
      refine q_then ?_
      refine ct_ret ?_
      rotate_left
    · exact q_ret1 rfl rfl () (congrArg Value.bool (decide_eq_true (by omega)).symm) (Ent.refl _)
    · obtain rfl : i = l.length := by omega
      rw [List.take_length]
      exact q_ret1 rfl rfl () (congrArg Value.bool (decide_eq_decide.2 (by omega))) (Ent.refl _)
end Go.Proofs.Ytmhddmenmkjdlaa
