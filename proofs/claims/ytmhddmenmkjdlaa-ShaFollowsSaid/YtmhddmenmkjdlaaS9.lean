/- sha: OfAll, Of. -/
import Derived.Test.YtmhddmenmkjdlaaS8
namespace Go.Proofs.Ytmhddmenmkjdlaa
open Go.RowKit
attribute [local irreducible] Gives RT CT QT Spec Wants Reads Src Ent OT RQ AnyT AnyOp Again Code.wp Post

structure RowV where
  (a : Option Addr) (c : Nat) (b : List UInt8)
def RowV.cell (o : RowV) : Value := .slice o.a o.b.length o.c
def cat (l : List RowV) : List UInt8 := l.flatMap RowV.b
theorem cat_next (l : List RowV) (i : Nat) (h : i < l.length) : cat (l.take (i + 1)) = cat (l.take i) ++ l[i].b := by
  unfold cat; rw [List.take_succ_eq_append_getElem h, List.flatMap_append]; simp
theorem cat_le (l : List RowV) (i : Nat) : (cat (l.take i)).length ≤ (cat l).length := by
  have e : cat l = cat (l.take i) ++ cat (l.drop i) := by
    unfold cat
    conv => lhs; rw [← List.take_append_drop i l, List.flatMap_append]
  rw [e, List.length_append]; omega
structure Rows (R : HP) (a : Option Addr) (l : List RowV) : Prop where
  rd : Rd R a (l.map RowV.cell)
  sub : ∀ o ∈ l, Rd R o.a (o.b.map bv)
  cap : ∀ o ∈ l, o.b.length ≤ o.c
  nil : ∀ o ∈ l, o.a = none → o.c = 0
  len : l.length ≤ 140737488351232
set_option maxRecDepth 100000 in
set_option maxHeartbeats 8000000 in
theorem ofAll_spec (R : HP) (a : Option Addr) (c : Nat) (l : List RowV) (hs : Rows R a l) (hl : (cat l).length ≤ 140737488354000) :
    Spec Try.prog 14 [.slice a l.length c] R (fun _ : Unit => .agg ((shaOf (cat l)).map bv).toArray) (fun _ => R) := by
  refine spec_of Try.func14 rfl Try.ntmps14 rfl fun W0 => ?_
  have hle := cat_le l
  have hll := hs.len
  have hrs := hs.rd
  focus
    refine ct_seq ?_
    (refine ct_region' rfl ?_; simp only [List.map, lite])
    (refine rt_op (wants_none rfl) (o_alloc rfl (by conv => lhs; whnf) fun b2 => ?_))
    refine rt_nil ?_
    refine q_then ?_
    refine ct_seq ?_
    (refine ct_region' rfl ?_; simp only [List.map, lite])
    (refine rt_op (wants_none rfl) (o_callE rfl rfl (Ent.refl _) (Go.Proofs.Ytmhddmenmkjdlaa.new_spec _) fun i6 => ?_))
    (refine rg rfl (g_assign (by conv => lhs; whnf)) rfl rfl ?_)
    refine rt_nil ?_
    refine q_then ?_
    refine ct_seq ?_
    refine ct_seq ?_
    (refine ct_region' rfl ?_; simp only [List.map, lite])
    (refine rg rfl (g_move (by conv => lhs; whnf)) rfl rfl ?_)
    (refine rg rfl (g_len_slice rfl) rfl rfl ?_)
    (refine rg rfl (g_move (by conv => lhs; whnf)) rfl rfl ?_)
    refine rt_nil ?_
    refine q_then ?_
    refine ct_block ?_
    rotate_left
  refine ct_ent (B := DigA i6 (cat (l.take 0)) * (Blk b2 ((List.replicate 32 (0 : UInt8)).map bv) 23 * R)) ?_ (Ent.refl _)
  refine ct_loop (ι := { i : Nat // i ≤ l.length }) (fun i => [(2, .pointer (some ⟨b2, 0, none⟩)), (3, .pointer (some ⟨i6, 0, none⟩)), (7, .slice a l.length c), (8, .int .i64 (l.length : Int)), (9, .int .i64 (i.1 : Int))]) (fun i => DigA i6 (cat (l.take i.1)) * (Blk b2 ((List.replicate 32 (0 : UInt8)).map bv) 23 * R)) (fun i => l.length - i.1)
    ⟨0, Nat.zero_le _⟩ ⟨rfl, rfl, rfl, rfl, rfl, trivial⟩ (Ent.refl _) fun i ρ' => ?_
  obtain ⟨i, hi⟩ := i
  dsimp only at hi ⊢
  have hlei := hle i
  by_cases h : i < l.length
  · have hcell : (l.map RowV.cell)[i]? = some (.slice l[i].a l[i].b.length l[i].c) := by rw [List.getElem?_map, List.getElem?_eq_getElem h]; rfl
    have hsub := hs.sub _ (List.getElem_mem h)
    have hcap := hs.cap _ (List.getElem_mem h)
    have hnil := hs.nil _ (List.getElem_mem h)
    have hn := cat_next l i h
    have hlei2 := hle (i + 1)
    rw [hn, List.length_append] at hlei2
    have hwr := fun (R' : HP) [Rd R' l[i].a (l[i].b.map bv)] => write_spec R' i6 (cat (l.take i)) l[i].b l[i].a l[i].c (by omega) hcap hnil
    focus
      refine ct_seq ?_
      (refine ct_region' rfl ?_; simp only [List.map, lite])
      (refine rg rfl (g_lssT rfl rfl ?_) rfl rfl ?_; (· (omega)))
      refine rt_nil ?_
      refine q_then ?_
      refine ct_seq ?_
      refine ct_true rfl ?_
      refine ct_skip ?_
      refine q_then ?_
      refine ct_seq ?_
      refine ct_block ?_
      refine ct_seq ?_
      (refine ct_region' rfl ?_; simp only [List.map, lite])
      (refine rg rfl (g_elemO1 rfl rfl ?_ ?_) rfl rfl ?_; (· (first | omega | decide)); (· (first | omega | decide | (exact pos_of_get (by assumption)) | (simp only [List.length_map, List.length_append, List.length_replicate, List.length_set, List.length_cons, List.length_nil]; omega) | (simp; omega))))
      (refine rg rfl (g_load_rd rfl (by assumption)) rfl rfl ?_)
      (refine rg rfl (g_assign (by conv => lhs; whnf)) rfl rfl ?_)
      refine rt_nil ?_
      refine q_then ?_
      (refine ct_region' rfl ?_; simp only [List.map, lite])
      (refine rg rfl (g_move (by conv => lhs; whnf)) rfl rfl ?_)
      (refine rg rfl (g_move (by conv => lhs; whnf)) rfl rfl ?_)
      (refine rt_op (wants_none rfl) (o_callE rfl rfl (Ent.refl _) (hwr _) fun i15 => ?_))
      refine rt_nil ?_
      refine q_block ?_
      refine q_then ?_
      (refine ct_region' rfl ?_; simp only [List.map, lite])
      (refine rg rfl (g_addN rfl rfl ?_) rfl rfl ?_; (· (constructor <;> omega)))
      (refine rg rfl (g_move (by conv => lhs; whnf)) rfl rfl ?_)
      refine rt_nil ?_
      rotate_left
    exact q_again ⟨i + 1, by omega⟩ (by show l.length - (i + 1) < l.length - i; omega) ⟨rfl, rfl, rfl, rfl, rfl, trivial⟩ (by dsimp only; rw [hn]; exact Ent.refl _)
  · obtain rfl : i = l.length := by omega
    rw [List.take_length]
    have hml : ((shaOf (cat l)).map bv).length = 32 := by rw [List.length_map]; exact hBs_len _ _
    have hsm := fun (R' : HP) => sum_spec R' i6 (cat l) hl
    focus
      refine ct_seq ?_
      (refine ct_region' rfl ?_; simp only [List.map, lite])
      (refine rg rfl (g_lssF rfl rfl ?_) rfl rfl ?_; (· (omega)))
      refine rt_nil ?_
      refine q_then ?_
      refine ct_seq ?_
      refine ct_false rfl ?_
      refine ct_exit ?_
      refine q_then_exit ?_
      refine q_then_exit ?_
      refine q_block_exit ?_
      refine q_then ?_
      refine ct_seq ?_
      (refine ct_region' rfl ?_; simp only [List.map, lite])
      (refine rg rfl (g_move (by conv => lhs; whnf)) rfl rfl ?_)
      (refine rt_op (wants_none rfl) (o_callE rfl rfl (Ent.refl _) (hsm _) fun i18 => ?_))
      (refine rt_op (wants_none rfl) (o_storeAgg rfl (by conv => lhs; whnf) (by first | exact List.toList_toArray | (conv => lhs; whnf)) (by first | rfl | exact bvsAll _ | exact wvs_all _ | assumption) (by first | rfl | assumption | (simp; done) | (simp; omega)) (by first | rfl | assumption | (simp; done) | (simp; omega)) ?_))
      refine rt_nil ?_
      refine q_then ?_
      refine ct_ret ?_
      exact q_retC rfl (cell_blk rfl (by first | rfl | assumption | (simp; done) | (simp; omega))) () rfl En.ent
theorem ofAll_one (R : HP) (g : Addr) (c' : Nat) (a : Option Addr) (c : Nat) (xs : List UInt8) [hg : Rd R (some g) [.slice a xs.length c]] [hr : Rd R a (xs.map bv)] (hl : xs.length ≤ 140737488354000) (hc : xs.length ≤ c) (hn : a = none → c = 0) :
    Spec Try.prog 14 [.slice (some g) 1 c'] R (fun _ : Unit => .agg ((shaOf xs).map bv).toArray) (fun _ => R) := by
  have e : cat [⟨a, c, xs⟩] = xs := by simp [cat]
  have := ofAll_spec R (some g) c' [⟨a, c, xs⟩] ⟨hg, by simpa using hr, by simpa using hc, by simpa using hn, by simp⟩ (by rw [e]; exact hl)
  rw [e] at this
  exact this
theorem of_spec (R : HP) (a : Option Addr) (c : Nat) (xs : List UInt8) [hr : Rd R a (xs.map bv)] (hl : xs.length ≤ 140737488354000) (hc : xs.length ≤ c) (hn : a = none → c = 0) :
    Spec Try.prog 12 [.slice a xs.length c] R (fun _ : Unit => .agg ((shaOf xs).map bv).toArray) (fun _ => R) := by
  refine spec_of Try.func12 rfl Try.ntmps12 rfl fun W0 => ?_
  have hml : ((shaOf xs).map bv).length = 32 := by rw [List.length_map]; exact hBs_len _ _
  have hone := fun (R' : HP) (g : Addr) (c' : Nat) [Rd R' (some g) [.slice a xs.length c]] [Rd R' a (xs.map bv)] => ofAll_one R' g c' a c xs hl hc hn
  focus
    refine ct_seq ?_
    (refine ct_region' rfl ?_; simp only [List.map, lite])
    (refine rt_op (wants_none rfl) (o_alloc rfl (by conv => lhs; whnf) fun b2 => ?_))
    refine rt_nil ?_
    refine q_then ?_
    refine ct_seq ?_
    (refine ct_region' rfl ?_; simp only [List.map, lite])
    (refine rg rfl (g_move (by conv => lhs; whnf)) rfl rfl ?_)
    (refine rt_op (wants_none rfl) (o_build1 rfl (by conv => lhs; whnf) (by rfl) (by rfl) (by rfl) (by conv => lhs; whnf) fun b4 => ?_))
    (refine rt_op (wants_none rfl) (o_callE rfl rfl (Ent.refl _) (hone _ _ _) fun i5 => ?_))
    (refine rt_op (wants_none rfl) (o_storeAgg rfl (by conv => lhs; whnf) (by first | exact List.toList_toArray | (conv => lhs; whnf)) (by first | rfl | exact bvsAll _ | exact wvs_all _ | assumption) (by first | rfl | assumption | (simp; done) | (simp; omega)) (by first | rfl | assumption | (simp; done) | (simp; omega)) ?_))
    refine rt_nil ?_
    refine q_then ?_
    refine ct_ret ?_
    exact q_retC rfl (cell_blk rfl (by first | rfl | assumption | (simp; done) | (simp; omega))) () rfl En.ent
end Go.Proofs.Ytmhddmenmkjdlaa
