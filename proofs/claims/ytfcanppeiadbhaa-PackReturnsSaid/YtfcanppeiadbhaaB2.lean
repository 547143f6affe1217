/- The reference's book: lists that came out, full of marks. -/
import Derived.Test.YtfcanppeiadbhaaB1
namespace Go.Proofs.Ytfcanppeiadbhaa
open Go.RowKit
attribute [local irreducible] Gives RT CT QT Spec Wants Reads Src Ent OT RQ AnyT AnyOp Again Code.wp Post

def mark (i : Nat) : UInt8 := UInt8.ofNat (1 + i % 250)
theorem mark_val (i : Nat) : Value.int .u8 (1 + (i : Int) % 250) = bv (mark i) := by
  show Value.int .u8 _ = Value.int .u8 (((UInt8.ofNat (1 + i % 250)).toNat : Nat) : Int)
  congr 1
  rw [UInt8.toNat_ofNat_of_lt' (by show _ < 256; omega)]
  omega
structure BkE where
  (a : Option Addr) (n c : Nat) (g : Option Addr) (gn gc : Nat)
def BkE.lv (e : BkE) : Value := .slice e.a e.n e.c
def BkE.gv (e : BkE) : Value := .slice e.g e.gn e.gc
def BkOk (X : HP) (es : List BkE) : Prop := ∀ i e, es[i]? = some e → Rd X e.a ((List.replicate e.n (mark i)).map bv) ∧ Rd X e.g ((List.replicate e.gn (mark i)).map bv) ∧ e.n ≤ 9223372036854775807 ∧ e.gn ≤ 9223372036854775807
structure BookSt where
  (la : Option Addr) (lc : Nat) (ga : Option Addr) (gc n : Nat) (es : List BkE) (X : HP)
  ok : BkOk X es
  few : es.length ≤ 20000
  small : n ≤ 1125899906842624
/-- a book that stays, opened -/
def BookO (k : Nat) (s : BookSt) : HP := Blk k [.slice s.la s.es.length s.lc, .slice s.ga s.es.length s.gc, .int .i64 (s.n : Int), .bool false] 40 * (Arr 36 1 s.la s.lc s.es.length (s.es.map BkE.lv) * (Arr 36 1 s.ga s.gc s.es.length (s.es.map BkE.gv) * s.X))
def BookE (k : Nat) : HP := ex fun s : { s : BookSt // s.n ≤ 281474976710656 } => BookO k s.1

theorem stays_spec (R : HP) (k : Nat) (s : BookSt) :
    Spec Try.prog 18 [.pointer (some ⟨k, 0, none⟩)] (BookO k s * R) (fun _ : Unit => .bool true) (fun _ => BookO k s * R) := by
  refine spec_of Try.func18 rfl Try.ntmps18 rfl fun W0 => ?_
  obtain ⟨la, lc, ga, gc, n, es, X, ok, few, small⟩ := s
  unfold BookO
  dsimp only
  focus
    refine ct_seq ?_
    (refine ct_region' rfl ?_; simp only [List.map, lite])
    (refine rg rfl (g_assign (by conv => lhs; whnf)) rfl rfl ?_)
    refine rt_nil ?_
    refine q_then ?_
    refine ct_seq ?_
    refine ct_seq ?_
    (refine ct_region' rfl ?_; simp only [List.map, lite])
    (refine rg rfl (g_move (by conv => lhs; whnf)) rfl rfl ?_)
    (refine rg rfl (g_nil rfl) rfl rfl ?_)
    (refine rg rfl (g_field0 rfl) rfl rfl ?_)
    (refine rg rfl (g_load rfl (by conv => lhs; whnf)) rfl rfl ?_)
    refine rt_nil ?_
    refine q_then ?_
    refine ct_false rfl ?_
    refine ct_skip ?_
    refine q_then ?_
    refine ct_seq ?_
    refine ct_seq ?_
    (refine ct_region' rfl ?_; simp only [List.map, lite])
    (refine rg rfl (g_assign (by conv => lhs; whnf)) rfl rfl ?_)
    refine rt_nil ?_
    refine q_then ?_
    refine ct_block ?_
    rotate_left
  refine ct_loop (ι := { i : Nat // i ≤ es.length }) (fun i => [(0, .pointer (some ⟨k, 0, none⟩)), (3, .int .i64 (i.1 : Int))]) (fun _ => Blk k [.slice la es.length lc, .slice ga es.length gc, .int .i64 (n : Int), .bool false] 40 * (Arr 36 1 la lc es.length (es.map BkE.lv) * (Arr 36 1 ga gc es.length (es.map BkE.gv) * X)) * R) (fun i => es.length - i.1) ⟨0, by omega⟩ ⟨rfl, rfl, trivial⟩ (Ent.refl _) fun i ρ' => ?_
  obtain ⟨i, hi⟩ := i
  dsimp only at hi ⊢
  by_cases h : i < es.length
  · obtain ⟨h1, h2, h3, h4⟩ := ok i es[i] (by rw [List.getElem?_eq_getElem h])
    have hl : (es.map BkE.lv)[i]? = some (.slice es[i].a es[i].n es[i].c) := by rw [List.getElem?_map, List.getElem?_eq_getElem h]; rfl
    have hg : (es.map BkE.gv)[i]? = some (.slice es[i].g es[i].gn es[i].gc) := by rw [List.getElem?_map, List.getElem?_eq_getElem h]; rfl
    focus
      refine ct_seq ?_
      refine ct_seq ?_
      (refine ct_region' rfl ?_; simp only [List.map, lite])
      (refine rg rfl (g_move (by conv => lhs; whnf)) rfl rfl ?_)
      (refine rg rfl (g_move (by conv => lhs; whnf)) rfl rfl ?_)
      (refine rg rfl (g_nil rfl) rfl rfl ?_)
      (refine rg rfl (g_field0 rfl) rfl rfl ?_)
      (refine rg rfl (g_load rfl (by conv => lhs; whnf)) rfl rfl ?_)
      (refine rg rfl (g_len_slice rfl) rfl rfl ?_)
      (refine rg rfl (g_lssT rfl rfl ?_) rfl rfl ?_; (· (omega)))
      refine rt_nil ?_
      refine q_then ?_
      refine ct_true rfl ?_
      refine ct_skip ?_
      refine q_then ?_
      refine ct_seq ?_
      refine ct_block ?_
      refine ct_seq ?_
      (refine ct_region' rfl ?_; simp only [List.map, lite])
      (refine rg rfl (g_move (by conv => lhs; whnf)) rfl rfl ?_)
      (refine rg rfl (g_remN rfl rfl ?_ ?_) rfl rfl ?_; (· (omega)); (· (omega)))
      (refine rg rfl (g_addN rfl rfl ?_) rfl rfl ?_; (· (constructor <;> omega)))
      (refine rg rfl (g_as (mark_val _) (g_convN rfl ?_)) rfl rfl ?_; (· (constructor <;> omega)))
      (refine rg rfl (g_assign (by conv => lhs; whnf)) rfl rfl ?_)
      refine rt_nil ?_
      refine q_then ?_
      refine ct_seq ?_
      (refine ct_region' rfl ?_; simp only [List.map, lite])
      (refine rg rfl (g_move (by conv => lhs; whnf)) rfl rfl ?_)
      (refine rg rfl (g_nil rfl) rfl rfl ?_)
      (refine rg rfl (g_field0 rfl) rfl rfl ?_)
      (refine rg rfl (g_load rfl (by conv => lhs; whnf)) rfl rfl ?_)
      (refine rg rfl (g_move (by conv => lhs; whnf)) rfl rfl ?_)
      (refine rg rfl (g_elemO1 rfl rfl ?_ ?_) rfl rfl ?_; (· (first | omega | decide)); (· (first | omega | decide | (exact pos_of_get (by assumption)) | (simp only [List.length_map, List.length_append, List.length_replicate, List.length_cons, List.length_nil]; omega) | (simp; omega))))
      (refine rg rfl (g_load_rd rfl (by assumption)) rfl rfl ?_)
      (refine rg rfl (g_move (by conv => lhs; whnf)) rfl rfl ?_)
      (refine rt_op (wants_none rfl) (o_callE rfl rfl (Ent.refl _) (Go.Proofs.Ytfcanppeiadbhaa.full_spec _ _ _ _ _ ?_) fun i30 => ?_); (· (first | assumption | omega | rfl | decide | (simp; done) | (simp; omega) | (simp only [*]; done))))
      (refine rg rfl (g_notT rfl) rfl rfl ?_)
      (refine rg rfl (g_move (by conv => lhs; whnf)) rfl rfl ?_)
      (refine rgw rfl rfl rfl rfl (g_move (by conv => lhs; whnf)) rfl rfl ?_)
      (refine rgw rfl rfl rfl rfl (g_nil rfl) rfl rfl ?_)
      (refine rgw rfl rfl rfl rfl (g_field0 rfl) rfl rfl ?_)
      (refine rgw rfl rfl rfl rfl (g_load rfl (by conv => lhs; whnf)) rfl rfl ?_)
      (refine rgw rfl rfl rfl rfl (g_move (by conv => lhs; whnf)) rfl rfl ?_)
      (refine rgw rfl rfl rfl rfl (g_elemO1 rfl rfl ?_ ?_) rfl rfl ?_; (· (first | omega | decide)); (· (first | omega | decide | (exact pos_of_get (by assumption)) | (simp only [List.length_map, List.length_append, List.length_replicate, List.length_cons, List.length_nil]; omega) | (simp; omega))))
      (refine rgw rfl rfl rfl rfl (g_load_rd rfl (by assumption)) rfl rfl ?_)
      (refine rgw rfl rfl rfl rfl (g_move (by conv => lhs; whnf)) rfl rfl ?_)
      (refine rt_op (wants_some rfl rfl rfl rfl) (o_callE rfl rfl (Ent.refl _) (Go.Proofs.Ytfcanppeiadbhaa.full_spec _ _ _ _ _ ?_) fun i41 => ?_); (· (first | assumption | omega | rfl | decide | (simp; done) | (simp; omega) | (simp only [*]; done))))
      (refine rgw rfl rfl rfl rfl (g_notT rfl) rfl rfl ?_)
      (refine rg rfl (g_pick_f rfl (by conv => lhs; whnf)) rfl rfl ?_)
      refine rt_nil ?_
      refine q_then ?_
      refine ct_false rfl ?_
      refine ct_skip ?_
      refine q_block ?_
      refine q_then ?_
      (refine ct_region' rfl ?_; simp only [List.map, lite])
      (refine rg rfl (g_move (by conv => lhs; whnf)) rfl rfl ?_)
      (refine rg rfl (g_addN rfl rfl ?_) rfl rfl ?_; (· (constructor <;> omega)))
      (refine rg rfl (g_assign (by conv => lhs; whnf)) rfl rfl ?_)
      refine rt_nil ?_
      rotate_left
    exact q_again ⟨i + 1, by omega⟩ (by show es.length - (i + 1) < es.length - i; omega) ⟨rfl, rfl, trivial⟩ (Ent.refl _)
  · focus
      refine ct_seq ?_
      refine ct_seq ?_
      (refine ct_region' rfl ?_; simp only [List.map, lite])
      (refine rg rfl (g_move (by conv => lhs; whnf)) rfl rfl ?_)
      (refine rg rfl (g_move (by conv => lhs; whnf)) rfl rfl ?_)
      (refine rg rfl (g_nil rfl) rfl rfl ?_)
      (refine rg rfl (g_field0 rfl) rfl rfl ?_)
      (refine rg rfl (g_load rfl (by conv => lhs; whnf)) rfl rfl ?_)
      (refine rg rfl (g_len_slice rfl) rfl rfl ?_)
      (refine rg rfl (g_lssF rfl rfl ?_) rfl rfl ?_; (· (omega)))
      refine rt_nil ?_
      refine q_then ?_
      refine ct_false rfl ?_
      refine ct_exit ?_
      refine q_then_exit ?_
      refine q_then_exit ?_
      refine q_block_exit ?_
      refine q_then ?_
      refine ct_seq ?_
      (refine ct_region' rfl ?_; simp only [List.map, lite])
      (refine rg rfl (g_assign (by conv => lhs; whnf)) rfl rfl ?_)
      refine rt_nil ?_
      refine q_then ?_
      refine ct_ret ?_
      exact q_ret1 rfl rfl () rfl En.ent

theorem BkOk.nil (X : HP) : BkOk X [] := fun i e h => by simp at h
theorem BkOk.more {X Y : HP} {es : List BkE} (h : BkOk X es) (e : BkE) (h1 : Rd Y e.a ((List.replicate e.n (mark es.length)).map bv)) (h2 : Rd Y e.g ((List.replicate e.gn (mark es.length)).map bv)) (h3 : e.n ≤ 9223372036854775807) (h4 : e.gn ≤ 9223372036854775807) : BkOk (Y * X) (es ++ [e]) := fun i e' he => by
  by_cases hi : i < es.length
  · rw [List.getElem?_append_left hi] at he
    obtain ⟨a1, a2, a3, a4⟩ := h i e' he
    exact ⟨inferInstance, inferInstance, a3, a4⟩
  · rw [List.getElem?_append_right (by omega)] at he
    have hi0 : i - es.length = 0 := by
      have := (List.getElem?_eq_some_iff.1 he).1
      simp at this; omega
    rw [hi0] at he
    simp at he
    subst he
    obtain rfl : i = es.length := by omega
    exact ⟨inferInstance, inferInstance, h3, h4⟩

def book0 : BookSt := ⟨none, 0, none, 0, 0, [], emp, BkOk.nil _, by simp, by omega⟩
theorem book_new (k : Nat) : Ent (Blk k [.slice none 0 0, .slice none 0 0, .int .i64 0, .bool false] 40) (BookO k book0) := by
  unfold BookO book0
  simp only [List.map_nil, List.length_nil]
  exact En.ent
theorem add_spec (R : HP) (k : Nat) (s : BookSt) (a : Option Addr) (cap len : Nat) (xs : List UInt8) (hx : xs.length = len) (hl : len ≤ 140737488351232) (hsm : s.n ≤ 281474976710656) :
    Spec Try.prog 16 [.pointer (some ⟨k, 0, none⟩), .slice a len cap] (BookO k s * (Arr 5 1 a cap len (xs.map bv) * R)) (fun _ : { s : BookSt // s.n ≤ 281474976710656 } => .tuple #[]) (fun s => BookO k s.1 * R) := by
  refine spec_of Try.func16 rfl Try.ntmps16 rfl fun W0 => ?_
  refine ct_ent (B := BookO k s * (Arr 5 1 a cap len (xs.map bv) * R)) ?_ (Ent.refl _)
  obtain ⟨la, lc, ga, gc, n, es, X, ok, few, small⟩ := s
  unfold BookO
  dsimp only at hsm ⊢
  focus
    refine ct_seq ?_
    (refine ct_region' rfl ?_; simp only [List.map, lite])
    (refine rg rfl (g_move (by conv => lhs; whnf)) rfl rfl ?_)
    (refine rg rfl (g_nil rfl) rfl rfl ?_)
    (refine rg rfl (g_field0 rfl) rfl rfl ?_)
    (refine rg rfl (g_load rfl (by conv => lhs; whnf)) rfl rfl ?_)
    (refine rg rfl (g_move (by conv => lhs; whnf)) rfl rfl ?_)
    (refine rg rfl (g_len_slice rfl) rfl rfl ?_)
    (refine rg rfl (g_addN rfl rfl ?_) rfl rfl ?_; (· (constructor <;> omega)))
    (refine rg rfl (g_nil rfl) rfl rfl ?_)
    (refine rg rfl (g_field0 rfl) rfl rfl ?_)
    (refine rt_op (wants_none rfl) (o_store rfl (by conv => lhs; whnf) rfl rfl (by first | (simp only [List.set_cons_zero, List.set_cons_succ]; rfl) | rfl) ?_))
    refine rt_nil ?_
    refine q_then ?_
    rotate_left
  refine ct_cut (ι := { s : BookSt // s.es.length < 20000 ∧ s.n ≤ 281474976710656 }) (fun s => [(0, .pointer (some ⟨k, 0, none⟩)), (1, .slice a len cap)]) (fun s => BookO k s.1 * (Arr 5 1 a cap len (xs.map bv) * R)) ?_ ?_
  · have hst := fun h => stays_spec (Arr 5 1 a cap len (xs.map bv) * R) k ⟨la, lc, ga, gc, n + len, es, X, ok, few, h⟩
    unfold BookO at hst
    dsimp only at hst
    focus
      refine ct_seq ?_
      (refine ct_region' rfl ?_; simp only [List.map, lite])
      (refine rg rfl (g_move (by conv => lhs; whnf)) rfl rfl ?_)
      (refine rg rfl (g_nil rfl) rfl rfl ?_)
      (refine rg rfl (g_field0 rfl) rfl rfl ?_)
      (refine rg rfl (g_load rfl (by conv => lhs; whnf)) rfl rfl ?_)
      (refine rg rfl (g_len_slice rfl) rfl rfl ?_)
      (refine rg rfl (g_geq rfl rfl) rfl rfl ?_)
      (refine rg rfl (g_move (by conv => lhs; whnf)) rfl rfl ?_)
      refine rt_split 24 rfl (fun h24 => ?_) (fun h24 => ?_)
      refine rgs rfl rfl rfl rfl rfl rfl ?_
      refine rgs rfl rfl rfl rfl rfl rfl ?_
      refine rgs rfl rfl rfl rfl rfl rfl ?_
      refine rgs rfl rfl rfl rfl rfl rfl ?_
      refine rgs rfl rfl rfl rfl rfl rfl ?_
      (refine rg rfl (g_pick_t rfl (by conv => lhs; whnf)) rfl rfl ?_)
      refine rt_nil ?_
      refine q_then ?_
      refine ct_true rfl ?_
      refine ct_seq ?_
      (refine ct_region' rfl ?_; simp only [List.map, lite])
      (refine rg rfl (g_move (by conv => lhs; whnf)) rfl rfl ?_)
      (refine rt_op (wants_none rfl) (o_callE rfl rfl (Ent.assoc' _ _ _) (hst (by omega)) fun _ => ?_))
      (refine rg rfl (g_assign (by conv => lhs; whnf)) rfl rfl ?_)
      refine rt_nil ?_
      refine q_then ?_
      refine ct_seq ?_
      (refine ct_region' rfl ?_; simp only [List.map, lite])
      (refine rg rfl (g_move (by conv => lhs; whnf)) rfl rfl ?_)
      (refine rg rfl (g_move (by conv => lhs; whnf)) rfl rfl ?_)
      (refine rg rfl (g_notT rfl) rfl rfl ?_)
      (refine rg rfl (g_nil rfl) rfl rfl ?_)
      (refine rg rfl (g_field0 rfl) rfl rfl ?_)
      (refine rt_op (wants_none rfl) (o_store rfl (by conv => lhs; whnf) rfl rfl (by first | (simp only [List.set_cons_zero, List.set_cons_succ]; rfl) | rfl) ?_))
      refine rt_nil ?_
      refine q_then ?_
      refine ct_seq ?_
      (refine ct_region' rfl ?_; simp only [List.map, lite])
      (refine rg rfl (g_move (by conv => lhs; whnf)) rfl rfl ?_)
      (refine rg rfl (g_nil rfl) rfl rfl ?_)
      (refine rg rfl (g_field0 rfl) rfl rfl ?_)
      (refine rt_op (wants_none rfl) (o_store rfl (by conv => lhs; whnf) rfl rfl (by first | (simp only [List.set_cons_zero, List.set_cons_succ]; rfl) | rfl) ?_))
      refine rt_nil ?_
      refine q_then ?_
      refine ct_seq ?_
      (refine ct_region' rfl ?_; simp only [List.map, lite])
      (refine rg rfl (g_move (by conv => lhs; whnf)) rfl rfl ?_)
      (refine rg rfl (g_nil rfl) rfl rfl ?_)
      (refine rg rfl (g_field0 rfl) rfl rfl ?_)
      (refine rt_op (wants_none rfl) (o_store rfl (by conv => lhs; whnf) rfl rfl (by first | (simp only [List.set_cons_zero, List.set_cons_succ]; rfl) | rfl) ?_))
      refine rt_nil ?_
      refine q_then ?_
      (refine ct_region' rfl ?_; simp only [List.map, lite])
      (refine rg rfl (g_move (by conv => lhs; whnf)) rfl rfl ?_)
      (refine rg rfl (g_move (by conv => lhs; whnf)) rfl rfl ?_)
      (refine rg rfl (g_len_slice rfl) rfl rfl ?_)
      (refine rg rfl (g_nil rfl) rfl rfl ?_)
      (refine rg rfl (g_field0 rfl) rfl rfl ?_)
      (refine rt_op (wants_none rfl) (o_store rfl (by conv => lhs; whnf) rfl rfl (by first | (simp only [List.set_cons_zero, List.set_cons_succ]; rfl) | rfl) ?_))
      refine rt_nil ?_
      rotate_left
      (refine rgw rfl rfl rfl rfl (g_move (by conv => lhs; whnf)) rfl rfl ?_)
      (refine rgw rfl rfl rfl rfl (g_nil rfl) rfl rfl ?_)
      (refine rgw rfl rfl rfl rfl (g_field0 rfl) rfl rfl ?_)
      (refine rgw rfl rfl rfl rfl (g_load rfl (by conv => lhs; whnf)) rfl rfl ?_)
      (refine rgw rfl rfl rfl rfl (g_geq rfl rfl) rfl rfl ?_)
      (refine rg rfl (g_pick_f rfl (by conv => lhs; whnf)) rfl rfl ?_)
      refine rt_nil ?_
      refine q_then ?_
      refine ct_if rfl (fun h30 => ?_) (fun h30 => ?_)
      refine ct_seq ?_
      (refine ct_region' rfl ?_; simp only [List.map, lite])
      (refine rg rfl (g_move (by conv => lhs; whnf)) rfl rfl ?_)
      (refine rt_op (wants_none rfl) (o_callE rfl rfl (Ent.assoc' _ _ _) (hst (by omega)) fun _ => ?_))
      (refine rg rfl (g_assign (by conv => lhs; whnf)) rfl rfl ?_)
      refine rt_nil ?_
      refine q_then ?_
      refine ct_seq ?_
      (refine ct_region' rfl ?_; simp only [List.map, lite])
      (refine rg rfl (g_move (by conv => lhs; whnf)) rfl rfl ?_)
      (refine rg rfl (g_move (by conv => lhs; whnf)) rfl rfl ?_)
      (refine rg rfl (g_notT rfl) rfl rfl ?_)
      (refine rg rfl (g_nil rfl) rfl rfl ?_)
      (refine rg rfl (g_field0 rfl) rfl rfl ?_)
      (refine rt_op (wants_none rfl) (o_store rfl (by conv => lhs; whnf) rfl rfl (by first | (simp only [List.set_cons_zero, List.set_cons_succ]; rfl) | rfl) ?_))
      refine rt_nil ?_
      refine q_then ?_
      refine ct_seq ?_
      (refine ct_region' rfl ?_; simp only [List.map, lite])
      (refine rg rfl (g_move (by conv => lhs; whnf)) rfl rfl ?_)
      (refine rg rfl (g_nil rfl) rfl rfl ?_)
      (refine rg rfl (g_field0 rfl) rfl rfl ?_)
      (refine rt_op (wants_none rfl) (o_store rfl (by conv => lhs; whnf) rfl rfl (by first | (simp only [List.set_cons_zero, List.set_cons_succ]; rfl) | rfl) ?_))
      refine rt_nil ?_
      refine q_then ?_
      refine ct_seq ?_
      (refine ct_region' rfl ?_; simp only [List.map, lite])
      (refine rg rfl (g_move (by conv => lhs; whnf)) rfl rfl ?_)
      (refine rg rfl (g_nil rfl) rfl rfl ?_)
      (refine rg rfl (g_field0 rfl) rfl rfl ?_)
      (refine rt_op (wants_none rfl) (o_store rfl (by conv => lhs; whnf) rfl rfl (by first | (simp only [List.set_cons_zero, List.set_cons_succ]; rfl) | rfl) ?_))
      refine rt_nil ?_
      refine q_then ?_
      (refine ct_region' rfl ?_; simp only [List.map, lite])
      (refine rg rfl (g_move (by conv => lhs; whnf)) rfl rfl ?_)
      (refine rg rfl (g_move (by conv => lhs; whnf)) rfl rfl ?_)
      (refine rg rfl (g_len_slice rfl) rfl rfl ?_)
      (refine rg rfl (g_nil rfl) rfl rfl ?_)
      (refine rg rfl (g_field0 rfl) rfl rfl ?_)
      (refine rt_op (wants_none rfl) (o_store rfl (by conv => lhs; whnf) rfl rfl (by first | (simp only [List.set_cons_zero, List.set_cons_succ]; rfl) | rfl) ?_))
      refine rt_nil ?_
      rotate_left
      refine ct_skip ?_
      rotate_left
    · exact q_cut ⟨⟨none, 0, none, 0, len, [], emp, BkOk.nil _, by simp, by omega⟩, by simp, by show len ≤ _; omega⟩ ⟨rfl, rfl, trivial⟩ (by unfold BookO; simp only [List.map_nil, List.length_nil]; exact En.ent)
    · exact q_cut ⟨⟨none, 0, none, 0, len, [], emp, BkOk.nil _, by simp, by omega⟩, by simp, by show len ≤ _; omega⟩ ⟨rfl, rfl, trivial⟩ (by unfold BookO; simp only [List.map_nil, List.length_nil]; exact En.ent)
    · exact q_cut ⟨⟨la, lc, ga, gc, n + len, es, X, ok, few, by omega⟩, by show es.length < _; omega, by show n + len ≤ _; omega⟩ ⟨rfl, rfl, trivial⟩ (by unfold BookO; exact Ent.assoc' _ _ _)
  · intro s ρ'
    clear hsm ok few small
    obtain ⟨⟨la, lc, ga, gc, n, es, X, ok, few, small⟩, hs, hsm⟩ := s
    unfold BookO
    dsimp only at hs hsm ⊢
    focus
      refine ct_seq ?_
      (refine ct_region' rfl ?_; simp only [List.map, lite])
      (refine rg rfl (g_move (by conv => lhs; whnf)) rfl rfl ?_)
      (refine rg rfl (g_nil rfl) rfl rfl ?_)
      (refine rg rfl (g_field0 rfl) rfl rfl ?_)
      (refine rg rfl (g_load rfl (by conv => lhs; whnf)) rfl rfl ?_)
      (refine rg rfl (g_len_slice rfl) rfl rfl ?_)
      (refine rg rfl (g_remN rfl rfl ?_ ?_) rfl rfl ?_; (· (omega)); (· (omega)))
      (refine rg rfl (g_addN rfl rfl ?_) rfl rfl ?_; (· (constructor <;> omega)))
      (refine rg rfl (g_as (mark_val _) (g_convN rfl ?_)) rfl rfl ?_; (· (constructor <;> omega)))
      (refine rg rfl (g_assign (by conv => lhs; whnf)) rfl rfl ?_)
      refine rt_nil ?_
      refine q_then ?_
      refine ct_seq ?_
      refine ct_seq ?_
      (refine ct_region' rfl ?_; simp only [List.map, lite])
      (refine rg rfl (g_assign (by conv => lhs; whnf)) rfl rfl ?_)
      refine rt_nil ?_
      refine q_then ?_
      refine ct_block ?_
      rotate_left
    refine ct_loop (ι := { i : Nat // i ≤ len }) (fun i => [(0, .pointer (some ⟨k, 0, none⟩)), (1, .slice a len cap), (5, bv (mark es.length)), (6, .int .i64 (i.1 : Int))]) (fun i => Blk k [.slice la es.length lc, .slice ga es.length gc, .int .i64 (n : Int), .bool false] 40 * (Arr 36 1 la lc es.length (es.map BkE.lv) * (Arr 36 1 ga gc es.length (es.map BkE.gv) * X)) * (Arr 5 1 a cap len ((List.replicate i.1 (mark es.length) ++ xs.drop i.1).map bv) * R)) (fun i => len - i.1) ⟨0, by omega⟩ ⟨rfl, rfl, rfl, rfl, trivial⟩ (Ent.refl _) fun i ρ' => ?_
    obtain ⟨i, hi⟩ := i
    dsimp only at hi ⊢
    by_cases h : i < len
    · have hset := rep_set (mark es.length) xs i (by omega)
      focus
        refine ct_seq ?_
        refine ct_seq ?_
        (refine ct_region' rfl ?_; simp only [List.map, lite])
        (refine rg rfl (g_move (by conv => lhs; whnf)) rfl rfl ?_)
        (refine rg rfl (g_move (by conv => lhs; whnf)) rfl rfl ?_)
        (refine rg rfl (g_len_slice rfl) rfl rfl ?_)
        (refine rg rfl (g_lssT rfl rfl ?_) rfl rfl ?_; (· (omega)))
        refine rt_nil ?_
        refine q_then ?_
        refine ct_true rfl ?_
        refine ct_skip ?_
        refine q_then ?_
        refine ct_seq ?_
        refine ct_block ?_
        (refine ct_region' rfl ?_; simp only [List.map, lite])
        (refine rg rfl (g_move (by conv => lhs; whnf)) rfl rfl ?_)
        (refine rg rfl (g_move (by conv => lhs; whnf)) rfl rfl ?_)
        (refine rg rfl (g_move (by conv => lhs; whnf)) rfl rfl ?_)
        (refine rg rfl (g_elemO1 rfl rfl ?_ ?_) rfl rfl ?_; (· (first | omega | decide)); (· (first | omega | decide | (exact pos_of_get (by assumption)) | (simp only [List.length_map, List.length_append, List.length_replicate, List.length_cons, List.length_nil]; omega) | (simp; omega))))
        (refine rt_op (wants_none rfl) (o_storeArr rfl (by conv => lhs; whnf) rfl ?_ rfl ?_); (· (first | omega | decide | (exact pos_of_get (by assumption)) | (simp only [List.length_map, List.length_append, List.length_replicate, List.length_cons, List.length_nil]; omega) | (simp; omega))))
        refine rt_nil ?_
        refine q_block ?_
        refine q_then ?_
        (refine ct_region' rfl ?_; simp only [List.map, lite])
        (refine rg rfl (g_move (by conv => lhs; whnf)) rfl rfl ?_)
        (refine rg rfl (g_addN rfl rfl ?_) rfl rfl ?_; (· (constructor <;> omega)))
        (refine rg rfl (g_assign (by conv => lhs; whnf)) rfl rfl ?_)
        refine rt_nil ?_
        rotate_left
      rw [hset]
      exact q_again ⟨i + 1, by omega⟩ (by show len - (i + 1) < len - i; omega) ⟨rfl, rfl, rfl, rfl, trivial⟩ En.ent
    · have hi2 : i = len := by omega
      subst hi2
      have hall : List.replicate i (mark es.length) ++ xs.drop i = List.replicate i (mark es.length) := by rw [List.drop_eq_nil_of_le (by omega), List.append_nil]
      rw [hall]
      clear hall
      focus
        refine ct_seq ?_
        refine ct_seq ?_
        (refine ct_region' rfl ?_; simp only [List.map, lite])
        (refine rg rfl (g_move (by conv => lhs; whnf)) rfl rfl ?_)
        (refine rg rfl (g_move (by conv => lhs; whnf)) rfl rfl ?_)
        (refine rg rfl (g_len_slice rfl) rfl rfl ?_)
        (refine rg rfl (g_lssF rfl rfl ?_) rfl rfl ?_; (· (omega)))
        refine rt_nil ?_
        refine q_then ?_
        refine ct_false rfl ?_
        refine ct_exit ?_
        refine q_then_exit ?_
        refine q_then_exit ?_
        refine q_block_exit ?_
        refine q_then ?_
        refine ct_seq ?_
        (refine ct_region' rfl ?_; simp only [List.map, lite])
        (refine rg rfl (g_move (by conv => lhs; whnf)) rfl rfl ?_)
        (refine rg rfl (g_assign (by conv => lhs; whnf)) rfl rfl ?_)
        refine rt_nil ?_
        refine q_then ?_
        refine ct_seq ?_
        refine ct_seq ?_
        (refine ct_region' rfl ?_; simp only [List.map, lite])
        (refine rg rfl (g_assign (by conv => lhs; whnf)) rfl rfl ?_)
        refine rt_nil ?_
        refine q_then ?_
        refine ct_block ?_
        rotate_left
      refine ct_loop (ι := { i' : Nat × Option Addr × Nat × HP // i'.1 ≤ 60 ∧ (i'.2.1 = a ∨ Rd i'.2.2.2 a ((List.replicate i (mark es.length)).map bv)) }) (fun i' => [(0, .pointer (some ⟨k, 0, none⟩)), (1, .slice a i cap), (5, bv (mark es.length)), (7, .slice i'.1.2.1 (i + i'.1.1) i'.1.2.2.1), (8, .int .i64 (i'.1.1 : Int))]) (fun i' => Blk k [.slice la es.length lc, .slice ga es.length gc, .int .i64 (n : Int), .bool false] 40 * (Arr 36 1 la lc es.length (es.map BkE.lv) * (Arr 36 1 ga gc es.length (es.map BkE.gv) * X)) * (Arr 5 1 i'.1.2.1 i'.1.2.2.1 (i + i'.1.1) ((List.replicate (i + i'.1.1) (mark es.length)).map bv) * (i'.1.2.2.2 * R))) (fun i' => 60 - i'.1.1) ⟨(0, a, cap, emp), by omega, .inl rfl⟩ ⟨rfl, rfl, rfl, rfl, rfl, trivial⟩ (by exact En.ent) fun i' ρ' => ?_
      obtain ⟨⟨j, ga2, gc2, X2⟩, hj, hX2⟩ := i'
      dsimp only at hj hX2 ⊢
      by_cases h60 : j < 60
      · focus
          refine ct_seq ?_
          refine ct_seq ?_
          (refine ct_region' rfl ?_; simp only [List.map, lite])
          (refine rg rfl (g_move (by conv => lhs; whnf)) rfl rfl ?_)
          (refine rg rfl (g_lssT rfl rfl ?_) rfl rfl ?_; (· (omega)))
          refine rt_nil ?_
          refine q_then ?_
          refine ct_true rfl ?_
          refine ct_skip ?_
          refine q_then ?_
          refine ct_seq ?_
          refine ct_block ?_
          (refine ct_region' rfl ?_; simp only [List.map, lite])
          (refine rg rfl (g_move (by conv => lhs; whnf)) rfl rfl ?_)
          (refine rg rfl (g_move (by conv => lhs; whnf)) rfl rfl ?_)
          (refine rt_op (wants_none rfl) (o_build1 rfl (by conv => lhs; whnf) (by rfl) (by rfl) (by rfl) (by conv => lhs; whnf) fun b74 => ?_))
          (refine rt_op (wants_none rfl) (o_app2K rfl rfl rfl (by rfl) (by rfl) (by rfl) ?_ (by exact rfl) (by exact rfl) fun ad75 cap75 O hc75 hn75 hO => ?_); (· (omega)))
          (refine rg rfl (g_assign (by conv => lhs; whnf)) rfl rfl ?_)
          refine rt_nil ?_
          refine q_block ?_
          refine q_then ?_
          (refine ct_region' rfl ?_; simp only [List.map, lite])
          (refine rg rfl (g_move (by conv => lhs; whnf)) rfl rfl ?_)
          (refine rg rfl (g_addN rfl rfl ?_) rfl rfl ?_; (· (constructor <;> omega)))
          (refine rg rfl (g_assign (by conv => lhs; whnf)) rfl rfl ?_)
          refine rt_nil ?_
          rotate_left
        refine q_again ⟨(j + 1, ad75, cap75, O * X2), by omega, ?_⟩ (by show 60 - (j + 1) < 60 - j; omega) ⟨rfl, rfl, rfl, rfl, rfl, trivial⟩ ?_
        · rcases hX2 with rfl | hX2
          · rcases hO with ⟨rfl, _⟩ | hO
            · exact .inl rfl
            · right
              have h2 : Rd (Arr 5 1 ga2 gc2 (i + j) ((List.replicate (i + j) (mark es.length)).map bv)) ga2 ((List.replicate i (mark es.length)).map bv) := by
                have := (Rd.arr 5 1 ga2 gc2 (i + j) ((List.replicate (i + j) (mark es.length)).map bv)).take i
                rw [← List.map_take, List.take_replicate, Nat.min_eq_left (by omega)] at this
                exact this
              have h3 := h2.of_ent hO
              infer_instance
          · right; infer_instance
        · have e : (List.replicate (i + j) (mark es.length)).map bv ++ [bv (mark es.length)] = (List.replicate (i + (j + 1)) (mark es.length)).map bv := by
            rw [← Nat.add_assoc, List.replicate_succ', List.map_append]; rfl
          dsimp only
          rw [← e]
          exact En.ent
      · obtain rfl : j = 60 := by omega
        focus
          refine ct_seq ?_
          refine ct_seq ?_
          (refine ct_region' rfl ?_; simp only [List.map, lite])
          (refine rg rfl (g_move (by conv => lhs; whnf)) rfl rfl ?_)
          (refine rg rfl (g_lssF rfl rfl ?_) rfl rfl ?_; (· (omega)))
          refine rt_nil ?_
          refine q_then ?_
          refine ct_false rfl ?_
          refine ct_exit ?_
          refine q_then_exit ?_
          refine q_then_exit ?_
          refine q_block_exit ?_
          refine q_then ?_
          refine ct_seq ?_
          (refine ct_region' rfl ?_; simp only [List.map, lite])
          (refine rg rfl (g_move (by conv => lhs; whnf)) rfl rfl ?_)
          (refine rg rfl (g_move (by conv => lhs; whnf)) rfl rfl ?_)
          (refine rg rfl (g_nil rfl) rfl rfl ?_)
          (refine rg rfl (g_field0 rfl) rfl rfl ?_)
          (refine rg rfl (g_load rfl (by conv => lhs; whnf)) rfl rfl ?_)
          (refine rg rfl (g_move (by conv => lhs; whnf)) rfl rfl ?_)
          (refine rt_op (wants_none rfl) (o_build1 rfl (by conv => lhs; whnf) (by rfl) (by rfl) (by rfl) (by conv => lhs; whnf) fun b82 => ?_))
          (refine rt_op (wants_none rfl) (o_app2 rfl rfl rfl (by rfl) (by first | rfl | exact bvsAll _ | exact wvs_all _ | assumption) (by rfl) ?_ (by first | with_reducible exact Nat.zero_add _ | exact rfl) (by first | with_reducible exact List.nil_append _ | exact List.map_append.symm | exact rfl) fun ad83 cap83 hc83 hn83 => ?_); (· (first | omega | decide)))
          (refine rg rfl (g_nil rfl) rfl rfl ?_)
          (refine rg rfl (g_field0 rfl) rfl rfl ?_)
          (refine rt_op (wants_none rfl) (o_store rfl (by conv => lhs; whnf) rfl rfl (by first | (simp only [List.set_cons_zero, List.set_cons_succ]; rfl) | rfl) ?_))
          refine rt_nil ?_
          refine q_then ?_
          (refine ct_region' rfl ?_; simp only [List.map, lite])
          (refine rg rfl (g_move (by conv => lhs; whnf)) rfl rfl ?_)
          (refine rg rfl (g_move (by conv => lhs; whnf)) rfl rfl ?_)
          (refine rg rfl (g_nil rfl) rfl rfl ?_)
          (refine rg rfl (g_field0 rfl) rfl rfl ?_)
          (refine rg rfl (g_load rfl (by conv => lhs; whnf)) rfl rfl ?_)
          (refine rg rfl (g_move (by conv => lhs; whnf)) rfl rfl ?_)
          (refine rt_op (wants_none rfl) (o_build1 rfl (by conv => lhs; whnf) (by rfl) (by rfl) (by rfl) (by conv => lhs; whnf) fun b92 => ?_))
          (refine rt_op (wants_none rfl) (o_app2 rfl rfl rfl (by rfl) (by first | rfl | exact bvsAll _ | exact wvs_all _ | assumption) (by rfl) ?_ (by first | with_reducible exact Nat.zero_add _ | exact rfl) (by first | with_reducible exact List.nil_append _ | exact List.map_append.symm | exact rfl) fun ad93 cap93 hc93 hn93 => ?_); (· (first | omega | decide)))
          (refine rg rfl (g_nil rfl) rfl rfl ?_)
          (refine rg rfl (g_field0 rfl) rfl rfl ?_)
          (refine rt_op (wants_none rfl) (o_store rfl (by conv => lhs; whnf) rfl rfl (by first | (simp only [List.set_cons_zero, List.set_cons_succ]; rfl) | rfl) ?_))
          refine rt_nil ?_
          rotate_left
        have hY : Rd (Arr 5 1 ga2 gc2 (i + 60) ((List.replicate (i + 60) (mark es.length)).map bv) * X2) a ((List.replicate i (mark es.length)).map bv) := by
          rcases hX2 with rfl | hX2
          · have := (Rd.arr 5 1 ga2 gc2 (i + 60) ((List.replicate (i + 60) (mark es.length)).map bv)).take i
            rw [← List.map_take, List.take_replicate, Nat.min_eq_left (by omega)] at this
            infer_instance
          · infer_instance
        refine q_ret0 rfl ⟨⟨ad83, cap83, ad93, cap93, n, es ++ [⟨a, i, cap, ga2, i + 60, gc2⟩], _, ok.more ⟨a, i, cap, ga2, i + 60, gc2⟩ hY inferInstance (by show i ≤ _; omega) (by show i + 60 ≤ _; omega), by simp; omega, small⟩, hsm⟩ rfl ?_ (.inl rfl)
        simp only [List.length_append, List.length_cons, List.length_nil, List.map_append, List.map_cons, List.map_nil, Nat.zero_add, BkE.lv, BkE.gv]
        exact En.ent
end Go.Proofs.Ytfcanppeiadbhaa
