/- sha: Digest. -/
import Derived.Test.YtmhddmenmkjdlaaS6
import Derived.Test.YtmhddmenmkjdlaaCp
namespace Go.Proofs.Ytmhddmenmkjdlaa
open Go.RowKit
attribute [local irreducible] Gives RT CT QT Spec Wants Reads Src Ent OT RQ AnyT AnyOp Again Code.wp Post

theorem blocks_pre (s : S8) (p q : List UInt8) : ∀ k, 64 * k ≤ p.length → blocks s (p ++ q) k = blocks s p k
  | 0, _ => rfl
  | k + 1, h => by
    rw [blocks, blocks, blocks_pre s p q k (by omega), List.drop_append_of_le_length (by omega), List.take_append_of_le_length (by rw [List.length_drop]; omega)]
def DOk (bs : List UInt8) (w : S8) (r : List UInt8) : Prop := w = blocks begins8 bs (bs.length / 64) ∧ r.length = 64 ∧ r.take (bs.length % 64) = bs.drop (64 * (bs.length / 64))
def dgC (w : S8) (r : List UInt8) (n : Int) : List Value := w.row.map wv ++ (r.map bv ++ [.int .i64 n])
def DigA (d : Nat) (bs : List UInt8) : HP := ex fun t : { t : S8 × List UInt8 // DOk bs t.1 t.2 } => Blk d (dgC t.1.1 t.1.2 bs.length) 68
theorem dgC_len {w : S8} {r : List UInt8} {n : Int} (h : r.length = 64) : (dgC w r n).length = 73 := by
  show (w.row.map wv ++ (r.map bv ++ [Value.int .i64 n])).length = 73
  simp [S8.row, h]
theorem dgC_num {w : S8} {r : List UInt8} {n : Int} (h : r.length = 64) : (dgC w r n)[72]? = some (.int .i64 n) := by
  show (w.row.map wv ++ (r.map bv ++ [Value.int .i64 n]))[72]? = _
  rw [List.getElem?_append_right (by simp [S8.row]), List.getElem?_append_right (by simp [S8.row, h])]
  simp [S8.row, h]
theorem dgC_setN {w : S8} {r : List UInt8} {n m : Int} (h : r.length = 64) : (dgC w r n).set 72 (.int .i64 m) = dgC w r m := by
  unfold dgC
  rw [List.set_append_right _ _ (by simp [S8.row]), List.set_append_right _ _ (by simp [S8.row, h])]
  simp [S8.row, h]
theorem dgC_words {w : S8} {r : List UInt8} {n : Int} (v : S8) : (dgC w r n).take 0 ++ v.row.map wv ++ (dgC w r n).drop (0 + 8) = dgC v r n := by
  unfold dgC; simp [S8.row]
theorem dgC_rest {w : S8} {r : List UInt8} {n : Int} {i m : Nat} {ys : List UInt8} (h : r.length = 64) (hi : i + m ≤ 64) : (dgC w r n).take (8 + i) ++ (ys.map bv).take m ++ (dgC w r n).drop (8 + i + m) = dgC w (r.take i ++ ys.take m ++ r.drop (i + m)) n := by
  unfold dgC
  have h8 : (w.row.map wv).length = 8 := rfl
  rw [List.take_append, List.drop_append, h8, List.take_of_length_le (by omega), List.drop_eq_nil_of_le (by rw [h8]; omega), show 8 + i - 8 = i by omega, show 8 + i + m - 8 = i + m by omega, List.take_append_of_le_length (by rw [List.length_map]; omega), List.drop_append_of_le_length (by rw [List.length_map]; omega)]
  simp [List.map_take, List.map_drop]
theorem dg_reads {A B : HP} {d T : Nat} {w : S8} {r : List UInt8} {n : Int} (e : Ent A (Blk d (dgC w r n) T * B)) : Reads A ⟨d, 0, none⟩ (w.row.map wv) := by
  unfold Reads
  intro W0 x s j v h
  exact (s.ent e).cellsFrom 0 (by
    intro j v h
    have hj := (List.getElem?_eq_some_iff.1 h).1
    unfold dgC
    rw [Nat.zero_add, List.getElem?_append_left hj]; exact h) j v h
theorem dg_rd {A B : HP} {d T : Nat} {w : S8} {r : List UInt8} {n : Int} (e : Ent A (Blk d (dgC w r n) T * B)) : Rd A (some ⟨d, 8, none⟩) (r.map bv) := by
  refine ⟨fun _ _ _ h => (by cases h), fun g h => ?_⟩
  cases h
  unfold Reads
  intro W0 x s j v h
  exact (s.ent e).cellsFrom 8 (by
    intro j v h
    have hj := (List.getElem?_eq_some_iff.1 h).1
    unfold dgC
    rw [List.getElem?_append_right (by simp [S8.row]), List.getElem?_append_left (by simp [S8.row] at hj ⊢; omega)]
    simpa [S8.row] using h) j v h
theorem dig_mk {d : Nat} {bs : List UInt8} {w : S8} {r : List UInt8} (h : DOk bs w r) : Ent (Blk d (dgC w r bs.length) 68) (DigA d bs) :=
  Ent.ex (f := fun t : { t : S8 × List UInt8 // DOk bs t.1 t.2 } => Blk d (dgC t.1.1 t.1.2 bs.length) 68) ⟨(w, r), h⟩
theorem new_spec (R : HP) : Spec Try.prog 17 [] R (fun d : Nat => .pointer (some ⟨d, 0, none⟩)) (fun d => DigA d [] * R) := by
  refine spec_of Try.func17 rfl Try.ntmps17 rfl fun W0 => ?_
  focus
    refine ct_seq ?_
    (refine ct_region' rfl ?_; simp only [List.map, lite])
    (refine rg rfl (g_assign (by conv => lhs; whnf)) rfl rfl ?_)
    refine rt_nil ?_
    refine q_then ?_
    refine ct_seq ?_
    (refine ct_region' rfl ?_; simp only [List.map, lite])
    (refine rt_op (wants_none rfl) (o_callE rfl rfl (Ent.refl _) (Go.Proofs.Ytmhddmenmkjdlaa.begins_spec _) fun i1 => ?_))
    (refine rg rfl (g_build (cells := dgC begins8 (List.replicate 64 0) 0) (by simp only [ev, upd, updl, argl, nat_beq_def, Nat.reduceBEq, cond_true, cond_false, List.map_cons, List.map_nil]; rfl) (by kernel_rfl)) rfl rfl ?_)
    (refine rt_op (wants_none rfl) (o_box rfl (by conv => lhs; whnf) (by conv => lhs; whnf) fun b3 => ?_))
    (refine rg rfl (g_assign (by conv => lhs; whnf)) rfl rfl ?_)
    refine rt_nil ?_
    refine q_then ?_
    refine ct_ret ?_
    rotate_left
  exact q_ret1 rfl (by conv => lhs; whnf) b3 rfl (by show Ent (Blk b3 (dgC begins8 (List.replicate 64 0) (([] : List UInt8).length : Int)) _ * R) _; exact Ent.mul (dig_mk ⟨rfl, rfl, rfl⟩) (Ent.refl _))
theorem bvs_all (l : List UInt8) : ((l.map bv).all Value.oneCell') = true := List.all_eq_true.2 fun v h => bvs_one v h
theorem wr_short {bs ys : List UInt8} {w : S8} {r : List UInt8} (h : DOk bs w r) {m : Nat} (hm : m = ys.length) (hs : bs.length % 64 + m < 64) : DOk (bs ++ ys) w (r.take (bs.length % 64) ++ ys.take m ++ r.drop (bs.length % 64 + m)) := by
  obtain ⟨h1, h2, h3⟩ := h
  subst hm
  have e1 : (bs ++ ys).length / 64 = bs.length / 64 := by rw [List.length_append]; omega
  have e2 : (bs ++ ys).length % 64 = bs.length % 64 + ys.length := by rw [List.length_append]; omega
  refine ⟨?_, ?_, ?_⟩
  · rw [e1, blocks_pre _ _ _ _ (by omega)]; exact h1
  · simp [h2]; omega
  · rw [e1, e2, List.take_length, h3, List.drop_append_of_le_length (by omega), List.take_append_of_le_length (by simp; omega), List.take_of_length_le (by simp; omega)]
theorem wr_block {bs ys : List UInt8} {w : S8} {r : List UInt8} (h : DOk bs w r) {m : Nat} (hm : m ≤ ys.length) (hs : bs.length % 64 + m = 64) : r.take (bs.length % 64) ++ ys.take m ++ r.drop (bs.length % 64 + m) = ((bs ++ ys).drop (64 * (bs.length / 64))).take 64 := by
  obtain ⟨h1, h2, h3⟩ := h
  have e0 : r.drop (bs.length % 64 + m) = [] := List.drop_eq_nil_of_le (by omega)
  rw [h3, e0, List.append_nil, List.drop_append_of_le_length (by omega), List.take_append, List.take_of_length_le (l := bs.drop _) (by rw [List.length_drop]; omega)]
  congr 2
  rw [List.length_drop]; omega
theorem wr_end {B : List UInt8} {k : Nat} {r : List UInt8} (hr : r.length = 64) (hk : 64 * k ≤ B.length) (hs : B.length - 64 * k < 64) {m : Nat} (hm : m = B.length - 64 * k) : DOk B (blocks begins8 B k) (r.take 0 ++ (B.drop (64 * k)).take m ++ r.drop (0 + m)) := by
  have e1 : B.length / 64 = k := by omega
  have e2 : B.length % 64 = m := by omega
  refine ⟨by rw [e1], ?_, ?_⟩
  · simp [hr]; omega
  · rw [e1, e2, List.take_of_length_le (l := B.drop _) (by rw [List.length_drop]; omega), List.take_zero, List.nil_append, List.take_append_of_le_length (by rw [List.length_drop]; omega), List.take_of_length_le (by rw [List.length_drop]; omega)]
/-- where the loop of Write stands: so many blocks are in, and the rest lies there -/
structure WrSt (R : HP) (B : List UInt8) where
  (k : Nat) (r : List UInt8) (a : Option Addr) (c : Nat)
  hk : 64 * k ≤ B.length
  hr : r.length = 64
  hd : Rd R a ((B.drop (64 * k)).map bv)
  hc : B.length - 64 * k ≤ c
  hn : a = none → c = 0
theorem piece_rd (R : HP) (s : S8) (xs : List UInt8) (a : Option Addr) (c : Nat) (hr : Rd R a (xs.map bv)) (hx : xs.length = 64) :
    Spec Try.prog 50 [.agg (s.row.map wv).toArray, .slice a 64 c] R (fun _ : Unit => .agg ((piece s xs).row.map wv).toArray) (fun _ => R) := by
  unfold Spec
  intro W0 w st
  cases a with
  | none =>
    have := congrArg List.length (hr.nil W0 w st rfl)
    rw [List.length_map, hx] at this
    cases this
  | some g =>
    have := piece_spec R s xs g c hx
    unfold Spec at this
    exact this W0 w st
set_option maxRecDepth 100000 in
set_option maxHeartbeats 8000000 in
theorem write_spec (R : HP) (d : Nat) (bs ys : List UInt8) (a : Option Addr) (c : Nat) [hrd : Rd R a (ys.map bv)] (hl : bs.length + ys.length ≤ 140737488355000) (hc : ys.length ≤ c) (hn : a = none → c = 0) :
    Spec Try.prog 34 [.pointer (some ⟨d, 0, none⟩), .slice a ys.length c] (DigA d bs * R) (fun _ : Unit => .tuple #[]) (fun _ => DigA d (bs ++ ys) * R) := by
  refine spec_of Try.func34 rfl Try.ntmps34 rfl fun W0 => ?_
  refine ct_ent (B := DigA d bs * R) ?_ (Ent.refl _)
  unfold DigA
  refine ct_ex fun t => ?_
  obtain ⟨⟨w, r⟩, h1, h2, h3⟩ := t
  dsimp only at h1 h2 h3 ⊢
  have hcl := dgC_len (w := w) (n := bs.length) h2
  have hcn := dgC_num (w := w) (n := bs.length) h2
  have hq : 64 * (bs.length / 64) ≤ bs.length := by omega
  have hbl : (bs ++ ys).length = bs.length + ys.length := List.length_append
  focus
    refine ct_seq ?_
    (refine ct_region' rfl ?_; simp only [List.map, lite])
    (refine rg rfl (g_move (by conv => lhs; whnf)) rfl rfl ?_)
    (refine rg rfl (g_nil rfl) rfl rfl ?_)
    (refine rg rfl (g_field0 rfl) rfl rfl ?_)
    (refine rg rfl (g_load rfl (by assumption)) rfl rfl ?_)
    (refine rg rfl (g_remN rfl rfl ?_ ?_) rfl rfl ?_; (· (omega)); (· (omega)))
    (refine rg rfl (g_assign (by conv => lhs; whnf)) rfl rfl ?_)
    refine rt_nil ?_
    refine q_then ?_
    refine ct_seq ?_
    (refine ct_region' rfl ?_; simp only [List.map, lite])
    (refine rg rfl (g_move (by conv => lhs; whnf)) rfl rfl ?_)
    (refine rg rfl (g_nil rfl) rfl rfl ?_)
    (refine rg rfl (g_field0 rfl) rfl rfl ?_)
    (refine rg rfl (g_load rfl (by assumption)) rfl rfl ?_)
    (refine rg rfl (g_move (by conv => lhs; whnf)) rfl rfl ?_)
    (refine rg rfl (g_len_slice rfl) rfl rfl ?_)
    (refine rg rfl (g_addN rfl rfl ?_) rfl rfl ?_; (· (constructor <;> omega)))
    (refine rg rfl (g_nil rfl) rfl rfl ?_)
    (refine rg rfl (g_field0 rfl) rfl rfl ?_)
    (refine rt_op (wants_none rfl) (o_storeI rfl (by conv => lhs; whnf) rfl ?_ rfl ?_); (· (first | omega | decide | (exact pos_of_get (by assumption)) | (simp only [List.length_map, List.length_append, List.length_replicate, List.length_set, List.length_cons, List.length_nil]; omega) | (simp; omega))))
    refine rt_nil ?_
    refine q_then ?_
    rotate_left
  rw [dgC_setN h2, show (bs.length : Int) + ys.length = ((bs ++ ys).length : Int) by rw [hbl]; omega, show (bs.length : Int) % 64 = ((bs.length % 64 : Nat) : Int) by omega]
  refine ct_cut (ι := WrSt R (bs ++ ys)) (fun t => [(0, .pointer (some ⟨d, 0, none⟩)), (1, .slice t.a ((bs ++ ys).length - 64 * t.k) t.c)]) (fun t => Blk d (dgC (blocks begins8 (bs ++ ys) t.k) t.r (bs ++ ys).length) 68 * R) ?_ ?_
  · by_cases hf : bs.length % 64 = 0
    · have hw : blocks begins8 (bs ++ ys) (bs.length / 64) = w := by rw [h1, blocks_pre _ _ _ _ hq]
      focus
        refine ct_seq ?_
        (refine ct_region' rfl ?_; simp only [List.map, lite])
        (refine rg rfl (g_move (by conv => lhs; whnf)) rfl rfl ?_)
        (refine rg rfl (g_gtrF rfl rfl ?_) rfl rfl ?_; (· (omega)))
        refine rt_nil ?_
        refine q_then ?_
        refine ct_false rfl ?_
        refine ct_skip ?_
        rotate_left
      refine q_cut ⟨bs.length / 64, r, a, c, by omega, h2, ?_, by omega, hn⟩ ⟨rfl, ?_, trivial⟩ (by dsimp only; rw [hw]; exact Ent.refl _)
      · rw [show 64 * (bs.length / 64) = bs.length by omega, List.drop_left]; exact hrd
      · exact congrArg (fun n => Value.slice a n c) (by omega : ys.length = (bs ++ ys).length - 64 * (bs.length / 64))
    · have hcl2 := dgC_len (w := w) (n := ((bs ++ ys).length : Int)) h2
      focus
        refine ct_seq ?_
        (refine ct_region' rfl ?_; simp only [List.map, lite])
        (refine rg rfl (g_move (by conv => lhs; whnf)) rfl rfl ?_)
        (refine rg rfl (g_gtrT rfl rfl ?_) rfl rfl ?_; (· (omega)))
        refine rt_nil ?_
        refine q_then ?_
        refine ct_true rfl ?_
        refine ct_seq ?_
        (refine ct_region' rfl ?_; simp only [List.map, lite])
        (refine rg rfl (g_move (by conv => lhs; whnf)) rfl rfl ?_)
        (refine rg rfl (g_nil rfl) rfl rfl ?_)
        (refine rg rfl (g_field0 rfl) rfl rfl ?_)
        (refine rg rfl (g_move (by conv => lhs; whnf)) rfl rfl ?_)
        (refine rg rfl (g_cutA_lo (j := bs.length % 64) rfl rfl (by omega) (by omega) (Int.toNat_natCast _)) rfl rfl ?_)
        (refine rg rfl (g_move (by conv => lhs; whnf)) rfl rfl ?_)
        (refine rt_op (wants_none rfl) (o_copy (i := 8 + bs.length % 64) (m := min ys.length (64 - bs.length % 64)) (news := ys.map bv) rfl rfl rfl (cutAt_lt (by omega)) (by simp) (bvs_all _) rfl (by rw [hcl2]; omega) (dgC_rest h2 (by omega)) ?_))
        (refine rg rfl (g_assign (by conv => lhs; whnf)) rfl rfl ?_)
        refine rt_nil ?_
        refine q_then ?_
        refine ct_seq ?_
        (refine ct_region' rfl ?_; simp only [List.map, lite])
        (refine rg rfl (g_move (by conv => lhs; whnf)) rfl rfl ?_)
        (refine rg rfl (g_move (by conv => lhs; whnf)) rfl rfl ?_)
        (refine rg rfl (g_cutLoN rfl rfl (by omega) hc hn) rfl rfl ?_)
        (refine rg rfl (g_assign (by conv => lhs; whnf)) rfl rfl ?_)
        refine rt_nil ?_
        refine q_then ?_
        refine ct_seq ?_
        refine ct_seq ?_
        (refine ct_region' rfl ?_; simp only [List.map, lite])
        (refine rg rfl (g_move (by conv => lhs; whnf)) rfl rfl ?_)
        (refine rg rfl (g_move (by conv => lhs; whnf)) rfl rfl ?_)
        (refine rg rfl (g_addN rfl rfl ?_) rfl rfl ?_; (· (constructor <;> omega)))
        (refine rg rfl (g_lss rfl rfl) rfl rfl ?_)
        refine rt_nil ?_
        refine q_then ?_
        refine ct_if rfl (fun h35 => ?_) (fun h35 => ?_)
        refine ct_ret ?_
        refine q_then_ret ?_
        refine q_then_ret ?_
        rotate_left
        refine ct_skip ?_
        refine q_then ?_
        rotate_left
      · exact q_ret0 rfl () rfl (Ent.mul (dig_mk (wr_short ⟨h1, h2, h3⟩ (by omega) (by omega))) (Ent.refl _)) (by first | exact .inl rfl | exact .inr rfl)
      · have hm : min ys.length (64 - bs.length % 64) ≤ ys.length := by omega
        have hm2 : bs.length % 64 + min ys.length (64 - bs.length % 64) = 64 := by omega
        rw [wr_block ⟨h1, h2, h3⟩ hm hm2]
        generalize min ys.length (64 - bs.length % 64) = m at hm hm2
        have hX : (((bs ++ ys).drop (64 * (bs.length / 64))).take 64).length = 64 := by rw [List.length_take, List.length_drop]; omega
        have hw : blocks begins8 (bs ++ ys) (bs.length / 64) = w := by rw [h1, blocks_pre _ _ _ _ hq]
        have hp : piece w (((bs ++ ys).drop (64 * (bs.length / 64))).take 64) = blocks begins8 (bs ++ ys) (bs.length / 64 + 1) := by rw [← hw]; rfl
        generalize ((bs ++ ys).drop (64 * (bs.length / 64))).take 64 = X at hX hp
        have hpc : Spec Try.prog 50 [.agg (w.row.map wv).toArray, .slice (some ⟨d, 8, none⟩) 64 64] (Blk d (dgC w X (bs ++ ys).length) 68 * R) (fun _ : Unit => .agg ((blocks begins8 (bs ++ ys) (bs.length / 64 + 1)).row.map wv).toArray) (fun _ => Blk d (dgC w X (bs ++ ys).length) 68 * R) := by
          rw [← hp]
          exact piece_rd _ w X (some ⟨d, 8, none⟩) 64 (dg_rd (Ent.refl _)) hX
        focus
          refine ct_tail 12 (by kernel_rfl) rfl ?_
          simp only [List.map, lite, List.take, List.drop]
          (refine qg rfl (g_move (by conv => lhs; whnf)) rfl rfl ?_)
          (refine qg rfl (g_move (by conv => lhs; whnf)) rfl rfl ?_)
          (refine qg rfl (g_nil rfl) rfl rfl ?_)
          (refine qg rfl (g_field0 rfl) rfl rfl ?_)
          (refine qg rfl (g_load_agg (vs := w.row.map wv) rfl rfl (dg_reads (B := R) (Ent.refl _))) rfl rfl ?_)
          (refine qg rfl (g_move (by conv => lhs; whnf)) rfl rfl ?_)
          (refine qg rfl (g_nil rfl) rfl rfl ?_)
          (refine qg rfl (g_field0 rfl) rfl rfl ?_)
          (refine qg rfl (g_cutA rfl) rfl rfl ?_)
          (refine rq_callE (wants_none rfl) rfl rfl ((Ent.refl _).trans (Ent.mul (Ent.refl _) ((Ent.addEmp _).trans (Ent.dropR _ _)))) (hpc) (fun _ => rfl) (fun _ => En.ent) ?_)
          (refine qg rfl (g_nil rfl) rfl rfl ?_)
          (refine qg rfl (g_field0 rfl) rfl rfl ?_)
          refine rq_tail ?_
          (refine rt_op (wants_none rfl) (o_storeAgg_off (size := 8) (vl := (blocks begins8 (bs ++ ys) (bs.length / 64 + 1)).row.map wv) rfl rfl rfl (wvs_all _) rfl (by rw [dgC_len hX]; omega) (dgC_words _) ?_))
          refine rt_nil ?_
          rotate_left
        refine q_cut ⟨bs.length / 64 + 1, X, a.map fun g => cutAt g c m 1, c - m, by omega, hX, ?_, by omega, fun h => by have := hn (Option.map_eq_none_iff.1 h); omega⟩ ⟨rfl, ?_, trivial⟩ (Ent.refl _)
        · have := hrd.cut (cap := c) (j := m) (size := 1) (by simpa using hc)
          rw [Nat.mul_one, ← List.map_drop] at this
          rw [show 64 * (bs.length / 64 + 1) = bs.length + m by omega, ← List.drop_drop, List.drop_left]
          exact this
        · exact congrArg (fun n => Value.slice (a.map fun g => cutAt g c m 1) n (c - m)) (by omega : ys.length - m = (bs ++ ys).length - 64 * (bs.length / 64 + 1))
  · clear h1 h2 h3 hcl hcn hrd hc hn
    rintro ⟨k0, r0, a0, c0, hk0, hr0, hd0, hc0, hn0⟩ ρ'
    generalize bs ++ ys = B at *
    dsimp only
    focus
      refine ct_seq ?_
      refine ct_block ?_
      rotate_left
    refine ct_loop (ι := WrSt R B) (fun t => [(0, .pointer (some ⟨d, 0, none⟩)), (1, .slice t.a (B.length - 64 * t.k) t.c)]) (fun t => Blk d (dgC (blocks begins8 B t.k) t.r B.length) 68 * R) (fun t => B.length - 64 * t.k)
      ⟨k0, r0, a0, c0, hk0, hr0, hd0, hc0, hn0⟩ ⟨rfl, rfl, trivial⟩ (Ent.refl _) fun t ρ' => ?_
    clear hk0 hr0 hd0 hc0 hn0
    obtain ⟨k, r, a, c, hk, hr, hd, hc, hn⟩ := t
    dsimp only at hk hr hd hc hn ⊢
    by_cases h : 64 ≤ B.length - 64 * k
    · have hX : ((B.drop (64 * k)).take 64).length = 64 := by rw [List.length_take, List.length_drop]; omega
      have hpc : ∀ (R' : HP) (_ : Ent R' R), Spec Try.prog 50 [.agg ((blocks begins8 B k).row.map wv).toArray, .slice a 64 c] R' (fun _ : Unit => .agg ((blocks begins8 B (k + 1)).row.map wv).toArray) (fun _ => R') := fun R' e =>
        piece_rd R' (blocks begins8 B k) ((B.drop (64 * k)).take 64) a c (by rw [List.map_take]; exact (hd.of_ent e).take 64) hX
      have hpc2 := hpc (Blk d (dgC (blocks begins8 B k) r B.length) 68 * R) (Ent.dropL _ _)
      clear hpc
      focus
        refine ct_seq ?_
        refine ct_seq ?_
        (refine ct_region' rfl ?_; simp only [List.map, lite])
        (refine rg rfl (g_move (by conv => lhs; whnf)) rfl rfl ?_)
        (refine rg rfl (g_len_slice rfl) rfl rfl ?_)
        (refine rg rfl (g_geqT rfl rfl ?_) rfl rfl ?_; (· (omega)))
        refine rt_nil ?_
        refine q_then ?_
        refine ct_true rfl ?_
        refine ct_skip ?_
        refine q_then ?_
        refine ct_block ?_
        refine ct_seq ?_
        refine ct_tail 10 (by kernel_rfl) rfl ?_
        simp only [List.map, lite, List.take, List.drop]
        (refine qg rfl (g_move (by conv => lhs; whnf)) rfl rfl ?_)
        (refine qg rfl (g_move (by conv => lhs; whnf)) rfl rfl ?_)
        (refine qg rfl (g_nil rfl) rfl rfl ?_)
        (refine qg rfl (g_field0 rfl) rfl rfl ?_)
        (refine qg rfl (g_load_agg (vs := (blocks begins8 B k).row.map wv) rfl rfl (dg_reads (B := R) (Ent.refl _))) rfl rfl ?_)
        (refine qg rfl (g_move (by conv => lhs; whnf)) rfl rfl ?_)
        (refine qg rfl (g_cut_hi rfl rfl ?_ ?_ (by exact Int.toNat_natCast _)) rfl rfl ?_; (· (omega)); (· (omega)))
        (refine rq_callE (wants_none rfl) rfl rfl ((Ent.refl _).trans (Ent.mul (Ent.refl _) ((Ent.addEmp _).trans (Ent.dropR _ _)))) (hpc2) (fun _ => rfl) (fun _ => En.ent) ?_)
        (refine qg rfl (g_nil rfl) rfl rfl ?_)
        (refine qg rfl (g_field0 rfl) rfl rfl ?_)
        refine rq_tail ?_
        (refine rt_op (wants_none rfl) (o_storeAgg_off (size := 8) (vl := (blocks begins8 B (k + 1)).row.map wv) rfl rfl rfl (wvs_all _) rfl (by rw [dgC_len hr]; omega) (dgC_words _) ?_))
        refine rt_nil ?_
        refine q_then ?_
        (refine ct_region' rfl ?_; simp only [List.map, lite])
        (refine rg rfl (g_move (by conv => lhs; whnf)) rfl rfl ?_)
        (refine rg rfl (g_cutLoN (j := 64) rfl rfl (by omega) hc hn) rfl rfl ?_)
        (refine rg rfl (g_assign (by conv => lhs; whnf)) rfl rfl ?_)
        refine rt_nil ?_
        refine q_block ?_
        rotate_left
      refine q_again ⟨k + 1, r, a.map fun g => cutAt g c 64 1, c - 64, by omega, hr, ?_, by omega, fun h => by have := hn (Option.map_eq_none_iff.1 h); omega⟩ (by show B.length - 64 * (k + 1) < B.length - 64 * k; omega) ⟨rfl, ?_, trivial⟩ (Ent.refl _)
      · have := hd.cut (cap := c) (j := 64) (size := 1) (by simpa using hc)
        rw [Nat.mul_one, ← List.map_drop, List.drop_drop] at this
        exact this
      · exact congrArg (fun n => Value.slice (a.map fun g => cutAt g c 64 1) n (c - 64)) (by omega : B.length - 64 * k - 64 = B.length - 64 * (k + 1))
    · have hcl := dgC_len (w := blocks begins8 B k) (n := (B.length : Int)) hr
      focus
        refine ct_seq ?_
        refine ct_seq ?_
        (refine ct_region' rfl ?_; simp only [List.map, lite])
        (refine rg rfl (g_move (by conv => lhs; whnf)) rfl rfl ?_)
        (refine rg rfl (g_len_slice rfl) rfl rfl ?_)
        (refine rg rfl (g_geqF rfl rfl ?_) rfl rfl ?_; (· (omega)))
        refine rt_nil ?_
        refine q_then ?_
        refine ct_false rfl ?_
        refine ct_exit ?_
        refine q_then_exit ?_
        refine q_then_exit ?_
        refine q_block_exit ?_
        refine q_then ?_
        (refine ct_region' rfl ?_; simp only [List.map, lite])
        (refine rg rfl (g_move (by conv => lhs; whnf)) rfl rfl ?_)
        (refine rg rfl (g_nil rfl) rfl rfl ?_)
        (refine rg rfl (g_field0 rfl) rfl rfl ?_)
        (refine rg rfl (g_cutA rfl) rfl rfl ?_)
        (refine rg rfl (g_move (by conv => lhs; whnf)) rfl rfl ?_)
        (refine rt_op (wants_none rfl) (o_copy (i := 8 + 0) (m := min (B.length - 64 * k) 64) (news := (B.drop (64 * k)).map bv) rfl rfl rfl rfl (by simp) (bvs_all _) rfl (by rw [hcl]; omega) (dgC_rest hr (by omega)) ?_))
        refine rt_nil ?_
        rotate_left
      exact q_ret0 rfl () rfl (Ent.mul (dig_mk (wr_end hr hk (by omega) (by omega))) (Ent.refl _)) (by first | exact .inl rfl | exact .inr rfl)
end Go.Proofs.Ytmhddmenmkjdlaa
