/- sha: the reference's hash. -/
import Derived.Test.YtmhddmenmkjdlaaS5
namespace Go.Proofs.Ytmhddmenmkjdlaa
open Go.RowKit
attribute [local irreducible] Gives RT CT QT Spec Wants Reads Src Ent OT RQ AnyT AnyOp Again Code.wp Post

def begins8 : S8 := ⟨0x6a09e667, 0xbb67ae85, 0x3c6ef372, 0xa54ff53a, 0x510e527f, 0x9b05688c, 0x1f83d9ab, 0x5be0cd19⟩
def blocks (s : S8) (p : List UInt8) : Nat → S8
  | 0 => s
  | k + 1 => piece (blocks s p k) ((p.drop (64 * k)).take 64)
def hB (r : List UInt32) (i : Nat) : UInt8 := UInt8.ofNat ((wAt r (i / 4)).toNat / 2 ^ (24 - 8 * (i % 4)))
def hBs (r : List UInt32) (k : Nat) : List UInt8 := (List.range k).map (hB r)
def shaOf (xs : List UInt8) : List UInt8 := hBs (blocks begins8 (xs ++ pad xs.length) ((xs ++ pad xs.length).length / 64)).row 32
theorem hBs_next (r : List UInt32) (k : Nat) : hBs r (k + 1) = hBs r k ++ [hB r k] := by unfold hBs; rw [List.range_succ, List.map_append]; rfl
theorem hBs_len (r : List UInt32) (k : Nat) : (hBs r k).length = k := by unfold hBs; simp
/-- the hash's cells, so far -/
def hRow (r : List UInt32) (k : Nat) : List UInt8 := hBs r k ++ List.replicate (32 - k) 0
theorem hRow_len (r : List UInt32) {k : Nat} (h : k ≤ 32) : (hRow r k).length = 32 := by unfold hRow; rw [List.length_append, hBs_len, List.length_replicate]; omega
theorem hRow_set (r : List UInt32) (k : Nat) (h : k < 32) : ((hRow r k).map bv).set k (bv (hB r k)) = (hRow r (k + 1)).map bv := by
  unfold hRow
  rw [← List.map_set, List.set_append, if_neg (by rw [hBs_len]; omega), hBs_len, Nat.sub_self, show 32 - k = (32 - (k + 1)) + 1 by omega, List.replicate_succ, List.set_cons_zero, hBs_next, List.append_assoc]
  rfl
theorem hRow_end (r : List UInt32) : hRow r 32 = hBs r 32 := by unfold hRow; simp
theorem row_at (s : S8) : ∀ j, j < 8 → (s.row.map wv)[j]? = some (wv (wAt s.row j))
  | 0, _ | 1, _ | 2, _ | 3, _ | 4, _ | 5, _ | 6, _ | 7, _ => rfl
  | n + 8, h => by omega
theorem pad_len (n : Nat) : (pad n).length = 9 + zpad n := by simp [padTo, lenBytes_len]; omega
theorem padded_len (xs : List UInt8) : (xs ++ pad xs.length).length % 64 = 0 := by
  have := zpad_end xs.length
  rw [List.length_append, pad_len]; omega
theorem pieceR_rd (R : HP) (s : S8) (xs : List UInt8) (a : Option Addr) (c : Nat) (hr : Rd R a (xs.map bv)) (hx : xs.length = 64) :
    Spec Try.prog 40 [.agg (s.row.map wv).toArray, .slice a 64 c, .agg (rounds0.map wv).toArray] R (fun _ : Unit => .agg ((piece s xs).row.map wv).toArray) (fun _ => R) := by
  unfold Spec
  intro W0 w st
  cases a with
  | none =>
    have := congrArg List.length (hr.nil W0 w st rfl)
    rw [List.length_map, hx] at this
    cases this
  | some g =>
    have := pieceR_spec R s xs g c (hr.rd g rfl) hx
    unfold Spec at this
    exact this W0 w st
theorem cut_rd {A : HP} {ad : Option Addr} {xs : List UInt8} (h : Rd A ad (xs.map bv)) {cap q : Nat} (hc : xs.length ≤ cap) : Rd A (ad.map fun g => cutAt g cap q 1) (((xs.drop q).take 64).map bv) := by
  have := (h.cut (cap := cap) (j := q) (size := 1) (by simpa using hc)).take 64
  rw [Nat.mul_one, ← List.map_drop, ← List.map_take] at this
  exact this
set_option maxRecDepth 100000 in
set_option maxHeartbeats 8000000 in
theorem ofR_spec (R : HP) (a : Option Addr) (c : Nat) (xs : List UInt8) [hr : Rd R a (xs.map bv)] (hl : xs.length ≤ 140737488354000) :
    Spec Try.prog 13 [.slice a xs.length c] R (fun _ : Unit => .agg ((shaOf xs).map bv).toArray) (fun _ => R) := by
  refine spec_of Try.func13 rfl Try.ntmps13 rfl fun W0 => ?_
  have h0 := padded_len xs
  have hzl := zpad_lt xs.length
  have hpl : (xs ++ pad xs.length).length = xs.length + (9 + zpad xs.length) := by rw [List.length_append, pad_len]
  unfold shaOf
  focus
    refine ct_seq ?_
    (refine ct_region' rfl ?_; simp only [List.map, lite])
    (refine rt_op (wants_none rfl) (o_alloc rfl (by conv => lhs; whnf) fun b2 => ?_))
    refine rt_nil ?_
    refine q_then ?_
    refine ct_seq ?_
    (refine ct_region' rfl ?_; simp only [List.map, lite])
    (refine rg rfl (g_move (by conv => lhs; whnf)) rfl rfl ?_)
    (refine rt_op (wants_none rfl) (o_callE rfl rfl (Ent.refl _) (Go.Proofs.Ytmhddmenmkjdlaa.padded_spec _ _ _ _ ?_) fun i10 => ?_); (· (first | assumption | omega | rfl | decide | infer_instance | (simp; done) | (simp; omega) | (simp only [*]; done))))
    (refine rg rfl (g_assign (by conv => lhs; whnf)) rfl rfl ?_)
    refine rt_nil ?_
    refine q_then ?_
    refine ct_seq ?_
    (refine ct_region' rfl ?_; simp only [List.map, lite])
    (refine rt_op (wants_none rfl) (o_callE rfl rfl (Ent.refl _) (Go.Proofs.Ytmhddmenmkjdlaa.beginsR_spec _) fun i11 => ?_))
    (refine rt_op (wants_none rfl) (o_alloc rfl (by conv => lhs; whnf) fun b4 => ?_))
    (refine rt_op (wants_none rfl) (o_storeAgg rfl (by conv => lhs; whnf) (by first | exact List.toList_toArray | (conv => lhs; whnf)) (by first | rfl | exact bvsAll _ | exact wvs_all _ | assumption) (by first | rfl | assumption | (simp; done) | (simp; omega)) (by first | rfl | assumption | (simp; done) | (simp; omega)) ?_))
    refine rt_nil ?_
    refine q_then ?_
    refine ct_seq ?_
    (refine ct_region' rfl ?_; simp only [List.map, lite])
    (refine rt_op (wants_none rfl) (o_callE rfl rfl (Ent.refl _) (Go.Proofs.Ytmhddmenmkjdlaa.roundsR_spec _) fun i12 => ?_))
    (refine rt_op (wants_none rfl) (o_alloc rfl (by conv => lhs; whnf) fun b5 => ?_))
    (refine rt_op (wants_none rfl) (o_storeAgg rfl (by conv => lhs; whnf) (by first | exact List.toList_toArray | (conv => lhs; whnf)) (by first | rfl | exact bvsAll _ | exact wvs_all _ | assumption) (by first | rfl | assumption | (simp; done) | (simp; omega)) (by first | rfl | assumption | (simp; done) | (simp; omega)) ?_))
    refine rt_nil ?_
    refine q_then ?_
    refine ct_seq ?_
    refine ct_seq ?_
    (refine ct_region' rfl ?_; simp only [List.map, lite])
    (refine rg rfl (g_assign (by conv => lhs; whnf)) rfl rfl ?_)
    refine rt_nil ?_
    refine q_then ?_
    refine ct_block ?_
    rotate_left
  obtain ⟨pa, pc⟩ := i10
  dsimp only
  generalize hP : xs ++ pad xs.length = P at h0 hpl ⊢
  refine ct_arr 5 1 pa pc fun f1 f2 f3 f4 => ?_
  refine ct_loop (ι := { k : Nat // k ≤ P.length / 64 }) (fun k => [(2, .pointer (some ⟨b2, 0, none⟩)), (3, .slice pa P.length pc), (4, .pointer (some ⟨b4, 0, none⟩)), (5, .pointer (some ⟨b5, 0, none⟩)), (6, .int .i64 ((64 * k.1 : Nat) : Int))]) (fun k => Blk b5 (rounds0.map wv) 63 * (Blk b4 ((blocks begins8 P k.1).row.map wv) 61 * (Arr 5 1 pa pc P.length (P.map bv) * (Blk b2 ((List.replicate 32 (0 : UInt8)).map bv) 23 * R)))) (fun k => P.length / 64 - k.1)
    ⟨0, Nat.zero_le _⟩ ⟨rfl, rfl, rfl, rfl, rfl, trivial⟩ (Ent.refl _) fun k ρ' => ?_
  obtain ⟨k, hk⟩ := k
  dsimp only at hk ⊢
  by_cases h : k < P.length / 64
  · have hpc : ∀ (R' : HP) [Rd R' pa (P.map bv)], Spec Try.prog 40 [.agg ((blocks begins8 P k).row.map wv).toArray, .slice (pa.map fun g => cutAt g pc (64 * k) 1) (64 * k + 64 - 64 * k) (pc - 64 * k), .agg (rounds0.map wv).toArray] R' (fun _ : Unit => .agg ((blocks begins8 P (k + 1)).row.map wv).toArray) (fun _ => R') := fun R' hR => by
      rw [show 64 * k + 64 - 64 * k = 64 by omega]
      exact pieceR_rd R' (blocks begins8 P k) ((P.drop (64 * k)).take 64) _ _ (cut_rd hR f3) (by rw [List.length_take, List.length_drop]; omega)
    have hpn : pa = none → pc = 0 := fun h => (f2 h).2
    have h64 : 64 * k + 64 ≤ P.length := by omega
    focus
      refine ct_seq ?_
      refine ct_seq ?_
      (refine ct_region' rfl ?_; simp only [List.map, lite])
      (refine rg rfl (g_move (by conv => lhs; whnf)) rfl rfl ?_)
      (refine rg rfl (g_move (by conv => lhs; whnf)) rfl rfl ?_)
      (refine rg rfl (g_len_slice rfl) rfl rfl ?_)
      (refine rg rfl (g_lssT rfl rfl ?_) rfl rfl ?_; (· (omega)))
      refine rt_nil ?_
      refine q_then ?_
      refine ct_true rfl ?_
      refine ct_skip ?_
      refine q_then ?_
      refine ct_seq ?_
      refine ct_block ?_
      refine ct_tail 7 (by kernel_rfl) rfl ?_
      simp only [List.map, lite, List.take, List.drop]
      (refine qg rfl (g_loadAgg_blk rfl (by first | rfl | assumption | (simp; done) | (simp; omega))) rfl rfl ?_)
      (refine qg rfl (g_move (by conv => lhs; whnf)) rfl rfl ?_)
      (refine qg rfl (g_move (by conv => lhs; whnf)) rfl rfl ?_)
      (refine qg rfl (g_move (by conv => lhs; whnf)) rfl rfl ?_)
      (refine qg rfl (g_addN rfl rfl ?_) rfl rfl ?_; (· (constructor <;> omega)))
      (refine qg rfl (g_cutN rfl rfl rfl ?_ ?_ ?_ ?_) rfl rfl ?_; (· (omega)); (· (omega)); (· (omega)); (· (first | assumption | (intro h; omega) | (intro h; cases h))))
      (refine qg rfl (g_loadAgg_blk rfl (by first | rfl | assumption | (simp; done) | (simp; omega))) rfl rfl ?_)
      refine rq_tail ?_
      (refine rt_op (wants_none rfl) (o_callE rfl rfl (Ent.refl _) (hpc _) fun i26 => ?_))
      (refine rt_op (wants_none rfl) (o_storeAgg rfl (by conv => lhs; whnf) (by first | exact List.toList_toArray | (conv => lhs; whnf)) (by first | rfl | exact bvsAll _ | exact wvs_all _ | assumption) (by first | rfl | assumption | (simp; done) | (simp; omega)) (by first | rfl | assumption | (simp; done) | (simp; omega)) ?_))
      refine rt_nil ?_
      refine q_block ?_
      refine q_then ?_
      (refine ct_region' rfl ?_; simp only [List.map, lite])
      (refine rg rfl (g_move (by conv => lhs; whnf)) rfl rfl ?_)
      (refine rg rfl (g_addN rfl rfl ?_) rfl rfl ?_; (· (constructor <;> omega)))
      (refine rg rfl (g_assign (by conv => lhs; whnf)) rfl rfl ?_)
      refine rt_nil ?_
      rotate_left
    exact q_again ⟨k + 1, by omega⟩ (by show P.length / 64 - (k + 1) < P.length / 64 - k; omega) ⟨rfl, rfl, rfl, rfl, (congrArg (Value.int .i64) (by omega) : Value.int .i64 (((64 * k : Nat) : Int) + 64) = .int .i64 ((64 * (k + 1) : Nat) : Int)), trivial⟩ (by exact En.ent)
  · obtain rfl : k = P.length / 64 := by omega
    generalize blocks begins8 P (P.length / 64) = s8
    focus
      refine ct_seq ?_
      refine ct_seq ?_
      (refine ct_region' rfl ?_; simp only [List.map, lite])
      (refine rg rfl (g_move (by conv => lhs; whnf)) rfl rfl ?_)
      (refine rg rfl (g_move (by conv => lhs; whnf)) rfl rfl ?_)
      (refine rg rfl (g_len_slice rfl) rfl rfl ?_)
      (refine rg rfl (g_lssF rfl rfl ?_) rfl rfl ?_; (· (omega)))
      refine rt_nil ?_
      refine q_then ?_
      refine ct_false rfl ?_
      refine ct_exit ?_
      refine q_then_exit ?_
      refine q_then_exit ?_
      refine q_block_exit ?_
      refine q_then ?_
      refine ct_seq ?_
      (refine ct_region' rfl ?_; simp only [List.map, lite])
      (refine rg rfl (g_buildZ rfl) rfl rfl ?_)
      (refine rt_op (wants_none rfl) (o_alloc rfl (by conv => lhs; whnf) fun b7 => ?_))
      (refine rt_op (wants_none rfl) (o_storeAgg rfl (by conv => lhs; whnf) (by first | exact List.toList_toArray | (conv => lhs; whnf)) (by first | rfl | exact bvsAll _ | exact wvs_all _ | assumption) (by first | rfl | assumption | (simp; done) | (simp; omega)) (by first | rfl | assumption | (simp; done) | (simp; omega)) ?_))
      refine rt_nil ?_
      refine q_then ?_
      refine ct_seq ?_
      refine ct_seq ?_
      (refine ct_region' rfl ?_; simp only [List.map, lite])
      (refine rg rfl (g_assign (by conv => lhs; whnf)) rfl rfl ?_)
      refine rt_nil ?_
      refine q_then ?_
      refine ct_block ?_
      rotate_left
    refine ct_ent (B := Blk b7 ((hRow s8.row 0).map bv) 23 * (Blk b4 (s8.row.map wv) 61 * (Blk b2 ((List.replicate 32 (0 : UInt8)).map bv) 23 * R))) ?_ (Ent.mul (Ent.refl _) ((Ent.dropL _ _).trans (Ent.mul (Ent.refl _) ((Ent.dropL _ _).trans (Ent.refl _)))))
    refine ct_loop (ι := { i : Nat // i ≤ 32 }) (fun i => [(2, .pointer (some ⟨b2, 0, none⟩)), (4, .pointer (some ⟨b4, 0, none⟩)), (7, .pointer (some ⟨b7, 0, none⟩)), (8, .int .i64 (i.1 : Int))]) (fun i => Blk b7 ((hRow s8.row i.1).map bv) 23 * (Blk b4 (s8.row.map wv) 61 * (Blk b2 ((List.replicate 32 (0 : UInt8)).map bv) 23 * R))) (fun i => 32 - i.1)
      ⟨0, Nat.zero_le _⟩ ⟨rfl, rfl, rfl, rfl, trivial⟩ (Ent.refl _) fun i ρ' => ?_
    obtain ⟨i, hi⟩ := i
    dsimp only at hi ⊢
    have hrl := hRow_len s8.row hi
    by_cases h : i < 32
    · have hra := row_at s8 (i / 4) (by omega)
      have hset := hRow_set s8.row i h
      have hml : ((hRow s8.row i).map bv).length = 32 := by rw [List.length_map]; exact hrl
      have hbyte : Value.int .u8 (IntKind.u8.wrap (((wAt s8.row (i / 4)).toNat : Int) / 2 ^ min (24 - 8 * (i % 4)) 32)) = bv (hB s8.row i) := by
        have e : min (24 - 8 * (i % 4)) 32 = 24 - 8 * (i % 4) := by omega
        have e2 : ((wAt s8.row (i / 4)).toNat : Int) / 2 ^ (24 - 8 * (i % 4)) = (((wAt s8.row (i / 4)).toNat / 2 ^ (24 - 8 * (i % 4)) : Nat) : Int) := by norm_cast
        rw [e, e2, byte_of]; rfl
      focus
        refine ct_seq ?_
        refine ct_seq ?_
        (refine ct_region' rfl ?_; simp only [List.map, lite])
        (refine rg rfl (g_move (by conv => lhs; whnf)) rfl rfl ?_)
        (refine rg rfl (g_lssT rfl rfl ?_) rfl rfl ?_; (· (omega)))
        refine rt_nil ?_
        refine q_then ?_
        refine ct_true rfl ?_
        refine ct_skip ?_
        refine q_then ?_
        refine ct_seq ?_
        refine ct_block ?_
        (refine ct_region' rfl ?_; simp only [List.map, lite])
        (refine rg rfl (g_move (by conv => lhs; whnf)) rfl rfl ?_)
        (refine rg rfl (g_move (by conv => lhs; whnf)) rfl rfl ?_)
        (refine rg rfl (g_quoN rfl rfl ?_ ?_ ?_) rfl rfl ?_; (· (omega)); (· (omega)); (· (constructor <;> omega)))
        (refine rg rfl (g_elemB1 rfl rfl ?_) rfl rfl ?_; (· (first | omega | decide)))
        (refine rg rfl (g_load rfl (by assumption)) rfl rfl ?_)
        (refine rg rfl (g_move (by conv => lhs; whnf)) rfl rfl ?_)
        (refine rg rfl (g_remN rfl rfl ?_ ?_) rfl rfl ?_; (· (omega)); (· (omega)))
        (refine rg rfl (g_mulN rfl rfl ?_) rfl rfl ?_; (· (constructor <;> omega)))
        (refine rg rfl (g_subNN rfl rfl ?_ ?_) rfl rfl ?_; (· (omega)); (· (constructor <;> omega)))
        (refine rg rfl (g_shrN rfl rfl ?_ ?_ (by simp [IntKind.bits]; rfl)) rfl rfl ?_; (· (omega)); (· (omega)))
        (refine rg rfl (g_conv rfl) rfl rfl ?_)
        (refine rg rfl (g_elemB1 rfl rfl ?_) rfl rfl ?_; (· (first | omega | decide)))
        (refine rt_op (wants_none rfl) (o_storeI rfl (by conv => lhs; whnf) rfl ?_ rfl ?_); (· (first | omega | decide | (exact pos_of_get (by assumption)) | (simp only [List.length_map, List.length_append, List.length_replicate, List.length_set, List.length_cons, List.length_nil]; omega) | (simp; omega))))
        refine rt_nil ?_
        refine q_block ?_
        refine q_then ?_
        (refine ct_region' rfl ?_; simp only [List.map, lite])
        (refine rg rfl (g_move (by conv => lhs; whnf)) rfl rfl ?_)
        (refine rg rfl (g_addN rfl rfl ?_) rfl rfl ?_; (· (constructor <;> omega)))
        (refine rg rfl (g_assign (by conv => lhs; whnf)) rfl rfl ?_)
        refine rt_nil ?_
        rotate_left
      rw [hbyte, hset]
      exact q_again ⟨i + 1, by omega⟩ (by show 32 - (i + 1) < 32 - i; omega) ⟨rfl, rfl, rfl, rfl, trivial⟩ (Ent.refl _)
    · obtain rfl : i = 32 := by omega
      rw [hRow_end]
      have hml : ((hBs s8.row 32).map bv).length = 32 := by rw [List.length_map]; exact hBs_len _ _
      focus
        refine ct_seq ?_
        refine ct_seq ?_
        (refine ct_region' rfl ?_; simp only [List.map, lite])
        (refine rg rfl (g_move (by conv => lhs; whnf)) rfl rfl ?_)
        (refine rg rfl (g_lssF rfl rfl ?_) rfl rfl ?_; (· (omega)))
        refine rt_nil ?_
        refine q_then ?_
        refine ct_false rfl ?_
        refine ct_exit ?_
        refine q_then_exit ?_
        refine q_then_exit ?_
        refine q_block_exit ?_
        refine q_then ?_
        refine ct_seq ?_
        (refine ct_region' rfl ?_; simp only [List.map, lite])
        (refine rg rfl (g_loadAgg_blk rfl (by first | rfl | assumption | (simp; done) | (simp; omega))) rfl rfl ?_)
        (refine rt_op (wants_none rfl) (o_storeAgg rfl (by conv => lhs; whnf) (by first | exact List.toList_toArray | (conv => lhs; whnf)) (by first | rfl | exact bvsAll _ | exact wvs_all _ | assumption) (by first | rfl | assumption | (simp; done) | (simp; omega)) (by first | rfl | assumption | (simp; done) | (simp; omega)) ?_))
        refine rt_nil ?_
        refine q_then ?_
        refine ct_ret ?_
        exact q_retC rfl (cell_blk rfl (by first | rfl | assumption | (simp; done) | (simp; omega))) () rfl En.ent
end Go.Proofs.Ytmhddmenmkjdlaa
