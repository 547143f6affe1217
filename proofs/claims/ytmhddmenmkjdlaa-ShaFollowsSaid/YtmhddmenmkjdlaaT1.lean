/- sha: Parse. -/
import Derived.Test.YtmhddmenmkjdlaaS9
import Derived.Test.YtmhddmenmkjdlaaXb
namespace Go.Proofs.Ytmhddmenmkjdlaa
open Go.RowKit
attribute [local irreducible] Gives RT CT QT Spec Wants Reads Src Ent OT RQ AnyT AnyOp Again Code.wp Post

instance fnb53 : FnB Try.prog 53 := ⟨fun _ _ => by kernel_rfl⟩
def digs : ByteArray := ⟨#[48, 49, 50, 51, 52, 53, 54, 55, 56, 57, 97, 98, 99, 100, 101, 102]⟩
/-- a digit's number, or -1 -/
def dig (c : UInt8) : Int := if 48 ≤ c ∧ c ≤ 57 then (c.toNat : Int) - 48 else if 97 ≤ c ∧ c ≤ 102 then (c.toNat : Int) - 87 else -1
theorem dig_all : ∀ c : Fin 256, firstIdx digs (UInt8.ofNat c.val) = dig (UInt8.ofNat c.val) := by decide +kernel
theorem dig_of (c : UInt8) : firstIdx digs c = dig c := by
  have := dig_all ⟨c.toNat, c.toNat_lt⟩
  simpa using this
theorem dig_in (c : UInt8) : -1 ≤ dig c ∧ dig c ≤ 15 := by
  have key : ∀ c : Fin 256, -1 ≤ dig (UInt8.ofNat c.val) ∧ dig (UInt8.ofNat c.val) ≤ 15 := by decide +kernel
  have := key ⟨c.toNat, c.toNat_lt⟩
  simpa using this
theorem indexL_spec (R : HP) (c : UInt8) : Spec Try.prog 53 [.string digs, bv c] R (fun _ : Unit => .int .i64 (dig c)) (fun _ => R) := by
  refine spec_of Try.func53 rfl Try.ntmps53 rfl fun W0 => ?_
  rw [← dig_of]
  focus
    refine ct_seq ?_
    (refine ct_region' rfl ?_; simp only [List.map, lite])
    (refine rg rfl (g_assign (by conv => lhs; whnf)) rfl rfl ?_)
    refine rt_nil ?_
    refine q_then ?_
    refine ct_seq ?_
    (refine ct_region' rfl ?_; simp only [List.map, lite])
    (refine rg rfl (g_move (by conv => lhs; whnf)) rfl rfl ?_)
    (refine rg rfl (g_move (by conv => lhs; whnf)) rfl rfl ?_)
    (refine rg rfl (g_indexByte Try.func59 (by kernel_rfl) (by kernel_rfl) (by kernel_rfl) (by rfl) rfl rfl) rfl rfl ?_)
    (refine rg rfl (g_assign (by conv => lhs; whnf)) rfl rfl ?_)
    refine rt_nil ?_
    refine q_then ?_
    refine ct_ret ?_
    exact q_ret1 rfl rfl () rfl En.ent
theorem index_spec (R : HP) (c : UInt8) : Spec Try.prog 42 [.string digs, bv c] R (fun _ : Unit => .int .i64 (dig c)) (fun _ => R) := by
  refine spec_of Try.func42 rfl Try.ntmps42 rfl fun W0 => ?_
  have h := fun (R' : HP) => indexL_spec R' c
  focus
    refine ct_seq ?_
    (refine ct_region' rfl ?_; simp only [List.map, lite])
    (refine rg rfl (g_assign (by conv => lhs; whnf)) rfl rfl ?_)
    refine rt_nil ?_
    refine q_then ?_
    refine ct_seq ?_
    (refine ct_region' rfl ?_; simp only [List.map, lite])
    (refine rg rfl (g_move (by conv => lhs; whnf)) rfl rfl ?_)
    (refine rg rfl (g_move (by conv => lhs; whnf)) rfl rfl ?_)
    (refine rt_op (wants_none rfl) (o_callE rfl rfl (Ent.refl _) (h _) fun i7 => ?_))
    (refine rg rfl (g_assign (by conv => lhs; whnf)) rfl rfl ?_)
    refine rt_nil ?_
    refine q_then ?_
    refine ct_ret ?_
    exact q_ret1 rfl rfl () rfl En.ent
/-- what Parse reads of a text's first pairs -/
def half2 (s : List UInt8) (i : Nat) : Option UInt8 :=
  if dig (s.getD (2 * i) 0) < 0 ∨ dig (s.getD (2 * i + 1) 0) < 0 then none else some (UInt8.ofNat (16 * dig (s.getD (2 * i) 0) + dig (s.getD (2 * i + 1) 0)).toNat)
def parseUpto (s : List UInt8) : Nat → Option (List UInt8)
  | 0 => some []
  | k + 1 => match parseUpto s k, half2 s k with
    | some l, some x => some (l ++ [x])
    | _, _ => none
def zero32 : List UInt8 := List.replicate 32 0
def parseS (s : List UInt8) : List UInt8 × Int := if s.length ≠ 64 then (zero32, 10) else match parseUpto s 32 with | some l => (l, 0) | none => (zero32, 10)
theorem parseUpto_len (s : List UInt8) : ∀ (k : Nat) (l : List UInt8), parseUpto s k = some l → l.length = k
  | 0, l, h => by simp [parseUpto] at h; subst h; rfl
  | k + 1, l, h => by
    rw [parseUpto] at h
    split at h
    · rename_i l' x h1 h2
      cases h
      rw [List.length_append, parseUpto_len s k l' h1]; rfl
    · cases h
theorem parse_none (s : List UInt8) : ∀ (k j : Nat), k ≤ j → parseUpto s k = none → parseUpto s j = none
  | k, 0, h, e => by obtain rfl : k = 0 := by omega
                     exact e
  | k, j + 1, h, e => by
    by_cases hk : k = j + 1
    · subst hk; exact e
    · rw [parseUpto, parse_none s k j (by omega) e]
set_option maxRecDepth 100000 in
set_option maxHeartbeats 8000000 in
theorem parse_spec (R : HP) (b : ByteArray) : Spec Try.prog 23 [.string b] R (fun _ : Unit => .tuple #[.agg ((parseS b.data.toList).1.map bv).toArray, .int .i64 (parseS b.data.toList).2]) (fun _ => R) := by
  refine spec_of Try.func23 rfl Try.ntmps23 rfl fun W0 => ?_
  have hsz : b.data.toList.length = b.size := by simp
  generalize hs : b.data.toList = s at hsz
  have hz : (zero32.map bv).length = 32 := rfl
  by_cases hl : s.length = 64
  · have hpl := parseUpto_len s
    focus
      refine ct_seq ?_
      (refine ct_region' rfl ?_; simp only [List.map, lite])
      (refine rt_op (wants_none rfl) (o_alloc rfl (by conv => lhs; whnf) fun b2 => ?_))
      (refine rg rfl (g_assign (by conv => lhs; whnf)) rfl rfl ?_)
      refine rt_nil ?_
      refine q_then ?_
      refine ct_seq ?_
      (refine ct_region' rfl ?_; simp only [List.map, lite])
      (refine rt_op (wants_none rfl) (o_alloc rfl (by conv => lhs; whnf) fun b4 => ?_))
      refine rt_nil ?_
      refine q_then ?_
      refine ct_seq ?_
      refine ct_seq ?_
      (refine ct_region' rfl ?_; simp only [List.map, lite])
      (refine rg rfl (g_move (by conv => lhs; whnf)) rfl rfl ?_)
      (refine rg rfl (g_len_string rfl) rfl rfl ?_)
      (refine rg rfl (g_neqF rfl rfl ?_) rfl rfl ?_; (· (omega)))
      refine rt_nil ?_
      refine q_then ?_
      refine ct_false rfl ?_
      refine ct_skip ?_
      refine q_then ?_
      refine ct_seq ?_
      refine ct_seq ?_
      (refine ct_region' rfl ?_; simp only [List.map, lite])
      (refine rg rfl (g_move (by conv => lhs; whnf)) rfl rfl ?_)
      refine rt_nil ?_
      refine q_then ?_
      refine ct_block ?_
      rotate_left
    refine ct_loop (ι := { i : Nat × List UInt8 // i.1 ≤ 32 ∧ parseUpto s i.1 = some i.2 }) (fun i => [(0, .string b), (2, .pointer (some ⟨b2, 0, none⟩)), (3, .int .i64 0), (4, .pointer (some ⟨b4, 0, none⟩)), (12, .int .i64 (i.1.1 : Int))]) (fun i => Blk b4 ((i.1.2 ++ List.replicate (32 - i.1.1) 0).map bv) 23 * (Blk b2 (zero32.map bv) 23 * R)) (fun i => 32 - i.1.1)
      ⟨(0, []), by omega, rfl⟩ ⟨rfl, rfl, rfl, rfl, rfl, trivial⟩ (Ent.refl _) fun i ρ' => ?_
    obtain ⟨⟨i, ys⟩, hi, hp⟩ := i
    dsimp only at hi hp ⊢
    have hyl := hpl _ _ hp
    have hcl : ((ys ++ List.replicate (32 - i) 0).map bv).length = 32 := by simp [hyl]; omega
    by_cases h : i < 32
    · have ha : s[2 * i]? = some (s.getD (2 * i) 0) := by rw [List.getD_eq_getElem?_getD, List.getElem?_eq_getElem (by omega)]; rfl
      have hb : s[2 * i + 1]? = some (s.getD (2 * i + 1) 0) := by rw [List.getD_eq_getElem?_getD, List.getElem?_eq_getElem (by omega)]; rfl
      have hset : ((ys ++ List.replicate (32 - i) 0).map bv).set i (bv (UInt8.ofNat (16 * dig (s.getD (2 * i) 0) + dig (s.getD (2 * i + 1) 0)).toNat)) = ((ys ++ [UInt8.ofNat (16 * dig (s.getD (2 * i) 0) + dig (s.getD (2 * i + 1) 0)).toNat]) ++ List.replicate (32 - (i + 1)) 0).map bv := by
        rw [← List.map_set, List.set_append, if_neg (by omega), show i - ys.length = 0 by omega, show 32 - i = (32 - (i + 1)) + 1 by omega, List.replicate_succ, List.set_cons_zero, List.append_assoc]; rfl
      have hd1 := dig_in (s.getD (2 * i) 0)
      have hd2 := dig_in (s.getD (2 * i + 1) 0)
      have hx : half2 s i = if dig (s.getD (2 * i) 0) < 0 ∨ dig (s.getD (2 * i + 1) 0) < 0 then none else some (UInt8.ofNat (16 * dig (s.getD (2 * i) 0) + dig (s.getD (2 * i + 1) 0)).toNat) := rfl
      generalize hca : s.getD (2 * i) 0 = ca at *
      generalize hcb : s.getD (2 * i + 1) 0 = cb at *
      rw [← hs] at ha hb
      have hi1 := fun (R' : HP) => index_spec R' ca
      have hi2 := fun (R' : HP) => index_spec R' cb
      focus
        refine ct_seq ?_
        (refine ct_region' rfl ?_; simp only [List.map, lite])
        (refine rg rfl (g_lssT rfl rfl ?_) rfl rfl ?_; (· (omega)))
        refine rt_nil ?_
        refine q_then ?_
        refine ct_seq ?_
        refine ct_true rfl ?_
        refine ct_skip ?_
        refine q_then ?_
        refine ct_seq ?_
        refine ct_block ?_
        refine ct_seq ?_
        (refine ct_region' rfl ?_; simp only [List.map, lite])
        (refine rg rfl (g_move (by conv => lhs; whnf)) rfl rfl ?_)
        (refine rg rfl (g_assign (by conv => lhs; whnf)) rfl rfl ?_)
        refine rt_nil ?_
        refine q_then ?_
        refine ct_seq ?_
        refine ct_quiet (by kernel_rfl) rfl ?_
        simp only [List.map, lite]
        (refine qg rfl (g_move (by conv => lhs; whnf)) rfl rfl ?_)
        (refine qg rfl (g_move (by conv => lhs; whnf)) rfl rfl ?_)
        (refine qg rfl (g_mulN rfl rfl ?_) rfl rfl ?_; (· (constructor <;> omega)))
        (refine qg rfl (g_indexS rfl rfl ha) rfl rfl ?_)
        (refine rq_callE (wants_none rfl) rfl rfl (Ent.refl _) (hi1 _) (fun _ => rfl) (fun _ => En.ent) ?_)
        (refine qg rfl (g_move (by conv => lhs; whnf)) rfl rfl ?_)
        (refine qg rfl (g_move (by conv => lhs; whnf)) rfl rfl ?_)
        (refine qg rfl (g_mulN rfl rfl ?_) rfl rfl ?_; (· (constructor <;> omega)))
        (refine qg rfl (g_addN rfl rfl ?_) rfl rfl ?_; (· (constructor <;> omega)))
        (refine qg rfl (g_indexS rfl rfl hb) rfl rfl ?_)
        (refine rq_callE (wants_none rfl) rfl rfl (Ent.refl _) (hi2 _) (fun _ => rfl) (fun _ => En.ent) ?_)
        (refine qg rfl (g_assign (by conv => lhs; whnf)) rfl rfl ?_)
        (refine qg rfl (g_assign (by conv => lhs; whnf)) rfl rfl ?_)
        refine rq_nil ?_
        refine q_then ?_
        refine ct_seq ?_
        refine ct_seq ?_
        (refine ct_region' rfl ?_; simp only [List.map, lite])
        (refine rg rfl (g_move (by conv => lhs; whnf)) rfl rfl ?_)
        (refine rg rfl (g_lss rfl rfl) rfl rfl ?_)
        (refine rg rfl (g_move (by conv => lhs; whnf)) rfl rfl ?_)
        refine rt_split 28 rfl (fun h28 => ?_) (fun h28 => ?_)
        refine rgs rfl rfl rfl rfl rfl rfl ?_
        refine rgs rfl rfl rfl rfl rfl rfl ?_
        (refine rg rfl (g_pick_t rfl (by conv => lhs; whnf)) rfl rfl ?_)
        refine rt_nil ?_
        refine q_then ?_
        refine ct_true rfl ?_
        refine ct_seq ?_
        (refine ct_region' rfl ?_; simp only [List.map, lite])
        (refine rg rfl (g_buildZ rfl) rfl rfl ?_)
        (refine rt_op (wants_none rfl) (o_storeAgg rfl (by conv => lhs; whnf) (by first | exact List.toList_toArray | (conv => lhs; whnf)) (by first | rfl | exact bvsAll _ | exact wvs_all _ | assumption) (by first | rfl | assumption | (simp; done) | (simp; omega)) (by first | rfl | assumption | (simp; done) | (simp; omega)) ?_))
        (refine rg rfl (g_assign (by conv => lhs; whnf)) rfl rfl ?_)
        refine rt_nil ?_
        refine q_then ?_
        refine ct_ret ?_
        refine q_then_ret ?_
        refine q_block_ret ?_
        refine q_then_ret ?_
        refine q_then_ret ?_
        refine q_block_ret ?_
        refine q_then_ret ?_
        rotate_left
        (refine rgw rfl rfl rfl rfl (g_move (by conv => lhs; whnf)) rfl rfl ?_)
        (refine rgw rfl rfl rfl rfl (g_lss rfl rfl) rfl rfl ?_)
        (refine rg rfl (g_pick_f rfl (by conv => lhs; whnf)) rfl rfl ?_)
        refine rt_nil ?_
        refine q_then ?_
        refine ct_if rfl (fun h31 => ?_) (fun h31 => ?_)
        refine ct_seq ?_
        (refine ct_region' rfl ?_; simp only [List.map, lite])
        (refine rg rfl (g_buildZ rfl) rfl rfl ?_)
        (refine rt_op (wants_none rfl) (o_storeAgg rfl (by conv => lhs; whnf) (by first | exact List.toList_toArray | (conv => lhs; whnf)) (by first | rfl | exact bvsAll _ | exact wvs_all _ | assumption) (by first | rfl | assumption | (simp; done) | (simp; omega)) (by first | rfl | assumption | (simp; done) | (simp; omega)) ?_))
        (refine rg rfl (g_assign (by conv => lhs; whnf)) rfl rfl ?_)
        refine rt_nil ?_
        refine q_then ?_
        refine ct_ret ?_
        refine q_then_ret ?_
        refine q_block_ret ?_
        refine q_then_ret ?_
        refine q_then_ret ?_
        refine q_block_ret ?_
        refine q_then_ret ?_
        rotate_left
        refine ct_skip ?_
        refine q_then ?_
        (refine ct_region' rfl ?_; simp only [List.map, lite])
        (refine rg rfl (g_move (by conv => lhs; whnf)) rfl rfl ?_)
        (refine rg rfl (g_move (by conv => lhs; whnf)) rfl rfl ?_)
        (refine rg rfl (g_mulN rfl rfl ?_) rfl rfl ?_; (· (constructor <;> omega)))
        (refine rg rfl (g_move (by conv => lhs; whnf)) rfl rfl ?_)
        (refine rg rfl (g_addN rfl rfl ?_) rfl rfl ?_; (· (constructor <;> omega)))
        (refine rg rfl (g_convN rfl ?_) rfl rfl ?_; (· (constructor <;> omega)))
        (refine rg rfl (g_elemB1 rfl rfl ?_) rfl rfl ?_; (· (first | omega | decide)))
        (refine rt_op (wants_none rfl) (o_storeI rfl (by conv => lhs; whnf) rfl ?_ rfl ?_); (· (first | omega | decide | (exact pos_of_get (by assumption)) | (simp only [List.length_map, List.length_append, List.length_replicate, List.length_set, List.length_cons, List.length_nil]; omega) | (simp; omega))))
        refine rt_nil ?_
        refine q_block ?_
        refine q_then ?_
        (refine ct_region' rfl ?_; simp only [List.map, lite])
        (refine rg rfl (g_addN rfl rfl ?_) rfl rfl ?_; (· (constructor <;> omega)))
        (refine rg rfl (g_move (by conv => lhs; whnf)) rfl rfl ?_)
        refine rt_nil ?_
        rotate_left
      · have hpn : parseS s = (zero32, 10) := by
          have h1 : parseUpto s (i + 1) = none := by rw [parseUpto, hp, hx, if_pos (by omega)]
          unfold parseS; rw [if_neg (by omega), parse_none s (i + 1) 32 (by omega) h1]
        rw [hpn]
        exact q_retCT rfl (cell_blk rfl rfl) rfl () rfl ((Ent.dropL _ _).trans (Ent.dropL _ _))
      · have hpn : parseS s = (zero32, 10) := by
          have h1 : parseUpto s (i + 1) = none := by rw [parseUpto, hp, hx, if_pos (by omega)]
          unfold parseS; rw [if_neg (by omega), parse_none s (i + 1) 32 (by omega) h1]
        rw [hpn]
        exact q_retCT rfl (cell_blk rfl rfl) rfl () rfl ((Ent.dropL _ _).trans (Ent.dropL _ _))
      · have hv : Value.int .u8 (16 * dig ca + dig cb) = bv (UInt8.ofNat (16 * dig ca + dig cb).toNat) := by
          show _ = Value.int .u8 (((UInt8.ofNat (16 * dig ca + dig cb).toNat).toNat : Nat) : Int)
          rw [UInt8.toNat_ofNat_of_lt' (by show _ < 256; omega)]
          congr 1
          omega
        rw [hv, hset]
        exact q_again ⟨(i + 1, ys ++ [UInt8.ofNat (16 * dig ca + dig cb).toNat]), by omega, by show parseUpto s (i + 1) = some _; rw [parseUpto, hp, hx, if_neg (by omega)]⟩ (by show 32 - (i + 1) < 32 - i; omega) ⟨rfl, rfl, rfl, rfl, rfl, trivial⟩ (Ent.refl _)
    · obtain rfl : i = 32 := by omega
      have hpp : parseS s = (ys, 0) := by unfold parseS; rw [if_neg (by omega), hp]
      rw [hpp]
      have e : ys ++ List.replicate (32 - 32) 0 = ys := by simp
      rw [e] at hcl ⊢
      focus
        refine ct_seq ?_
        (refine ct_region' rfl ?_; simp only [List.map, lite])
        (refine rg rfl (g_lssF rfl rfl ?_) rfl rfl ?_; (· (omega)))
        refine rt_nil ?_
        refine q_then ?_
        refine ct_seq ?_
        refine ct_false rfl ?_
        refine ct_exit ?_
        refine q_then_exit ?_
        refine q_then_exit ?_
        refine q_block_exit ?_
        refine q_then ?_
        refine ct_seq ?_
        (refine ct_region' rfl ?_; simp only [List.map, lite])
        (refine rg rfl (g_loadAgg_blk rfl (by first | rfl | assumption | (simp; done) | (simp; omega))) rfl rfl ?_)
        (refine rt_op (wants_none rfl) (o_storeAgg rfl (by conv => lhs; whnf) (by first | exact List.toList_toArray | (conv => lhs; whnf)) (by first | rfl | exact bvsAll _ | exact wvs_all _ | assumption) (by first | rfl | assumption | (simp; done) | (simp; omega)) (by first | rfl | assumption | (simp; done) | (simp; omega)) ?_))
        (refine rg rfl (g_assign (by conv => lhs; whnf)) rfl rfl ?_)
        refine rt_nil ?_
        refine q_then ?_
        refine ct_ret ?_
        exact q_retCT rfl (cell_blk rfl (by first | rfl | assumption | (simp; done) | (simp; omega))) rfl () rfl En.ent
  · have hp : parseS s = (zero32, 10) := by unfold parseS; rw [if_pos hl]
    rw [hp]
    focus
      refine ct_seq ?_
      (refine ct_region' rfl ?_; simp only [List.map, lite])
      (refine rt_op (wants_none rfl) (o_alloc rfl (by conv => lhs; whnf) fun b2 => ?_))
      (refine rg rfl (g_assign (by conv => lhs; whnf)) rfl rfl ?_)
      refine rt_nil ?_
      refine q_then ?_
      refine ct_seq ?_
      (refine ct_region' rfl ?_; simp only [List.map, lite])
      (refine rt_op (wants_none rfl) (o_alloc rfl (by conv => lhs; whnf) fun b4 => ?_))
      refine rt_nil ?_
      refine q_then ?_
      refine ct_seq ?_
      refine ct_seq ?_
      (refine ct_region' rfl ?_; simp only [List.map, lite])
      (refine rg rfl (g_move (by conv => lhs; whnf)) rfl rfl ?_)
      (refine rg rfl (g_len_string rfl) rfl rfl ?_)
      (refine rg rfl (g_neqT rfl rfl ?_) rfl rfl ?_; (· (omega)))
      refine rt_nil ?_
      refine q_then ?_
      refine ct_true rfl ?_
      refine ct_seq ?_
      (refine ct_region' rfl ?_; simp only [List.map, lite])
      (refine rg rfl (g_loadAgg_blk rfl (by first | rfl | assumption | (simp; done) | (simp; omega))) rfl rfl ?_)
      (refine rt_op (wants_none rfl) (o_storeAgg rfl (by conv => lhs; whnf) (by first | exact List.toList_toArray | (conv => lhs; whnf)) (by first | rfl | exact bvsAll _ | exact wvs_all _ | assumption) (by first | rfl | assumption | (simp; done) | (simp; omega)) (by first | rfl | assumption | (simp; done) | (simp; omega)) ?_))
      (refine rg rfl (g_assign (by conv => lhs; whnf)) rfl rfl ?_)
      refine rt_nil ?_
      refine q_then ?_
      refine ct_ret ?_
      refine q_then_ret ?_
      exact q_retCT rfl (cell_blk rfl (by first | rfl | assumption | (simp; done) | (simp; omega))) rfl () rfl En.ent
end Go.Proofs.Ytmhddmenmkjdlaa
