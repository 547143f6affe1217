/- sha: the reference's Parse; ShaTexts. -/
import Derived.Test.YtmhddmenmkjdlaaT3
namespace Go.Proofs.Ytmhddmenmkjdlaa
open Go.RowKit
attribute [local irreducible] Gives RT CT QT Spec Wants Reads Src Ent OT RQ AnyT AnyOp Again Code.wp Post

/-- the hash's cells, so far: whole bytes, one that is half there, noughts -/
def hcells (ys : List UInt8) (x : UInt8) : List UInt8 := (ys ++ x :: List.replicate 31 0).take 32
theorem hcells_len {ys : List UInt8} {x : UInt8} : (hcells ys x).length = 32 := by unfold hcells; simp
theorem hcells_get {ys : List UInt8} {x : UInt8} {k : Nat} (hk : ys.length = k) (h : k < 32) : ((hcells ys x).map bv)[k]? = some (bv x) := by
  unfold hcells
  rw [List.getElem?_map, List.getElem?_take, if_pos h, List.getElem?_append_right (by omega), hk, Nat.sub_self]; rfl
theorem hcells_set {ys : List UInt8} {x v : UInt8} {k : Nat} (hk : ys.length = k) : ((hcells ys x).map bv).set k (bv v) = (hcells ys v).map bv := by
  unfold hcells
  rw [← List.map_set, ← List.take_set, List.set_append_right _ _ (by omega), hk, Nat.sub_self, List.set_cons_zero]
theorem hcells_next {ys : List UInt8} {v : UInt8} : hcells ys v = hcells (ys ++ [v]) 0 := by
  unfold hcells
  have e : ys ++ [v] ++ 0 :: List.replicate 31 0 = (ys ++ v :: List.replicate 31 0) ++ [0] := by
    rw [List.append_assoc, List.append_assoc]; rfl
  rw [e]
  exact (List.take_append_of_le_length (l₁ := ys ++ v :: List.replicate 31 0) (by simp)).symm
theorem hcells_end {ys : List UInt8} {x : UInt8} (h : ys.length = 32) : hcells ys x = ys := by unfold hcells; rw [← h, List.take_left]
set_option maxRecDepth 100000 in
set_option maxHeartbeats 8000000 in
theorem parseR_spec (R : HP) (b : ByteArray) : Spec Try.prog 24 [.string b] R (fun _ : Unit => .tuple #[.agg ((parseS b.data.toList).1.map bv).toArray, .int .i64 (parseS b.data.toList).2]) (fun _ => R) := by
  refine spec_of Try.func24 rfl Try.ntmps24 rfl fun W0 => ?_
  have hsz : b.data.toList.length = b.size := by simp
  generalize hs : b.data.toList = s at hsz
  have hz : (zero32.map bv).length = 32 := rfl
  by_cases hl : s.length = 64
  · have hpl := parseUpto_len s
    focus
      refine ct_seq ?_
      (refine ct_region' rfl ?_; simp only [List.map, lite])
      (refine rt_op (wants_none rfl) (o_alloc rfl (by conv => lhs; whnf) fun b2 => ?_))
      (refine rg rfl (g_assign (by conv => lhs; whnf)) rfl rfl ?_)
      refine rt_nil ?_
      refine q_then ?_
      refine ct_seq ?_
      refine ct_seq ?_
      (refine ct_region' rfl ?_; simp only [List.map, lite])
      (refine rg rfl (g_move (by conv => lhs; whnf)) rfl rfl ?_)
      (refine rg rfl (g_len_string rfl) rfl rfl ?_)
      (refine rg rfl (g_neqF rfl rfl ?_) rfl rfl ?_; (· (omega)))
      refine rt_nil ?_
      refine q_then ?_
      refine ct_false rfl ?_
      refine ct_skip ?_
      refine q_then ?_
      refine ct_seq ?_
      (refine ct_region' rfl ?_; simp only [List.map, lite])
      (refine rg rfl (g_buildZ rfl) rfl rfl ?_)
      (refine rt_op (wants_none rfl) (o_alloc rfl (by conv => lhs; whnf) fun b4 => ?_))
      (refine rt_op (wants_none rfl) (o_storeAgg rfl (by conv => lhs; whnf) (by first | exact List.toList_toArray | (conv => lhs; whnf)) (by first | rfl | exact bvsAll _ | exact wvs_all _ | assumption) (by first | rfl | assumption | (simp; done) | (simp; omega)) (by first | rfl | assumption | (simp; done) | (simp; omega)) ?_))
      refine rt_nil ?_
      refine q_then ?_
      refine ct_seq ?_
      refine ct_seq ?_
      (refine ct_region' rfl ?_; simp only [List.map, lite])
      (refine rg rfl (g_assign (by conv => lhs; whnf)) rfl rfl ?_)
      refine rt_nil ?_
      refine q_then ?_
      refine ct_block ?_
      rotate_left
    refine ct_loop (ι := { t : Nat × List UInt8 × UInt8 // t.1 ≤ 64 ∧ parseUpto s (t.1 / 2) = some t.2.1 ∧ t.2.2.toNat ≤ 15 ∧ (t.1 % 2 = 0 → t.2.2 = 0) ∧ (t.1 % 2 = 1 → (t.2.2.toNat : Int) = dig (s.getD (t.1 - 1) 0)) }) (fun t => [(0, .string b), (2, .pointer (some ⟨b2, 0, none⟩)), (3, .int .i64 0), (4, .pointer (some ⟨b4, 0, none⟩)), (5, .int .i64 (t.1.1 : Int))]) (fun t => Blk b4 ((hcells t.1.2.1 t.1.2.2).map bv) 23 * (Blk b2 (zero32.map bv) 23 * R)) (fun t => 64 - t.1.1)
      ⟨(0, [], 0), by omega, rfl, by decide, fun _ => rfl, fun h => by cases h⟩ ⟨rfl, rfl, rfl, rfl, rfl, trivial⟩ (Ent.refl _) fun t ρ' => ?_
    obtain ⟨⟨i, ys, x⟩, hi, hp, hx, hx0, hx1⟩ := t
    dsimp only at hi hp hx hx0 hx1 ⊢
    have hyl := hpl _ _ hp
    have hcl : ((hcells ys x).map bv).length = 32 := by rw [List.length_map]; exact hcells_len
    by_cases h : i < 64
    · have ha : s[i]? = some (s.getD i 0) := by rw [List.getD_eq_getElem?_getD, List.getElem?_eq_getElem (by omega)]; rfl
      have hd := dig_in (s.getD i 0)
      generalize hca : s.getD i 0 = ca at *
      rw [← hs] at ha
      have hg := hcells_get (x := x) hyl (by omega)
      by_cases hneg : dig ca < 0
      · have hh : ∀ R' : HP, Spec Try.prog 43 [bv ca] R' (fun _ : Unit => .tuple #[.int .u8 0, .bool false]) (fun _ => R') := fun R' =>
          spec_conseq (half_spec R' ca) (Ent.refl _) fun _ => ⟨(), tup (by omega) (decide_eq_false (by omega)), Ent.refl _⟩
        have hpn : parseS s = (zero32, 10) := by
          have h2 : half2 s (i / 2) = none := by
            unfold half2
            rw [if_pos]
            rcases Nat.mod_two_eq_zero_or_one i with e | e
            · left; rw [show 2 * (i / 2) = i by omega, hca]; exact hneg
            · right; rw [show 2 * (i / 2) + 1 = i by omega, hca]; exact hneg
          have h1 : parseUpto s (i / 2 + 1) = none := by rw [parseUpto, hp, h2]
          unfold parseS; rw [if_neg (by omega), parse_none s (i / 2 + 1) 32 (by omega) h1]
        rw [hpn]
        focus
          refine ct_seq ?_
          refine ct_seq ?_
          (refine ct_region' rfl ?_; simp only [List.map, lite])
          (refine rg rfl (g_move (by conv => lhs; whnf)) rfl rfl ?_)
          (refine rg rfl (g_lssT rfl rfl ?_) rfl rfl ?_; (· (omega)))
          refine rt_nil ?_
          refine q_then ?_
          refine ct_true rfl ?_
          refine ct_skip ?_
          refine q_then ?_
          refine ct_seq ?_
          refine ct_block ?_
          refine ct_seq ?_
          (refine ct_region' rfl ?_; simp only [List.map, lite])
          (refine rg rfl (g_move (by conv => lhs; whnf)) rfl rfl ?_)
          (refine rg rfl (g_move (by conv => lhs; whnf)) rfl rfl ?_)
          (refine rg rfl (g_indexS rfl rfl ha) rfl rfl ?_)
          (refine rt_op (wants_none rfl) (o_callE rfl rfl (Ent.refl _) (hh _) fun i21 => ?_))
          (refine rg rfl (g_move (by conv => lhs; whnf)) rfl rfl ?_)
          (refine rg rfl (g_extract rfl (by conv => lhs; whnf)) rfl rfl ?_)
          (refine rg rfl (g_extract rfl (by conv => lhs; whnf)) rfl rfl ?_)
          (refine rg rfl (g_assign (by conv => lhs; whnf)) rfl rfl ?_)
          (refine rg rfl (g_assign (by conv => lhs; whnf)) rfl rfl ?_)
          refine rt_nil ?_
          refine q_then ?_
          refine ct_seq ?_
          refine ct_seq ?_
          (refine ct_region' rfl ?_; simp only [List.map, lite])
          (refine rg rfl (g_move (by conv => lhs; whnf)) rfl rfl ?_)
          (refine rg rfl (g_notF rfl) rfl rfl ?_)
          refine rt_nil ?_
          refine q_then ?_
          refine ct_true rfl ?_
          refine ct_seq ?_
          (refine ct_region' rfl ?_; simp only [List.map, lite])
          (refine rg rfl (g_buildZ rfl) rfl rfl ?_)
          (refine rt_op (wants_none rfl) (o_storeAgg rfl (by conv => lhs; whnf) (by first | exact List.toList_toArray | (conv => lhs; whnf)) (by first | rfl | exact bvsAll _ | exact wvs_all _ | assumption) (by first | rfl | assumption | (simp; done) | (simp; omega)) (by first | rfl | assumption | (simp; done) | (simp; omega)) ?_))
          (refine rg rfl (g_assign (by conv => lhs; whnf)) rfl rfl ?_)
          refine rt_nil ?_
          refine q_then ?_
          refine ct_ret ?_
          refine q_then_ret ?_
          refine q_block_ret ?_
          refine q_then_ret ?_
          refine q_then_ret ?_
          refine q_block_ret ?_
          refine q_then_ret ?_
          (exact q_retCT rfl (cell_blk rfl rfl) rfl () rfl ((Ent.dropL _ _).trans (Ent.dropL _ _)))
      · have hh : ∀ R' : HP, Spec Try.prog 43 [bv ca] R' (fun _ : Unit => .tuple #[.int .u8 (dig ca), .bool true]) (fun _ => R') := fun R' =>
          spec_conseq (half_spec R' ca) (Ent.refl _) fun _ => ⟨(), tup (by omega) (decide_eq_true (by omega)), Ent.refl _⟩
        have hvn : (UInt8.ofNat (16 * (x.toNat : Int) + dig ca).toNat).toNat = (16 * (x.toNat : Int) + dig ca).toNat := UInt8.toNat_ofNat_of_lt' (by show _ < 256; omega)
        have hv : Value.int .u8 (16 * (x.toNat : Int) + dig ca) = bv (UInt8.ofNat (16 * (x.toNat : Int) + dig ca).toNat) := by
          show _ = Value.int .u8 (((UInt8.ofNat (16 * (x.toNat : Int) + dig ca).toNat).toNat : Nat) : Int)
          rw [hvn]; congr 1; omega
        have hh2 : i % 2 = 1 → half2 s (i / 2) = some (UInt8.ofNat (16 * (x.toNat : Int) + dig ca).toNat) := fun ho => by
          unfold half2
          rw [show 2 * (i / 2) + 1 = i by omega, show 2 * (i / 2) = i - 1 by omega, hca, ← hx1 ho, if_neg (by omega)]
        focus
          refine ct_seq ?_
          refine ct_seq ?_
          (refine ct_region' rfl ?_; simp only [List.map, lite])
          (refine rg rfl (g_move (by conv => lhs; whnf)) rfl rfl ?_)
          (refine rg rfl (g_lssT rfl rfl ?_) rfl rfl ?_; (· (omega)))
          refine rt_nil ?_
          refine q_then ?_
          refine ct_true rfl ?_
          refine ct_skip ?_
          refine q_then ?_
          refine ct_seq ?_
          refine ct_block ?_
          refine ct_seq ?_
          (refine ct_region' rfl ?_; simp only [List.map, lite])
          (refine rg rfl (g_move (by conv => lhs; whnf)) rfl rfl ?_)
          (refine rg rfl (g_move (by conv => lhs; whnf)) rfl rfl ?_)
          (refine rg rfl (g_indexS rfl rfl ha) rfl rfl ?_)
          (refine rt_op (wants_none rfl) (o_callE rfl rfl (Ent.refl _) (hh _) fun i21 => ?_))
          (refine rg rfl (g_move (by conv => lhs; whnf)) rfl rfl ?_)
          (refine rg rfl (g_extract rfl (by conv => lhs; whnf)) rfl rfl ?_)
          (refine rg rfl (g_extract rfl (by conv => lhs; whnf)) rfl rfl ?_)
          (refine rg rfl (g_assign (by conv => lhs; whnf)) rfl rfl ?_)
          (refine rg rfl (g_assign (by conv => lhs; whnf)) rfl rfl ?_)
          refine rt_nil ?_
          refine q_then ?_
          refine ct_seq ?_
          refine ct_seq ?_
          (refine ct_region' rfl ?_; simp only [List.map, lite])
          (refine rg rfl (g_move (by conv => lhs; whnf)) rfl rfl ?_)
          (refine rg rfl (g_notT rfl) rfl rfl ?_)
          refine rt_nil ?_
          refine q_then ?_
          refine ct_false rfl ?_
          refine ct_skip ?_
          refine q_then ?_
          (refine ct_region' rfl ?_; simp only [List.map, lite])
          (refine rg rfl (g_move (by conv => lhs; whnf)) rfl rfl ?_)
          (refine rg rfl (g_quoN rfl rfl ?_ ?_ ?_) rfl rfl ?_; (· (omega)); (· (omega)); (· (constructor <;> omega)))
          (refine rg rfl (g_move (by conv => lhs; whnf)) rfl rfl ?_)
          (refine rg rfl (g_quoN rfl rfl ?_ ?_ ?_) rfl rfl ?_; (· (omega)); (· (omega)); (· (constructor <;> omega)))
          (refine rg rfl (g_elemB1 rfl rfl ?_) rfl rfl ?_; (· (first | omega | decide)))
          (refine rg rfl (g_load rfl (by assumption)) rfl rfl ?_)
          (refine rg rfl (g_mulN rfl rfl ?_) rfl rfl ?_; (· (constructor <;> omega)))
          (refine rg rfl (g_move (by conv => lhs; whnf)) rfl rfl ?_)
          (refine rg rfl (g_addN rfl rfl ?_) rfl rfl ?_; (· (constructor <;> omega)))
          (refine rg rfl (g_elemB1 rfl rfl ?_) rfl rfl ?_; (· (first | omega | decide)))
          (refine rt_op (wants_none rfl) (o_storeI rfl (by conv => lhs; whnf) rfl ?_ rfl ?_); (· (first | omega | decide | (exact pos_of_get (by assumption)) | (simp only [List.length_map, List.length_append, List.length_replicate, List.length_set, List.length_cons, List.length_nil]; omega) | (simp; omega))))
          refine rt_nil ?_
          refine q_block ?_
          refine q_then ?_
          (refine ct_region' rfl ?_; simp only [List.map, lite])
          (refine rg rfl (g_move (by conv => lhs; whnf)) rfl rfl ?_)
          (refine rg rfl (g_addN rfl rfl ?_) rfl rfl ?_; (· (constructor <;> omega)))
          (refine rg rfl (g_assign (by conv => lhs; whnf)) rfl rfl ?_)
          refine rt_nil ?_
          rotate_left
        rw [hv, hcells_set hyl]
        generalize UInt8.ofNat (16 * (x.toNat : Int) + dig ca).toNat = v at *
        rcases Nat.mod_two_eq_zero_or_one i with ev | od
        · have hxz := hx0 ev
          subst hxz
          exact q_again ⟨(i + 1, ys, v), by omega, by show parseUpto s ((i + 1) / 2) = _; rw [show (i + 1) / 2 = i / 2 by omega]; exact hp, by show v.toNat ≤ 15; rw [hvn]; simp; omega, fun h => absurd h (by show ¬ (i + 1) % 2 = 0; omega), fun _ => by show (v.toNat : Int) = dig (s.getD (i + 1 - 1) 0); rw [Nat.add_sub_cancel, hca, hvn]; simp; omega⟩ (by show 64 - (i + 1) < 64 - i; omega) ⟨rfl, rfl, rfl, rfl, rfl, trivial⟩ (Ent.refl _)
        · rw [hcells_next]
          exact q_again ⟨(i + 1, ys ++ [v], 0), by omega, by show parseUpto s ((i + 1) / 2) = _; rw [show (i + 1) / 2 = i / 2 + 1 by omega, parseUpto, hp, hh2 od], by show (0 : UInt8).toNat ≤ 15; decide, fun _ => rfl, fun h => absurd h (by show ¬ (i + 1) % 2 = 1; omega)⟩ (by show 64 - (i + 1) < 64 - i; omega) ⟨rfl, rfl, rfl, rfl, rfl, trivial⟩ (Ent.refl _)
    · obtain rfl : i = 64 := by omega
      have hpp : parseS s = (ys, 0) := by unfold parseS; rw [if_neg (by omega), hp]
      rw [hpp]
      rw [hcells_end hyl] at hcl ⊢
      focus
        refine ct_seq ?_
        refine ct_seq ?_
        (refine ct_region' rfl ?_; simp only [List.map, lite])
        (refine rg rfl (g_move (by conv => lhs; whnf)) rfl rfl ?_)
        (refine rg rfl (g_lssF rfl rfl ?_) rfl rfl ?_; (· (omega)))
        refine rt_nil ?_
        refine q_then ?_
        refine ct_false rfl ?_
        refine ct_exit ?_
        refine q_then_exit ?_
        refine q_then_exit ?_
        refine q_block_exit ?_
        refine q_then ?_
        refine ct_seq ?_
        (refine ct_region' rfl ?_; simp only [List.map, lite])
        (refine rg rfl (g_loadAgg_blk rfl (by first | rfl | assumption | (simp; done) | (simp; omega))) rfl rfl ?_)
        (refine rt_op (wants_none rfl) (o_storeAgg rfl (by conv => lhs; whnf) (by first | exact List.toList_toArray | (conv => lhs; whnf)) (by first | rfl | exact bvsAll _ | exact wvs_all _ | assumption) (by first | rfl | assumption | (simp; done) | (simp; omega)) (by first | rfl | assumption | (simp; done) | (simp; omega)) ?_))
        (refine rg rfl (g_assign (by conv => lhs; whnf)) rfl rfl ?_)
        refine rt_nil ?_
        refine q_then ?_
        refine ct_ret ?_
        exact q_retCT rfl (cell_blk rfl (by first | rfl | assumption | (simp; done) | (simp; omega))) rfl () rfl En.ent
  · have hp : parseS s = (zero32, 10) := by unfold parseS; rw [if_pos hl]
    rw [hp]
    focus
      refine ct_seq ?_
      (refine ct_region' rfl ?_; simp only [List.map, lite])
      (refine rt_op (wants_none rfl) (o_alloc rfl (by conv => lhs; whnf) fun b2 => ?_))
      (refine rg rfl (g_assign (by conv => lhs; whnf)) rfl rfl ?_)
      refine rt_nil ?_
      refine q_then ?_
      refine ct_seq ?_
      refine ct_seq ?_
      (refine ct_region' rfl ?_; simp only [List.map, lite])
      (refine rg rfl (g_move (by conv => lhs; whnf)) rfl rfl ?_)
      (refine rg rfl (g_len_string rfl) rfl rfl ?_)
      (refine rg rfl (g_neqT rfl rfl ?_) rfl rfl ?_; (· (omega)))
      refine rt_nil ?_
      refine q_then ?_
      refine ct_true rfl ?_
      refine ct_seq ?_
      (refine ct_region' rfl ?_; simp only [List.map, lite])
      (refine rg rfl (g_buildZ rfl) rfl rfl ?_)
      (refine rt_op (wants_none rfl) (o_storeAgg rfl (by conv => lhs; whnf) (by first | exact List.toList_toArray | (conv => lhs; whnf)) (by first | rfl | exact bvsAll _ | exact wvs_all _ | assumption) (by first | rfl | assumption | (simp; done) | (simp; omega)) (by first | rfl | assumption | (simp; done) | (simp; omega)) ?_))
      (refine rg rfl (g_assign (by conv => lhs; whnf)) rfl rfl ?_)
      refine rt_nil ?_
      refine q_then ?_
      refine ct_ret ?_
      refine q_then_ret ?_
      exact q_retCT rfl (cell_blk rfl (by first | rfl | assumption | (simp; done) | (simp; omega))) rfl () rfl En.ent
theorem parseS_len (s : List UInt8) : (parseS s).1.length = 32 := by
  unfold parseS
  split
  · rfl
  · split
    · rename_i l h; exact parseUpto_len s 32 l h
    · rfl
set_option maxRecDepth 100000 in
set_option maxHeartbeats 8000000 in
theorem shaTexts_spec (R : HP) (xs : List UInt8) (hx : xs.length = 32) (b : ByteArray) : Spec Try.prog 6 [.agg (xs.map bv).toArray, .string b] R (fun _ : Unit => .bool true) (fun _ => R) := by
  refine spec_of Try.func6 rfl Try.ntmps6 rfl fun W0 => ?_
  have hml : (xs.map bv).length = 32 := by rw [List.length_map]; exact hx
  have hlen := parseS_len b.data.toList
  have hfix := fun (R' : HP) => fixed_spec R'
  have hp1 := fun (R' : HP) => parse_spec R' b
  have hp2 := fun (R' : HP) => parseR_spec R' b
  have hr1 := fun (R' : HP) => print_spec R' xs hx
  have hr2 := fun (R' : HP) => printR_spec R' xs hx
  generalize parseS b.data.toList = P at *
  have hpl : (P.1.map bv).length = 32 := by rw [List.length_map]; exact hlen
  focus
    refine ct_seq ?_
    (refine ct_region' rfl ?_; simp only [List.map, lite])
    (refine rt_op (wants_none rfl) (o_box rfl (by conv => lhs; whnf) (by conv => lhs; whnf) fun b2 => ?_))
    (refine rg rfl (g_assign (by conv => lhs; whnf)) rfl rfl ?_)
    refine rt_nil ?_
    refine q_then ?_
    refine ct_seq ?_
    (refine ct_region' rfl ?_; simp only [List.map, lite])
    (refine rg rfl (g_move (by conv => lhs; whnf)) rfl rfl ?_)
    (refine rt_op (wants_none rfl) (o_callE rfl rfl (Ent.refl _) (hp1 _) fun i11 => ?_))
    (refine rg rfl (g_move (by conv => lhs; whnf)) rfl rfl ?_)
    (refine rg rfl (g_extract rfl (by conv => lhs; whnf)) rfl rfl ?_)
    (refine rg rfl (g_extract rfl (by conv => lhs; whnf)) rfl rfl ?_)
    (refine rt_op (wants_none rfl) (o_alloc rfl (by conv => lhs; whnf) fun b5 => ?_))
    (refine rt_op (wants_none rfl) (o_storeAgg rfl (by conv => lhs; whnf) (by first | exact List.toList_toArray | (conv => lhs; whnf)) (by first | rfl | exact bvsAll _ | exact wvs_all _ | assumption) (by first | rfl | assumption | (simp; done) | (simp; omega)) (by first | rfl | assumption | (simp; done) | (simp; omega)) ?_))
    (refine rg rfl (g_assign (by conv => lhs; whnf)) rfl rfl ?_)
    refine rt_nil ?_
    refine q_then ?_
    refine ct_seq ?_
    (refine ct_region' rfl ?_; simp only [List.map, lite])
    (refine rg rfl (g_move (by conv => lhs; whnf)) rfl rfl ?_)
    (refine rt_op (wants_none rfl) (o_callE rfl rfl (Ent.refl _) (hp2 _) fun i16 => ?_))
    (refine rg rfl (g_move (by conv => lhs; whnf)) rfl rfl ?_)
    (refine rg rfl (g_extract rfl (by conv => lhs; whnf)) rfl rfl ?_)
    (refine rg rfl (g_extract rfl (by conv => lhs; whnf)) rfl rfl ?_)
    (refine rt_op (wants_none rfl) (o_alloc rfl (by conv => lhs; whnf) fun b7 => ?_))
    (refine rt_op (wants_none rfl) (o_storeAgg rfl (by conv => lhs; whnf) (by first | exact List.toList_toArray | (conv => lhs; whnf)) (by first | rfl | exact bvsAll _ | exact wvs_all _ | assumption) (by first | rfl | assumption | (simp; done) | (simp; omega)) (by first | rfl | assumption | (simp; done) | (simp; omega)) ?_))
    (refine rg rfl (g_assign (by conv => lhs; whnf)) rfl rfl ?_)
    refine rt_nil ?_
    refine q_then ?_
    refine ct_seq ?_
    refine ct_quiet (by kernel_rfl) rfl ?_
    simp only [List.map, lite]
    (refine qg rfl (g_loadAgg_blk rfl (by first | rfl | assumption | (simp; done) | (simp; omega))) rfl rfl ?_)
    (refine rq_callE (wants_none rfl) rfl rfl (Ent.refl _) (hr1 _) (fun _ => rfl) (fun _ => En.ent) ?_)
    (refine qg rfl (g_loadAgg_blk rfl (by first | rfl | assumption | (simp; done) | (simp; omega))) rfl rfl ?_)
    (refine rq_callE (wants_none rfl) rfl rfl (Ent.refl _) (hr2 _) (fun _ => rfl) (fun _ => En.ent) ?_)
    (refine qg rfl (g_eqsT rfl rfl ?_) rfl rfl ?_; (· (first | rfl | assumption)))
    (refine qg rfl (g_move (by conv => lhs; whnf)) rfl rfl ?_)
    (refine qgw rfl rfl rfl rfl (g_loadAgg_blk rfl (by first | rfl | assumption | (simp; done) | (simp; omega))) rfl rfl ?_)
    (refine qgw rfl rfl rfl rfl (g_loadAgg_blk rfl (by first | rfl | assumption | (simp; done) | (simp; omega))) rfl rfl ?_)
    (refine qgw rfl rfl rfl rfl (g_eqHT rfl rfl rfl hlen rfl) rfl rfl ?_)
    (refine qg rfl (g_pick_t rfl (by conv => lhs; whnf)) rfl rfl ?_)
    (refine qg rfl (g_move (by conv => lhs; whnf)) rfl rfl ?_)
    (refine qgw rfl rfl rfl rfl (g_move (by conv => lhs; whnf)) rfl rfl ?_)
    (refine qgw rfl rfl rfl rfl (g_move (by conv => lhs; whnf)) rfl rfl ?_)
    (refine qgw rfl rfl rfl rfl (g_eqlT rfl rfl ?_) rfl rfl ?_; (· (omega)))
    (refine qg rfl (g_pick_t rfl (by conv => lhs; whnf)) rfl rfl ?_)
    (refine qg rfl (g_move (by conv => lhs; whnf)) rfl rfl ?_)
    (refine rq_callE (wants_some rfl rfl rfl rfl) rfl rfl (Ent.refl _) (hfix _) (fun _ => rfl) (fun _ => En.ent) ?_)
    (refine qg rfl (g_pick_t rfl (by conv => lhs; whnf)) rfl rfl ?_)
    (refine qg rfl (g_assign (by conv => lhs; whnf)) rfl rfl ?_)
    refine rq_nil ?_
    refine q_then ?_
    refine ct_ret ?_
    exact q_ret1 rfl rfl () rfl En.ent
end Go.Proofs.Ytmhddmenmkjdlaa
