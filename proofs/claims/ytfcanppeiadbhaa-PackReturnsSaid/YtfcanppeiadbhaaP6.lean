/- pack: NewIn, number, In.Number. -/
import Derived.Test.YtfcanppeiadbhaaP5
namespace Go.Proofs.Ytfcanppeiadbhaa
open Go.RowKit
attribute [local irreducible] Gives RT CT QT Spec Wants Reads Src Ent OT RQ AnyT AnyOp Again Code.wp Post

theorem newIn_spec (R : HP) (xs : List UInt8) (a : Option Addr) (c : Nat) (hr : RdB R a xs) (hl : xs.length ≤ 140737488355328) :
    Spec Try.prog 19 [.slice a xs.length c] R (fun i : Nat × Option Addr × Nat => .pointer (some ⟨i.1, 0, none⟩)) (fun i => InA i.1 i.2.1 i.2.2 xs 0 none * R) := by
  refine spec_of Try.func19 rfl Try.ntmps19 rfl fun W0 => ?_
  repeat (first | refine ct_seq ?_ | (refine ct_region' rfl ?_; simp only [List.map, lite]) | refine rt_nil ?_ | refine q_then ?_ | refine rg rfl (g_move (by conv => lhs; whnf)) rfl rfl ?_ | refine rg rfl (g_assign (by conv => lhs; whnf)) rfl rfl ?_)
  refine rt_op (wants_none rfl) (o_append rfl rfl rfl hr.src bvs_one (by unfold maxLen; omega) (by omega) (.inl ⟨_, rfl⟩) fun ad' cap' => ?_)
  refine rg rfl (g_build (by simp only [ev, upd, updl, argl, nat_beq_def, Nat.reduceBEq, cond_true, cond_false, List.map_cons, List.map_nil]; rfl) (by simp [fillL, Value.cells]; rfl)) rfl rfl ?_
  simp only [Nat.zero_add, List.nil_append]
  refine rt_op (wants_none rfl) (o_box rfl (by conv => lhs; whnf) (by conv => lhs; whnf) fun b => ?_)
  repeat (first | refine rt_nil ?_ | refine ct_ret ?_ | refine q_then ?_ | refine rg rfl (g_assign (by conv => lhs; whnf)) rfl rfl ?_)
  refine q_ret1 Try.results19 rfl (b, ad', cap') rfl ?_
  show Ent _ (Blk b [.slice ad' xs.length cap', .int .i64 0, .nilIface] 90 * (Arr 5 1 ad' cap' xs.length (xs.map bv) * emp) * R)
  exact En.ent

/-! ### a number, read -/
def numAt (b : List UInt8) : Nat → Nat → Nat → Nat × Nat × Nat
  | 0, _, _ => (0, 0, 22)
  | f + 1, i, x => match b[i]? with
    | none => (0, 0, 20)
    | some c => if i = 9 ∧ 1 < c.toNat then (0, 0, 22) else if c.toNat < 128 then (if c.toNat = 0 ∧ 0 < i then (0, 0, 21) else (x + c.toNat % 128 * 2 ^ (7 * i), i + 1, 0)) else numAt b f (i + 1) (x + c.toNat % 128 * 2 ^ (7 * i))

theorem bOp_or64 {x y : Nat} (hx : x < 2 ^ 64) (hy : y < 2 ^ 64) : bOp .or .u64 (x : Int) (y : Int) = ((x ||| y : Nat) : Int) := by
  have e : (BitVec.ofInt 64 (x : Int) ||| BitVec.ofInt 64 (y : Int)).toNat = x ||| y := by
    rw [BitVec.toNat_or]; simp [Nat.mod_eq_of_lt hx, Nat.mod_eq_of_lt hy]
  show IntKind.u64.wrap ((BitVec.ofInt 64 (x : Int) ||| BitVec.ofInt 64 (y : Int)).toNat : Int) = _
  have := Nat.or_lt_two_pow hx hy
  rw [e, wrap_in (by constructor <;> omega)]
theorem or_shift {x c i : Nat} (hx : x < 2 ^ i) : x ||| c * 2 ^ i = x + c * 2 ^ i := by
  rw [Nat.or_comm, ← Nat.shiftLeft_eq, ← Nat.shiftLeft_add_eq_or_of_lt hx, Nat.add_comm]
theorem and127 (c : UInt8) : bOp .and .u8 (c.toNat : Int) 127 = ((c.toNat % 128 : Nat) : Int) := by
  have key : ∀ y : Fin 256, bOp .and .u8 ((y.val : Nat) : Int) 127 = ((y.val % 128 : Nat) : Int) := by decide +kernel
  exact key ⟨c.toNat, c.toNat_lt⟩
theorem num_step {x c i : Nat} (hx : x < 2 ^ (7 * i)) (hi : i ≤ 9) (h9 : ¬ (i = 9 ∧ 1 < c)) (hc : c < 256) : x + c % 128 * 2 ^ (7 * i) < 2 ^ (7 * (i + 1)) ∧ x + c % 128 * 2 ^ (7 * i) < 2 ^ 64 ∧ c % 128 * 2 ^ (7 * i) < 2 ^ 64 := by
  have h1 : x + c % 128 * 2 ^ (7 * i) < 2 ^ (7 * i) * 128 := by
    have : c % 128 * 2 ^ (7 * i) ≤ 127 * 2 ^ (7 * i) := Nat.mul_le_mul_right _ (by omega)
    omega
  have e : 2 ^ (7 * (i + 1)) = 2 ^ (7 * i) * 128 := by rw [Nat.mul_add, Nat.pow_add]
  refine ⟨by rw [e]; exact h1, ?_, ?_⟩ <;> by_cases h : i = 9
  · subst h
    have : c % 128 * 2 ^ (7 * 9) ≤ 1 * 2 ^ (7 * 9) := Nat.mul_le_mul_right _ (by omega)
    omega
  · have : 2 ^ (7 * (i + 1)) ≤ 2 ^ 63 := Nat.pow_le_pow_right (by omega) (by omega)
    omega
  · subst h
    have : c % 128 * 2 ^ (7 * 9) ≤ 1 * 2 ^ (7 * 9) := Nat.mul_le_mul_right _ (by omega)
    omega
  · have : 2 ^ (7 * (i + 1)) ≤ 2 ^ 63 := Nat.pow_le_pow_right (by omega) (by omega)
    omega
/-- what the code reckons in one turn -/
theorem num_or {x i : Nat} {c : UInt8} (hx : x < 2 ^ (7 * i)) (hi : i ≤ 9) (h9 : ¬ (i = 9 ∧ 1 < c.toNat)) :
    bOp .or .u64 (x : Int) (IntKind.u64.wrap (((c.toNat % 128 : Nat) : Int) * 2 ^ (min ((7 * (i : Int)).toNat) IntKind.u64.bits))) = ((x + c.toNat % 128 * 2 ^ (7 * i) : Nat) : Int) := by
  have hs := num_step hx hi h9 c.toNat_lt
  have e1 : min ((7 * (i : Int)).toNat) IntKind.u64.bits = 7 * i := by simp only [IntKind.bits]; omega
  have e2 : (((c.toNat % 128 : Nat) : Int) * 2 ^ (7 * i)) = ((c.toNat % 128 * 2 ^ (7 * i) : Nat) : Int) := by norm_cast
  rw [e1, e2, wrap_in (by constructor <;> omega), bOp_or64 (by omega) hs.2.2, or_shift hx]
theorem numAt_why : ∀ (f : Nat) (b : List UInt8) (i x : Nat), (numAt b f i x).2.2 = 0 ∨ (numAt b f i x).2.2 = 20 ∨ (numAt b f i x).2.2 = 21 ∨ (numAt b f i x).2.2 = 22
  | 0, b, i, x => .inr (.inr (.inr rfl))
  | f + 1, b, i, x => by
    rw [numAt]
    split
    · exact .inr (.inl rfl)
    · split
      · exact .inr (.inr (.inr rfl))
      · split
        · split
          · exact .inr (.inr (.inl rfl))
          · exact .inl rfl
        · exact numAt_why f _ _ _

theorem drop_cons {b : List UInt8} {i : Nat} {c : UInt8} (h : b[i]? = some c) : b.drop i = c :: b.drop (i + 1) := by
  obtain ⟨hl, rfl⟩ := List.getElem?_eq_some_iff.1 h
  exact List.drop_eq_getElem_cons hl
theorem ofNat_toNat8 (c : UInt8) : UInt8.ofNat c.toNat = c := by simp
/-- what is read in full stands there, in its one form -/
theorem numAt_ok : ∀ (f : Nat) (b : List UInt8) (i x : Nat), i + f = 10 → x < 2 ^ (7 * i) → (numAt b f i x).2.2 = 0 →
    ∃ y rest, (numAt b f i x).1 = x + y * 2 ^ (7 * i) ∧ (numAt b f i x).1 < 2 ^ 64 ∧ b.drop i = numForm y ++ rest ∧ (numAt b f i x).2.1 = i + (numForm y).length ∧ (0 < i → y ≠ 0)
  | 0, b, i, x, _, _, h => by cases h
  | f + 1, b, i, x, hf, hx, h => by
    rw [numAt] at h ⊢
    cases hc : b[i]? with
    | none => rw [hc] at h; cases h
    | some c =>
      rw [hc] at h
      simp only at h ⊢
      by_cases h9 : i = 9 ∧ 1 < c.toNat
      · rw [if_pos h9] at h; cases h
      · rw [if_neg h9] at h ⊢
        have hs := num_step hx (by omega) h9 c.toNat_lt
        by_cases h128 : c.toNat < 128
        · rw [if_pos h128] at h ⊢
          by_cases h0 : c.toNat = 0 ∧ 0 < i
          · rw [if_pos h0] at h; cases h
          · rw [if_neg h0]
            refine ⟨c.toNat, b.drop (i + 1), by rw [Nat.mod_eq_of_lt h128], hs.2.1, ?_, ?_, by omega⟩
            · rw [drop_cons hc, numForm_small h128, ofNat_toNat8]; rfl
            · rw [numForm_small h128]; rfl
        · rw [if_neg h128] at h ⊢
          obtain ⟨y, rest, h1, h2, h3, h4, h5⟩ := numAt_ok f b (i + 1) _ (by omega) hs.1 h
          have hy := h5 (by omega)
          have hc8 := c.toNat_lt
          have e1 : (c.toNat % 128 + 128 * y) % 128 + 128 = c.toNat := by omega
          have e2 : (c.toNat % 128 + 128 * y) / 128 = y := by omega
          have hn : numForm (c.toNat % 128 + 128 * y) = c :: numForm y := by rw [numForm_big (by omega), e1, e2, ofNat_toNat8]
          refine ⟨c.toNat % 128 + 128 * y, rest, ?_, h2, ?_, ?_, by omega⟩
          · rw [h1, show 7 * (i + 1) = 7 * i + 7 by omega, Nat.pow_add, Nat.add_mul, Nat.add_assoc]
            congr 2
            rw [show (2 : Nat) ^ 7 = 128 by rfl, Nat.mul_comm 128 y, Nat.mul_assoc, Nat.mul_comm 128]
          · rw [drop_cons hc, hn, h3]; rfl
          · rw [h4, hn, List.length_cons]; omega
/-- what stands there in its one form is read in full -/
theorem numAt_form : ∀ (f : Nat) (b : List UInt8) (i x y : Nat) (rest : List UInt8), i + f = 10 → x < 2 ^ (7 * i) → x + y * 2 ^ (7 * i) < 2 ^ 64 → b.drop i = numForm y ++ rest → (0 < i → y ≠ 0) →
    numAt b f i x = (x + y * 2 ^ (7 * i), i + (numForm y).length, 0)
  | 0, b, i, x, y, rest, hf, hx, hX, hb, hy => by
    have : i = 10 := by omega
    subst this
    have := hy (by omega)
    have : 1 * 2 ^ (7 * 10) ≤ y * 2 ^ (7 * 10) := Nat.mul_le_mul_right _ (by omega)
    omega
  | f + 1, b, i, x, y, rest, hf, hx, hX, hb, hy => by
    rw [numAt]
    have hyM : y * 2 ^ (7 * i) < 2 ^ 64 := by omega
    have h9 : i = 9 → y ≤ 1 := fun h => by
      subst h
      apply Classical.byContradiction
      intro h
      have : 2 * 2 ^ (7 * 9) ≤ y * 2 ^ (7 * 9) := Nat.mul_le_mul_right _ (by omega)
      omega
    by_cases h128 : y < 128
    · rw [numForm_small h128] at hb ⊢
      have hc : b[i]? = some (UInt8.ofNat y) := by
        have := congrArg (fun l => l[0]?) hb
        simpa using this
      rw [hc]
      have e : (UInt8.ofNat y).toNat = y := UInt8.toNat_ofNat_of_lt' (by show _ < 256; omega)
      simp only [e]
      rw [if_neg (by omega), if_pos h128, if_neg (by omega), Nat.mod_eq_of_lt h128]; rfl
    · rw [numForm_big h128] at hb ⊢
      have hc : b[i]? = some (UInt8.ofNat (y % 128 + 128)) := by
        have := congrArg (fun l => l[0]?) hb
        simpa using this
      rw [hc]
      have e : (UInt8.ofNat (y % 128 + 128)).toNat = y % 128 + 128 := UInt8.toNat_ofNat_of_lt' (by show _ < 256; omega)
      simp only [e]
      have hn9 : i ≠ 9 := fun h => by have := h9 h; omega
      rw [if_neg (by omega), if_neg (by omega)]
      rw [drop_cons hc] at hb
      have hb' := (List.cons.inj hb).2
      have e3 : (y % 128 + 128) % 128 = y % 128 := by omega
      have hp : 2 ^ (7 * (i + 1)) = 128 * 2 ^ (7 * i) := by rw [show 7 * (i + 1) = 7 * i + 7 by omega, Nat.pow_add, Nat.mul_comm]
      have hx' : x + y % 128 * 2 ^ (7 * i) < 2 ^ (7 * (i + 1)) := by
        have : y % 128 * 2 ^ (7 * i) ≤ 127 * 2 ^ (7 * i) := Nat.mul_le_mul_right _ (by omega)
        omega
      have e4 : x + y % 128 * 2 ^ (7 * i) + y / 128 * 2 ^ (7 * (i + 1)) = x + y * 2 ^ (7 * i) := by
        rw [hp, ← Nat.mul_assoc, Nat.add_assoc, ← Nat.add_mul]
        congr 2; omega
      rw [e3, numAt_form f b (i + 1) _ (y / 128) rest (by omega) hx' (by rw [e4]; exact hX) hb' (by omega), e4, List.length_cons]
      congr 2; omega
theorem numAt_form0 {y : Nat} (rest : List UInt8) (hy : y < 2 ^ 64) : numAt (numForm y ++ rest) 10 0 0 = (y, (numForm y).length, 0) := by
  have := numAt_form 10 (numForm y ++ rest) 0 0 y rest rfl (by simp) (by simpa using hy) rfl (by omega)
  simpa using this
theorem numAt_ok0 {b : List UInt8} (h : (numAt b 10 0 0).2.2 = 0) : (numAt b 10 0 0).1 < 2 ^ 64 ∧ (numAt b 10 0 0).2.1 = (numForm (numAt b 10 0 0).1).length ∧ ∃ rest, b = numForm (numAt b 10 0 0).1 ++ rest := by
  obtain ⟨y, rest, h1, h2, h3, h4, _⟩ := numAt_ok 10 b 0 0 rfl (by simp) h
  have e : (numAt b 10 0 0).1 = y := by simpa using h1
  rw [e] at h2 ⊢
  exact ⟨h2, by simpa using h4, rest, by simpa using h3⟩

def numTup (r : Nat × Nat × Nat) : Value := .tuple #[.int .u64 (r.1 : Int), .int .i64 (r.2.1 : Int), .int .i64 (r.2.2 : Int)]
theorem numAt_succ (b : List UInt8) (f i x : Nat) : numAt b (f + 1) i x = match b[i]? with
    | none => (0, 0, 20)
    | some c => if i = 9 ∧ 1 < c.toNat then (0, 0, 22) else if c.toNat < 128 then (if c.toNat = 0 ∧ 0 < i then (0, 0, 21) else (x + c.toNat % 128 * 2 ^ (7 * i), i + 1, 0)) else numAt b f (i + 1) (x + c.toNat % 128 * 2 ^ (7 * i)) := rfl
theorem number_spec (R : HP) (b : List UInt8) (a : Option Addr) (c : Nat) (hr : RdB R a b) (hl : b.length ≤ 140737488355328) :
    Spec Try.prog 61 [.slice a b.length c] R (fun _ : Unit => numTup (numAt b 10 0 0)) (fun _ => R) := by
  generalize hN : numAt b 10 0 0 = N
  refine spec_of Try.func61 rfl Try.ntmps61 rfl fun W0 => ?_
  repeat (first | refine ct_seq ?_ | refine ct_block ?_ | (refine ct_region' rfl ?_; simp only [List.map, lite]) | refine rt_nil ?_ | refine q_then ?_ | refine rg rfl (g_move (by conv => lhs; whnf)) rfl rfl ?_ | refine rg rfl (g_assign (by conv => lhs; whnf)) rfl rfl ?_)
  refine ct_loop (ι := { i : Nat × Nat // N = numAt b (10 - i.1) i.1 i.2 ∧ i.1 ≤ 9 ∧ i.2 < 2 ^ (7 * i.1) }) (fun i => [(0, .slice a b.length c), (5, .int .u64 (i.1.2 : Int)), (8, .int .i64 (i.1.1 : Int))]) (fun _ => R) (fun i => 10 - i.1.1)
    ⟨(0, 0), by simp [hN], by simp, by simp⟩ ⟨rfl, rfl, rfl, trivial⟩ (Ent.refl _) fun i ρ' => ?_
  obtain ⟨⟨i, x⟩, h1, h2, h3⟩ := i
  simp only at h1 h2 h3
  clear hN
  rw [show 10 - i = (9 - i) + 1 by omega, numAt_succ] at h1
  by_cases hi : i < b.length
  · obtain ⟨d, hd⟩ : ∃ d, b[i]? = some d := ⟨b[i], List.getElem?_eq_getElem hi⟩
    rw [hd] at h1
    simp only at h1
    have hd' : (b.map bv)[i]? = some (bv d) := by rw [List.getElem?_map, hd]; rfl
    cases a with
    | none => rw [hr.1 rfl] at hi; simp at hi
    | some g =>
      have hrd := hr.2 g rfl
      have hdl := d.toNat_lt
      by_cases h9 : i = 9 ∧ 1 < d.toNat
      · rw [if_pos h9] at h1
        obtain ⟨h9a, h9b⟩ := h9
        repeat (first | refine ct_seq ?_ | refine ct_block ?_ | (refine ct_region' rfl ?_; simp only [List.map, lite]) | refine rt_nil ?_ | refine ct_skip ?_ | refine q_then ?_ | refine ct_true rfl ?_ | refine ct_false rfl ?_ | refine rg rfl (g_move (by conv => lhs; whnf)) rfl rfl ?_ | refine rg rfl (g_assign (by conv => lhs; whnf)) rfl rfl ?_ | (refine rg rfl (g_lssT rfl rfl ?_) rfl rfl ?_; (· (omega))) | (refine rg rfl (g_geqF rfl rfl ?_) rfl rfl ?_; (· (omega))) | refine rg rfl (g_len_slice rfl) rfl rfl ?_)
        refine rg rfl (g_elemR (j := i) rfl rfl (by omega) (by omega) (by omega)) rfl rfl ?_
        refine rg rfl (g_load_at (i := i) (by rw [Nat.mul_one]; rfl) hrd hd') rfl rfl ?_
        repeat (first | refine ct_seq ?_ | (refine ct_region' rfl ?_; simp only [List.map, lite]) | refine rt_nil ?_ | refine ct_ret ?_ | refine ct_exit ?_ | refine q_then ?_ | refine q_then_exit ?_ | refine q_block_exit ?_ | refine q_block_other rfl ?_ | refine ct_true rfl ?_ | refine rg rfl (g_move (by conv => lhs; whnf)) rfl rfl ?_ | refine rg rfl (g_assign (by conv => lhs; whnf)) rfl rfl ?_ | (refine rg rfl (g_eqlT rfl rfl ?_) rfl rfl ?_; (· (omega))) | refine rg rfl (g_pick_t rfl (by conv => lhs; whnf)) rfl rfl ?_ | refine rgw rfl rfl rfl rfl (g_move (by conv => lhs; whnf)) rfl rfl ?_ | (refine rgw rfl rfl rfl rfl (g_gtrT rfl rfl ?_) rfl rfl ?_; (· (omega))))
        refine q_ret3 Try.results61 rfl rfl rfl () (by rw [h1]; rfl) (Ent.refl _)
      · rw [if_neg h9] at h1
        have ho := num_or h3 h2 h9
        have hs := num_step h3 h2 h9 hdl
        repeat (first | refine ct_seq ?_ | refine ct_block ?_ | (refine ct_region' rfl ?_; simp only [List.map, lite]) | refine rt_nil ?_ | refine ct_skip ?_ | refine q_then ?_ | refine ct_true rfl ?_ | refine ct_false rfl ?_ | refine rg rfl (g_move (by conv => lhs; whnf)) rfl rfl ?_ | refine rg rfl (g_assign (by conv => lhs; whnf)) rfl rfl ?_ | (refine rg rfl (g_lssT rfl rfl ?_) rfl rfl ?_; (· (omega))) | (refine rg rfl (g_geqF rfl rfl ?_) rfl rfl ?_; (· (omega))) | refine rg rfl (g_len_slice rfl) rfl rfl ?_)
        refine rg rfl (g_elemR (j := i) rfl rfl (by omega) (by omega) (by omega)) rfl rfl ?_
        refine rg rfl (g_load_at (i := i) (by rw [Nat.mul_one]; rfl) hrd hd') rfl rfl ?_
        have e : IntKind.u64.wrap (bOp .and .u8 (d.toNat : Int) 127) = ((d.toNat % 128 : Nat) : Int) := by rw [and127, wrap_in (by constructor <;> omega)]
        by_cases hi9 : i = 9
        · have hd1 : ¬ 1 < d.toNat := fun h => h9 ⟨hi9, h⟩
          rw [if_pos (by omega)] at h1
          repeat (first | refine ct_seq ?_ | (refine ct_region' rfl ?_; simp only [List.map, lite]) | refine rt_nil ?_ | refine ct_skip ?_ | refine q_then ?_ | refine ct_false rfl ?_ | refine rg rfl (g_move (by conv => lhs; whnf)) rfl rfl ?_ | refine rg rfl (g_assign (by conv => lhs; whnf)) rfl rfl ?_ | (refine rg rfl (g_mulN rfl rfl ?_) rfl rfl ?_; (· (constructor <;> omega))) | (refine rg rfl (g_eqlT rfl rfl ?_) rfl rfl ?_; (· (omega))) | refine rg rfl (g_conv rfl) rfl rfl ?_ | refine rg rfl (g_pick_t rfl (by conv => lhs; whnf)) rfl rfl ?_ | refine rg rfl (g_and rfl rfl) rfl rfl ?_ | refine rgw rfl rfl rfl rfl (g_move (by conv => lhs; whnf)) rfl rfl ?_ | (refine rgw rfl rfl rfl rfl (g_gtrF rfl rfl ?_) rfl rfl ?_; (· (omega))))
          by_cases h0 : d.toNat = 0
          · rw [if_pos ⟨h0, by omega⟩] at h1
            rw [e]
            refine rg rfl (g_shl rfl rfl (by omega)) rfl rfl ?_
            repeat (first | refine ct_seq ?_ | (refine ct_region' rfl ?_; simp only [List.map, lite]) | refine rt_nil ?_ | refine ct_ret ?_ | refine q_then ?_ | refine q_then_ret ?_ | refine q_block_ret ?_ | refine ct_true rfl ?_ | refine rg rfl (g_move (by conv => lhs; whnf)) rfl rfl ?_ | refine rg rfl (g_assign (by conv => lhs; whnf)) rfl rfl ?_ | (refine rg rfl (g_lssT rfl rfl ?_) rfl rfl ?_; (· (omega))) | (refine rg rfl (g_eqlT rfl rfl ?_) rfl rfl ?_; (· (omega))) | refine rg rfl (g_pick_t rfl (by conv => lhs; whnf)) rfl rfl ?_ | refine rg rfl (g_or rfl rfl) rfl rfl ?_ | refine rgw rfl rfl rfl rfl (g_move (by conv => lhs; whnf)) rfl rfl ?_ | (refine rgw rfl rfl rfl rfl (g_gtrT rfl rfl ?_) rfl rfl ?_; (· (omega))))
            refine q_ret3 Try.results61 rfl rfl rfl () (by rw [h1, ho]; rfl) (Ent.refl _)
          · rw [if_neg (by omega)] at h1
            rw [e]
            refine rg rfl (g_shl rfl rfl (by omega)) rfl rfl ?_
            repeat (first | refine ct_seq ?_ | (refine ct_region' rfl ?_; simp only [List.map, lite]) | refine rt_nil ?_ | refine ct_skip ?_ | refine ct_ret ?_ | refine q_then ?_ | refine q_then_ret ?_ | refine q_block_ret ?_ | refine ct_true rfl ?_ | refine ct_false rfl ?_ | refine rgs rfl rfl rfl rfl rfl rfl ?_ | refine rg rfl (g_move (by conv => lhs; whnf)) rfl rfl ?_ | refine rg rfl (g_assign (by conv => lhs; whnf)) rfl rfl ?_ | (refine rg rfl (g_addN rfl rfl ?_) rfl rfl ?_; (· (constructor <;> omega))) | (refine rg rfl (g_lssT rfl rfl ?_) rfl rfl ?_; (· (omega))) | (refine rg rfl (g_eqlF rfl rfl ?_) rfl rfl ?_; (· (omega))) | refine rg rfl (g_pick_f rfl (by conv => lhs; whnf)) rfl rfl ?_ | refine rg rfl (g_or rfl rfl) rfl rfl ?_)
            refine q_ret3 Try.results61 rfl rfl rfl () (by rw [h1, ho]; rfl) (Ent.refl _)
        · repeat (first | refine ct_seq ?_ | (refine ct_region' rfl ?_; simp only [List.map, lite]) | refine rt_nil ?_ | refine ct_skip ?_ | refine q_then ?_ | refine ct_false rfl ?_ | refine rgs rfl rfl rfl rfl rfl rfl ?_ | refine rg rfl (g_move (by conv => lhs; whnf)) rfl rfl ?_ | refine rg rfl (g_assign (by conv => lhs; whnf)) rfl rfl ?_ | (refine rg rfl (g_mulN rfl rfl ?_) rfl rfl ?_; (· (constructor <;> omega))) | (refine rg rfl (g_eqlF rfl rfl ?_) rfl rfl ?_; (· (omega))) | refine rg rfl (g_conv rfl) rfl rfl ?_ | refine rg rfl (g_pick_f rfl (by conv => lhs; whnf)) rfl rfl ?_ | refine rg rfl (g_and rfl rfl) rfl rfl ?_)
          by_cases h128 : d.toNat < 128
          · rw [if_pos h128] at h1
            by_cases h0 : d.toNat = 0
            · by_cases hi0 : 0 < i
              · rw [if_pos ⟨h0, hi0⟩] at h1
                rw [e]
                refine rg rfl (g_shl rfl rfl (by omega)) rfl rfl ?_
                repeat (first | refine ct_seq ?_ | (refine ct_region' rfl ?_; simp only [List.map, lite]) | refine rt_nil ?_ | refine ct_ret ?_ | refine q_then ?_ | refine q_then_ret ?_ | refine q_block_ret ?_ | refine ct_true rfl ?_ | refine rg rfl (g_move (by conv => lhs; whnf)) rfl rfl ?_ | refine rg rfl (g_assign (by conv => lhs; whnf)) rfl rfl ?_ | (refine rg rfl (g_lssT rfl rfl ?_) rfl rfl ?_; (· (omega))) | (refine rg rfl (g_eqlT rfl rfl ?_) rfl rfl ?_; (· (omega))) | refine rg rfl (g_pick_t rfl (by conv => lhs; whnf)) rfl rfl ?_ | refine rg rfl (g_or rfl rfl) rfl rfl ?_ | refine rgw rfl rfl rfl rfl (g_move (by conv => lhs; whnf)) rfl rfl ?_ | (refine rgw rfl rfl rfl rfl (g_gtrT rfl rfl ?_) rfl rfl ?_; (· (omega))))
                refine q_ret3 Try.results61 rfl rfl rfl () (by rw [h1, ho]; rfl) (Ent.refl _)
              · rw [if_neg (by omega)] at h1
                rw [e]
                refine rg rfl (g_shl rfl rfl (by omega)) rfl rfl ?_
                repeat (first | refine ct_seq ?_ | (refine ct_region' rfl ?_; simp only [List.map, lite]) | refine rt_nil ?_ | refine ct_skip ?_ | refine ct_ret ?_ | refine q_then ?_ | refine q_then_ret ?_ | refine q_block_ret ?_ | refine ct_true rfl ?_ | refine ct_false rfl ?_ | refine rg rfl (g_move (by conv => lhs; whnf)) rfl rfl ?_ | refine rg rfl (g_assign (by conv => lhs; whnf)) rfl rfl ?_ | (refine rg rfl (g_addN rfl rfl ?_) rfl rfl ?_; (· (constructor <;> omega))) | (refine rg rfl (g_lssT rfl rfl ?_) rfl rfl ?_; (· (omega))) | (refine rg rfl (g_eqlT rfl rfl ?_) rfl rfl ?_; (· (omega))) | refine rg rfl (g_pick_t rfl (by conv => lhs; whnf)) rfl rfl ?_ | refine rg rfl (g_or rfl rfl) rfl rfl ?_ | refine rgw rfl rfl rfl rfl (g_move (by conv => lhs; whnf)) rfl rfl ?_ | (refine rgw rfl rfl rfl rfl (g_gtrF rfl rfl ?_) rfl rfl ?_; (· (omega))))
                refine q_ret3 Try.results61 rfl rfl rfl () (by rw [h1, ho]; rfl) (Ent.refl _)
            · rw [if_neg (by omega)] at h1
              rw [e]
              refine rg rfl (g_shl rfl rfl (by omega)) rfl rfl ?_
              repeat (first | refine ct_seq ?_ | (refine ct_region' rfl ?_; simp only [List.map, lite]) | refine rt_nil ?_ | refine ct_skip ?_ | refine ct_ret ?_ | refine q_then ?_ | refine q_then_ret ?_ | refine q_block_ret ?_ | refine ct_true rfl ?_ | refine ct_false rfl ?_ | refine rgs rfl rfl rfl rfl rfl rfl ?_ | refine rg rfl (g_move (by conv => lhs; whnf)) rfl rfl ?_ | refine rg rfl (g_assign (by conv => lhs; whnf)) rfl rfl ?_ | (refine rg rfl (g_addN rfl rfl ?_) rfl rfl ?_; (· (constructor <;> omega))) | (refine rg rfl (g_lssT rfl rfl ?_) rfl rfl ?_; (· (omega))) | (refine rg rfl (g_eqlF rfl rfl ?_) rfl rfl ?_; (· (omega))) | refine rg rfl (g_pick_f rfl (by conv => lhs; whnf)) rfl rfl ?_ | refine rg rfl (g_or rfl rfl) rfl rfl ?_)
              refine q_ret3 Try.results61 rfl rfl rfl () (by rw [h1, ho]; rfl) (Ent.refl _)
          · rw [if_neg h128] at h1
            rw [e]
            refine rg rfl (g_shl rfl rfl (by omega)) rfl rfl ?_
            repeat (first | refine ct_seq ?_ | (refine ct_region' rfl ?_; simp only [List.map, lite]) | refine rt_nil ?_ | refine ct_skip ?_ | refine q_then ?_ | refine q_block ?_ | refine ct_false rfl ?_ | refine rg rfl (g_move (by conv => lhs; whnf)) rfl rfl ?_ | refine rg rfl (g_assign (by conv => lhs; whnf)) rfl rfl ?_ | (refine rg rfl (g_addN rfl rfl ?_) rfl rfl ?_; (· (constructor <;> omega))) | (refine rg rfl (g_lssF rfl rfl ?_) rfl rfl ?_; (· (omega))) | refine rg rfl (g_or rfl rfl) rfl rfl ?_)
            refine q_again ⟨(i + 1, x + d.toNat % 128 * 2 ^ (7 * i)), ⟨by rw [h1]; congr 1; show 9 - i = 10 - (i + 1); omega, by show i + 1 ≤ 9; omega, hs.1⟩⟩ (by show 10 - (i + 1) < 10 - i; omega) ⟨rfl, ?_, rfl, trivial⟩ (Ent.refl _)
            exact congrArg (Value.int .u64) ho
  · rw [List.getElem?_eq_none (by omega)] at h1
    repeat (first | refine ct_seq ?_ | refine ct_block ?_ | (refine ct_region' rfl ?_; simp only [List.map, lite]) | refine rt_nil ?_ | refine ct_skip ?_ | refine ct_ret ?_ | refine q_then ?_ | refine q_then_ret ?_ | refine q_block_ret ?_ | refine ct_true rfl ?_ | refine rg rfl (g_move (by conv => lhs; whnf)) rfl rfl ?_ | refine rg rfl (g_assign (by conv => lhs; whnf)) rfl rfl ?_ | (refine rg rfl (g_lssT rfl rfl ?_) rfl rfl ?_; (· (omega))) | (refine rg rfl (g_geqT rfl rfl ?_) rfl rfl ?_; (· (omega))) | refine rg rfl (g_len_slice rfl) rfl rfl ?_)
    refine q_ret3 Try.results61 rfl rfl rfl () (by rw [h1]; rfl) (Ent.refl _)

/-! ### In.Number -/
def numWhy (xs : List UInt8) (pos most : Nat) : Nat := if (numAt (xs.drop pos) 10 0 0).2.2 = 0 ∧ most < (numAt (xs.drop pos) 10 0 0).1 then 22 else (numAt (xs.drop pos) 10 0 0).2.2
theorem ct_in' {c : Code} {Q : Exit → Act → World → Prop} {n : Nat} {D : List Deferred} {W0 : World} {ρ : Env} {R : HP} {p : Nat} {a : Option Addr} {cap : Nat} {xs : List UInt8} {pos : Nat} {e : Option (Nat × Nat)}
    (h : (a = none → xs = []) → (a = none → xs.length = 0 ∧ cap = 0) → xs.length ≤ cap → CT Try.prog c Q n D W0 ρ (InA p a cap xs pos e * R)) : CT Try.prog c Q n D W0 ρ (InA p a cap xs pos e * R) := by
  unfold InA at *
  exact ct_arr 5 1 a cap fun _ h0 hcap _ => h (fun hn => List.eq_nil_of_length_eq_zero (h0 hn).1) h0 hcap
theorem in_number_bad (R : HP) (p : Nat) (a : Option Addr) (cap : Nat) (xs : List UInt8) (pos q why : Nat) (most : Int) :
    Spec Try.prog 33 [.pointer (some ⟨p, 0, none⟩), .int .u64 most] (InA p a cap xs pos (some (q, why)) * R) (fun _ : Unit => .tuple #[.int .u64 0, errV (some q)]) (fun _ => InA p a cap xs pos (some (q, why)) * R) := by
  refine spec_of Try.func33 rfl Try.ntmps33 rfl fun W0 => ?_
  unfold InA
  simp only [Option.map_some]
  repeat (first | refine ct_seq ?_ | (refine ct_region' rfl ?_; simp only [List.map, lite]) | refine rt_nil ?_ | refine q_then ?_ | refine ct_true rfl ?_ | refine rg rfl (g_move (by conv => lhs; whnf)) rfl rfl ?_ | refine rg rfl (g_assign (by conv => lhs; whnf)) rfl rfl ?_ | refine rg rfl (g_nil rfl) rfl rfl ?_ | refine rg rfl (g_field0 rfl) rfl rfl ?_ | refine rg rfl (g_load rfl (by conv => lhs; whnf)) rfl rfl ?_ | refine rg rfl (g_err_ne (by conv => lhs; whnf) (by first | exact .inl rfl | exact .inr ⟨_, _, rfl⟩ | assumption)) rfl rfl ?_)
  refine ct_quiet (by kernel_rfl) rfl ?_
  simp only [List.map, lite]
  repeat (first | refine rq_nil ?_ | refine qg rfl (g_move (by conv => lhs; whnf)) rfl rfl ?_ | refine qg rfl (g_assign (by conv => lhs; whnf)) rfl rfl ?_ | refine qg rfl (g_nil rfl) rfl rfl ?_ | refine qg rfl (g_field0 rfl) rfl rfl ?_ | refine qg rfl (g_load rfl (by conv => lhs; whnf)) rfl rfl ?_)
  repeat (first | refine ct_ret ?_ | refine q_then ?_ | refine q_then_ret ?_)
  exact q_ret2 Try.results33 rfl rfl () rfl (Ent.refl _)
theorem rdB_drop {R : HP} {p : Nat} {a : Option Addr} {cap : Nat} {xs : List UInt8} {pos pos' : Nat} {e : Option (Nat × Nat)} (h0 : a = none → xs = []) (hcap : xs.length ≤ cap) (h : pos ≤ xs.length) :
    RdB (InA p a cap xs pos' e * R) (cutO a cap pos) (xs.drop pos) := by
  have := rdB_cut (R := R) (p := p) (pos' := pos') (e := e) (pos := pos) (xs.length - pos) h0 hcap (by omega)
  rwa [List.take_of_length_le (by simp)] at this
theorem g_cutO {P : Program} {ρ : Env} {A : HP} {dst : Option Nat} {ty : TypeId} {pos : String} {aft : Array Edge} {gd : Option (Nat × Bool)} {x lo : Operand} {T E l cap : Nat} {a : Option Addr} {k : IntKind} {i : Int} {j : Nat} (hx : ev ρ x = .slice a l cap) (hh : ev ρ lo = .int k i) [ht : TyU P T (.slice E)] {bytes : Nat} {z : Value} [he : TyI P E 1 bytes z] (h0 : a = none → l = 0 ∧ cap = 0) (hi : 0 ≤ i) (h1 : i ≤ l) (hj : i.toNat = j) :
    Gives P ⟨dst, .slice T x (some lo) none none, ty, pos, aft, gd⟩ ρ A (.slice (cutO a cap j) (l - j) (cap - j)) := by
  cases a with
  | some g => exact g_cut_lo hx hh hi h1 hj
  | none =>
    obtain ⟨rfl, rfl⟩ := h0 rfl
    have : i = 0 := by omega
    subst this
    subst hj
    exact g_cut_lo_nil hx hh rfl
theorem in_number_fail (R : HP) (p : Nat) (a : Option Addr) (cap : Nat) (xs : List UInt8) (pos most : Nat) (hp : pos ≤ xs.length) (hl : xs.length ≤ 140737488355328) (h : numWhy xs pos most ≠ 0) :
    Spec Try.prog 33 [.pointer (some ⟨p, 0, none⟩), .int .u64 (most : Int)] (InA p a cap xs pos none * R) (fun q : Nat => .tuple #[.int .u64 0, errV (some q)]) (fun q => InA p a cap xs pos (some (q, numWhy xs pos most)) * R) := by
  refine spec_of Try.func33 rfl Try.ntmps33 rfl fun W0 => ?_
  refine ct_in' fun h0 h0' hcap => ?_
  have hrd := rdB_drop (R := R) (p := p) (pos' := pos) (e := none) h0 hcap hp
  have hs := number_spec _ _ _ (cap - pos) hrd (by simp; omega)
  generalize hN : numAt (xs.drop pos) 10 0 0 = N at hs
  obtain ⟨x, m, why⟩ := N
  unfold numWhy at h ⊢
  rw [hN] at h ⊢
  rw [List.length_drop] at hs
  unfold InA at hs ⊢
  simp only [Option.map_none] at hs ⊢
  simp only at h
  repeat (first | refine ct_seq ?_ | (refine ct_region' rfl ?_; simp only [List.map, lite]) | refine rt_nil ?_ | refine ct_skip ?_ | refine q_then ?_ | refine ct_false rfl ?_ | refine rg rfl (g_move (by conv => lhs; whnf)) rfl rfl ?_ | refine rg rfl (g_assign (by conv => lhs; whnf)) rfl rfl ?_ | refine rg rfl (g_nil rfl) rfl rfl ?_ | refine rg rfl (g_field0 rfl) rfl rfl ?_ | refine rg rfl (g_load rfl (by conv => lhs; whnf)) rfl rfl ?_ | refine rg rfl (g_err_ne (by conv => lhs; whnf) (by first | exact .inl rfl | exact .inr ⟨_, _, rfl⟩ | assumption)) rfl rfl ?_)
  refine ct_quiet (by kernel_rfl) rfl ?_
  simp only [List.map, lite]
  repeat (first | refine qg rfl (g_move (by conv => lhs; whnf)) rfl rfl ?_ | refine qg rfl (g_nil rfl) rfl rfl ?_ | refine qg rfl (g_field0 rfl) rfl rfl ?_ | refine qg rfl (g_load rfl (by conv => lhs; whnf)) rfl rfl ?_)
  refine rq_give (wants_none rfl) (g_cutO (j := pos) rfl rfl h0' (by omega) (by omega) (by omega)) rfl rfl ?_
  refine rq_call (wants_none rfl) rfl rfl hs (fun _ => rfl) (fun _ => Ent.refl _) ?_
  unfold numTup
  repeat (first | refine rq_nil ?_ | refine qg rfl (g_move (by conv => lhs; whnf)) rfl rfl ?_ | refine qg rfl (g_assign (by conv => lhs; whnf)) rfl rfl ?_ | refine qg rfl (g_extract rfl (by conv => lhs; whnf)) rfl rfl ?_)
  by_cases hw : why = 0
  · have hm : most < x := Nat.lt_of_not_le fun hm => h (by rw [if_neg (by omega)]; exact hw)
    rw [if_pos ⟨hw, hm⟩]
    repeat (first | refine ct_seq ?_ | (refine ct_region' rfl ?_; simp only [List.map, lite]) | refine rt_nil ?_ | refine q_then ?_ | refine ct_true rfl ?_ | refine rg rfl (g_move (by conv => lhs; whnf)) rfl rfl ?_ | refine rg rfl (g_assign (by conv => lhs; whnf)) rfl rfl ?_ | refine rg rfl (g_nil rfl) rfl rfl ?_ | refine rg rfl (g_field0 rfl) rfl rfl ?_ | refine rg rfl (g_load rfl (by conv => lhs; whnf)) rfl rfl ?_ | (refine rg rfl (g_eqlT rfl rfl ?_) rfl rfl ?_; (· (omega))) | (refine rg rfl (g_neqT rfl rfl ?_) rfl rfl ?_; (· (omega))) | refine rg rfl (g_pick_t rfl (by conv => lhs; whnf)) rfl rfl ?_ | refine rgw rfl rfl rfl rfl (g_move (by conv => lhs; whnf)) rfl rfl ?_ | (refine rgw rfl rfl rfl rfl (g_gtrT rfl rfl ?_) rfl rfl ?_; (· (omega))))
    refine rt_ent (B := InA p a cap xs pos none * R) ?_ (Ent.refl _)
    refine rt_op (wants_none rfl) (o_callF rfl rfl (in_fail _ p a cap xs pos 22) fun q => ?_)
    repeat (first | refine rt_nil ?_ | refine ct_ret ?_ | refine q_then ?_ | refine q_then_ret ?_ | refine rg rfl (g_assign (by conv => lhs; whnf)) rfl rfl ?_)
    refine q_ret2 Try.results33 rfl rfl q rfl (Ent.refl _)
  · rw [if_neg (by omega)]
    repeat (first | refine ct_seq ?_ | (refine ct_region' rfl ?_; simp only [List.map, lite]) | refine rt_nil ?_ | refine ct_skip ?_ | refine q_then ?_ | refine ct_true rfl ?_ | refine ct_false rfl ?_ | refine rgs rfl rfl rfl rfl rfl rfl ?_ | refine rg rfl (g_move (by conv => lhs; whnf)) rfl rfl ?_ | refine rg rfl (g_nil rfl) rfl rfl ?_ | refine rg rfl (g_field0 rfl) rfl rfl ?_ | refine rg rfl (g_load rfl (by conv => lhs; whnf)) rfl rfl ?_ | (refine rg rfl (g_eqlF rfl rfl ?_) rfl rfl ?_; (· (omega))) | (refine rg rfl (g_neqT rfl rfl ?_) rfl rfl ?_; (· (omega))) | refine rg rfl (g_pick_f rfl (by conv => lhs; whnf)) rfl rfl ?_)
    refine rt_ent (B := InA p a cap xs pos none * R) ?_ (Ent.refl _)
    refine rt_op (wants_none rfl) (o_callF rfl rfl (in_fail _ p a cap xs pos why) fun q => ?_)
    repeat (first | refine rt_nil ?_ | refine ct_ret ?_ | refine q_then ?_ | refine q_then_ret ?_ | refine rg rfl (g_assign (by conv => lhs; whnf)) rfl rfl ?_)
    refine q_ret2 Try.results33 rfl rfl q rfl (Ent.refl _)
theorem in_number_ok (R : HP) (p : Nat) (a : Option Addr) (cap : Nat) (xs : List UInt8) (pos most : Nat) (hp : pos ≤ xs.length) (hl : xs.length ≤ 140737488355328) (h : numWhy xs pos most = 0) :
    Spec Try.prog 33 [.pointer (some ⟨p, 0, none⟩), .int .u64 (most : Int)] (InA p a cap xs pos none * R) (fun _ : Unit => .tuple #[.int .u64 ((numAt (xs.drop pos) 10 0 0).1 : Int), .nilIface]) (fun _ => InA p a cap xs (pos + (numAt (xs.drop pos) 10 0 0).2.1) none * R) := by
  refine spec_of Try.func33 rfl Try.ntmps33 rfl fun W0 => ?_
  refine ct_in' fun h0 h0' hcap => ?_
  have hrd := rdB_drop (R := R) (p := p) (pos' := pos) (e := none) h0 hcap hp
  have hs := number_spec _ _ _ (cap - pos) hrd (by simp; omega)
  have hok : (numAt (xs.drop pos) 10 0 0).2.2 = 0 → (numAt (xs.drop pos) 10 0 0).2.1 ≤ xs.length - pos := fun hw => by
    obtain ⟨_, h2, rest, h3⟩ := numAt_ok0 hw
    rw [h2, ← List.length_drop]
    conv => rhs; rw [h3]
    simp
  generalize hN : numAt (xs.drop pos) 10 0 0 = N at hs hok ⊢
  obtain ⟨x, m, why⟩ := N
  unfold numWhy at h
  rw [hN] at h
  rw [List.length_drop] at hs
  unfold InA at hs ⊢
  simp only [Option.map_none] at hs ⊢
  simp only at h hok ⊢
  have hwm : why = 0 ∧ x ≤ most := by
    by_cases hc : why = 0 ∧ most < x
    · rw [if_pos hc] at h; cases h
    · rw [if_neg hc] at h; exact ⟨h, by omega⟩
  obtain ⟨rfl, hm⟩ := hwm
  have hmx := hok rfl
  clear hok h
  repeat (first | refine ct_seq ?_ | (refine ct_region' rfl ?_; simp only [List.map, lite]) | refine rt_nil ?_ | refine ct_skip ?_ | refine q_then ?_ | refine ct_false rfl ?_ | refine rg rfl (g_move (by conv => lhs; whnf)) rfl rfl ?_ | refine rg rfl (g_assign (by conv => lhs; whnf)) rfl rfl ?_ | refine rg rfl (g_nil rfl) rfl rfl ?_ | refine rg rfl (g_field0 rfl) rfl rfl ?_ | refine rg rfl (g_load rfl (by conv => lhs; whnf)) rfl rfl ?_ | refine rg rfl (g_err_ne (by conv => lhs; whnf) (by first | exact .inl rfl | exact .inr ⟨_, _, rfl⟩ | assumption)) rfl rfl ?_)
  refine ct_quiet (by kernel_rfl) rfl ?_
  simp only [List.map, lite]
  repeat (first | refine qg rfl (g_move (by conv => lhs; whnf)) rfl rfl ?_ | refine qg rfl (g_nil rfl) rfl rfl ?_ | refine qg rfl (g_field0 rfl) rfl rfl ?_ | refine qg rfl (g_load rfl (by conv => lhs; whnf)) rfl rfl ?_)
  refine rq_give (wants_none rfl) (g_cutO (j := pos) rfl rfl h0' (by omega) (by omega) (by omega)) rfl rfl ?_
  refine rq_call (wants_none rfl) rfl rfl hs (fun _ => rfl) (fun _ => Ent.refl _) ?_
  unfold numTup
  repeat (first | refine rq_nil ?_ | refine qg rfl (g_move (by conv => lhs; whnf)) rfl rfl ?_ | refine qg rfl (g_assign (by conv => lhs; whnf)) rfl rfl ?_ | refine qg rfl (g_extract rfl (by conv => lhs; whnf)) rfl rfl ?_)
  repeat (first | refine ct_seq ?_ | (refine ct_region' rfl ?_; simp only [List.map, lite]) | refine rt_nil ?_ | refine ct_skip ?_ | refine q_then ?_ | refine ct_false rfl ?_ | refine rg rfl (g_move (by conv => lhs; whnf)) rfl rfl ?_ | refine rg rfl (g_nil rfl) rfl rfl ?_ | refine rg rfl (g_field0 rfl) rfl rfl ?_ | refine rg rfl (g_load rfl (by conv => lhs; whnf)) rfl rfl ?_ | (refine rg rfl (g_addN rfl rfl ?_) rfl rfl ?_; (· (constructor <;> omega))) | (refine rg rfl (g_eqlT rfl rfl ?_) rfl rfl ?_; (· (omega))) | (refine rg rfl (g_neqF rfl rfl ?_) rfl rfl ?_; (· (omega))) | refine rg rfl (g_pick_t rfl (by conv => lhs; whnf)) rfl rfl ?_ | refine rgw rfl rfl rfl rfl (g_move (by conv => lhs; whnf)) rfl rfl ?_ | (refine rgw rfl rfl rfl rfl (g_gtrF rfl rfl ?_) rfl rfl ?_; (· (omega))))
  refine rt_op (wants_none rfl) (o_store rfl (by conv => lhs; whnf) rfl rfl (by first | (simp only [List.set_cons_zero, List.set_cons_succ]; rfl) | rfl) ?_)
  repeat (first | refine ct_seq ?_ | (refine ct_region' rfl ?_; simp only [List.map, lite]) | refine rt_nil ?_ | refine ct_ret ?_ | refine q_then ?_ | refine rg rfl (g_move (by conv => lhs; whnf)) rfl rfl ?_ | refine rg rfl (g_assign (by conv => lhs; whnf)) rfl rfl ?_)
  exact q_ret2 Try.results33 rfl rfl () rfl (by simp only [Int.natCast_add, badAt_none]; exact En.ent)
end Go.Proofs.Ytfcanppeiadbhaa
