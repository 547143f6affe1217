/- Hashes: their order, lists that rise, the sorted list. No program. -/
import Derived.Test.YtijplicijmpknaaXc
namespace Go.Proofs.Ytijplicijmpknaa
open Go.RowKit

abbrev Hs := { b : List UInt8 // b.length = 32 }
abbrev hc (h : Hs) : List Value := h.1.map bv
theorem hc_len (h : Hs) : (h.1.map bv).length = 32 := by rw [List.length_map]; exact h.2
theorem hc_one (h : Hs) : (hc h).all Value.oneCell' = true := List.all_eq_true.2 fun v hv => bvs_one v hv
theorem hc_inj {x y : Hs} (h : x.1 = y.1) : x = y := Subtype.ext h
def zeroH : Hs := ⟨List.replicate 32 0, by simp⟩
def cmpH (x y : Hs) : Int := cmpL x.1 y.1

theorem cmpL_drop (x y : List UInt8) (i : Nat) (hx : i < x.length) (hy : i < y.length) : cmpL (x.drop i) (y.drop i) = if x[i] < y[i] then -1 else if y[i] < x[i] then 1 else cmpL (x.drop (i + 1)) (y.drop (i + 1)) := by
  rw [List.drop_eq_getElem_cons hx, List.drop_eq_getElem_cons hy]; rfl
theorem u8_lt_irrefl (a : UInt8) : ¬ a < a := by rw [UInt8.lt_iff_toNat_lt]; omega
theorem cmpL_self : ∀ x : List UInt8, cmpL x x = 0
  | [] => rfl
  | a :: x => by simp only [cmpL]; rw [if_neg (u8_lt_irrefl a), if_neg (u8_lt_irrefl a), cmpL_self x]
theorem cmpL_neg : ∀ x y : List UInt8, cmpL y x = - cmpL x y
  | [], [] => rfl
  | [], _ :: _ => rfl
  | _ :: _, [] => rfl
  | a :: x, b :: y => by
    simp only [cmpL]
    have h := UInt8.lt_iff_toNat_lt (a := a) (b := b)
    have h' := UInt8.lt_iff_toNat_lt (a := b) (b := a)
    by_cases h1 : a < b
    · have h2 : ¬ b < a := by rw [h'] ; rw [h] at h1; omega
      rw [if_pos h1, if_neg h2, if_pos h1]; rfl
    · by_cases h2 : b < a
      · rw [if_pos h2, if_neg h1, if_pos h2]
      · rw [if_neg h2, if_neg h1, if_neg h1, if_neg h2, cmpL_neg x y]
theorem cmpL_eq : ∀ x y : List UInt8, x.length = y.length → cmpL x y = 0 → x = y
  | [], [], _, _ => rfl
  | [], _ :: _, h, _ => by simp at h
  | _ :: _, [], h, _ => by simp at h
  | a :: x, b :: y, hl, h => by
    simp only [cmpL] at h
    by_cases h1 : a < b
    · rw [if_pos h1] at h; cases h
    · by_cases h2 : b < a
      · rw [if_neg h1, if_pos h2] at h; cases h
      · rw [if_neg h1, if_neg h2] at h
        have e := cmpL_eq x y (by simpa using hl) h
        have e2 : a = b := by
          rw [UInt8.lt_iff_toNat_lt] at h1 h2
          exact UInt8.toNat_inj.1 (by omega)
        rw [e, e2]
theorem cmpL_range (x y : List UInt8) : cmpL x y = -1 ∨ cmpL x y = 0 ∨ cmpL x y = 1 := by
  induction x generalizing y with
  | nil => exact .inr (.inl (by cases y <;> rfl))
  | cons a x ih =>
    cases y with
    | nil => exact .inr (.inl rfl)
    | cons b y =>
      simp only [cmpL]
      split
      · exact .inl rfl
      · split
        · exact .inr (.inr rfl)
        · exact ih y
theorem cmpL_trans : ∀ x y z : List UInt8, x.length = y.length → y.length = z.length → cmpL x y < 0 → cmpL y z < 0 → cmpL x z < 0
  | [], [], [], _, _, h, _ => by simp [cmpL] at h
  | [], _ :: _, _, h, _, _, _ => by simp at h
  | _ :: _, [], _, h, _, _, _ => by simp at h
  | _, [], _ :: _, _, h, _, _ => by simp at h
  | _, _ :: _, [], _, h, _, _ => by simp at h
  | a :: x, b :: y, c :: z, hl, hl', h, h' => by
    simp only [cmpL] at h h' ⊢
    simp only [UInt8.lt_iff_toNat_lt] at h h' ⊢
    have ih := cmpL_trans x y z (by simpa using hl) (by simpa using hl')
    by_cases h1 : a.toNat < b.toNat
    · by_cases h2 : b.toNat < c.toNat
      · rw [if_pos (by omega)]; decide
      · rw [if_neg h2] at h'
        by_cases h3 : c.toNat < b.toNat
        · rw [if_pos h3] at h'; exact absurd h' (by decide)
        · rw [if_pos (by omega)]; decide
    · rw [if_neg h1] at h
      by_cases h2 : b.toNat < a.toNat
      · rw [if_pos h2] at h; exact absurd h (by decide)
      · rw [if_neg h2] at h
        by_cases h3 : b.toNat < c.toNat
        · rw [if_pos (by omega)]; decide
        · rw [if_neg h3] at h'
          by_cases h4 : c.toNat < b.toNat
          · rw [if_pos h4] at h'; exact absurd h' (by decide)
          · rw [if_neg h4] at h'
            rw [if_neg (by omega), if_neg (by omega)]
            exact ih h h'
theorem cmpH_self (x : Hs) : cmpH x x = 0 := cmpL_self _
theorem cmpH_neg (x y : Hs) : cmpH y x = - cmpH x y := cmpL_neg _ _
theorem cmpH_eq {x y : Hs} (h : cmpH x y = 0) : x = y := hc_inj (cmpL_eq _ _ (by rw [x.2, y.2]) h)
theorem cmpH_range (x y : Hs) : cmpH x y = -1 ∨ cmpH x y = 0 ∨ cmpH x y = 1 := cmpL_range _ _
theorem cmpH_trans {x y z : Hs} (h : cmpH x y < 0) (h' : cmpH y z < 0) : cmpH x z < 0 := cmpL_trans _ _ _ (by rw [x.2, y.2]) (by rw [y.2, z.2]) h h'

/-! ### lists of hashes in memory -/
section
variable {P : Program} {ops : Array Oper} {Q : Exit → Act → World → Prop} {n : Nat} {D : List Deferred} {W0 : World} {rest : List Oper} {ρ : Env} {A B R : HP}
variable {K : Env → HP → Prop} {d : Nat} {dst : Option Tmp} {ty : TypeId} {pos : String} {aft : Array Edge} {gd : Option (Nat × Bool)}
theorem hs_len (l : List Hs) : (l.flatMap hc).length = l.length * 32 := flat_len hc_len l
theorem hs_pos {l : List Hs} {i : Nat} (h : i < l.length) : 0 < (l.flatMap hc).length := by rw [hs_len]; omega
theorem hs_ne {l : List Hs} {i : Nat} (h : i < l.length) : l.flatMap hc ≠ [] := fun e => by have := hs_pos h; rw [e] at this; simp at this
theorem hs_sub {l : List Hs} {i : Nat} (h : i < l.length) : ∀ (j : Nat) (v : Value), (hc l[i])[j]? = some v → (l.flatMap hc)[i * 32 + j]? = some v := fun j v e => by
  rw [flat_get hc_len l i j l[i] (List.getElem?_eq_getElem h) (by have := (List.getElem?_eq_some_iff.1 e).1; rwa [hc_len] at this)]; exact e
theorem hs_one (l : List Hs) : (l.flatMap hc).all Value.oneCell' = true := List.all_eq_true.2 fun v hv => by
  obtain ⟨h, _, hh⟩ := List.mem_flatMap.1 hv
  exact bvs_one v hh
/-- a hash's place in a list -/
theorem g_elemH {x ix : Operand} {T e bytes : Nat} {z : Value} {ad : Option Addr} {m c j : Nat} {k : IntKind} {i : Int} {l : List Hs} (hx : ev ρ x = .slice ad m c) (hi : ev ρ ix = .int k i) [ht : TyU P T (.slice e)] [he : TyI P e 32 bytes z] [hr : Rd A ad (l.flatMap hc)] [hj : NatI i j]
    (h1 : j < m) (h2 : j < l.length) : Gives P ⟨dst, .indexAddr T x ix, ty, pos, aft, gd⟩ ρ A (.pointer (some ((adr ad).add (j * 32)))) := g_elemO hx hi h1 (hs_pos h2)
/-- a hash of a list -/
theorem g_loadH {x : Operand} {t j : Nat} {ad : Option Addr} {l : List Hs} (hx : ev ρ x = .pointer (some ((adr ad).add (j * 32)))) [h1 : TyA P t 32] [hr : Rd A ad (l.flatMap hc)] (hj : j < l.length) : Gives P ⟨dst, .load t x, ty, pos, aft, gd⟩ ρ A (.agg (hc l[j]).toArray) :=
  g_loadAgg_rd hx (hc_len _) (hs_ne hj) (hs_sub hj)
theorem flat_set : ∀ (zs : List Hs) (j : Nat) (h : Hs), j < zs.length → (zs.flatMap hc).take (j * 32) ++ hc h ++ (zs.flatMap hc).drop (j * 32 + 32) = (zs.set j h).flatMap hc
  | [], j, h, hj => by simp at hj
  | z :: zs, 0, h, _ => by
    have hz : (hc z).length = 32 := hc_len z
    rw [List.flatMap_cons, Nat.zero_mul, List.take_zero, List.nil_append, Nat.zero_add, List.drop_append, List.drop_eq_nil_of_le (by omega), hz, List.set_cons_zero, List.flatMap_cons]
    simp
  | z :: zs, j + 1, h, hj => by
    have hz : (hc z).length = 32 := hc_len z
    have ih := flat_set zs j h (by simpa using hj)
    rw [List.flatMap_cons, List.set_cons_succ, List.flatMap_cons, ← ih, List.take_append, List.drop_append, List.take_of_length_le (by omega), List.drop_eq_nil_of_le (by omega), hz, show (j + 1) * 32 - 32 = j * 32 by omega, show (j + 1) * 32 + 32 - 32 = j * 32 + 32 by omega]
    simp
/-- '[]Hash{h}' -/
theorem o_buildH {T E bytes : Nat} {z : Value} {x : Operand} {h : Hs} (hd : Nat.blt d n = true) [ht : TyU P T (.slice E)] [he : TyI P E 32 bytes z] (hx : ev ρ x = .agg (hc h).toArray)
    (hK : ∀ b, K (upd ρ d (.slice (some ⟨b, 0, none⟩) 1 1)) (Blk b (hc h) E * A)) : OT P Q n D W0 ⟨some d, .buildSlice T 1 #[(0, x)], ty, pos, aft, gd⟩ ρ A K :=
  o_build1 (vc := hc h) hd hx (by have : (hc h).length = 32 := hc_len h; exact this) rfl rfl rfl hK
/-- 's = append(s, h)' -/
theorem o_appH {T E b bytes m cap c : Nat} {z : Value} {x y : Operand} {ad : Option Addr} {vc : List Value} {l l' : List Hs} {h : Hs} {T' : TypeId} {R1 : HP}
    (hd : Nat.blt d n = true) [ht : TyU P T (.slice E)] [he : TyI P E 32 bytes z]
    (hx : ev ρ x = .slice ad m cap) (hy : ev ρ y = .slice (some ⟨b, 0, none⟩) 1 c) [hb : FBlk A b vc T' R1] [hf : FArr R1 E 32 ad cap m (l.flatMap hc) R] (hvc : vc = hc h) (h0 : Nat.blt 0 bytes = true) (hbig : (m + 1) * bytes ≤ 140737488355328)
    {mk : Nat} (hm : m + 1 = mk) (hys : l ++ [h] = l') (hK : ∀ ad' cap', mk ≤ cap' → ad' ≠ none → K (upd ρ d (.slice ad' mk cap')) (Arr E 32 ad' cap' mk (l'.flatMap hc) * R)) :
    OT P Q n D W0 ⟨some d, .call { callee := .builtin .append, args := #[x, y], argTypes := #[T, T] }, ty, pos, aft, gd⟩ ρ A K := by
  subst hvc hys
  refine o_app2 hd hx hy (by have : (hc h).length = 32 := hc_len h; exact this) (hc_one h) h0 hbig hm ?_ hK
  rw [List.flatMap_append]; simp
/-- 's[j] = h' -/
theorem o_storeH {x y : Operand} {t j E cap m : Nat} {ad : Option Addr} {zs zs' : List Hs} {h : Hs} (hx : ev ρ x = .pointer (some ((adr ad).add (j * 32)))) (hy : ev ρ y = .agg (hc h).toArray) [h1 : TyA P t 32] [hf : FAr A ad E 32 cap m (zs.flatMap hc) R] (hj : j < zs.length) (hzs : zs.set j h = zs')
    (hK : K ρ (Arr E 32 ad cap m (zs'.flatMap hc) * R)) : OT P Q n D W0 ⟨none, .store t x y, ty, pos, aft, gd⟩ ρ A K :=
  o_do rfl (fun w s => by
    subst hzs
    obtain ⟨hl, hcs⟩ := (s.ent hf.ent).arr
    have hlen := hs_len zs
    rcases hcs with ⟨_, _, rfl⟩ | ⟨g, spare, rfl, h2, h3, h4, s'⟩
    · omega
    · have ha : (Addr.add ⟨g, 0, none⟩ (j * 32)) = ⟨g, j * 32, none⟩ := by unfold Addr.add; split <;> simp_all
      rw [adr_some, ha] at hx
      have hh : (hc h).length = 32 := hc_len h
      have e := run_storeCells_at P g (j * 32) E (hc h) 0 (zs.flatMap hc ++ spare).toArray w s'.blk (by simp only [List.size_toArray, List.length_append]; omega) (fun v hm => bvs_one v hm)
      obtain ⟨inf, hinf, hsz⟩ := Option.map_eq_some_iff.1 h1.size
      have e3 : (zs.flatMap hc ++ spare).toArray.toList.take (j * 32 + 0) ++ hc h ++ (zs.flatMap hc ++ spare).toArray.toList.drop (j * 32 + 0 + (hc h).length) = (zs.set j h).flatMap hc ++ spare := by
        rw [← flat_set zs j h hj, hh]
        simp only [List.toList_toArray, Nat.add_zero]
        rw [List.take_append_of_le_length (by omega), List.drop_append_of_le_length (by omega)]
        simp
      rw [e3] at e
      have e2 : ∀ vs : Array Value, vs.toList = hc h → (storeVar t ⟨g, j * 32, none⟩ (.agg vs)).run P w = .ok () (w.setRow g ((zs.set j h).flatMap hc ++ spare).toArray) := fun vs hvl => by
        have hsz' : vs.size = 32 := by rw [← hh, ← hvl]; simp
        simp only [storeVar, Value.cells, sizeOf, typeInfo]
        generalize (zs.set j h).flatMap hc ++ spare = cs' at e ⊢
        simp [hinf, hsz, hsz', hvl]
        exact e
      exact ⟨_, by simp [execOp, hx, hy, Instr.storeAt, Instr.sureAddr, e2 (hc h).toArray rfl], (s'.row (cs' := (zs.set j h).flatMap hc ++ spare)).ent (Ent.mul (arr_mk (by rw [hs_len, List.length_set]; omega) h2 h3 (by rw [hs_len, List.length_set]; omega)) (Ent.refl _))⟩) hK
end
/-! ### lists that rise -/
def ltH (x y : Hs) : Prop := cmpH x y < 0
instance : DecidableRel ltH := fun x y => inferInstanceAs (Decidable (cmpH x y < 0))
def Rises (l : List Hs) : Prop := l.Pairwise ltH
/-- each stands behind the one ahead of it -/
def risingS : List Hs → Bool
  | [] => true
  | [_] => true
  | x :: y :: l => decide (cmpH x y < 0) && risingS (y :: l)
theorem rises_iff : ∀ l : List Hs, risingS l = true ↔ Rises l
  | [] => by simp [risingS, Rises]
  | [x] => by simp [risingS, Rises]
  | x :: y :: l => by
    unfold Rises
    rw [risingS, Bool.and_eq_true, decide_eq_true_eq, rises_iff (y :: l), List.pairwise_cons]
    constructor
    · rintro ⟨h, h2⟩
      refine ⟨fun z hz => ?_, h2⟩
      rcases List.mem_cons.1 hz with rfl | hz
      · exact h
      · exact cmpH_trans h ((List.pairwise_cons.1 h2).1 z hz)
    · rintro ⟨h, h2⟩
      exact ⟨h y (List.mem_cons_self ..), h2⟩
theorem risingS_get {l : List Hs} : risingS l = true ↔ ∀ i (h : i + 1 < l.length), cmpH l[i] l[i + 1] < 0 := by
  induction l with
  | nil => simp [risingS]
  | cons x l ih =>
    cases l with
    | nil => simp [risingS]
    | cons y l =>
      rw [risingS, Bool.and_eq_true, decide_eq_true_eq, ih]
      constructor
      · rintro ⟨h, h2⟩ i hi
        cases i with
        | zero => exact h
        | succ i => exact h2 i (by simpa using hi)
      · intro h
        exact ⟨h 0 (by simp), fun i hi => h (i + 1) (by simpa using hi)⟩
/-- two lists that rise and have the same elements are one -/
theorem rises_unique : ∀ {a b : List Hs}, Rises a → Rises b → (∀ h, h ∈ a ↔ h ∈ b) → a = b
  | [], [], _, _, _ => rfl
  | [], y :: b, _, _, h => absurd ((h y).2 (List.mem_cons_self ..)) (by simp)
  | x :: a, [], _, _, h => absurd ((h x).1 (List.mem_cons_self ..)) (by simp)
  | x :: a, y :: b, ha, hb, h => by
    have ha' := List.pairwise_cons.1 ha
    have hb' := List.pairwise_cons.1 hb
    have irr : ∀ z, ¬ ltH z z := fun z hz => by unfold ltH at hz; rw [cmpH_self] at hz; omega
    have e : x = y := by
      rcases List.mem_cons.1 ((h x).1 (List.mem_cons_self ..)) with e | hx
      · exact e
      · rcases List.mem_cons.1 ((h y).2 (List.mem_cons_self ..)) with e | hy
        · exact e.symm
        · have h1 := hb'.1 x hx
          have h2 := ha'.1 y hy
          exact absurd (cmpH_trans h1 h2) (irr y)
    subst e
    refine congrArg (x :: ·) (rises_unique ha'.2 hb'.2 fun z => ?_)
    have hz := h z
    simp only [List.mem_cons] at hz
    constructor
    · intro hza
      rcases hz.1 (.inr hza) with e | hzb
      · subst e; exact absurd (ha'.1 z hza) (irr z)
      · exact hzb
    · intro hzb
      rcases hz.2 (.inr hzb) with e | hza
      · subst e; exact absurd (hb'.1 z hzb) (irr z)
      · exact hza
/-- the list in order, each once -/
def insH (x : Hs) : List Hs → List Hs
  | [] => [x]
  | y :: l => if cmpH x y < 0 then x :: y :: l else if cmpH x y = 0 then y :: l else y :: insH x l
def sortS (l : List Hs) : List Hs := l.foldr insH []
theorem mem_insH (x : Hs) : ∀ (l : List Hs) (z : Hs), z ∈ insH x l ↔ z = x ∨ z ∈ l
  | [], z => by simp [insH]
  | y :: l, z => by
    unfold insH
    split
    · simp
    · split
      · next h => have := cmpH_eq h; subst this; simp
      · simp only [List.mem_cons, mem_insH x l]
        constructor
        · rintro (h | h | h)
          · exact .inr (.inl h)
          · exact .inl h
          · exact .inr (.inr h)
        · rintro (h | h | h)
          · exact .inr (.inl h)
          · exact .inl h
          · exact .inr (.inr h)
theorem rises_insH (x : Hs) : ∀ (l : List Hs), Rises l → Rises (insH x l)
  | [], _ => by simp [insH, Rises]
  | y :: l, h => by
    have h' := List.pairwise_cons.1 h
    unfold insH
    split
    · next hx =>
      refine List.pairwise_cons.2 ⟨fun z hz => ?_, h⟩
      rcases List.mem_cons.1 hz with rfl | hz
      · exact hx
      · exact cmpH_trans hx (h'.1 z hz)
    · next hx =>
      split
      · exact h
      · next h0 =>
        refine List.pairwise_cons.2 ⟨fun z hz => ?_, rises_insH x l h'.2⟩
        rcases (mem_insH x l z).1 hz with rfl | hz
        · unfold ltH; rw [cmpH_neg]
          rcases cmpH_range z y with e | e | e <;> omega
        · exact h'.1 z hz
theorem sortS_rises (l : List Hs) : Rises (sortS l) := by
  induction l with
  | nil => exact List.Pairwise.nil
  | cons x l ih => exact rises_insH x _ ih
theorem mem_sortS (l : List Hs) (z : Hs) : z ∈ sortS l ↔ z ∈ l := by
  induction l with
  | nil => simp [sortS]
  | cons x l ih =>
    show z ∈ insH x (sortS l) ↔ _
    rw [mem_insH, ih, List.mem_cons]
theorem sortS_unique {l s : List Hs} (h : Rises s) (hm : ∀ z, z ∈ s ↔ z ∈ l) : s = sortS l := rises_unique h (sortS_rises l) fun z => (hm z).trans (mem_sortS l z).symm
theorem nodup_rises {l : List Hs} (h : Rises l) : l.Nodup := h.imp fun {a b} hab e => by subst e; unfold ltH at hab; rw [cmpH_self] at hab; omega
theorem sortS_len (l : List Hs) : (sortS l).length ≤ l.length := by
  induction l with
  | nil => simp [sortS]
  | cons x l ih =>
    have key : ∀ m : List Hs, (insH x m).length ≤ m.length + 1 := by
      intro m
      induction m with
      | nil => simp [insH]
      | cons y m ih2 => unfold insH; split <;> (try split) <;> simp <;> omega
    show (insH x (sortS l)).length ≤ _
    have := key (sortS l)
    simp only [List.length_cons]; omega
end Go.Proofs.Ytijplicijmpknaa
