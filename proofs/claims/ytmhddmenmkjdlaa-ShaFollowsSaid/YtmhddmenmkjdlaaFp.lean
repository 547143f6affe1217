/- Hashes as texts: there and back; the order of the texts. -/
import Derived.Test.YtmhddmenmkjdlaaT3
import Derived.Test.YtmhddmenmkjdlaaHo
namespace Go.Proofs.Ytmhddmenmkjdlaa
open Go.RowKit

theorem hexd_all : ∀ m n : Fin 16, (hexd m.val < hexd n.val ↔ m.val < n.val) ∧ (hexd m.val = hexd n.val ↔ m.val = n.val) ∧ dig (hexd m.val) = (m.val : Int) := by decide +kernel
theorem hexd_lt {m n : Nat} (hm : m < 16) (hn : n < 16) : hexd m < hexd n ↔ m < n := (hexd_all ⟨m, hm⟩ ⟨n, hn⟩).1
theorem hexd_eq {m n : Nat} (hm : m < 16) (hn : n < 16) : hexd m = hexd n ↔ m = n := (hexd_all ⟨m, hm⟩ ⟨n, hn⟩).2.1
theorem dig_hexd {m : Nat} (hm : m < 16) : dig (hexd m) = (m : Int) := (hexd_all ⟨m, hm⟩ ⟨m, hm⟩).2.2
theorem print_less : ∀ x y : List UInt8, x.length = y.length → Op.bytesLess (printS x) (printS y) = decide (cmpL x y < 0)
  | [], [], _ => rfl
  | [], _ :: _, h => by simp at h
  | _ :: _, [], h => by simp at h
  | a :: x, b :: y, hl => by
    have ih := print_less x y (by simpa using hl)
    have ha := a.toNat_lt
    have hb := b.toNat_lt
    have e1 := hexd_lt (m := a.toNat / 16) (n := b.toNat / 16) (by omega) (by omega)
    have e2 := hexd_eq (m := a.toNat / 16) (n := b.toNat / 16) (by omega) (by omega)
    have e3 := hexd_lt (m := a.toNat % 16) (n := b.toNat % 16) (by omega) (by omega)
    have e4 := hexd_eq (m := a.toNat % 16) (n := b.toNat % 16) (by omega) (by omega)
    have p1 : printS (a :: x) = hexd (a.toNat / 16) :: hexd (a.toNat % 16) :: printS x := rfl
    have p2 : printS (b :: y) = hexd (b.toNat / 16) :: hexd (b.toNat % 16) :: printS y := rfl
    rw [p1, p2]
    have c1 : cmpL (a :: x) (b :: y) = if a.toNat < b.toNat then -1 else if b.toNat < a.toNat then 1 else cmpL x y := by simp only [cmpL, UInt8.lt_iff_toNat_lt]
    rw [c1]
    simp only [Op.bytesLess]
    rw [ih]
    have d1 : decide (hexd (a.toNat / 16) < hexd (b.toNat / 16)) = decide (a.toNat / 16 < b.toNat / 16) := decide_eq_decide.2 e1
    have d2 : (hexd (a.toNat / 16) == hexd (b.toNat / 16)) = decide (a.toNat / 16 = b.toNat / 16) := by rw [Bool.eq_iff_iff, beq_iff_eq, decide_eq_true_eq]; exact e2
    have d3 : decide (hexd (a.toNat % 16) < hexd (b.toNat % 16)) = decide (a.toNat % 16 < b.toNat % 16) := decide_eq_decide.2 e3
    have d4 : (hexd (a.toNat % 16) == hexd (b.toNat % 16)) = decide (a.toNat % 16 = b.toNat % 16) := by rw [Bool.eq_iff_iff, beq_iff_eq, decide_eq_true_eq]; exact e4
    rw [d1, d2, d3, d4]
    by_cases h1 : a.toNat < b.toNat
    · rw [if_pos h1]
      by_cases h2 : a.toNat / 16 < b.toNat / 16
      · simp [h2]
      · have h3 : a.toNat / 16 = b.toNat / 16 := by omega
        have h4 : a.toNat % 16 < b.toNat % 16 := by omega
        simp [h3, h4]
    · rw [if_neg h1]
      by_cases h2 : b.toNat < a.toNat
      · rw [if_pos h2]
        by_cases h3 : a.toNat / 16 = b.toNat / 16
        · have h4 : ¬ a.toNat % 16 < b.toNat % 16 := by omega
          have h5 : ¬ a.toNat % 16 = b.toNat % 16 := by omega
          simp [h3, h4, h5]
        · have h4 : ¬ a.toNat / 16 < b.toNat / 16 := by omega
          simp [h3, h4]
      · have h3 : a.toNat = b.toNat := by omega
        rw [if_neg h2, h3]
        simp
theorem printS_at (x : List UInt8) : ∀ i, (h : i < x.length) → (printS x).getD (2 * i) 0 = hexd (x[i].toNat / 16) ∧ (printS x).getD (2 * i + 1) 0 = hexd (x[i].toNat % 16) := by
  induction x with
  | nil => intro i h; simp at h
  | cons a x ih =>
    intro i h
    have p1 : printS (a :: x) = hexd (a.toNat / 16) :: hexd (a.toNat % 16) :: printS x := rfl
    rw [p1]
    cases i with
    | zero => exact ⟨rfl, rfl⟩
    | succ i =>
      have := ih i (by simpa using h)
      rw [show 2 * (i + 1) = 2 * i + 1 + 1 by omega]
      exact this
theorem parse_print (x : List UInt8) (hx : x.length = 32) : parseS (printS x) = (x, 0) := by
  have hl := printS_len x
  have key : ∀ k, k ≤ 32 → parseUpto (printS x) k = some (x.take k) := by
    intro k
    induction k with
    | zero => intro _; rfl
    | succ k ih =>
      intro hk
      have h1 := ih (by omega)
      obtain ⟨h2, h3⟩ := printS_at x k (by omega)
      have hn := (x[k]'(by omega)).toNat_lt
      have h4 : half2 (printS x) k = some (x[k]'(by omega)) := by
        unfold half2
        rw [h2, h3, dig_hexd (by omega), dig_hexd (by omega), if_neg (by omega)]
        congr 1
        have : (16 * (((x[k]'(by omega)).toNat / 16 : Nat) : Int) + (((x[k]'(by omega)).toNat % 16 : Nat) : Int)).toNat = (x[k]'(by omega)).toNat := by omega
        rw [this]; simp
      rw [parseUpto, h1, h4, List.take_succ_eq_append_getElem (by omega)]
  unfold parseS
  rw [if_neg (by omega), key 32 (Nat.le_refl _), ← hx, List.take_length]
section
variable {P : Program} {ρ : Env} {A : HP} {dst : Option Tmp} {ty : TypeId} {pos : String} {aft : Array Edge} {gd : Option (Nat × Bool)}
theorem bl_list (l : List UInt8) : (ByteArray.mk l.toArray).toList = l := by rw [ByteArray.toList_eq]
/-- '<' of two hashes' texts -/
theorem g_lssPrint {x y : Operand} {T T' : TypeId} {a b : List UInt8} (hx : ev ρ x = .string ⟨(printS a).toArray⟩) (hy : ev ρ y = .string ⟨(printS b).toArray⟩) (hl : a.length = b.length) : Gives P ⟨dst, .binOp .lss T x y T', ty, pos, aft, gd⟩ ρ A (.bool (decide (cmpL a b < 0))) :=
  g_binEq hx hy guard_string fun _ w _ => by
    have h : (binOp .lss T (.string ⟨(printS a).toArray⟩) (.string ⟨(printS b).toArray⟩)).run P w = .ok (.bool (Op.bytesLess (ByteArray.mk (printS a).toArray).toList (ByteArray.mk (printS b).toArray).toList)) w := rfl
    rw [h, bl_list, bl_list, print_less a b hl]
end
end Go.Proofs.Ytmhddmenmkjdlaa
