/- pack.In: each call, whatever is read: the same as the reference's. -/
import Derived.Test.YtfcanppeiadbhaaR3
namespace Go.Proofs.Ytfcanppeiadbhaa
open Go.RowKit
attribute [local irreducible] Gives RT CT QT Spec Wants Reads Src Ent OT RQ AnyT AnyOp Again Code.wp Post

/-- the error that a reader holds behind a call that comes to 'w': the one it had, none, or a new one at q -/
def nx (e : Option (Nat × Nat)) (q w : Nat) : Option (Nat × Nat) := match e with | some x => some x | none => if w = 0 then none else some (q, w)
def whyOf (e : Option (Nat × Nat)) : Nat := match e with | some x => x.2 | none => 0
def EOk (e : Option (Nat × Nat)) : Prop := ∀ x, e = some x → x.2 ≠ 0
theorem nx_none {q w : Nat} (h : w = 0) : nx none q w = none := if_pos h
theorem nx_new {q w : Nat} (h : w ≠ 0) : nx none q w = some (q, w) := if_neg h
theorem nx_ok {e : Option (Nat × Nat)} {q w : Nat} (h : EOk e) : EOk (nx e q w) := by
  intro x hx
  cases e with
  | some y => exact h x hx
  | none =>
    unfold nx at hx
    dsimp only at hx
    split at hx
    · cases hx
    · next hw => cases hx; exact hw

theorem inByte_u (R : HP) (p : Nat) (a : Option Addr) (cap : Nat) (xs : List UInt8) (pos : Nat) (e : Option (Nat × Nat)) (he : EOk e) (hp : pos ≤ xs.length) (hl : xs.length ≤ 140737488355328) :
    Spec Try.prog 44 [.pointer (some ⟨p, 0, none⟩)] (InA p a cap xs pos e * R) (fun q : Nat => .tuple #[bv (byteS xs pos (whyOf e)).1, errV ((nx e q (byteS xs pos (whyOf e)).2.2).map Prod.fst)]) (fun q => InA p a cap xs (byteS xs pos (whyOf e)).2.1 (nx e q (byteS xs pos (whyOf e)).2.2) * R) := by
  cases e with
  | some x =>
    obtain ⟨q, w⟩ := x
    have hw : w ≠ 0 := he _ rfl
    have e1 : byteS xs pos (whyOf (some (q, w))) = (0, pos, w) := if_pos hw
    rw [e1]
    exact spec_conseq (in_byte_bad R p a cap xs pos q w) (Ent.refl _) fun _ => ⟨0, rfl, Ent.refl _⟩
  | none =>
    by_cases h : xs.length ≤ pos
    · have e1 : byteS xs pos (whyOf none) = (0, pos, 20) := by unfold byteS whyOf; simp [h]
      rw [e1]
      exact spec_conseq (in_byte_short R p a cap xs pos hl (by omega)) (Ent.refl _) fun q => ⟨q, rfl, Ent.refl _⟩
    · have e1 : byteS xs pos (whyOf none) = (xs.getD pos 0, pos + 1, 0) := by unfold byteS whyOf; simp [h]
      rw [e1]
      exact spec_conseq (in_byte_ok R p a cap xs pos (xs.getD pos 0) hl (by rw [List.getElem?_eq_getElem (by omega)]; simp [List.getD, List.getElem?_eq_getElem (show pos < xs.length by omega)])) (Ent.refl _) fun _ => ⟨0, rfl, Ent.refl _⟩
theorem inNumber_u (R : HP) (p : Nat) (a : Option Addr) (cap : Nat) (xs : List UInt8) (pos : Nat) (e : Option (Nat × Nat)) (most : Nat) (he : EOk e) (hp : pos ≤ xs.length) (hl : xs.length ≤ 140737488355328) :
    Spec Try.prog 33 [.pointer (some ⟨p, 0, none⟩), .int .u64 (most : Int)] (InA p a cap xs pos e * R) (fun q : Nat => .tuple #[.int .u64 ((numberS xs pos (whyOf e) most).1 : Int), errV ((nx e q (numberS xs pos (whyOf e) most).2.2).map Prod.fst)]) (fun q => InA p a cap xs (numberS xs pos (whyOf e) most).2.1 (nx e q (numberS xs pos (whyOf e) most).2.2) * R) := by
  cases e with
  | some x =>
    obtain ⟨q, w⟩ := x
    have hw : w ≠ 0 := he _ rfl
    have e1 : numberS xs pos (whyOf (some (q, w))) most = (0, pos, w) := if_pos hw
    rw [e1]
    exact spec_conseq (in_number_bad R p a cap xs pos q w most) (Ent.refl _) fun _ => ⟨0, rfl, Ent.refl _⟩
  | none =>
    by_cases h : numWhy xs pos most = 0
    · have e1 : numberS xs pos (whyOf none) most = ((numAt (xs.drop pos) 10 0 0).1, pos + (numAt (xs.drop pos) 10 0 0).2.1, 0) := by unfold numberS whyOf; simp [h]
      rw [e1]
      exact spec_conseq (in_number_ok R p a cap xs pos most hp hl h) (Ent.refl _) fun _ => ⟨0, rfl, Ent.refl _⟩
    · have e1 : numberS xs pos (whyOf none) most = (0, pos, numWhy xs pos most) := by unfold numberS whyOf; simp [h]
      rw [e1]
      dsimp only
      refine spec_conseq (in_number_fail R p a cap xs pos most hp hl h) (Ent.refl _) fun q => ⟨q, ?_, ?_⟩
      · rw [nx_new h]; rfl
      · rw [nx_new h]; exact Ent.refl _
theorem inSigned_u (R : HP) (p : Nat) (a : Option Addr) (cap : Nat) (xs : List UInt8) (pos : Nat) (e : Option (Nat × Nat)) (he : EOk e) (hp : pos ≤ xs.length) (hl : xs.length ≤ 140737488355328) :
    Spec Try.prog 45 [.pointer (some ⟨p, 0, none⟩)] (InA p a cap xs pos e * R) (fun q : Nat => .tuple #[.int .i64 (signedS xs pos (whyOf e)).1, errV ((nx e q (signedS xs pos (whyOf e)).2.2).map Prod.fst)]) (fun q => InA p a cap xs (signedS xs pos (whyOf e)).2.1 (nx e q (signedS xs pos (whyOf e)).2.2) * R) := by
  cases e with
  | some x =>
    obtain ⟨q, w⟩ := x
    have hw : w ≠ 0 := he _ rfl
    have e0 : numberS xs pos w 18446744073709551615 = (0, pos, w) := if_pos hw
    have e1 : signedS xs pos (whyOf (some (q, w))) = (0, pos, w) := by unfold signedS whyOf; dsimp only; rw [e0]; exact if_pos hw
    rw [e1]
    exact spec_conseq (in_signed_bad R p a cap xs pos q w) (Ent.refl _) fun _ => ⟨0, rfl, Ent.refl _⟩
  | none =>
    by_cases h : numWhy xs pos 18446744073709551615 = 0
    · have e0 : numberS xs pos 0 18446744073709551615 = ((numAt (xs.drop pos) 10 0 0).1, pos + (numAt (xs.drop pos) 10 0 0).2.1, 0) := by unfold numberS; simp [h]
      have e1 : signedS xs pos (whyOf none) = (zag (numAt (xs.drop pos) 10 0 0).1, pos + (numAt (xs.drop pos) 10 0 0).2.1, 0) := by unfold signedS whyOf; dsimp only; rw [e0]; exact if_neg (by simp)
      rw [e1]
      exact spec_conseq (in_signed_ok R p a cap xs pos hp hl h) (Ent.refl _) fun _ => ⟨0, rfl, Ent.refl _⟩
    · have e0 : numberS xs pos 0 18446744073709551615 = (0, pos, numWhy xs pos 18446744073709551615) := by unfold numberS; simp [h]
      have e1 : signedS xs pos (whyOf none) = (0, pos, numWhy xs pos 18446744073709551615) := by unfold signedS whyOf; dsimp only; rw [e0]; exact if_pos h
      rw [e1]
      dsimp only
      refine spec_conseq (in_signed_fail R p a cap xs pos hp hl h) (Ent.refl _) fun q => ⟨q, ?_, ?_⟩
      · rw [nx_new h]; rfl
      · rw [nx_new h]; exact Ent.refl _
theorem arr_none (E size : Nat) (A : HP) : Ent A (Arr E size none 0 0 [] * A) := arr_nil A E size
theorem inRaw_u (R : HP) (p : Nat) (a : Option Addr) (cap : Nat) (xs : List UInt8) (pos : Nat) (e : Option (Nat × Nat)) (n : Int) (he : EOk e) (hp : pos ≤ xs.length) (hl : xs.length ≤ 140737488355328) (hi : -9223372036854775808 ≤ n ∧ n ≤ 9223372036854775807) :
    Spec Try.prog 53 [.pointer (some ⟨p, 0, none⟩), .int .i64 n] (InA p a cap xs pos e * R) (fun i : Nat × Option Addr × Nat => .tuple #[.slice i.2.1 (rawS xs pos (whyOf e) n).1.length i.2.2, errV ((nx e i.1 (rawS xs pos (whyOf e) n).2.2).map Prod.fst)])
      (fun i => Arr 5 1 i.2.1 i.2.2 (rawS xs pos (whyOf e) n).1.length ((rawS xs pos (whyOf e) n).1.map bv) * (InA p a cap xs (rawS xs pos (whyOf e) n).2.1 (nx e i.1 (rawS xs pos (whyOf e) n).2.2) * R)) := by
  cases e with
  | some x =>
    obtain ⟨q, w⟩ := x
    have hw : w ≠ 0 := he _ rfl
    have e1 : rawS xs pos (whyOf (some (q, w))) n = ([], pos, w) := if_pos hw
    rw [e1]
    exact spec_conseq (in_raw_bad R p a cap xs pos q w n) (Ent.refl _) fun _ => ⟨(0, none, 0), rfl, arr_nil _ _ _⟩
  | none =>
    by_cases h0 : n < 0
    · have e1 : rawS xs pos (whyOf none) n = ([], pos, 1) := by unfold rawS whyOf; simp [h0]
      rw [e1]
      exact spec_conseq (in_raw_neg R p a cap xs pos n h0) (Ent.refl _) fun q => ⟨(q, none, 0), rfl, arr_nil _ _ _⟩
    · obtain ⟨m, rfl⟩ : ∃ m : Nat, n = (m : Int) := ⟨n.toNat, by omega⟩
      by_cases hs : xs.length < pos + m
      · have e1 : rawS xs pos (whyOf none) (m : Int) = ([], pos, 20) := by unfold rawS whyOf; dsimp only; rw [if_neg (by simp), if_neg (by omega), if_pos (by simpa using hs)]
        rw [e1]
        exact spec_conseq (in_raw_short R p a cap xs pos m hp hl (by omega) hs) (Ent.refl _) fun q => ⟨(q, none, 0), rfl, arr_nil _ _ _⟩
      · have e1 : rawS xs pos (whyOf none) (m : Int) = ((xs.drop pos).take m, pos + m, 0) := by unfold rawS whyOf; dsimp only; rw [if_neg (by simp), if_neg (by omega), if_neg (by simpa using hs)]; simp
        have hlm : ((xs.drop pos).take m).length = m := by rw [List.length_take, List.length_drop]; omega
        rw [e1]
        dsimp only
        rw [hlm]
        exact spec_conseq (in_raw_ok R p a cap xs pos m hl (by omega)) (Ent.refl _) fun i => ⟨(0, i), rfl, Ent.refl _⟩
theorem bytesS_bad {xs : List UInt8} {pos w : Nat} (hw : w ≠ 0) (most : Int) : bytesS xs pos w most = ([], pos, w) := by
  unfold bytesS
  have e0 : numberS xs pos w (max 0 most).toNat = (0, pos, w) := if_pos hw
  dsimp only
  rw [e0]; exact if_pos hw
theorem bytesS_fail {xs : List UInt8} {pos m : Nat} {most : Int} (hm : max 0 most = (m : Int)) (h : numWhy xs pos m ≠ 0) : bytesS xs pos 0 most = ([], pos, numWhy xs pos m) := by
  unfold bytesS
  have e0 : numberS xs pos 0 (max 0 most).toNat = (0, pos, numWhy xs pos m) := by rw [hm]; unfold numberS; simp [h]
  dsimp only
  rw [e0]; exact if_pos h
theorem bytesS_short {xs : List UInt8} {pos m : Nat} {most : Int} (hm : max 0 most = (m : Int)) (h : numWhy xs pos m = 0) (hs : xs.length < pos + (numAt (xs.drop pos) 10 0 0).2.1 + (numAt (xs.drop pos) 10 0 0).1) : bytesS xs pos 0 most = ([], pos + (numAt (xs.drop pos) 10 0 0).2.1, 20) := by
  unfold bytesS
  have e0 : numberS xs pos 0 (max 0 most).toNat = ((numAt (xs.drop pos) 10 0 0).1, pos + (numAt (xs.drop pos) 10 0 0).2.1, 0) := by rw [hm]; unfold numberS; simp [h]
  dsimp only
  rw [e0]
  dsimp only
  rw [if_neg (by simp)]
  unfold rawS
  rw [if_neg (by simp), if_neg (by omega), if_pos (by simpa using hs)]
theorem bytesS_ok {xs : List UInt8} {pos m : Nat} {most : Int} (hm : max 0 most = (m : Int)) (h : numWhy xs pos m = 0) (hs : pos + (numAt (xs.drop pos) 10 0 0).2.1 + (numAt (xs.drop pos) 10 0 0).1 ≤ xs.length) : bytesS xs pos 0 most = ((xs.drop (pos + (numAt (xs.drop pos) 10 0 0).2.1)).take (numAt (xs.drop pos) 10 0 0).1, pos + (numAt (xs.drop pos) 10 0 0).2.1 + (numAt (xs.drop pos) 10 0 0).1, 0) := by
  unfold bytesS
  have e0 : numberS xs pos 0 (max 0 most).toNat = ((numAt (xs.drop pos) 10 0 0).1, pos + (numAt (xs.drop pos) 10 0 0).2.1, 0) := by rw [hm]; unfold numberS; simp [h]
  dsimp only
  rw [e0]
  dsimp only
  rw [if_neg (by simp)]
  unfold rawS
  rw [if_neg (by simp), if_neg (by omega), if_neg (by simpa using hs)]; simp
theorem inBytes_u (R : HP) (p : Nat) (a : Option Addr) (cap : Nat) (xs : List UInt8) (pos : Nat) (e : Option (Nat × Nat)) (most : Int) (he : EOk e) (hp : pos ≤ xs.length) (hl : xs.length ≤ 140737488355328) (hi : -9223372036854775808 ≤ most ∧ most ≤ 9223372036854775807) :
    Spec Try.prog 46 [.pointer (some ⟨p, 0, none⟩), .int .i64 most] (InA p a cap xs pos e * R) (fun i : Nat × Option Addr × Nat => .tuple #[.slice i.2.1 (bytesS xs pos (whyOf e) most).1.length i.2.2, errV ((nx e i.1 (bytesS xs pos (whyOf e) most).2.2).map Prod.fst)])
      (fun i => Arr 5 1 i.2.1 i.2.2 (bytesS xs pos (whyOf e) most).1.length ((bytesS xs pos (whyOf e) most).1.map bv) * (InA p a cap xs (bytesS xs pos (whyOf e) most).2.1 (nx e i.1 (bytesS xs pos (whyOf e) most).2.2) * R)) := by
  obtain ⟨m, hm⟩ : ∃ m : Nat, max 0 most = (m : Int) := ⟨(max 0 most).toNat, by omega⟩
  cases e with
  | some x =>
    obtain ⟨q, w⟩ := x
    have hw : w ≠ 0 := he _ rfl
    rw [show bytesS xs pos (whyOf (some (q, w))) most = ([], pos, w) from bytesS_bad hw most]
    exact spec_conseq (in_bytes_bad R p a cap xs pos q w most m hi hm) (Ent.refl _) fun _ => ⟨(0, none, 0), rfl, arr_nil _ _ _⟩
  | none =>
    by_cases h : numWhy xs pos m = 0
    · by_cases hs : xs.length < pos + (numAt (xs.drop pos) 10 0 0).2.1 + (numAt (xs.drop pos) 10 0 0).1
      · rw [show bytesS xs pos (whyOf none) most = _ from bytesS_short hm h hs]
        exact spec_conseq (in_bytes_short R p a cap xs pos most m hi hm hp hl h hs) (Ent.refl _) fun q => ⟨(q, none, 0), rfl, arr_nil _ _ _⟩
      · rw [show bytesS xs pos (whyOf none) most = _ from bytesS_ok hm h (by omega)]
        dsimp only
        have hlm : ((xs.drop (pos + (numAt (xs.drop pos) 10 0 0).2.1)).take (numAt (xs.drop pos) 10 0 0).1).length = (numAt (xs.drop pos) 10 0 0).1 := by rw [List.length_take, List.length_drop]; omega
        rw [hlm]
        exact spec_conseq (in_bytes_ok R p a cap xs pos most m hi hm hp hl h (by omega)) (Ent.refl _) fun i => ⟨(0, i), rfl, Ent.refl _⟩
    · rw [show bytesS xs pos (whyOf none) most = _ from bytesS_fail hm h]
      dsimp only
      refine spec_conseq (in_bytes_fail R p a cap xs pos most m hi hm hp hl h) (Ent.refl _) fun q => ⟨(q, none, 0), ?_, ?_⟩
      · rw [nx_new h]; rfl
      · rw [nx_new h]; exact arr_nil _ _ _
theorem inText_u (R : HP) (p : Nat) (a : Option Addr) (cap : Nat) (xs : List UInt8) (pos : Nat) (e : Option (Nat × Nat)) (most : Int) (he : EOk e) (hp : pos ≤ xs.length) (hl : xs.length ≤ 140737488355328) (hi : -9223372036854775808 ≤ most ∧ most ≤ 9223372036854775807) :
    Spec Try.prog 47 [.pointer (some ⟨p, 0, none⟩), .int .i64 most] (InA p a cap xs pos e * R) (fun q : Nat => .tuple #[.string ⟨(bytesS xs pos (whyOf e) most).1.toArray⟩, errV ((nx e q (bytesS xs pos (whyOf e) most).2.2).map Prod.fst)])
      (fun q => InA p a cap xs (bytesS xs pos (whyOf e) most).2.1 (nx e q (bytesS xs pos (whyOf e) most).2.2) * R) := by
  obtain ⟨m, hm⟩ : ∃ m : Nat, max 0 most = (m : Int) := ⟨(max 0 most).toNat, by omega⟩
  cases e with
  | some x =>
    obtain ⟨q, w⟩ := x
    have hw : w ≠ 0 := he _ rfl
    rw [show bytesS xs pos (whyOf (some (q, w))) most = ([], pos, w) from bytesS_bad hw most]
    exact spec_conseq (in_text_bad R p a cap xs pos q w most m hi hm) (Ent.refl _) fun _ => ⟨0, rfl, Ent.refl _⟩
  | none =>
    by_cases h : numWhy xs pos m = 0
    · by_cases hs : xs.length < pos + (numAt (xs.drop pos) 10 0 0).2.1 + (numAt (xs.drop pos) 10 0 0).1
      · rw [show bytesS xs pos (whyOf none) most = _ from bytesS_short hm h hs]
        exact spec_conseq (in_text_short R p a cap xs pos most m hi hm hp hl h hs) (Ent.refl _) fun q => ⟨q, rfl, Ent.refl _⟩
      · rw [show bytesS xs pos (whyOf none) most = _ from bytesS_ok hm h (by omega)]
        exact spec_conseq (in_text_ok R p a cap xs pos most m hi hm hp hl h (by omega)) (Ent.refl _) fun i => ⟨0, rfl, Ent.refl _⟩
    · rw [show bytesS xs pos (whyOf none) most = _ from bytesS_fail hm h]
      dsimp only
      refine spec_conseq (in_text_fail R p a cap xs pos most m hi hm hp hl h) (Ent.refl _) fun q => ⟨q, ?_, ?_⟩
      · rw [nx_new h]; rfl
      · rw [nx_new h]; exact Ent.refl _
theorem hash32_nil : hash32 [] = hash0 := rfl
theorem hash32_full {xs : List UInt8} (h : xs.length = 32) : hash32 xs = xs := by
  unfold hash32; rw [h, List.take_of_length_le (by omega)]; simp
theorem inHash_u (R : HP) (p : Nat) (a : Option Addr) (cap : Nat) (xs : List UInt8) (pos : Nat) (e : Option (Nat × Nat)) (he : EOk e) (hp : pos ≤ xs.length) (hl : xs.length ≤ 140737488355328) :
    Spec Try.prog 48 [.pointer (some ⟨p, 0, none⟩)] (InA p a cap xs pos e * R) (fun q : Nat => .tuple #[.agg ((hashS xs pos (whyOf e)).1.map bv).toArray, errV ((nx e q (hashS xs pos (whyOf e)).2.2).map Prod.fst)])
      (fun q => InA p a cap xs (hashS xs pos (whyOf e)).2.1 (nx e q (hashS xs pos (whyOf e)).2.2) * R) := by
  unfold hashS
  cases e with
  | some x =>
    obtain ⟨q, w⟩ := x
    have hw : w ≠ 0 := he _ rfl
    have e1 : rawS xs pos (whyOf (some (q, w))) 32 = ([], pos, w) := if_pos hw
    rw [e1]
    exact spec_conseq (in_hash_bad R p a cap xs pos q w) (Ent.refl _) fun _ => ⟨0, rfl, Ent.refl _⟩
  | none =>
    by_cases hs : xs.length < pos + 32
    · have e1 : rawS xs pos (whyOf none) 32 = ([], pos, 20) := by unfold rawS whyOf; dsimp only; rw [if_neg (by simp), if_neg (by omega), if_pos (by simpa using hs)]
      rw [e1]
      exact spec_conseq (in_hash_short R p a cap xs pos hp hl hs) (Ent.refl _) fun q => ⟨q, rfl, Ent.refl _⟩
    · have e1 : rawS xs pos (whyOf none) 32 = ((xs.drop pos).take 32, pos + 32, 0) := by unfold rawS whyOf; dsimp only; rw [if_neg (by simp), if_neg (by omega), if_neg (by simpa using hs)]; rfl
      rw [e1]
      dsimp only
      rw [hash32_full (by rw [List.length_take, List.length_drop]; omega)]
      exact spec_conseq (in_hash_ok R p a cap xs pos hl (by omega)) (Ent.refl _) fun _ => ⟨0, rfl, Ent.refl _⟩
theorem inEnd_u (R : HP) (p : Nat) (a : Option Addr) (cap : Nat) (xs : List UInt8) (pos : Nat) (e : Option (Nat × Nat)) (he : EOk e) :
    Spec Try.prog 29 [.pointer (some ⟨p, 0, none⟩)] (InA p a cap xs pos e * R) (fun q : Nat => errV ((nx e q (endS xs pos (whyOf e)).2).map Prod.fst)) (fun q => InA p a cap xs (endS xs pos (whyOf e)).1 (nx e q (endS xs pos (whyOf e)).2) * R) := by
  cases e with
  | some x =>
    obtain ⟨q, w⟩ := x
    have hw : w ≠ 0 := he _ rfl
    have e1 : endS xs pos (whyOf (some (q, w))) = (pos, w) := if_pos hw
    rw [e1]
    exact spec_conseq (in_end_bad R p a cap xs pos q w) (Ent.refl _) fun _ => ⟨0, rfl, Ent.refl _⟩
  | none =>
    by_cases h : pos < xs.length
    · have e1 : endS xs pos (whyOf none) = (pos, 23) := by unfold endS whyOf; simp [h]
      rw [e1]
      exact spec_conseq (in_end_rest R p a cap xs pos h) (Ent.refl _) fun q => ⟨q, rfl, Ent.refl _⟩
    · have e1 : endS xs pos (whyOf none) = (pos, 0) := by unfold endS whyOf; simp [h]
      rw [e1]
      exact spec_conseq (in_end_ok R p a cap xs pos (by omega)) (Ent.refl _) fun _ => ⟨0, rfl, Ent.refl _⟩
end Go.Proofs.Ytfcanppeiadbhaa
