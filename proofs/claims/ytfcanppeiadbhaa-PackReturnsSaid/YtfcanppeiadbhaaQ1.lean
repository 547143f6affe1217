/- What was laid is read back: one value. -/
import Derived.Test.YtfcanppeiadbhaaR5
namespace Go.Proofs.Ytfcanppeiadbhaa
open Go.RowKit
attribute [local irreducible] Gives RT CT QT Spec Wants Reads Src Ent OT RQ AnyT AnyOp Again Code.wp Post

theorem byteS_back {xs rest : List UInt8} {pos : Nat} {c : UInt8} (h : xs.drop pos = [c] ++ rest) : byteS xs pos 0 = (c, pos + 1, 0) := by
  have h1 : pos < xs.length := by
    rcases Nat.lt_or_ge pos xs.length with k | k
    · exact k
    · rw [List.drop_eq_nil_of_le k] at h; simp at h
  have h2 : xs[pos]? = some c := by
    have := congrArg (·[0]?) h
    simpa using this
  unfold byteS
  rw [if_neg (by simp), if_neg (by omega), List.getD_eq_getElem?_getD, h2]; rfl
theorem numberS_back {xs rest : List UInt8} {pos y most : Nat} (h : xs.drop pos = numForm y ++ rest) (hy : y < 2 ^ 64) (hm : y ≤ most) : numberS xs pos 0 most = (y, pos + (numForm y).length, 0) := by
  have hN := numAt_form0 rest hy
  rw [← h] at hN
  unfold numberS numWhy
  rw [hN]
  simp; omega
theorem zag_zig {n : Int} (h : -9223372036854775808 ≤ n ∧ n ≤ 9223372036854775807) : zag (zig n) = n := by unfold zig zag; split <;> split <;> omega
theorem signedS_back {xs rest : List UInt8} {pos : Nat} {n : Int} (h : xs.drop pos = numForm (zig n) ++ rest) (hn : -9223372036854775808 ≤ n ∧ n ≤ 9223372036854775807) : signedS xs pos 0 = (n, pos + (numForm (zig n)).length, 0) := by
  have := zig_lt hn
  unfold signedS
  rw [numberS_back h this (by omega)]
  simp [zag_zig hn]
theorem drop_len {xs F rest : List UInt8} {pos : Nat} (h : xs.drop pos = F ++ rest) : xs.length - pos = F.length + rest.length := by
  have := congrArg List.length h
  simpa using this
theorem rawS_back {xs b rest : List UInt8} {pos : Nat} (hp : pos ≤ xs.length) (h : xs.drop pos = b ++ rest) : rawS xs pos 0 (b.length : Int) = (b, pos + b.length, 0) := by
  have hl := drop_len h
  unfold rawS
  rw [if_neg (by simp), if_neg (by omega), if_neg (by omega), h]
  simp
theorem bytesS_back {xs b rest : List UInt8} {pos : Nat} (hp : pos ≤ xs.length) (h : xs.drop pos = numForm b.length ++ b ++ rest) (hb : b.length < 2 ^ 64) : bytesS xs pos 0 (b.length : Int) = (b, pos + (numForm b.length ++ b).length, 0) := by
  have hl := drop_len h
  rw [List.append_assoc] at h
  have hm : (max 0 (b.length : Int)).toNat = b.length := by omega
  unfold bytesS
  rw [hm, numberS_back h hb (Nat.le_refl _)]
  rw [List.length_append] at hl
  have h2 : xs.drop (pos + (numForm b.length).length) = b ++ rest := by
    rw [← List.drop_drop, h]; simp
  dsimp only
  rw [if_neg (by simp), rawS_back (by omega) h2, List.length_append]
  simp [Nat.add_assoc]
theorem hashS_back {xs b rest : List UInt8} {pos : Nat} (hp : pos ≤ xs.length) (h : xs.drop pos = hash32 b ++ rest) : hashS xs pos 0 = (hash32 b, pos + 32, 0) := by
  have h32 := hash32_len b
  have := rawS_back hp h
  rw [h32] at this
  unfold hashS
  have e : ((32 : Nat) : Int) = 32 := rfl
  rw [e] at this
  rw [this]
  dsimp only
  rw [hash32_full h32]
theorem inByte_b (R : HP) (p : Nat) (a : Option Addr) (cap : Nat) (xs : List UInt8) (pos pos' : Nat) (c : UInt8) (hp : pos ≤ xs.length) (hl : xs.length ≤ 140737488355328) (h : byteS xs pos 0 = (c, pos', 0)) :
    Spec Try.prog 44 [.pointer (some ⟨p, 0, none⟩)] (InA p a cap xs pos none * R) (fun _ : Unit => .tuple #[bv c, .nilIface]) (fun _ => InA p a cap xs pos' none * R) := by
  have k := inByte_u R p a cap xs pos none (fun _ h => by cases h) hp hl
  rw [show whyOf none = 0 from rfl, h] at k
  exact spec_conseq k (Ent.refl _) fun q => ⟨(), rfl, Ent.refl _⟩
theorem inNumber_b (R : HP) (p : Nat) (a : Option Addr) (cap : Nat) (xs : List UInt8) (pos pos' most x : Nat) (hp : pos ≤ xs.length) (hl : xs.length ≤ 140737488355328) (h : numberS xs pos 0 most = (x, pos', 0)) :
    Spec Try.prog 33 [.pointer (some ⟨p, 0, none⟩), .int .u64 (most : Int)] (InA p a cap xs pos none * R) (fun _ : Unit => .tuple #[.int .u64 (x : Int), .nilIface]) (fun _ => InA p a cap xs pos' none * R) := by
  have k := inNumber_u R p a cap xs pos none most (fun _ h => by cases h) hp hl
  rw [show whyOf none = 0 from rfl, h] at k
  exact spec_conseq k (Ent.refl _) fun q => ⟨(), rfl, Ent.refl _⟩
theorem inSigned_b (R : HP) (p : Nat) (a : Option Addr) (cap : Nat) (xs : List UInt8) (pos pos' : Nat) (n : Int) (hp : pos ≤ xs.length) (hl : xs.length ≤ 140737488355328) (h : signedS xs pos 0 = (n, pos', 0)) :
    Spec Try.prog 45 [.pointer (some ⟨p, 0, none⟩)] (InA p a cap xs pos none * R) (fun _ : Unit => .tuple #[.int .i64 n, .nilIface]) (fun _ => InA p a cap xs pos' none * R) := by
  have k := inSigned_u R p a cap xs pos none (fun _ h => by cases h) hp hl
  rw [show whyOf none = 0 from rfl, h] at k
  exact spec_conseq k (Ent.refl _) fun q => ⟨(), rfl, Ent.refl _⟩
theorem inRaw_b (R : HP) (p : Nat) (a : Option Addr) (cap : Nat) (xs b : List UInt8) (pos pos' : Nat) (n : Int) (hp : pos ≤ xs.length) (hl : xs.length ≤ 140737488355328) (hi : -9223372036854775808 ≤ n ∧ n ≤ 9223372036854775807) (h : rawS xs pos 0 n = (b, pos', 0)) :
    Spec Try.prog 53 [.pointer (some ⟨p, 0, none⟩), .int .i64 n] (InA p a cap xs pos none * R) (fun i : Option Addr × Nat => .tuple #[.slice i.1 b.length i.2, .nilIface]) (fun i => Arr 5 1 i.1 i.2 b.length (b.map bv) * (InA p a cap xs pos' none * R)) := by
  have k := inRaw_u R p a cap xs pos none n (fun _ h => by cases h) hp hl hi
  rw [show whyOf none = 0 from rfl, h] at k
  exact spec_conseq k (Ent.refl _) fun q => ⟨q.2, rfl, Ent.refl _⟩
theorem inBytes_b (R : HP) (p : Nat) (a : Option Addr) (cap : Nat) (xs b : List UInt8) (pos pos' : Nat) (n : Int) (hp : pos ≤ xs.length) (hl : xs.length ≤ 140737488355328) (hi : -9223372036854775808 ≤ n ∧ n ≤ 9223372036854775807) (h : bytesS xs pos 0 n = (b, pos', 0)) :
    Spec Try.prog 46 [.pointer (some ⟨p, 0, none⟩), .int .i64 n] (InA p a cap xs pos none * R) (fun i : Option Addr × Nat => .tuple #[.slice i.1 b.length i.2, .nilIface]) (fun i => Arr 5 1 i.1 i.2 b.length (b.map bv) * (InA p a cap xs pos' none * R)) := by
  have k := inBytes_u R p a cap xs pos none n (fun _ h => by cases h) hp hl hi
  rw [show whyOf none = 0 from rfl, h] at k
  exact spec_conseq k (Ent.refl _) fun q => ⟨q.2, rfl, Ent.refl _⟩
theorem inText_b (R : HP) (p : Nat) (a : Option Addr) (cap : Nat) (xs b : List UInt8) (pos pos' : Nat) (n : Int) (hp : pos ≤ xs.length) (hl : xs.length ≤ 140737488355328) (hi : -9223372036854775808 ≤ n ∧ n ≤ 9223372036854775807) (h : bytesS xs pos 0 n = (b, pos', 0)) :
    Spec Try.prog 47 [.pointer (some ⟨p, 0, none⟩), .int .i64 n] (InA p a cap xs pos none * R) (fun _ : Unit => .tuple #[.string ⟨b.toArray⟩, .nilIface]) (fun i => InA p a cap xs pos' none * R) := by
  have k := inText_u R p a cap xs pos none n (fun _ h => by cases h) hp hl hi
  rw [show whyOf none = 0 from rfl, h] at k
  exact spec_conseq k (Ent.refl _) fun q => ⟨(), rfl, Ent.refl _⟩
theorem inHash_b (R : HP) (p : Nat) (a : Option Addr) (cap : Nat) (xs b : List UInt8) (pos pos' : Nat) (hp : pos ≤ xs.length) (hl : xs.length ≤ 140737488355328) (h : hashS xs pos 0 = (b, pos', 0)) :
    Spec Try.prog 48 [.pointer (some ⟨p, 0, none⟩)] (InA p a cap xs pos none * R) (fun _ : Unit => .tuple #[.agg (b.map bv).toArray, .nilIface]) (fun i => InA p a cap xs pos' none * R) := by
  have k := inHash_u R p a cap xs pos none (fun _ h => by cases h) hp hl
  rw [show whyOf none = 0 from rfl, h] at k
  exact spec_conseq k (Ent.refl _) fun q => ⟨(), rfl, Ent.refl _⟩
end Go.Proofs.Ytfcanppeiadbhaa
