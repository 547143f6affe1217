/- bytes' comparison: the stand-in, and the order of rows of bytes. Any program. -/
import Derived.Test.YtijplicijmpknaaE
import Derived.Laws.StandIn
import Derived.Laws.Externs
namespace Go.Proofs.Ytijplicijmpknaa
open Go.RowKit

/-- how two rows of bytes of one length stand -/
def cmpL : List UInt8 → List UInt8 → Int
  | a :: xs, b :: ys => if a < b then -1 else if b < a then 1 else cmpL xs ys
  | _, _ => 0
theorem cmp_get (l : List UInt8) (i : Nat) (h : i < l.length) : (ByteArray.mk l.toArray)[i]! = l[i] := by
  have h1 : i < (ByteArray.mk l.toArray).size := h
  rw [getElem!_pos (ByteArray.mk l.toArray) i h1]
  rfl
theorem find_congr {α : Type} {p q : α → Bool} : ∀ (l : List α), (∀ x ∈ l, p x = q x) → l.find? p = l.find? q
  | [], _ => rfl
  | x :: l, h => by
    rw [List.find?_cons, List.find?_cons, h x (List.mem_cons_self ..), find_congr l fun y hy => h y (List.mem_cons_of_mem _ hy)]
theorem cmp_list : ∀ (xs ys : List UInt8), xs.length = ys.length → Extern.BytealgCompare.cmp ⟨xs.toArray⟩ ⟨ys.toArray⟩ = cmpL xs ys := by
  intro xs ys hl
  have key : ∀ (xs ys : List UInt8), xs.length = ys.length → (match (List.range xs.length).find? fun i => decide (xs[i]! ≠ ys[i]!) with
      | some i => if xs[i]! < ys[i]! then (-1 : Int) else 1
      | none => 0) = cmpL xs ys := by
    intro xs
    induction xs with
    | nil => intro ys _; cases ys <;> rfl
    | cons a xs ih =>
      intro ys hl
      cases ys with
      | nil => simp at hl
      | cons b ys =>
        rw [List.length_cons, List.range_succ_eq_map, List.find?_cons]
        by_cases hab : a = b
        · subst hab
          have e : (decide ((a :: xs)[0]! ≠ (a :: ys)[0]!)) = false := by simp
          rw [e]
          have := ih ys (by simpa using hl)
          rw [List.find?_map]
          have e2 : ((fun i => decide ((a :: xs)[i]! ≠ (a :: ys)[i]!)) ∘ Nat.succ) = fun i => decide (xs[i]! ≠ ys[i]!) := by
            funext i; simp
          rw [e2]
          have e3 : cmpL (a :: xs) (a :: ys) = cmpL xs ys := by simp [cmpL]
          rw [e3, ← this]
          cases (List.range xs.length).find? fun i => decide (xs[i]! ≠ ys[i]!) <;> simp
        · have e : (decide ((a :: xs)[0]! ≠ (b :: ys)[0]!)) = true := by simp [hab]
          rw [e]
          simp only [cmpL]
          have e2 : (a :: xs)[0]! = a := rfl
          have e3 : (b :: ys)[0]! = b := rfl
          rw [e2, e3]
          by_cases h : a < b
          · rw [if_pos h, if_pos h]
          · rw [if_neg h, if_neg h, if_pos]
            rw [UInt8.lt_iff_toNat_lt] at *
            have : a.toNat ≠ b.toNat := fun e => hab (UInt8.toNat_inj.1 e)
            omega
  unfold Extern.BytealgCompare.cmp
  have hs1 : (ByteArray.mk xs.toArray).size = xs.length := rfl
  have hs2 : (ByteArray.mk ys.toArray).size = ys.length := rfl
  rw [hs1, hs2, ← hl, Nat.min_self, ← key xs ys hl]
  have hf : (List.range xs.length).find? (fun i => (ByteArray.mk xs.toArray)[i]! != (ByteArray.mk ys.toArray)[i]!) = (List.range xs.length).find? fun i => decide (xs[i]! ≠ ys[i]!) := by
    refine find_congr _ fun i hi => ?_
    have hi' := List.mem_range.1 hi
    rw [cmp_get xs i hi', cmp_get ys i (by omega), getElem!_pos xs i hi', getElem!_pos ys i (by omega)]
    by_cases h : xs[i] = ys[i] <;> simp [h]
  rw [hf]
  cases hg : (List.range xs.length).find? fun i => decide (xs[i]! ≠ ys[i]!) with
  | none => simp
  | some i =>
    have hi' := List.mem_range.1 (List.mem_of_find?_eq_some hg)
    dsimp only
    rw [cmp_get xs i hi', cmp_get ys i (by omega), getElem!_pos xs i hi', getElem!_pos ys i (by omega)]
section
variable {P : Program} {ρ : Env} {A : HP} {dst : Option Tmp} {ty : TypeId} {pos : String} {aft : Array Edge} {gd : Option (Nat × Bool)}
theorem run_loadBytes {w : World} : ∀ (xs : List UInt8) (a : Addr) (acc : ByteArray), (∀ j v, (xs.map bv)[j]? = some v → w.cell? (a.add j) = some v) → (Extern.Bytes.loadBytes a xs.length acc).run P w = .ok ⟨acc.data ++ xs.toArray⟩ w
  | [], a, acc, _ => by simp [Extern.Bytes.loadBytes]
  | x :: xs, a, acc, h => by
    have h0 := h 0 (bv x) rfl
    rw [show a.add 0 = a by cases a; unfold Addr.add; split <;> simp_all] at h0
    have ih := run_loadBytes (w := w) xs (a.add 1) (acc.push x) (fun j v e => by
      rw [addr_add_add]
      exact h (1 + j) v (by rw [Nat.add_comm 1 j]; simpa using e))
    have e : ((x.toNat : Int)).toNat.toUInt8 = x := by simp
    simp [Extern.Bytes.loadBytes, h0, bv, ih]
theorem run_bytesOf {w : World} {W0 : World} {a : Option Addr} {c : Nat} {xs : List UInt8} (hr : Rd A a (xs.map bv)) (s : Sat W0 w A) : (Extern.Bytes.bytesOf (.slice a xs.length c)).run P w = .ok ⟨xs.toArray⟩ w := by
  cases a with
  | none =>
    have := hr.nil W0 w s rfl
    obtain rfl : xs = [] := by simpa using this
    rfl
  | some g =>
    have := run_loadBytes (P := P) (w := w) xs g .empty (fun j v e => hr.rd g rfl W0 w s j v e)
    show (Extern.Bytes.loadBytes g xs.length .empty).run P w = _
    rw [this]
    simp
theorem g_bytealgCompare {f : FuncId} {fn : Func} {x y : Operand} {ats : Array TypeId} {a b : Option Addr} {l c l' c' : Nat} {xs ys : List UInt8} (hf : P.funcs[f]? = some fn) (hname : (fn.name == "runtime.NumGoroutine") = false)
    (hb : fn.body.isNone = true) (hn : Extern.findNext fn = none) (he : Extern.find fn = some Extern.BytealgCompare.compare) (hx : ev ρ x = .slice a l c) (hy : ev ρ y = .slice b l' c') [hr : Rd A a (xs.map bv)] [hr' : Rd A b (ys.map bv)] (hl : xs.length = l) (hl' : ys.length = l') (hll : l = l') :
    Gives P ⟨dst, .call { callee := .value (.func f), args := #[x, y], argTypes := ats }, ty, pos, aft, gd⟩ ρ A (.int .i64 (cmpL xs ys)) := fun W0 w s => by
  subst hl hl'
  have h1 := run_callFunc_standIn (P := P) hf hname hb hn he #[.slice a xs.length c, .slice b ys.length c'] w
  have h2 : (Extern.BytealgCompare.compare #[.slice a xs.length c, .slice b ys.length c']).run P w = .ok (.int .i64 (cmpL xs ys)) w := by
    have e1 := run_bytesOf (P := P) (c := c) hr s
    have e2 := run_bytesOf (P := P) (c := c') hr' s
    show (do let p ← Extern.Bytes.bytesOf (.slice a xs.length c); let q ← Extern.Bytes.bytesOf (.slice b ys.length c'); pure (goInt (Extern.BytealgCompare.cmp p q)) : Sem Value).run P w = _
    simp [e1, e2, cmp_list xs ys hll, goInt]
  rw [h2] at h1
  show (callFunc f (#[] ++ #[x, y].map (ev ρ) ++ #[])).run P w = _
  rw [show (#[] ++ #[x, y].map (ev ρ) ++ #[] : Array Value) = #[.slice a xs.length c, .slice b ys.length c'] by simp [hx, hy], h1]
  rfl
end
end Go.Proofs.Ytijplicijmpknaa
