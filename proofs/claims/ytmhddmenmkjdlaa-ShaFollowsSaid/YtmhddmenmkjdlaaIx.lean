/- An element of an array's value, a string's byte. Any program. -/
import Derived.Test.YtmhddmenmkjdlaaW
import Derived.Laws.Strings
namespace Go.Proofs.Ytmhddmenmkjdlaa
open Go.RowKit

section
variable {P : Program} {ρ : Env} {A : HP} {dst : Option Tmp} {ty : TypeId} {pos : String} {aft : Array Edge} {gd : Option (Nat × Bool)}
theorem g_indexA {x ix : Operand} {T e bytes len : Nat} {z : Value} {cs : List Value} {k kk : IntKind} {i : Int} {j : Nat} {v : Value} (hx : ev ρ x = .agg cs.toArray) (hi : ev ρ ix = .int k i) [ht : TyU P T (.array len e)] [hu : TyU P e (.int kk)] [he : TyI P e 1 bytes z] [hj : NatI i j] (h1 : j < len) (hv : cs[j]? = some v) :
    Gives P ⟨dst, .index T x ix, ty, pos, aft, gd⟩ ρ A v := fun _ w _ => by
  obtain ⟨inf, hinf, hs⟩ := Option.map_eq_some_iff.1 he.eq
  have hs' : inf.size = 1 := by simpa using congrArg (fun x => x.2.1) hs
  have h0 : 0 ≤ i := hj.nn
  have h2 : i < len := by rw [hj.eq]; omega
  have h3 : i.toNat = j := hj.to
  simp [execOp, hx, hi, Instr.index, asIntOf, run_underlying ht.eq, h0, h2, sizeOf, typeInfo, hinf, hs', part, isAgg, run_underlying hu.eq, h3, hv]
theorem g_indexS {x ix : Operand} {T : TypeId} {s : ByteArray} {k : IntKind} {i : Int} {j : Nat} (hx : ev ρ x = .string s) (hi : ev ρ ix = .int k i) [ht : TyU P T .string] [hj : NatI i j] {c : UInt8} (hv : s.data.toList[j]? = some c) :
    Gives P ⟨dst, .index T x ix, ty, pos, aft, gd⟩ ρ A (bv c) := fun _ w _ => by
  have h0 : 0 ≤ i := hj.nn
  have h3 : i.toNat = j := hj.to
  obtain ⟨hlt, hc⟩ := List.getElem?_eq_some_iff.1 hv
  have hsz : s.data.toList.length = s.size := by simp
  have h2 : i < s.size := by rw [hj.eq]; omega
  have := run_index_string (P := P) w T s k i ht.eq
  rw [dif_pos ⟨h0, h2⟩] at this
  have e : s[i.toNat]'(by omega) = c := by
    rw [← hc]
    simp only [h3]
    rfl
  rw [e] at this
  simp [execOp, hx, hi, this]
end
end Go.Proofs.Ytmhddmenmkjdlaa
