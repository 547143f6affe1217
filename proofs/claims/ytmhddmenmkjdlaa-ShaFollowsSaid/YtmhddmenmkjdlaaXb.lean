/- strings.IndexByte's stand-in. Any program. -/
import Derived.Test.YtmhddmenmkjdlaaW
import Derived.Laws.StandIn
import Derived.Laws.Externs
namespace Go.Proofs.Ytmhddmenmkjdlaa
open Go.RowKit
section
variable {P : Program} {ρ : Env} {A : HP} {dst : Option Tmp} {ty : TypeId} {pos : String} {aft : Array Edge} {gd : Option (Nat × Bool)}
theorem g_indexByte {f : FuncId} {fn : Func} {x y : Operand} {ats : Array TypeId} {s : ByteArray} {c : UInt8} (hf : P.funcs[f]? = some fn) (hname : (fn.name == "runtime.NumGoroutine") = false)
    (hb : fn.body.isNone = true) (hn : Extern.findNext fn = none) (he : Extern.find fn = some Extern.BytealgIndexByte.indexByte) (hx : ev ρ x = .string s) (hy : ev ρ y = bv c) :
    Gives P ⟨dst, .call { callee := .value (.func f), args := #[x, y], argTypes := ats }, ty, pos, aft, gd⟩ ρ A (.int .i64 (firstIdx s c)) := fun _ w _ => by
  have h1 := run_callFunc_indexByte (P := P) hf hname hb hn he #[.string s, bv c] w
  have h2 := run_indexByte_string (P := P) s (c.toNat : Int) w
  have e : ((c.toNat : Int)).toNat.toUInt8 = c := by simp
  rw [e] at h2
  rw [show (#[Value.string s, bv c] : Array Value) = #[.string s, .int .u8 (c.toNat : Int)] from rfl, h2] at h1
  show (callFunc f (#[] ++ #[x, y].map (ev ρ) ++ #[])).run P w = _
  rw [show (#[] ++ #[x, y].map (ev ρ) ++ #[] : Array Value) = #[.string s, .int .u8 (c.toNat : Int)] by simp [hx, hy], h1]
  rfl
end
end Go.Proofs.Ytmhddmenmkjdlaa
