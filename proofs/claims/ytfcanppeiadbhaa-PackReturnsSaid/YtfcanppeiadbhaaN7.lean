/- PackReturns: its arguments. -/
import Derived.Test.YtfcanppeiadbhaaL7
import Derived.Test.YtfcanppeiadbhaaSA
namespace Go.Proofs.Ytfcanppeiadbhaa
open Go.RowKit
set_option maxRecDepth 100000

theorem packReturns_args (W : World) (v0 v1 : Value) (s0 : ∃ a len cap, v0 = .slice a len cap) (h0 : ArgOk Try.prog W 12 30 v0.cells.toList) (s1 : ∃ n, v1 = .int .u8 n) (h1 : ArgOk Try.prog W 12 5 v1.cells.toList) :
    Calls Try.prog 7 #[v0, v1] W fun e w' => e = .returned (.bool true) ∧ Below W.heap.size W w' := by
  obtain ⟨_, _, _, rfl⟩ := s0
  obtain ⟨n, rfl⟩ := s1
  obtain ⟨b, c', l, e1, hs, hi⟩ := script_arg h0
  obtain ⟨m, e2, hw⟩ := argOk_int Try.underlying5 h1
  have hm := wf_u8 hw
  have e3 : n = m := by
    have : [Value.int .u8 n] = [Value.int .u8 m] := e2
    simpa using this
  subst e3
  have e4 : Value.int .u8 n = bv (UInt8.ofNat n.toNat) := by
    show Value.int .u8 n = Value.int .u8 (((UInt8.ofNat n.toNat).toNat : Nat) : Int)
    rw [UInt8.toNat_ofNat_of_lt' (by show _ < 256; omega)]
    congr 1
    omega
  rw [e1, e4]
  exact (packReturns_spec (Old W) _ _ l _ hs W W (Sat.begin W)).mono fun e w' ⟨_, he, s⟩ => ⟨he, (s.ent (Ent.addEmp _)).below⟩
end Go.Proofs.Ytfcanppeiadbhaa
