/- PackReads: its arguments. -/
import Derived.Test.YtfcanppeiadbhaaR7
import Derived.Test.YtfcanppeiadbhaaSA
namespace Go.Proofs.Ytfcanppeiadbhaa
open Go.RowKit
set_option maxRecDepth 100000

theorem packReads_args (W : World) (v0 v1 : Value) (s0 : ∃ a len cap, v0 = .slice a len cap) (h0 : ArgOk Try.prog W 12 36 v0.cells.toList) (s1 : ∃ a len cap, v1 = .slice a len cap) (h1 : ArgOk Try.prog W 12 30 v1.cells.toList) :
    Calls Try.prog 6 #[v0, v1] W fun e w' => e = .returned (.bool true) ∧ Below W.heap.size W w' := by
  obtain ⟨_, _, _, rfl⟩ := s0
  obtain ⟨_, _, _, rfl⟩ := s1
  have hn := argOk_nil Try.underlying36 h0
  obtain ⟨a, c, xs, e0, hr, hlc, hc⟩ := argOk_bytes Try.underlying36 Try.underlying5 (by kernel_rfl) (by kernel_rfl) h0
  obtain ⟨b, c', l, e1, hs, hi⟩ := script_arg h1
  cases e0
  rw [e1]
  exact (packReads_spec (Old W) _ _ _ _ xs l hs (by omega) hlc hn hi W W (Sat.begin W)).mono fun e w' ⟨_, he, s⟩ => ⟨he, (s.ent (Ent.addEmp _)).below⟩
end Go.Proofs.Ytfcanppeiadbhaa
