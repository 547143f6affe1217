/- ShaOrders: its argument. -/
import Derived.Test.YtmhddmenmkjdlaaO1
import Derived.Test.YtmhddmenmkjdlaaHa
namespace Go.Proofs.Ytmhddmenmkjdlaa
open Go.RowKit
set_option maxRecDepth 100000

theorem shaOrders_args (W : World) (v0 : Value) (s0 : ∃ a len cap, v0 = .slice a len cap) (h0 : ArgOk Try.prog W 12 50 v0.cells.toList) :
    Calls Try.prog 8 #[v0] W fun e w' => e = .returned (.bool true) ∧ Below W.heap.size W w' := by
  obtain ⟨_, _, _, rfl⟩ := s0
  obtain ⟨a, c, l, e0, hr, hlc, hb, hna⟩ := hashes_arg h0
  rw [e0]
  exact (shaOrders_spec (Old W) a c l (by omega) hlc hna W W (Sat.begin W)).mono fun e w' ⟨_, he, s⟩ => ⟨he, (s.ent (Ent.addEmp _)).below⟩
end Go.Proofs.Ytmhddmenmkjdlaa
