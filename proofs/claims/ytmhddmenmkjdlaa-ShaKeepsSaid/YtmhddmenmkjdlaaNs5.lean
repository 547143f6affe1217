/- ShaKeeps: its arguments. -/
import Derived.Test.YtmhddmenmkjdlaaO2
import Derived.Test.YtmhddmenmkjdlaaHa
namespace Go.Proofs.Ytmhddmenmkjdlaa
open Go.RowKit
set_option maxRecDepth 100000

theorem shaKeeps_args (W : World) (v0 v1 : Value) (s0 : ∃ a len cap, v0 = .slice a len cap) (h0 : ArgOk Try.prog W 12 28 v0.cells.toList) (s1 : ∃ a len cap, v1 = .slice a len cap) (h1 : ArgOk Try.prog W 12 50 v1.cells.toList) :
    Calls Try.prog 7 #[v0, v1] W fun e w' => e = .returned (.bool true) ∧ Below W.heap.size W w' := by
  obtain ⟨_, _, _, rfl⟩ := s0
  obtain ⟨_, _, _, rfl⟩ := s1
  have hnb := slice_nil Try.underlying28 h0
  obtain ⟨b, cb, xs, e0, hr0, hlc0, hb0⟩ := argOk_bytes Try.underlying28 Try.underlying5 (by kernel_rfl) (by kernel_rfl) h0
  obtain ⟨a, c, l, e1, hr, hlc, hb, hna⟩ := hashes_arg h1
  have e0' := e0
  simp only [Value.slice.injEq] at e0'
  obtain ⟨rfl, rfl, rfl⟩ := e0'
  rw [e1]
  exact (shaKeeps_spec (Old W) _ _ xs a c l (by omega) hlc0 hnb (by omega) hlc hna W W (Sat.begin W)).mono fun e w' ⟨_, he, s⟩ => ⟨he, (s.ent (Ent.addEmp _)).below⟩
end Go.Proofs.Ytmhddmenmkjdlaa
