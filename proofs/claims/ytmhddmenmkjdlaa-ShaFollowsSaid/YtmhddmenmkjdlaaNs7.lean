/- ShaFollows: its arguments. -/
import Derived.Test.YtmhddmenmkjdlaaO3
import Derived.Test.YtmhddmenmkjdlaaHa
namespace Go.Proofs.Ytmhddmenmkjdlaa
open Go.RowKit
set_option maxRecDepth 100000

theorem shaFollows_args (W : World) (v0 v1 v2 : Value) (s0 : ∃ a len cap, v0 = .slice a len cap) (h0 : ArgOk Try.prog W 12 28 v0.cells.toList) (s1 : ∃ a len cap, v1 = .slice a len cap) (h1 : ArgOk Try.prog W 12 28 v1.cells.toList) (s2 : ∃ a len cap, v2 = .slice a len cap) (h2 : ArgOk Try.prog W 12 50 v2.cells.toList) :
    Calls Try.prog 9 #[v0, v1, v2] W fun e w' => e = .returned (.bool true) ∧ Below W.heap.size W w' := by
  obtain ⟨_, _, _, rfl⟩ := s0
  obtain ⟨_, _, _, rfl⟩ := s1
  obtain ⟨_, _, _, rfl⟩ := s2
  have hnb := slice_nil Try.underlying28 h0
  have hnb1 := slice_nil Try.underlying28 h1
  obtain ⟨b, cb, xs, e0, hr0, hlc0, hb0⟩ := argOk_bytes Try.underlying28 Try.underlying5 (by kernel_rfl) (by kernel_rfl) h0
  obtain ⟨b1, cb1, ys, e1, hr1, hlc1, hb1⟩ := argOk_bytes Try.underlying28 Try.underlying5 (by kernel_rfl) (by kernel_rfl) h1
  obtain ⟨a, c, l, e2, hr, hlc, hb, hna⟩ := hashes_arg h2
  simp only [Value.slice.injEq] at e0 e1
  obtain ⟨rfl, rfl, rfl⟩ := e0
  obtain ⟨rfl, rfl, rfl⟩ := e1
  rw [e2]
  exact (shaFollows_spec (Old W) _ _ xs _ _ ys a c l (by omega) hlc0 hnb (by omega) hlc1 hnb1 (by omega) W W (Sat.begin W)).mono fun e w' ⟨_, he, s⟩ => ⟨he, (s.ent (Ent.addEmp _)).below⟩
end Go.Proofs.Ytmhddmenmkjdlaa
