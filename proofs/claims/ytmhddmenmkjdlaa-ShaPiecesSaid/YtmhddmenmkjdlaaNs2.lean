/- ShaHashes: its arguments. -/
import Derived.Test.YtmhddmenmkjdlaaH1
import Derived.Test.YtmhddmenmkjdlaaArg
namespace Go.Proofs.Ytmhddmenmkjdlaa
open Go.RowKit
set_option maxRecDepth 100000

theorem argOk_nil {P : Program} {W : World} {d : Nat} {t e : TypeId} {a : Option Addr} {n c : Nat} (ht : P.underlying t = some (.slice e)) (h : ArgOk P W (d + 1) t [.slice a n c]) : a = none → c = 0 := by
  unfold ArgOk at h; rw [ht] at h
  obtain ⟨a', len, cap, es, hv, hl, hes, hb, hn, hr, hx⟩ := h
  simp only [List.cons.injEq, Value.slice.injEq, and_true] at hv
  obtain ⟨rfl, rfl, rfl⟩ := hv
  exact hn
theorem rows_arg {W : World} {v : Value} (h : ArgOk Try.prog W 12 25 [v]) : ∃ a c l, v = .slice a (l : List RowV).length c ∧ Rows (Old W) a l ∧ (∀ o ∈ l, o.b.length ≤ 140737488351232) := by
  obtain ⟨a, c, l, rfl, hr, hlc, hb, hq⟩ := argOk_slice (fun o : RowV => [o.cell]) (fun o : RowV => Rd (Old W) o.a (o.b.map bv) ∧ o.b.length ≤ o.c ∧ (o.a = none → o.c = 0) ∧ o.c ≤ 140737488351232) Try.underlying25 (by kernel_rfl) (fun _ => rfl) (fun x hx hk => by
    obtain ⟨v, rfl⟩ : ∃ v, x = [v] := by
      match x, hx with
      | [v], _ => exact ⟨v, rfl⟩
    obtain ⟨a, c, b, rfl, h1, h2, h3⟩ := argOk_bytes Try.underlying28 Try.underlying5 (by kernel_rfl) (by kernel_rfl) hk
    exact ⟨⟨a, c, b⟩, rfl, h1, h2, argOk_nil Try.underlying28 hk, h3⟩) h
  have hbo : Try.prog.bytesOf 28 = 24 := by kernel_rfl
  rw [hbo] at hb
  rw [flatMap_one] at hr
  exact ⟨a, c, l, rfl, ⟨hr, fun o ho => (hq o ho).1, fun o ho => (hq o ho).2.1, fun o ho => (hq o ho).2.2.1, by omega⟩, fun o ho => by have := hq o ho; omega⟩
theorem shaHashes_args (W : World) (v0 : Value) (s0 : ∃ a len cap, v0 = .slice a len cap) (h0 : ArgOk Try.prog W 12 25 v0.cells.toList) :
    Calls Try.prog 4 #[v0] W fun e w' => e = .returned (.bool true) ∧ Below W.heap.size W w' := by
  obtain ⟨_, _, _, rfl⟩ := s0
  obtain ⟨a, c, l, e0, hs, hls⟩ := rows_arg h0
  rw [e0]
  exact (shaHashes_spec (Old W) a c l hs hls W W (Sat.begin W)).mono fun e w' ⟨_, he, s⟩ => ⟨he, (s.ent (Ent.addEmp _)).below⟩
end Go.Proofs.Ytmhddmenmkjdlaa
