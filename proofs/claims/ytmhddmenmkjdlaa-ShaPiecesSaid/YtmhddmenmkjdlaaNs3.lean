/- ShaPieces: its argument. -/
import Derived.Test.YtmhddmenmkjdlaaD4
import Derived.Test.YtmhddmenmkjdlaaNs2
namespace Go.Proofs.Ytmhddmenmkjdlaa
open Go.RowKit
set_option maxRecDepth 100000

theorem sop_arg {W : World} {d : Nat} (x : List Value) (hl : x.length = 3) (h : ArgOk Try.prog W (d + 4) 40 x) : ∃ o : SOp, x = o.cells ∧ (o.b.length ≤ 140737488351232 ∧ Rd (Old W) o.a (o.b.map bv) ∧ o.b.length ≤ o.c ∧ (o.a = none → o.c = 0) ∧ -9223372036854775808 ≤ o.on ∧ o.on ≤ 9223372036854775807) := by
  obtain ⟨v0, v1, v2, rfl⟩ : ∃ v0 v1 v2, x = [v0, v1, v2] := by
    match x, hl with
    | [a, b, c], _ => exact ⟨a, b, c, rfl⟩
  have hs := (argOk_struct Try.underlying40 h).2
  have f0 := hs _ (List.mem_cons_self ..)
  have f1 := hs _ (List.mem_cons_of_mem _ (List.mem_cons_self ..))
  have f2 := hs _ (List.mem_cons_of_mem _ (List.mem_cons_of_mem _ (List.mem_cons_self ..)))
  clear hs
  have c0 : Try.prog.cellsOf 3 = 1 := by kernel_rfl
  have c3 : Try.prog.cellsOf 28 = 1 := by kernel_rfl
  dsimp only at f0 f1 f2
  rw [c0] at f0 f1
  rw [c3] at f2
  simp only [List.drop_zero, List.drop_succ_cons, List.take_succ_cons, List.take_zero] at f0 f1 f2
  obtain ⟨k, e0, _⟩ := argOk_int Try.underlying3 f0
  obtain ⟨n, e1, wn⟩ := argOk_int Try.underlying3 f1
  have hnil := fun a n c (e : v2 = .slice a n c) => argOk_nil Try.underlying28 (by rw [← e]; exact f2 : ArgOk Try.prog W _ 28 [.slice a n c])
  obtain ⟨a, c, b, rfl, hrd, hbc, hc⟩ := argOk_bytes Try.underlying28 Try.underlying5 (by kernel_rfl) (by kernel_rfl) f2
  simp only [List.cons.injEq, and_true] at e0 e1
  subst e0 e1
  have w2 : -9223372036854775808 ≤ n ∧ n ≤ 9223372036854775807 := by
    simp [Lit.wf, IntKind.min, IntKind.max, IntKind.bits, IntKind.signed] at wn; omega
  exact ⟨⟨k, n, a, c, b⟩, rfl, by show b.length ≤ _; omega, hrd, hbc, hnil _ _ _ rfl, w2.1, w2.2⟩
theorem steps_arg {W : World} {v : Value} (h : ArgOk Try.prog W 12 31 [v]) : ∃ a c l, v = .slice a (l : List SOp).length c ∧ Steps (Old W) a l := by
  obtain ⟨a, c, l, rfl, hr, hlc, hb, hq⟩ := argOk_slice SOp.cells (fun o : SOp => o.b.length ≤ 140737488351232 ∧ Rd (Old W) o.a (o.b.map bv) ∧ o.b.length ≤ o.c ∧ (o.a = none → o.c = 0) ∧ -9223372036854775808 ≤ o.on ∧ o.on ≤ 9223372036854775807) Try.underlying31 (by kernel_rfl) sop_len (fun x hx hk => sop_arg x hx hk) h
  have hbo : Try.prog.bytesOf 40 = 40 := by kernel_rfl
  rw [hbo] at hb
  exact ⟨a, c, l, rfl, ⟨hr, fun o ho => (hq o ho).2.1, fun o ho => (hq o ho).2.2.1, fun o ho => (hq o ho).2.2.2.1, fun o ho => (hq o ho).1, fun o ho => (hq o ho).2.2.2.2, by omega⟩⟩
theorem shaPieces_args (W : World) (v0 : Value) (s0 : ∃ a len cap, v0 = .slice a len cap) (h0 : ArgOk Try.prog W 12 31 v0.cells.toList) :
    Calls Try.prog 5 #[v0] W fun e w' => e = .returned (.bool true) ∧ Below W.heap.size W w' := by
  obtain ⟨_, _, _, rfl⟩ := s0
  obtain ⟨a, c, l, e0, hs⟩ := steps_arg h0
  rw [e0]
  exact (shaPieces_spec (Old W) a c l hs W W (Sat.begin W)).mono fun e w' ⟨_, he, s⟩ => ⟨he, (s.ent (Ent.addEmp _)).below⟩
end Go.Proofs.Ytmhddmenmkjdlaa
