/- What a script is, and a list of booleans, among the arguments. -/
import Derived.Test.YtfcanppeiadbhaaB6
import Derived.Test.YtfcanppeiadbhaaArg
namespace Go.Proofs.Ytfcanppeiadbhaa
open Go.RowKit
set_option maxRecDepth 100000

theorem argOk_nil {P : Program} {W : World} {d : Nat} {t e : TypeId} {a : Option Addr} {n c : Nat} (ht : P.underlying t = some (.slice e)) (h : ArgOk P W (d + 1) t [.slice a n c]) : a = none → c = 0 := by
  unfold ArgOk at h; rw [ht] at h
  obtain ⟨a', len, cap, es, hv, hl, hes, hb, hn, hr, hx⟩ := h
  simp only [List.cons.injEq, Value.slice.injEq, and_true] at hv
  obtain ⟨rfl, rfl, rfl⟩ := hv
  exact hn
theorem und {P : Program} {t : TypeId} (d : TypeDesc) (h : TyU P t d) : P.underlying t = some d := h.eq
theorem op_arg {W : World} {d : Nat} (x : List Value) (hl : x.length = 4) (h : ArgOk Try.prog W (d + 4) 43 x) : ∃ o : OpV, x = o.cells ∧ (o.x < 2 ^ 64 ∧ o.b.length ≤ 140737488351232 ∧ Rd (Old W) o.a (o.b.map bv) ∧ -9223372036854775808 ≤ o.n ∧ o.n ≤ 9223372036854775807) := by
  obtain ⟨v0, v1, v2, v3, rfl⟩ : ∃ v0 v1 v2 v3, x = [v0, v1, v2, v3] := by
    match x, hl with
    | [a, b, c, e], _ => exact ⟨a, b, c, e, rfl⟩
  have hs := (argOk_struct Try.underlying43 h).2
  have f0 := hs _ (List.mem_cons_self ..)
  have f1 := hs _ (List.mem_cons_of_mem _ (List.mem_cons_self ..))
  have f2 := hs _ (List.mem_cons_of_mem _ (List.mem_cons_of_mem _ (List.mem_cons_self ..)))
  have f3 := hs _ (List.mem_cons_of_mem _ (List.mem_cons_of_mem _ (List.mem_cons_of_mem _ (List.mem_cons_self ..))))
  clear hs
  have c0 : Try.prog.cellsOf 3 = 1 := by kernel_rfl
  have c1 : Try.prog.cellsOf 41 = 1 := by kernel_rfl
  have c3 : Try.prog.cellsOf 36 = 1 := by kernel_rfl
  dsimp only at f0 f1 f2 f3
  rw [c0] at f0 f2
  rw [c1] at f1
  rw [c3] at f3
  simp only [List.drop_zero, List.drop_succ_cons, List.take_succ_cons, List.take_zero] at f0 f1 f2 f3
  obtain ⟨k, e0, _⟩ := argOk_int Try.underlying3 f0
  obtain ⟨y, e1, wy⟩ := argOk_int Try.underlying41 f1
  obtain ⟨n, e2, wn⟩ := argOk_int Try.underlying3 f2
  obtain ⟨a, c, b, rfl, hrd, hbc, hc⟩ := argOk_bytes Try.underlying36 Try.underlying5 (by kernel_rfl) (by kernel_rfl) f3
  simp only [List.cons.injEq, and_true] at e0 e1 e2
  subst e0 e1 e2
  have w1 : 0 ≤ y ∧ y < 18446744073709551616 := by
    simp [Lit.wf, IntKind.min, IntKind.max, IntKind.bits, IntKind.signed] at wy; omega
  have w2 : -9223372036854775808 ≤ n ∧ n ≤ 9223372036854775807 := by
    simp [Lit.wf, IntKind.min, IntKind.max, IntKind.bits, IntKind.signed] at wn; omega
  refine ⟨⟨k, y.toNat, n, a, c, b⟩, ?_, by show y.toNat < _; omega, by show b.length ≤ _; omega, hrd, w2.1, w2.2⟩
  show _ = [Value.int .i64 k, .int .u64 ((y.toNat : Nat) : Int), .int .i64 n, .slice a b.length c]
  rw [show ((y.toNat : Nat) : Int) = y by omega]
theorem script_arg {W : World} {v : Value} (h : ArgOk Try.prog W 12 30 [v]) : ∃ a c l, v = .slice a (l : List OpV).length c ∧ Script (Old W) a l ∧ (∀ o ∈ l, -9223372036854775808 ≤ o.n ∧ o.n ≤ 9223372036854775807) := by
  obtain ⟨a, c, l, rfl, hr, hlc, hb, hq⟩ := argOk_slice OpV.cells (fun o : OpV => o.x < 2 ^ 64 ∧ o.b.length ≤ 140737488351232 ∧ Rd (Old W) o.a (o.b.map bv) ∧ -9223372036854775808 ≤ o.n ∧ o.n ≤ 9223372036854775807) Try.underlying30 (by kernel_rfl) opv_len (fun x hx hk => op_arg x hx hk) h
  have hbo : Try.prog.bytesOf 43 = 48 := by kernel_rfl
  rw [hbo] at hb
  exact ⟨a, c, l, rfl, ⟨hr, fun o ho => (hq o ho).2.2.1, fun o ho => (hq o ho).1, fun o ho => (hq o ho).2.1, by omega⟩, fun o ho => (hq o ho).2.2.2⟩
theorem bools_arg {W : World} {v : Value} (h : ArgOk Try.prog W 12 31 [v]) : ∃ a c l, v = .slice a (l : List Bool).length c ∧ Rd (Old W) a (l.map Value.bool) ∧ l.length ≤ 140737488351232 := by
  obtain ⟨a, c, l, rfl, hr, hlc, hb, hq⟩ := argOk_slice (fun b : Bool => [Value.bool b]) (fun _ => True) Try.underlying31 (by kernel_rfl) (fun _ => rfl) (fun x hx hk => by
    obtain ⟨b, rfl⟩ := argOk_bool Try.underlying4 hk
    exact ⟨b, rfl, trivial⟩) h
  have hbo : Try.prog.bytesOf 4 = 1 := by kernel_rfl
  rw [hbo] at hb
  refine ⟨a, c, l, rfl, ?_, by omega⟩
  rwa [flatMap_one] at hr
end Go.Proofs.Ytfcanppeiadbhaa
