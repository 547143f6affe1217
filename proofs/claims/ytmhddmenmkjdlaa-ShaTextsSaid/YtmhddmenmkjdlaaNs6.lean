/- ShaTexts: its arguments. -/
import Derived.Test.YtmhddmenmkjdlaaT4
import Derived.Test.YtmhddmenmkjdlaaArg
namespace Go.Proofs.Ytmhddmenmkjdlaa
open Go.RowKit
set_option maxRecDepth 100000

theorem hash_arg {W : World} {d : Nat} {cs : List Value} (h : ArgOk Try.prog W (d + 2) 23 cs) : ∃ xs : List UInt8, xs.length = 32 ∧ cs = xs.map bv := by
  obtain ⟨hl, hx⟩ := argOk_array Try.underlying23 h
  have c0 : Try.prog.cellsOf 23 = 32 := by kernel_rfl
  have c1 : Try.prog.cellsOf 5 = 1 := by kernel_rfl
  rw [c0] at hl
  rw [c1] at hx
  refine ⟨cs.map fun v => match v with | .int _ n => UInt8.ofNat n.toNat | _ => 0, by rw [List.length_map]; exact hl, ?_⟩
  rw [List.map_map]
  refine List.ext_getElem (by simp) fun i h1 h2 => ?_
  obtain ⟨n, e, hw⟩ := argOk_int Try.underlying5 (hx i (by omega))
  have hi : cs[i] = .int .u8 n := by
    have := congrArg (·[0]?) e
    simp only [Nat.mul_one, List.getElem?_take, List.getElem?_drop, Nat.add_zero, List.getElem?_eq_getElem h1, List.getElem?_cons_zero] at this
    simpa using this
  have hn := wf_u8 hw
  rw [List.getElem_map, hi]
  show Value.int .u8 n = Value.int .u8 (((UInt8.ofNat n.toNat).toNat : Nat) : Int)
  rw [UInt8.toNat_ofNat_of_lt' (by show _ < 256; omega)]
  congr 1; omega
theorem shaTexts_args (W : World) (v0 v1 : Value) (s0 : ∃ cs, v0 = .agg cs) (h0 : ArgOk Try.prog W 12 23 v0.cells.toList) (s1 : ∃ s, v1 = .string s) (h1 : ArgOk Try.prog W 12 9 v1.cells.toList) :
    Calls Try.prog 6 #[v0, v1] W fun e w' => e = .returned (.bool true) ∧ Below W.heap.size W w' := by
  obtain ⟨cs, rfl⟩ := s0
  obtain ⟨s, rfl⟩ := s1
  obtain ⟨xs, hx, e⟩ := hash_arg (d := 10) h0
  have e0 : (Value.agg cs) = .agg (xs.map bv).toArray := by
    congr 1
    apply Array.ext'
    exact e
  rw [e0]
  exact (shaTexts_spec (Old W) xs hx s W W (Sat.begin W)).mono fun e w' ⟨_, he, s⟩ => ⟨he, (s.ent (Ent.addEmp _)).below⟩
end Go.Proofs.Ytmhddmenmkjdlaa
