/- Hashes, and lists of them, that come in. -/
import Derived.Test.YtmhddmenmkjdlaaHo
import Derived.Test.YtmhddmenmkjdlaaTy
import Derived.Test.YtmhddmenmkjdlaaArg
namespace Go.Proofs.Ytmhddmenmkjdlaa
open Go.RowKit
set_option maxRecDepth 100000

theorem slice_nil {P : Program} {W : World} {d : Nat} {t e : TypeId} {a : Option Addr} {n c : Nat} (ht : P.underlying t = some (.slice e)) (h : ArgOk P W (d + 1) t [.slice a n c]) : a = none → c = 0 := by
  unfold ArgOk at h; rw [ht] at h
  obtain ⟨a', len, cap, es, hv, hl, hes, hb, hn, hr, hx⟩ := h
  simp only [List.cons.injEq, Value.slice.injEq, and_true] at hv
  obtain ⟨rfl, rfl, rfl⟩ := hv
  exact hn
theorem hashCells_arg {W : World} {d : Nat} {cs : List Value} (h : ArgOk Try.prog W (d + 2) 23 cs) : ∃ xs : List UInt8, xs.length = 32 ∧ cs = xs.map bv := by
  obtain ⟨hl, hx⟩ := argOk_array Try.underlying23 h
  have c0 : Try.prog.cellsOf 23 = 32 := by kernel_rfl
  have c1 : Try.prog.cellsOf 5 = 1 := by kernel_rfl
  rw [c0] at hl
  rw [c1] at hx
  refine ⟨cs.map fun v => match v with | .int _ n => UInt8.ofNat n.toNat | _ => 0, by rw [List.length_map]; exact hl, ?_⟩
  rw [List.map_map]
  refine List.ext_getElem (by simp) fun i h1 h2 => ?_
  obtain ⟨n, e, hw⟩ := argOk_int Try.underlying5 (hx i (by omega))
  have hi : cs[i] = .int .u8 n := by
    have := congrArg (·[0]?) e
    simp only [Nat.mul_one, List.getElem?_take, List.getElem?_drop, Nat.add_zero, List.getElem?_eq_getElem h1, List.getElem?_cons_zero] at this
    simpa using this
  have hn := wf_u8 hw
  rw [List.getElem_map, hi]
  show Value.int .u8 n = Value.int .u8 (((UInt8.ofNat n.toNat).toNat : Nat) : Int)
  rw [UInt8.toNat_ofNat_of_lt' (by show _ < 256; omega)]
  congr 1; omega
theorem hashes_arg {W : World} {d : Nat} {v : Value} (h : ArgOk Try.prog W (d + 3) 50 [v]) : ∃ a c l, v = .slice a (l : List Hs).length c ∧ Rd (Old W) a (l.flatMap hc) ∧ l.length ≤ c ∧ c * 32 ≤ 140737488351232 ∧ (a = none → c = 0) := by
  have h0 := fun a n c (e : v = .slice a n c) => slice_nil Try.underlying50 (by rw [← e]; exact h : ArgOk Try.prog W (d + 3) 50 [.slice a n c])
  obtain ⟨a, c, l, rfl, hr, hlc, hb, _⟩ := argOk_slice (fun h : Hs => hc h) (fun _ => True) Try.underlying50 (by kernel_rfl) hc_len (fun x hx hk => by
    obtain ⟨xs, h1, h2⟩ := hashCells_arg hk
    exact ⟨⟨xs, h1⟩, h2, trivial⟩) h
  have hbo : Try.prog.bytesOf 23 = 32 := by kernel_rfl
  rw [hbo] at hb
  exact ⟨a, c, l, rfl, hr, hlc, hb, h0 _ _ _ rfl⟩
end Go.Proofs.Ytmhddmenmkjdlaa
