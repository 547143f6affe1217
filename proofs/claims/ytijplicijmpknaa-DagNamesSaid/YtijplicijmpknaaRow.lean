/- What a row's arguments are in memory. Any program. -/
import Derived.Test.YtijplicijmpknaaAny
import Derived.ProofKit
import Derived.OpenShut
import Derived.ShutString
import Derived.ChangeOld
import Derived.Below
import Derived.SizedLaws
namespace Go.Proofs.Ytijplicijmpknaa
open Go.ChangeShapes Go.WideShapes Go.ChangeAt Go.RowKit

/-- an argument that is a slice of numbers -/
theorem row_ints {H : Type} {enc : TypeId × Value → H} {P : Program} {W : World} {t e : TypeId} {k : IntKind} {a : Option Addr} {len cap j : Nat} {d : DataW H} {p : List MemPlace} {ts : List TypeId} {ds : List (DataW H)}
    (ht : P.underlying t = some (.slice e)) (he : P.underlying e = some (.int k)) (hc : P.cellsOf e = 1) (h : DataW.Trod enc P W 0 (fun _ => true) true t (.slice a len cap) d p)
    (hsz : (DataW.weightsEach P ts ds).all (· ≤ reachBytes) = true) (hj : ts[j]? = some t) (hd : ds[j]? = some d) :
    ∃ zs : List Int, zs.length = cap ∧ len ≤ cap ∧ cap ≤ maxLen ∧ cap * P.bytesOf e ≤ 140737488351232 ∧ (a = none → cap = 0) ∧ (∀ g, a = some g → Reads (Old W) g (zs.map (Value.int k))) ∧ ∀ n ∈ zs, (Lit.int k n).wf = true := by
  obtain ⟨fuel, hf⟩ := h
  rcases open_ints ht he hc hf with ⟨hcs, _⟩ | ⟨x, l, c, zs, hcs, _, hl, hm, hz, hx, hcell, hwz⟩
  · simp [Value.cells] at hcs
    obtain ⟨rfl, rfl, rfl⟩ := hcs
    exact ⟨[], rfl, Nat.le_refl _, by unfold maxLen; omega, by simp, fun _ => rfl, fun g hg => (by cases hg), fun n hn => (by cases hn)⟩
  · simp [Value.cells] at hcs
    obtain ⟨rfl, rfl, rfl⟩ := hcs
    simp only [Prod.mk.injEq] at hx
    obtain ⟨rfl, rfl⟩ := hx
    simp only [if_true] at hz
    refine ⟨zs, hz, hl, hm, ?_, fun hg => by (cases hg), fun g hg => ?_, hwz⟩
    · have := sized_slice hsz hj hd ht
      simp only [lits, List.length_map, List.length_take, List.length_drop, reachBytes] at this
      have e1 : min len zs.length + (zs.length - len) = cap := by omega
      rwa [e1] at this
    · cases hg
      refine reads_old (W := W) (R := emp) fun i v hv => ?_
      rw [List.getElem?_map] at hv
      obtain ⟨n, hn, rfl⟩ := Option.map_eq_some_iff.1 hv
      obtain ⟨hlt, rfl⟩ := List.getElem?_eq_some_iff.1 hn
      rw [hcell i hlt]
      simp [List.getD, List.getElem?_eq_getElem hlt]
theorem wf_u8 {n : Int} (h : (Lit.int .u8 n).wf = true) : 0 ≤ n ∧ n < 256 := by
  simp [Lit.wf, IntKind.min, IntKind.max, IntKind.bits, IntKind.signed] at h; omega
theorem bytes_of {zs : List Int} (h : ∀ n ∈ zs, (Lit.int .u8 n).wf = true) : zs.map (Value.int .u8) = (zs.map fun n => UInt8.ofNat n.toNat).map fun c => Value.int .u8 (c.toNat : Int) := by
  rw [List.map_map]
  apply List.map_congr_left
  intro n hn
  have := wf_u8 (h n hn)
  show Value.int .u8 n = Value.int .u8 ((UInt8.ofNat n.toNat).toNat : Int)
  congr 1
  rw [UInt8.toNat_ofNat_of_lt' (by show _ < 256; omega)]
  omega
end Go.Proofs.Ytijplicijmpknaa
