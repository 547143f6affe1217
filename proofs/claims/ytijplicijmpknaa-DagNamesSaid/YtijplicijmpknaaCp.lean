/- copy into a block; the end of a slice. Any program. -/
import Derived.Test.YtijplicijmpknaaW
namespace Go.Proofs.Ytijplicijmpknaa
open Go.RowKit

section
variable {P : Program} {ops : Array Oper} {Q : Exit → Act → World → Prop} {n : Nat} {D : List Deferred} {W0 : World} {rest : List Oper} {ρ : Env} {A B R : HP}
variable {d : Nat} {dst : Option Tmp} {ty : TypeId} {pos : String} {aft : Array Edge} {gd : Option (Nat × Bool)} {K : Env → HP → Prop}
theorem g_cutLoN {x lo : Operand} {T E l cap size bytes : Nat} {z : Value} {ad : Option Addr} {k : IntKind} {i : Int} {j : Nat} (hx : ev ρ x = .slice ad l cap) (hl : ev ρ lo = .int k i) [ht : TyU P T (.slice E)] [he : TyI P E size bytes z] [hj : NatI i j] (h1 : j ≤ l) (hlc : l ≤ cap) (hn : ad = none → cap = 0) :
    Gives P ⟨dst, .slice T x (some lo) none none, ty, pos, aft, gd⟩ ρ A (.slice (ad.map fun g => cutAt g cap j size) (l - j) (cap - j)) := by
  cases ad with
  | none =>
    obtain rfl := hn rfl
    obtain rfl : l = 0 := by omega
    obtain rfl : j = 0 := by omega
    exact g_cut_lo_nil hx hl (by rw [hj.eq]; rfl)
  | some g => exact g_cut_lo hx hl hj.nn (by rw [hj.eq]; omega) hj.to
theorem Rd.srcC {size m c : Nat} {ad : Option Addr} {xs : List Value} (hr : Rd A ad xs) (hl : xs.length = m * size) (h0 : 0 < size) : Src P A size (.slice ad m c) m xs := ⟨hl, fun W1 w s => by
  cases ad with
  | none =>
    have hn := hr.nil W1 w s rfl
    subst hn
    simp only [List.length_nil] at hl
    have : m = 0 := by rcases Nat.eq_zero_or_pos m with h | h; exact h; have := Nat.mul_pos h h0; omega
    subst this
    exact (src_none (P := P) (A := A) (size := size)).2 W1 w s
  | some g => exact (src_slice (P := P) hl (hr.rd g rfl)).2 W1 w s⟩
/-- 'copy' of bytes (elements of one cell) into a block -/
theorem o_copy {T E u bytes b i dl dc k c m : Nat} {z : Value} {x y : Operand} {ga : Addr} {ad : Option Addr} {cs cs' news : List Value} {T' : TypeId}
    (hd : Nat.blt d n = true) [ht : TyU P T (.slice E)] [he : TyI P E 1 bytes z]
    (hx : ev ρ x = .slice (some ga) dl dc) (hy : ev ρ y = .slice ad k c) (hga : ga = ⟨b, i, none⟩) [hb : FBlk A b cs T' R] [hr : Rd A ad news] (hnl : news.length = k) (h1 : news.all Value.oneCell' = true) (hm : min k dl = m) (hi : i + m ≤ cs.length) (hcs : cs.take i ++ news.take m ++ cs.drop (i + m) = cs')
    (h : K (upd ρ d (.int .i64 (m : Int))) (Blk b cs' T' * R)) :
    OT P Q n D W0 ⟨some d, .call { callee := .builtin .copy, args := #[x, y], argTypes := #[T, u] }, ty, pos, aft, gd⟩ ρ A K :=
  o_run rfl hd fun w s => by
    subst hga hcs
    have hsrc : Src P A 1 (.slice ad k c) k news := hr.srcC (by omega) (by decide)
    obtain ⟨hl, hc⟩ := hsrc.2 W0 w s
    have hmk : m ≤ k := by omega
    have hfc := hc m hmk
    rw [Nat.mul_one] at hfc
    have s' := s.ent hb.ent
    have hnm : (news.take m).length = m := by rw [List.length_take]; omega
    have e := run_storeCells_at P b i T' (news.take m) 0 cs.toArray w s'.blk (by simp; omega) (fun v hm => List.all_eq_true.1 h1 v (List.mem_of_mem_take hm))
    obtain ⟨inf, hinf, hz, hs, _⟩ := tyI_parts he
    rw [hnm] at e
    simp only [Nat.add_zero] at e
    refine ⟨_, _, w.setRow b (cs.take i ++ news.take m ++ cs.drop (i + m)).toArray, ?_, s'.row (cs' := cs.take i ++ news.take m ++ cs.drop (i + m)), h⟩
    have hmn : Nat.min k dl = m := hm
    simp [execOp, resolve, invoke, builtin, hx, hy, Builtin.copy_, run_underlying ht.eq, hl, hmn, sizeOf, typeInfo, hinf, hs, hfc, e, goInt]
end
theorem cutAt_lt {b i cap j : Nat} (h : j < cap) : cutAt ⟨b, i, none⟩ cap j 1 = ⟨b, i + j, none⟩ := by
  unfold cutAt
  rw [if_neg (by omega)]
  unfold Addr.add
  simp
end Go.Proofs.Ytijplicijmpknaa
