/- An append to a slice that has no room left; a cut with a capacity. Any program. -/
import Derived.Test.YtijplicijmpknaaW
namespace Go.Proofs.Ytijplicijmpknaa
open Go.RowKit

section
variable {P : Program} {ops : Array Oper} {Q : Exit → Act → World → Prop} {n : Nat} {D : List Deferred} {W0 : World} {rest : List Oper} {ρ : Env} {A B R : HP}
variable {d : Nat} {dst : Option Tmp} {ty : TypeId} {pos : String} {aft : Array Edge} {gd : Option (Nat × Bool)} {K : Env → HP → Prop}
theorem g_cut_him {x hi mx : Operand} {T E l cap size bytes : Nat} {z : Value} {ad : Option Addr} {k k' : IntKind} {i i' : Int} {j j' : Nat} (hx : ev ρ x = .slice ad l cap) (hh : ev ρ hi = .int k i) (hm : ev ρ mx = .int k' i') [ht : TyU P T (.slice E)] [he : TyI P E size bytes z] [hj : NatI i j] [hj' : NatI i' j'] (h1 : j ≤ j') (h2 : j' ≤ cap) :
    Gives P ⟨dst, .slice T x none (some hi) (some mx), ty, pos, aft, gd⟩ ρ A (.slice ad j j') := fun _ w _ => by
  obtain ⟨inf, hinf, hz, hs, _⟩ := tyI_parts he
  have e : (if j' = 0 then ad else ad.map (·.add (0 * size))) = ad := by split <;> cases ad <;> simp [Addr.add]
  simp only [Nat.zero_mul] at e
  simp [execOp, Instr.sliceAt, Instr.slice, run_underlying ht.eq, Instr.sliceBounds, hx, hh, hm, run_bound (k := k') (i := i') (y := cap) rfl (by rw [hj'.eq]; omega) (by rw [hj'.eq]; omega), run_bound (k := k) (i := i) (y := j') rfl (by rw [hj.eq]; omega) (by rw [hj.eq]; omega), sizeOf, typeInfo, hinf, hs, hj.to, hj'.to, e]
theorem Rd.src {size m c : Nat} {ad : Option Addr} {xs : List Value} (hr : Rd A ad xs) (hl : xs.length = m * size) (h0 : 0 < size) : Src P A size (.slice ad m c) m xs := ⟨hl, fun W1 w s => by
  cases ad with
  | none =>
    have hn := hr.nil W1 w s rfl
    subst hn
    simp only [List.length_nil] at hl
    have : m = 0 := by rcases Nat.eq_zero_or_pos m with h | h; exact h; have := Nat.mul_pos h h0; omega
    subst this
    exact (src_none (P := P) (A := A) (size := size)).2 W1 w s
  | some g => exact (src_slice (P := P) hl (hr.rd g rfl)).2 W1 w s⟩
theorem run_append_full {T u E size bytes m k : Nat} {z : Value} {ad : Option Addr} {xs news : List Value} {x : Value} {w : World} {du : TypeDesc} [ht : TyU P T (.slice E)] [hu : TyU P u du] [he : TyI P E size bytes z] (hdu : (∃ e, du = .slice e) ∨ du = .string)
    (s : Sat W0 w A) (ho : Src P A size (.slice ad m m) m xs) (hsrc : Src P A size x k news) (hk : 0 < k) (h63 : m + k ≤ maxLen) (hb : (m + k) * bytes ≤ 140737488355328) :
    ∃ cap' w', (Builtin.append_ #[T, u] ty #[.slice ad m m, x]).run P w = .ok (.slice (some ⟨w.heap.size, 0, none⟩) (m + k) cap') w' ∧ Sat W0 w' (Arr E size (some ⟨w.heap.size, 0, none⟩) cap' (m + k) (xs ++ news) * A) := by
  have hzs := he.cells
  obtain ⟨hnl, hs⟩ := hsrc
  obtain ⟨hxl, hos⟩ := ho
  obtain ⟨hlen, hcells⟩ := hs W0 w s
  obtain ⟨i, hi, hie⟩ := Option.map_eq_some_iff.1 he.eq
  obtain ⟨hz0, hz1, hz2⟩ : i.zero = some z ∧ i.size = size ∧ i.bytes = bytes := by simpa using hie
  have hal : (xs ++ news).length = (m + k) * size := by rw [List.length_append, hxl, hnl, Nat.add_mul]
  have hroom : ¬ (m + k ≤ m) := by omega
  have hg : m < m + k := by omega
  have hfit := growslice_fits hg hb
  have hn63 : ¬ (9223372036854775807 < ((m : Int) + (k : Int))) := by unfold maxLen at h63; omega
  have h48 : ¬ (281474976710656 < Builtin.nextslicecap (m + k) m * bytes) := by omega
  have hcap1 := grownCap_ge w (m + k) m E
  have hcap2 := grownCap_le_maxLen w (m + k) m E h63
  have hcells' : (Builtin.firstCells size k x).run P w.drew = .ok news.toArray w.drew := by
    have := (hs W0 w.drew (s.drew)).2 k (Nat.le_refl _)
    rwa [List.take_of_length_le (by omega)] at this
  have hold : (Builtin.firstCells size m (.slice ad m m)).run P w.drew = .ok xs.toArray w.drew := by
    have := (hos W0 w.drew (s.drew)).2 m (Nat.le_refl _)
    rwa [List.take_of_length_le (by omega)] at this
  have s2 : Sat W0 w.drew A := s.drew
  have s3 := s2.alloc ((xs ++ news) ++ (Builtin.zeroCells z.cells (grownCap w (m + k) m E - (m + k))).toList).toArray E
  refine ⟨grownCap w (m + k) m E, _, ?_, s3.ent (Ent.mul (arr_mk hal hcap1 hcap2 ?_) (Ent.refl _))⟩
  · have hr : ∀ b : Nat, (askRoom b).run P w.drew = .ok () w.drew := fun b => by unfold askRoom; split <;> rfl
    have hue := hu.eq
    have hk0 : ¬ k = 0 := by omega
    rcases hdu with ⟨e, rfl⟩ | rfl
    all_goals
      simp [Builtin.append_, run_underlying ht.eq, run_underlying hue, sizeOf, typeInfo, zeroValue, hi, hz0, hz1, hz2, hlen, hroom, hn63, h48, hold, hcells', newRow, hr, Question.forced, grownCap, hk0]
      congr 2
      apply Array.ext'
      simp [List.append_assoc]
  · rw [hal]
    simp only [Array.length_toList, size_zeroCells, hzs, ← Nat.add_mul]
    congr 1; omega
/-- 'append(s[:n:n], v)' -/
theorem o_appF {T E b size bytes m c : Nat} {z : Value} {x y : Operand} {ad : Option Addr} {vc xs : List Value} {T' : TypeId} {R1 : HP}
    (hd : Nat.blt d n = true) [ht : TyU P T (.slice E)] [he : TyI P E size bytes z]
    (hx : ev ρ x = .slice ad m m) (hy : ev ρ y = .slice (some ⟨b, 0, none⟩) 1 c) [hb : FBlk A b vc T' R1] [hr : Rd R1 ad xs] (hxl : xs.length = m * size) (hs0 : 0 < size) (hl : vc.length = size) (h0 : Nat.blt 0 bytes = true) (hbig : (m + 1) * bytes ≤ 140737488355328)
    {mk : Nat} {ys : List Value} (hm : m + 1 = mk) (hys : xs ++ vc = ys) (h : ∀ g cap', mk ≤ cap' → K (upd ρ d (.slice (some g) mk cap')) (Arr E size (some g) cap' mk ys * R1)) :
    OT P Q n D W0 ⟨some d, .call { callee := .builtin .append, args := #[x, y], argTypes := #[T, T] }, ty, pos, aft, gd⟩ ρ A K :=
  o_run rfl hd fun w s => by
    subst hm hys
    have s1 := s.ent hb.ent
    have hsrc : Src P (Blk b vc T' * R1) size (.slice (some ⟨b, 0, none⟩) 1 c) 1 vc :=
      src_slice (by omega) (Reads.mulL (fun _ w s j v e => (s.ent (Ent.addEmp _)).cellsFrom 0 (by intro j v h; simpa using h) j v e))
    have ho : Src P (Blk b vc T' * R1) size (.slice ad m m) m xs := (hr.of_ent (Ent.dropL _ _)).src hxl hs0
    obtain ⟨cap', w', hrn, s'⟩ := run_append_full (P := P) (ty := ty) (T := T) (u := T) (z := z) (.inl ⟨E, rfl⟩) s1 ho hsrc (by omega) (max_of_bytes h0 hbig) hbig
    obtain ⟨_, f2, f3, _⟩ := arr_fact (E := E) (size := size) (some ⟨w.heap.size, 0, none⟩) cap' s'
    refine ⟨_, _, w', ?_, s'.ent (Ent.mul (Ent.refl _) (Ent.dropL _ _)), h _ cap' f3⟩
    simp [execOp, resolve, invoke, builtin, hx, hy, hrn]
end
end Go.Proofs.Ytijplicijmpknaa
