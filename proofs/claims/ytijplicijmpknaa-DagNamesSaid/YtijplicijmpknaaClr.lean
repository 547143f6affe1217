/- clear(s[i:]) of an owned row. Any program. -/
import Derived.Test.YtijplicijmpknaaW
namespace Go.Proofs.Ytijplicijmpknaa
open Go.RowKit
section
variable {P : Program} {ops : Array Oper} {Q : Exit → Act → World → Prop} {n : Nat} {D : List Deferred} {W0 : World} {rest : List Oper} {ρ : Env} {A B R : HP}
variable {d : Nat} {dst : Option Tmp} {ty : TypeId} {pos : String} {aft : Array Edge} {gd : Option (Nat × Bool)} {K : Env → HP → Prop}
/-- an operation that gives a value which nobody keeps, and turns the world -/
theorem o_runN {o : Oper} (ho : o.dst = none)
    (h : ∀ w, Sat W0 w A → ∃ v B w', (execOp (ev ρ) o).run P w = .ok (.value v) w' ∧ Sat W0 w' B ∧ K ρ B) : OT P Q n D W0 o ρ A K := fun a w ha s K' hK => by
  unfold Oper.wp
  obtain ⟨v, B, w', hr, s', hk⟩ := h w s
  rw [ha.eval, hr, Oper.upon_value, ho]
  exact hK _ _ _ w' hk ha s'
theorem zero_list (z : Array Value) (m : Nat) : (Builtin.zeroCells z m).toList = (List.replicate m z.toList).flatten := by
  induction m with
  | zero => simp [Builtin.zeroCells]
  | succ m ih =>
    rw [List.replicate_succ', List.flatten_append, ← ih]
    unfold Builtin.zeroCells
    apply List.ext_getElem
    · simp [Nat.add_mul]
    · intro i h1 h2
      simp at h1
      by_cases hi : i < m * z.size
      · rw [List.getElem_append_left (by simpa using hi)]
        simp
      · rw [List.getElem_append_right (by simp; omega)]
        simp only [Array.toList_map, Array.toList_range, List.getElem_map, List.getElem_range, List.length_map, List.length_range, List.flatten_cons, List.flatten_nil, List.append_nil]
        have hlt : i - m * z.size < z.size := by rw [Nat.add_mul] at h1; omega
        have hz : i % z.size = i - m * z.size := by
          have e : i = (i - m * z.size) + z.size * m := by rw [Nat.mul_comm z.size]; omega
          conv => lhs; rw [e]
          rw [Nat.add_mul_mod_self_left, Nat.mod_eq_of_lt hlt]
        rw [hz, getElem!_pos z _ hlt]; simp
/-- 'clear(s[j:])' -/
theorem o_clearArr {x : Operand} {T E cap c size bytes m j k : Nat} {z : Value} {ad : Option Addr} {xs xs' : List Value} (hx : ev ρ x = .slice (ad.map fun g => cutAt g cap j size) k c) [ht : TyU P T (.slice E)] [he : TyI P E size bytes z] [hf : FAr A ad E size cap m xs R] (hk : j + k ≤ m) (hz1 : z.cells.toList.all Value.oneCell' = true)
    (hxs : xs.take (j * size) ++ (List.replicate k z.cells.toList).flatten ++ xs.drop ((j + k) * size) = xs') (h : K ρ (Arr E size ad cap m xs' * R)) :
    OT P Q n D W0 ⟨none, .call { callee := .builtin .clear, args := #[x], argTypes := #[T] }, ty, pos, aft, gd⟩ ρ A K :=
  o_runN rfl (fun w s => by
    subst hxs
    have s1 := s.ent hf.ent
    have hzs := he.cells
    obtain ⟨i, hi, hie⟩ := Option.map_eq_some_iff.1 he.eq
    obtain ⟨hz0, hzsz, _⟩ : i.zero = some z ∧ i.size = size ∧ i.bytes = bytes := by simpa using hie
    obtain ⟨hxl, hc⟩ := s1.arr
    have hfl : ((List.replicate k z.cells.toList).flatten).length = k * size := by simp [hzs]
    by_cases hk0 : k = 0
    · subst hk0
      refine ⟨.tuple #[], _, w, ?_, s1, ?_⟩
      · have : (Builtin.clear_ #[T] ty #[.slice (ad.map fun g => cutAt g cap j size) 0 c]).run P w = .ok (.tuple #[]) w := by
          cases ad <;> simp [Builtin.clear_, run_underlying ht.eq]
        simp [execOp, resolve, invoke, builtin, hx, this]
      · simpa using h
    · rcases hc with ⟨rfl, rfl, rfl⟩ | ⟨g, spare, rfl, h2, h3, h4, s'⟩
      · omega
      · have hjc : ¬ cap = j := by omega
        have hst := run_storeCells_at P g (j * size) E (List.replicate k z.cells.toList).flatten 0 (xs ++ spare).toArray w s'.blk (by
          simp only [List.size_toArray, List.length_append, h4, hfl, Nat.add_zero, ← Nat.add_mul]
          exact Nat.mul_le_mul_right _ (by omega)) (fun v hv => by
            obtain ⟨l, hl, hvl⟩ := List.mem_flatten.1 hv
            rw [List.mem_replicate] at hl
            rw [hl.2] at hvl
            exact List.all_eq_true.1 hz1 v hvl)
        simp only [Nat.add_zero] at hst
        have e : ((xs ++ spare).toArray.toList.take (j * size) ++ (List.replicate k z.cells.toList).flatten ++ (xs ++ spare).toArray.toList.drop (j * size + ((List.replicate k z.cells.toList).flatten).length)) = (xs.take (j * size) ++ (List.replicate k z.cells.toList).flatten ++ xs.drop ((j + k) * size)) ++ spare := by
          simp only [List.toList_toArray]
          have h5 : (j + k) * size ≤ xs.length := by rw [hxl]; exact Nat.mul_le_mul_right _ hk
          have h6 : j * size ≤ xs.length := Nat.le_trans (Nat.mul_le_mul_right _ (by omega)) h5
          rw [hfl, ← Nat.add_mul, List.take_append_of_le_length h6, List.drop_append_of_le_length h5]
          simp
        rw [e] at hst
        have ha : cutAt ⟨g, 0, none⟩ cap j size = ⟨g, j * size, none⟩ := by
          unfold cutAt; rw [if_neg hjc]; unfold Addr.add; split <;> simp_all
        refine ⟨.tuple #[], _, _, ?_, (s'.row (cs' := _ ++ spare)).ent (Ent.mul (arr_mk ?_ h2 h3 ?_) (Ent.refl _)), h⟩
        · have : (Builtin.clear_ #[T] ty #[.slice (some (cutAt ⟨g, 0, none⟩ cap j size)) k c]).run P w = .ok (.tuple #[]) (w.setRow g ((xs.take (j * size) ++ (List.replicate k z.cells.toList).flatten ++ xs.drop ((j + k) * size)) ++ spare).toArray) := by
            have hzr : (zeroValue E).run P w = .ok z w := by simp [zeroValue, typeInfo, hi, hz0]
            obtain ⟨k, rfl⟩ : ∃ k', k = k' + 1 := ⟨k - 1, by omega⟩
            rw [ha]
            simp [Builtin.clear_, run_underlying ht.eq, hzr, zero_list, hst]
          simp [execOp, resolve, invoke, builtin, hx, this]
        · simp only [List.length_append, hfl, List.length_take, List.length_drop, hxl]
          have h5 : (j + k) * size ≤ m * size := Nat.mul_le_mul_right _ hk
          rw [Nat.add_mul] at h5 ⊢
          omega
        · rw [← h4]
          simp only [List.length_append, hfl, List.length_take, List.length_drop, hxl]
          have h5 : (j + k) * size ≤ m * size := Nat.mul_le_mul_right _ hk
          rw [Nat.add_mul] at h5 ⊢
          omega)
end
end Go.Proofs.Ytijplicijmpknaa
