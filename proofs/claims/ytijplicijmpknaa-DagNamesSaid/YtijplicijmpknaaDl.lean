/- An owned row: held shorter; append of a later part of the same row to an earlier one. Any program. -/
import Derived.Test.YtijplicijmpknaaClr
namespace Go.Proofs.Ytijplicijmpknaa
open Go.RowKit
section
variable {P : Program} {ops : Array Oper} {Q : Exit → Act → World → Prop} {n : Nat} {D : List Deferred} {W0 : World} {rest : List Oper} {ρ : Env} {A B R : HP}
variable {d : Nat} {dst : Option Tmp} {ty : TypeId} {pos : String} {aft : Array Edge} {gd : Option (Nat × Bool)} {K : Env → HP → Prop}
theorem ent_exL {α : Type} {f : α → HP} {B C : HP} (h : ∀ x, Ent (f x * B) C) : Ent (ex f * B) C := fun hp ⟨h1, h2, d, u, ⟨x, a⟩, b⟩ => h x hp ⟨h1, h2, d, u, a, b⟩
theorem ent_prL {p : Prop} {A C : HP} (h : p → Ent A C) : Ent (pr p * A) C := fun hp a => (Ent.dropL _ _ |>.trans (h (by obtain ⟨h1, h2, d, u, a, b⟩ := a; exact a))) hp a
theorem arr_shrink {E size cap m k : Nat} {ad : Option Addr} {xs : List Value} (h : k ≤ m) : Ent (Arr E size ad cap m xs) (Arr E size ad cap k (xs.take (k * size))) := fun hp ⟨hl, hc⟩ => by
  have hk : k * size ≤ m * size := Nat.mul_le_mul_right _ h
  refine ⟨hp, Sub.refl hp, by rw [List.length_take]; omega, ?_⟩
  rcases hc with ⟨h1, h2, h3⟩ | ⟨g, spare, h1, h2, h3, h4, hb⟩
  · exact .inl ⟨h1, h2, by omega⟩
  · refine .inr ⟨g, xs.drop (k * size) ++ spare, h1, by omega, h3, ?_, by rw [← List.append_assoc, List.take_append_drop]; exact hb⟩
    rw [List.length_take, List.length_append, List.length_drop]; omega
/-- 's[i:j:k]' -/
theorem g_cut_lhm {x lo hi mx : Operand} {T E l cap size bytes j j' j'' : Nat} {z : Value} {ad : Option Addr} {k k' k'' : IntKind} {i i' i'' : Int} (hx : ev ρ x = .slice ad l cap) (hl : ev ρ lo = .int k i) (hh : ev ρ hi = .int k' i') (hm : ev ρ mx = .int k'' i'') [ht : TyU P T (.slice E)] [he : TyI P E size bytes z] (hj : i = (j : Int)) (hj' : i' = (j' : Int)) (hj'' : i'' = (j'' : Int)) (h1 : j ≤ j') (h2 : j' ≤ j'') (h3 : j'' ≤ cap) :
    Gives P ⟨dst, .slice T x (some lo) (some hi) (some mx), ty, pos, aft, gd⟩ ρ A (.slice (if j'' = j then ad else ad.map (·.add (j * size))) (j' - j) (j'' - j)) := fun _ w _ => by
  obtain ⟨inf, hinf, hz, hs, _⟩ := tyI_parts he
  subst hj hj' hj''
  simp [execOp, Instr.sliceAt, Instr.slice, run_underlying ht.eq, Instr.sliceBounds, hx, hl, hh, hm, run_bound (k := k'') (i := (j'' : Int)) (y := cap) rfl (by omega) (by omega), run_bound (k := k') (i := (j' : Int)) (y := j'') rfl (by omega) (by omega), run_bound (k := k) (i := (j : Int)) (y := j') rfl (by omega) (by omega), sizeOf, typeInfo, hinf, hs]
/-- 'append(s[:i], s[j:]...)' where i ≤ j -/
theorem o_appOver {x y : Operand} {T u E size bytes m i j k cap c : Nat} {z : Value} {ad : Option Addr} {xs xs' : List Value} {e : Nat} (hd : Nat.blt d n = true) (hx : ev ρ x = .slice ad i cap) (hy : ev ρ y = .slice (ad.map fun g => cutAt g cap j size) k c)
    [ht : TyU P T (.slice E)] [hu : TyU P u (.slice e)] [he : TyI P E size bytes z] [hf : FArr A E size ad cap m xs R] (h0 : 0 < m) (hij : i ≤ j) (hjk : j + k = m) (hz1 : xs.all Value.oneCell' = true)
    (hxs : xs.take (i * size) ++ xs.drop (j * size) ++ xs.drop ((i + k) * size) = xs') (h : K (upd ρ d (.slice ad (i + k) cap)) (Arr E size ad cap m xs' * R)) :
    OT P Q n D W0 ⟨some d, .call { callee := .builtin .append, args := #[x, y], argTypes := #[T, u] }, ty, pos, aft, gd⟩ ρ A K :=
  o_run rfl hd fun w s => by
    subst hxs
    have s1 := s.ent hf.ent
    obtain ⟨inf, hi, hie⟩ := Option.map_eq_some_iff.1 he.eq
    obtain ⟨hz0, hsz, _⟩ : inf.zero = some z ∧ inf.size = size ∧ inf.bytes = bytes := by simpa using hie
    obtain ⟨hxl, hc⟩ := s1.arr
    have hue := hu.eq
    have e1 : (i + k) * size = i * size + k * size := Nat.add_mul _ _ _
    have e2 : m * size = j * size + k * size := by rw [← hjk]; exact Nat.add_mul _ _ _
    have e3 : i * size ≤ j * size := Nat.mul_le_mul_right _ hij
    have hnl : (xs.drop (j * size)).length = k * size := by rw [List.length_drop, hxl]; omega
    rcases hc with ⟨_, _, h3⟩ | ⟨g, spare, rfl, h2, h3, h4, s'⟩
    · omega
    · have hst := run_storeCells_at P g (i * size) E (xs.drop (j * size)) 0 (xs ++ spare).toArray w s'.blk (by
        simp only [List.size_toArray, List.length_append, hnl, Nat.add_zero]
        omega) (fun v hv => List.all_eq_true.1 hz1 v (List.mem_of_mem_drop hv))
      simp only [Nat.add_zero] at hst
      have ee : ((xs ++ spare).toArray.toList.take (i * size) ++ xs.drop (j * size) ++ (xs ++ spare).toArray.toList.drop (i * size + (xs.drop (j * size)).length)) = (xs.take (i * size) ++ xs.drop (j * size) ++ xs.drop ((i + k) * size)) ++ spare := by
        simp only [List.toList_toArray]
        rw [hnl, ← e1, List.take_append_of_le_length (by omega), List.drop_append_of_le_length (by omega)]
        simp
      rw [ee] at hst
      have ha : (Addr.add ⟨g, 0, none⟩ (i * size)) = ⟨g, i * size, none⟩ := by unfold Addr.add; split <;> simp_all
      have hfull : (Builtin.firstCells size k (.slice (some (cutAt ⟨g, 0, none⟩ cap j size)) k c)).run P w = .ok (xs.drop (j * size)).toArray w :=
        run_firstCells_some (P := P) w size k _ k c _ hnl fun t v hv => by
          have ht : t < k * size := by rw [← hnl]; exact (List.getElem?_eq_some_iff.1 hv).1
          have hk0 : 0 < k := by rcases Nat.eq_zero_or_pos k with h | h; · subst h; omega
                                 · exact h
          have hc2 : cutAt ⟨g, 0, none⟩ cap j size = ⟨g, j * size, none⟩ := by
            unfold cutAt; rw [if_neg (by omega)]; unfold Addr.add; split <;> simp_all
          have hc3 : (Addr.add ⟨g, j * size, none⟩ t) = ⟨g, j * size + t, none⟩ := by unfold Addr.add; split <;> simp_all
          rw [hc2, hc3, s'.cell, List.getElem?_append_left (by omega), ← hv, List.getElem?_drop]
      have hroom : i + k ≤ cap := by omega
      refine ⟨.slice (some ⟨g, 0, none⟩) (i + k) cap, _, _, ?_, (s'.row (cs' := _ ++ spare)).ent (Ent.mul (arr_mk ?_ h2 h3 ?_) (Ent.refl _)), h⟩
      · have : (Builtin.append_ #[T, u] ty #[.slice (some ⟨g, 0, none⟩) i cap, .slice (some (cutAt ⟨g, 0, none⟩ cap j size)) k c]).run P w = .ok (.slice (some ⟨g, 0, none⟩) (i + k) cap) (w.setRow g ((xs.take (i * size) ++ xs.drop (j * size) ++ xs.drop ((i + k) * size)) ++ spare).toArray) := by
          have hlen : (Builtin.lenOf (.slice (some (cutAt ⟨g, 0, none⟩ cap j size)) k c)).run P w = .ok k w := rfl
          simp [Builtin.append_, run_underlying ht.eq, run_underlying hue, sizeOf, typeInfo, hi, hsz, hlen, hfull, hroom, ha, hst]
        simp only [Option.map_some] at hy
        simp [execOp, resolve, invoke, builtin, hx, hy, this]
      · simp only [List.length_append, List.length_take, List.length_drop, hxl]; omega
      · rw [← h4]; simp only [List.length_append, List.length_take, List.length_drop, hxl]; omega
end
end Go.Proofs.Ytijplicijmpknaa
