/- Lists of hashes: each that equals the one ahead of it left out. No program. -/
import Derived.Test.YtijplicijmpknaaSrt
namespace Go.Proofs.Ytijplicijmpknaa
open Go.RowKit Go.Sort

def dedStep (d : List Hs) (x : Hs) : List Hs := if d.getLast? = some x then d else d ++ [x]
def ded (l : List Hs) : List Hs := l.foldl dedStep []
theorem ded_next (l : List Hs) (i : Nat) (h : i < l.length) : ded (l.take (i + 1)) = dedStep (ded (l.take i)) l[i] := by
  unfold ded
  rw [List.take_succ_eq_append_getElem h, List.foldl_append]; rfl
theorem dedStep_last (d : List Hs) (x : Hs) : (dedStep d x).getLast? = some x := by
  unfold dedStep
  split
  · assumption
  · simp
theorem ded_last (l : List Hs) (i : Nat) (h : i < l.length) : (ded (l.take (i + 1))).getLast? = some l[i] := by
  rw [ded_next l i h]; exact dedStep_last _ _
theorem ded_len (l : List Hs) : (ded l).length ≤ l.length := by
  have key : ∀ (l d : List Hs), (l.foldl dedStep d).length ≤ d.length + l.length := by
    intro l
    induction l with
    | nil => intro d; simp
    | cons x l ih =>
      intro d
      have h1 := ih (dedStep d x)
      have h2 : (dedStep d x).length ≤ d.length + 1 := by unfold dedStep; split <;> simp
      simp only [List.foldl_cons, List.length_cons]
      omega
  have := key l []
  rw [List.length_nil, Nat.zero_add] at this
  exact this
/-- of a sorted list: what is left rises, and has the same elements -/
theorem ded_rises (l : List Hs) (hs : l.Pairwise fun x y => cmpH x y ≤ 0) : ∀ i, i ≤ l.length → Rises (ded (l.take i)) ∧ ∀ z, z ∈ ded (l.take i) ↔ z ∈ l.take i
  | 0, _ => by simp [ded, Rises]
  | i + 1, h => by
    have hi : i < l.length := h
    obtain ⟨h1, h2⟩ := ded_rises l hs i (by omega)
    rw [ded_next l i hi, List.take_succ_eq_append_getElem hi]
    unfold dedStep
    split
    · next hl =>
      have hm : l[i] ∈ ded (l.take i) := List.mem_of_getLast? hl
      refine ⟨h1, fun z => ?_⟩
      rw [List.mem_append, List.mem_singleton, ← h2 z]
      exact ⟨.inl, fun h => h.elim id fun e => e ▸ hm⟩
    · next hl =>
      refine ⟨List.pairwise_append.2 ⟨h1, by simp, fun a ha b hb => ?_⟩, fun z => by rw [List.mem_append, List.mem_append, h2 z]⟩
      rw [List.mem_singleton] at hb
      subst hb
      -- a is of those ahead; the last of them is less than this one
      have hle : cmpH a l[i] ≤ 0 := by
        have ha' := (h2 a).1 ha
        obtain ⟨j, hj, rfl⟩ := List.getElem_of_mem ha'
        rw [List.length_take] at hj
        rw [List.getElem_take]
        exact (List.pairwise_iff_getElem.1 hs) j i (by omega) hi (by omega)
      have hne : a ≠ l[i] := by
        intro e
        subst e
        -- then the last one, between a and it, is it too
        cases i with
        | zero => simp [ded] at ha
        | succ k =>
          have hk : k < l.length := by omega
          have hl2 := ded_last l k hk
          have ha' := (h2 _).1 ha
          obtain ⟨j, hj, hje⟩ := List.getElem_of_mem ha'
          rw [List.length_take] at hj
          rw [List.getElem_take] at hje
          have e1 : cmpH l[j] l[k] ≤ 0 := by
            by_cases hjk : j = k
            · subst hjk; rw [cmpH_self]; omega
            · exact (List.pairwise_iff_getElem.1 hs) j k (by omega) hk (by omega)
          have e2 : cmpH l[k] l[k + 1] ≤ 0 := (List.pairwise_iff_getElem.1 hs) k (k + 1) hk hi (by omega)
          have e3 := cmpH_neg l[k] l[k + 1]
          rw [hje] at e1
          have : l[k] = l[k + 1] := cmpH_eq (by omega)
          rw [hl2, this] at hl
          exact hl rfl
      show cmpH a l[i] < 0
      rcases cmpH_range a l[i] with e | e | e
      · omega
      · exact absurd (cmpH_eq e) hne
      · omega
theorem ded_msort (l : List Hs) : ded (msort l) = sortS l := by
  obtain ⟨h1, h2⟩ := ded_rises (msort l) (msort_sorted l) (msort l).length (Nat.le_refl _)
  rw [List.take_length] at h1 h2
  exact sortS_unique h1 fun z => (h2 z).trans (mem_msort l z)
end Go.Proofs.Ytijplicijmpknaa
