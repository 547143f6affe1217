/- slices.SortFunc at hashes, with sha.Compare: the library's contract in this session's form. -/
import Derived.Test.YtijplicijmpknaaLay
import Derived.Test.YtijplicijmpknaaC1
namespace Go.Proofs.Ytijplicijmpknaa
open Go.RowKit Go.Sort Go.Shelf

instance : Inhabited Hs := ⟨⟨List.replicate 32 0, by simp⟩⟩
theorem Sat.grown {W0 w : World} {A : HP} (s : Sat W0 w A) (os : Array Obj) : Sat W0 (Sort.grow w os) A := by
  obtain ⟨h, hh, a⟩ := s.sub
  refine ⟨s.os, s.tape, s.output, s.drawn, Nat.le_trans s.size (by simp), h, fun k o e => ?_, a⟩
  have h1 := hh k o e
  have hlt := (Array.getElem?_eq_some_iff.1 h1).1
  show (w.heap ++ os)[k]? = _
  rw [Array.getElem?_append_left hlt]; exact h1
theorem Sat.ahead {W0 w : World} {A : HP} (s : Sat W0 w A) (n : Nat) : Sat W0 (Sort.ahead w n) A :=
  ⟨s.os, s.tape, s.output, Nat.le_trans s.drawn (Nat.le_add_right _ _), s.size, s.sub⟩
theorem flatK_get (s : List Hs) (t : Nat) (h : t < s.length * 32) : (flatK hc 32 s.toArray)[t]! = ((s.flatMap hc)[t]?).getD default := by
  have h1 : t / 32 < s.length := by omega
  rw [get_flatK _ _ _ _ (by simpa using h)]
  have e := flat_get hc_len s (t / 32) (t % 32) s[t / 32] (List.getElem?_eq_getElem h1) (by omega)
  have e2 : t / 32 * 32 + t % 32 = t := by omega
  rw [e2] at e
  rw [e]
  have e3 : s.toArray[t / 32]! = s[t / 32] := by
    rw [getElem!_pos s.toArray (t / 32) (by simpa using h1)]; simp
  rw [e3]
  have h2 : t % 32 < (hc s[t / 32]).length := by rw [hc_len]; omega
  rw [getElem!_pos (hc s[t / 32]) (t % 32) h2, List.getElem?_eq_getElem h2]; rfl
theorem put_cells (l s : List Hs) (spare : List Value) (hl : s.length = l.length) : putCells id 0 (flatK hc 32 s.toArray) (l.flatMap hc ++ spare).toArray = (s.flatMap hc ++ spare).toArray := by
  have ll := hs_len l
  have ls := hs_len s
  unfold putCells
  apply Array.ext
  · simp only [ Array.size_mapIdx, List.size_toArray, List.length_append, ll, ls, hl]
  · intro t h1 h2
    have ht : t < (l.flatMap hc ++ spare).length := by simpa using h1
    rw [Array.getElem_mapIdx]
    have hsz : (flatK hc 32 s.toArray).size = s.length * 32 := by simp
    by_cases hb : t < s.length * 32
    · rw [if_pos ⟨Nat.zero_le _, by rw [hsz]; omega⟩, Nat.sub_zero, flatK_get s t hb]
      have h3 : t < (s.flatMap hc).length := by rw [ls]; exact hb
      rw [List.getElem?_eq_getElem h3]
      simp only [List.getElem_toArray]
      rw [List.getElem_append_left h3]; rfl
    · rw [if_neg (by rw [hsz]; omega)]
      simp only [List.getElem_toArray]
      rw [List.getElem_append_right (by omega), List.getElem_append_right (by omega)]
      congr 1
      omega
theorem Sat.putHs {W0 w : World} {R : HP} {g : Nat} {l s : List Hs} {spare : List Value} {E : TypeId} (h : Sat W0 w (Blk g (l.flatMap hc ++ spare) E * R)) (hl : s.length = l.length) : Sat W0 (putRowK hc 32 w g 0 s.toArray) (Blk g (s.flatMap hc ++ spare) E * R) := by
  have hb := h.blk
  refine h.turn (p := g) (fun h a => by rw [show h g = _ from a]; rfl) (.cells (s.flatMap hc ++ spare).toArray E (0, 0)) (fun h a => a) rfl rfl rfl rfl ?_ ?_ ?_
  · show (w.heap.modify g _).size = _; simp
  · show (w.heap.modify g _)[g]? = _
    rw [Array.getElem?_modify, if_pos rfl, hb, ← put_cells l s spare hl]
    rfl
  · intro k hk
    show (w.heap.modify g _)[k]? = _
    rw [Array.getElem?_modify, if_neg (fun e => hk e.symm)]
theorem Sat.holds {W0 w : World} {R : HP} {g : Nat} {l : List Hs} {spare : List Value} {E : TypeId} (h : Sat W0 w (Blk g (l.flatMap hc ++ spare) E * R)) : HoldsK hc 32 w g 0 l.toArray := by
  intro j hj
  have hj' : j < l.length * 32 := by simpa using hj
  refine ⟨?_, ?_⟩
  · rw [Nat.zero_add, h.cell j, flatK_get l j hj']
    have h3 : j < (l.flatMap hc).length := by rw [hs_len]; exact hj'
    rw [List.getElem?_append_left h3, List.getElem?_eq_getElem h3]; rfl
  · rw [Nat.zero_add]; exact h.free j
/-- a contract that leaves all that was there: the world has but grown -/
theorem grown_of {W w' : World} {R : HP} (s : Sat W w' (Old W * R)) : ∃ q os', w' = Sort.grow (Sort.ahead W q) os' := by
  have b := s.below
  refine ⟨w'.drawn - W.drawn, w'.heap.extract W.heap.size w'.heap.size, ?_⟩
  have hh : w'.heap = W.heap ++ w'.heap.extract W.heap.size w'.heap.size := by
    apply Array.ext
    · have := s.size; simp; omega
    · intro i h1 h2
      by_cases hi : i < W.heap.size
      · rw [Array.getElem_append_left hi]
        have e := b.block i hi
        rw [Array.getElem?_eq_getElem h1, Array.getElem?_eq_getElem hi] at e
        exact Option.some.inj e
      · rw [Array.getElem_append_right (by omega), Array.getElem_extract]
        congr 1; omega
  have hd := s.drawn
  cases w'
  cases W
  have h1 := s.os
  have h2 := s.tape
  have h3 := s.output
  simp only at h1 h2 h3 hd hh
  unfold Sort.grow Sort.ahead
  simp only
  subst h1 h2 h3
  congr 1
  omega
theorem cmp_lays (blk size : Nat) (w : World) : CmpLays Try.prog 52 #[] hc 32 cmpH blk 0 size w := fun m os dk _ x y => by
  have := compare_spec (Old (sortWorldK hc 32 w blk 0 m dk os)) x y
  unfold Spec at this
  refine (this _ _ (Sat.begin _)).mono fun e w' ⟨_, he, s⟩ => ⟨he, ?_⟩
  exact grown_of (s.ent (Ent.addEmp _))
theorem cmpH_swo : SWO (ltOf cmpH) where
  irrefl x := by unfold ltOf; rw [cmpH_self]; rfl
  trans x y z h h' := by
    unfold ltOf at *
    rw [decide_eq_true_eq] at *
    exact cmpH_trans h h'
  ntrans x y z h h' := by
    unfold ltOf at *
    rw [decide_eq_false_iff_not] at *
    intro hx
    have e1 := cmpH_neg x y
    have e2 := cmpH_neg y z
    rcases cmpH_range x y with e | e | e
    · omega
    · have := cmpH_eq e; subst this; exact h' hx
    · rcases cmpH_range y z with e' | e' | e'
      · omega
      · have := cmpH_eq e'; subst this; exact h hx
      · have h3 := cmpH_trans (x := z) (y := y) (z := x) (by omega) (by omega)
        have := cmpH_neg x z
        omega
/-- the list that slices.SortFunc leaves -/
def msort (l : List Hs) : List Hs := l.mergeSort fun x y => !(ltOf cmpH) y x
theorem msort_len (l : List Hs) : (msort l).length = l.length := (List.mergeSort_perm l _).length_eq
theorem mem_msort (l : List Hs) (z : Hs) : z ∈ msort l ↔ z ∈ l := (List.mergeSort_perm l _).mem_iff
theorem msort_sorted (l : List Hs) : (msort l).Pairwise fun x y => cmpH x y ≤ 0 := by
  have := List.pairwise_mergeSort (le := fun x y : Hs => !(ltOf cmpH) y x) (fun a b c h h' => by
    simp only [Bool.not_eq_true'] at *
    exact cmpH_swo.ntrans c b a h' h) (fun a b => by
    cases e : ltOf cmpH b a with
    | false => rfl
    | true =>
      have h2 : ltOf cmpH a b = false := by
        cases e2 : ltOf cmpH a b with
        | false => rfl
        | true => have := cmpH_swo.trans a b a e2 e; rw [cmpH_swo.irrefl] at this; cases this
      simp [h2]) l
  refine this.imp fun {a b} h => ?_
  unfold ltOf at h
  simp only [Bool.not_eq_true', decide_eq_false_iff_not] at h
  have := cmpH_neg b a
  omega
theorem isAgg_hash : ∀ w, (isAgg 32).run Try.prog w = .ok true w := Try.isAgg32
theorem sizeOf_hash : ∀ w, (Go.sizeOf 32).run Try.prog w = .ok 32 w := Try.sizeOf32
theorem sortFunc_spec (R : HP) (ad : Option Addr) (cap : Nat) (l : List Hs) (hl : l.length ≤ 140737488351232) :
    Spec Try.prog 84 [.slice ad l.length cap, .func (.func 52) #[] #[]] (Arr 32 32 ad cap l.length (l.flatMap hc) * R) (fun _ : Unit => .tuple #[]) (fun _ => Arr 32 32 ad cap l.length ((msort l).flatMap hc) * R) := by
  unfold Spec
  intro W0 w s
  obtain ⟨hxl, hcs⟩ := s.arr
  rcases hcs with ⟨rfl, rfl, h0⟩ | ⟨g, spare, rfl, h1, h2, h3, s'⟩
  · have hn : l = [] := List.eq_nil_of_length_eq_zero h0
    subst hn
    have := AnyF.slices_SortFunc_none sortHs none 0 (.func (.func 52) #[] #[]) w
    refine this.mono fun e w' ⟨he, hw⟩ => ⟨(), he, ?_⟩
    subst hw
    have e : msort [] = [] := by unfold msort; simp
    show Sat W0 w' (Arr _ 32 none 0 0 ((msort []).flatMap hc) * R)
    rw [e]
    exact s
  · have eg : ∀ args w, (callFunc 52 args).run Try.prog w = .ok (.enter 52 args) w := enters_of Try.func52 (by kernel_rfl) rfl
    have hlt : g < w.heap.size := (Array.getElem?_eq_some_iff.1 s'.blk).1
    have := AnyQ.slices_SortFunc_total sortHs 32 isAgg_hash sizeOf_hash hc hc_len (fun x v hv => bvs_one v hv) cmpH cmpH_swo 52 #[] g 0 cap l.toArray w eg (cmp_lays g l.toArray.size w) s'.holds hlt (by simp; omega) (fun x y h h' => by
      unfold ltOf at h h'
      rw [decide_eq_false_iff_not] at h h'
      have := cmpH_neg x y
      exact cmpH_eq (by omega))
    rw [show l.toArray.size = l.length by simp] at this
    refine this.mono fun e w' ⟨he, n, os, hw⟩ => ⟨(), he, ?_⟩
    subst hw
    have e : (l.toArray.toList.mergeSort fun x y => !(ltOf cmpH) y x).toArray = (msort l).toArray := rfl
    rw [e]
    unfold sortWorldK
    have hml := msort_len l
    refine (((s'.ahead n).putHs (s := msort l) hml).grown os).ent (Ent.mul (arr_mk ?_ h1 h2 ?_) (Ent.refl _))
    · rw [hs_len, hml]
    · rw [hs_len, hml, ← hs_len]; exact h3
end Go.Proofs.Ytijplicijmpknaa
