/- Maps: blocks that are maps, and what the operations on them give. Any program. -/
import Derived.Test.YtijplicijmpknaaHo
import Derived.Test.YtijplicijmpknaaE
import Derived.MapKept
import Derived.WideKeyRuns
namespace Go.Proofs.Ytijplicijmpknaa
open Go.RowKit

/-! ### the pure map: entries in the order in which they came -/
section
variable {κ β : Type} [DecidableEq κ]
def mget : List (κ × β) → κ → Option β
  | [], _ => none
  | (k, v) :: l, key => if key = k then some v else mget l key
def mput : List (κ × β) → κ → β → List (κ × β)
  | [], key, v => [(key, v)]
  | (k, u) :: l, key, v => if key = k then (k, v) :: l else (k, u) :: mput l key v
def mdel : List (κ × β) → κ → List (κ × β)
  | [], _ => []
  | (k, u) :: l, key => if key = k then l else (k, u) :: mdel l key
def mfind : List (κ × β) → κ → Nat → Option (Nat × β)
  | [], _, _ => none
  | (k, v) :: l, key, i => if key = k then some (i, v) else mfind l key (i + 1)
theorem mfind_shift (l : List (κ × β)) (key : κ) : ∀ i, mfind l key i = (mfind l key 0).map fun x => (x.1 + i, x.2) := by
  induction l with
  | nil => intro i; rfl
  | cons a l ih =>
    intro i
    obtain ⟨k, v⟩ := a
    simp only [mfind]
    split
    · simp
    · rw [ih (i + 1), ih (0 + 1), Option.map_map]
      congr 1; funext x; simp; omega
theorem mget_find (l : List (κ × β)) (key : κ) : mget l key = (mfind l key 0).map (·.2) := by
  induction l with
  | nil => rfl
  | cons a l ih =>
    obtain ⟨k, v⟩ := a
    simp only [mget, mfind]
    split
    · rfl
    · rw [mfind_shift, ih, Option.map_map]; rfl
theorem mput_find (l : List (κ × β)) (key : κ) (v : β) : mput l key v = (match mfind l key 0 with | some x => l.modify x.1 (fun y => (y.1, v)) | none => l ++ [(key, v)]) := by
  induction l with
  | nil => rfl
  | cons a l ih =>
    obtain ⟨k, u⟩ := a
    simp only [mput, mfind]
    split
    · rfl
    · rw [mfind_shift, ih]
      cases mfind l key 0 <;> simp
theorem mdel_find (l : List (κ × β)) (key : κ) : mdel l key = (match mfind l key 0 with | some x => l.eraseIdx x.1 | none => l) := by
  induction l with
  | nil => rfl
  | cons a l ih =>
    obtain ⟨k, u⟩ := a
    simp only [mdel, mfind]
    split
    · rfl
    · rw [mfind_shift, ih]
      cases mfind l key 0 <;> simp
theorem mget_none {l : List (κ × β)} {key : κ} : mget l key = none ↔ ∀ x ∈ l, x.1 ≠ key := by
  induction l with
  | nil => simp [mget]
  | cons a l ih =>
    obtain ⟨k, v⟩ := a
    simp only [mget]
    split
    · next h => simp [h]
    · next h => rw [ih]; simp [Ne.symm h]
theorem mfind_none {l : List (κ × β)} {key : κ} : mfind l key 0 = none ↔ ∀ x ∈ l, x.1 ≠ key := by
  rw [← mget_none, mget_find]; simp
theorem mfind_some {l : List (κ × β)} {key : κ} : ∀ {i : Nat} {v : β}, mfind l key 0 = some (i, v) → l[i]? = some (key, v) := by
  induction l with
  | nil => intro i v h; cases h
  | cons a l ih =>
    intro i v h
    obtain ⟨k, u⟩ := a
    simp only [mfind] at h
    split at h
    · next hk => cases h; subst hk; rfl
    · rw [mfind_shift] at h
      obtain ⟨⟨j, x⟩, hj, e⟩ := Option.map_eq_some_iff.1 h
      cases e
      exact ih hj
theorem mput_new {l : List (κ × β)} {key : κ} (h : ∀ x ∈ l, x.1 ≠ key) (v : β) : mput l key v = l ++ [(key, v)] := by
  rw [mput_find, mfind_none.2 h]
theorem mdel_not {l : List (κ × β)} {key : κ} (h : ∀ x ∈ l, x.1 ≠ key) : mdel l key = l := by
  rw [mdel_find, mfind_none.2 h]
theorem mget_mem {l : List (κ × β)} {key : κ} {v : β} (h : mget l key = some v) : (key, v) ∈ l := by
  rw [mget_find] at h
  obtain ⟨⟨i, x⟩, hf, e⟩ := Option.map_eq_some_iff.1 h
  cases e
  exact List.mem_of_getElem? (mfind_some hf)
theorem mget_of_mem {l : List (κ × β)} (hn : (l.map (·.1)).Nodup) {key : κ} {v : β} (h : (key, v) ∈ l) : mget l key = some v := by
  induction l with
  | nil => cases h
  | cons a l ih =>
    obtain ⟨k, u⟩ := a
    simp only [List.map_cons, List.nodup_cons] at hn
    simp only [mget]
    rcases List.mem_cons.1 h with h' | h'
    · cases h'; rw [if_pos rfl]
    · rw [if_neg, ih hn.2 h']
      intro e
      subst e
      exact hn.1 (List.mem_map.2 ⟨(key, v), h', rfl⟩)
theorem mdel_filter {l : List (κ × β)} (hn : (l.map (·.1)).Nodup) (key : κ) : mdel l key = l.filter fun x => !decide (x.1 = key) := by
  induction l with
  | nil => rfl
  | cons a l ih =>
    obtain ⟨k, u⟩ := a
    simp only [List.map_cons, List.nodup_cons] at hn
    simp only [mdel]
    split
    · next h =>
      subst h
      simp only [List.filter_cons, decide_true, Bool.not_true, Bool.false_eq_true, if_false]
      exact (List.filter_eq_self.2 fun x hx => by
        have : x.1 ≠ key := fun e => hn.1 (e ▸ List.mem_map_of_mem (f := (·.1)) hx)
        simp [this]).symm
    · next h => rw [List.filter_cons, if_pos (by simp [Ne.symm h]), ih hn.2]
end

/-! ### blocks that are maps -/
structure EntOf {κ : Type} (enc : κ → Value) (es : Array MapEntry) (ck : Nat) (l : List (κ × Value)) : Prop where
  eq : es.toList.map (fun e => (e.key, e.val)) = l.map fun x => (enc x.1, x.2)
  born : ∀ e ∈ es.toList, e.born < ck
  nb : (es.toList.map (·.born)).Nodup
  nk : (l.map (·.1)).Nodup
def MapK {κ : Type} (enc : κ → Value) (p : Nat) (l : List (κ × Value)) : HP := fun h => ∃ es ck, h p = some (.map es ck) ∧ EntOf enc es ck l
/-- a kind of key -/
class KeyT (P : Program) (kt : TypeId) {κ : Type} [DecidableEq κ] (enc : κ → Value) : Prop where
  check : ∀ (w : World) (em : Bool) (key : κ), (Instr.checkKey em 10000 kt (enc key)).run P w = .ok () w
  find : ∀ (w : World) (key : κ) (es : List MapEntry) (l : List (κ × Value)), es.map (fun e => (e.key, e.val)) = l.map (fun x => (enc x.1, x.2)) → (Instr.findKey kt (enc key) es).run P w = .ok (mfind l key 0) w
  stays : ∀ (w : World) (key : κ), (Instr.keyThatStays (enc key) (enc key)).run P w = .ok (enc key) w
class FMapK (A : HP) (p : Nat) (κ : outParam Type) (enc : outParam (κ → Value)) (l : outParam (List (κ × Value))) (R : outParam HP) : Prop where
  ent : Ent A (MapK enc p l * R)
section
variable {κ : Type} {enc : κ → Value}
instance (priority := 1200) FMapK.here (p : Nat) (l : List (κ × Value)) (B : HP) : FMapK (MapK enc p l * B) p κ enc l B := ⟨Ent.refl _⟩
instance (priority := 1100) FMapK.there (p : Nat) (l : List (κ × Value)) (A : HP) : FMapK (A * MapK enc p l) p κ enc l A := ⟨Ent.comm _ _⟩
instance (priority := 1000) FMapK.left (A R B : HP) (p : Nat) (l : List (κ × Value)) [h : FMapK A p κ enc l R] : FMapK (A * B) p κ enc l (R * B) := ⟨ent_left h.ent⟩
instance (priority := 900) FMapK.right (A R B : HP) (p : Nat) (l : List (κ × Value)) [h : FMapK B p κ enc l R] : FMapK (A * B) p κ enc l (A * R) := ⟨ent_right h.ent⟩
instance (priority := 800) FMapK.all (p : Nat) (l : List (κ × Value)) : FMapK (MapK enc p l) p κ enc l emp := ⟨Ent.addEmp _⟩

theorem Sat.mapK {W0 w : World} {p : Nat} {l : List (κ × Value)} {R : HP} (s : Sat W0 w (MapK enc p l * R)) : ∃ es ck, w.heap[p]? = some (.map es ck) ∧ EntOf enc es ck l := by
  obtain ⟨h, hh, h1, h2, d, u, ⟨es, ck, e, he⟩, b⟩ := s.sub
  exact ⟨es, ck, hh p _ (by rw [u p, e]; simp), he⟩
/-- the map's block is written -/
theorem Sat.mapSet {W0 w : World} {p : Nat} {l l' : List (κ × Value)} {R : HP} (s : Sat W0 w (MapK enc p l * R)) {es : Array MapEntry} {ck : Nat} (he : EntOf enc es ck l') :
    Sat W0 { w with heap := w.heap.setIfInBounds p (.map es ck) } (MapK enc p l' * R) := by
  obtain ⟨es0, ck0, hb, _⟩ := s.mapK
  refine s.turn (p := p) (fun h ⟨_, _, e, _⟩ => by rw [e]; rfl) (.map es ck) (fun h e => ⟨es, ck, e, he⟩) rfl rfl rfl rfl (by simp) (MapKept.heap_set hb).1 (MapKept.heap_set hb).2
theorem Sat.allocO {W0 w : World} {A : HP} (s : Sat W0 w A) (o : Obj) : Sat W0 (w.alloc o) (ObjB w.heap.size o * A) := by
  obtain ⟨h, hh, a⟩ := s.sub
  have hn : h w.heap.size = none := by
    cases e : h w.heap.size with
    | none => rfl
    | some o => have := hh _ _ e; simp at this
  refine ⟨s.os, s.tape, s.output, s.drawn, Nat.le_trans s.size (by simp), fun k => if k = w.heap.size then some o else h k, ?_, fun k => if k = w.heap.size then some o else none, h, ?_, ?_, by simp [ObjB], a⟩
  · intro k o e
    dsimp only at e
    split at e
    · next hk => cases e; rw [hk]; exact heap_alloc_new w _
    · next hk => have := hh k o e; exact (Below.heap_alloc w _ k (Array.getElem?_eq_some_iff.1 this).1).trans this
  · intro k; dsimp only; split
    · next hk => rw [hk]; exact .inr hn
    · exact .inl rfl
  · intro k; dsimp only; split <;> simp

theorem EntOf.none (enc : κ → Value) : EntOf enc #[] 0 [] := ⟨rfl, by simp, by simp, by simp⟩
theorem ent_obj {p : Nat} : Ent (ObjB p (.map #[] 0)) (MapK enc p []) := fun h e => ⟨h, Sub.refl h, #[], 0, e, .none enc⟩
theorem EntOf.push {es : Array MapEntry} {ck : Nat} {l : List (κ × Value)} (h : EntOf enc es ck l) {key : κ} (hk : ∀ x ∈ l, x.1 ≠ key) (v : Value) : EntOf enc (es.push { key := enc key, val := v, born := ck }) (ck + 1) (l ++ [(key, v)]) := by
  refine ⟨by simp [h.eq], fun e he => ?_, ?_, ?_⟩
  · simp only [Array.toList_push, List.mem_append, List.mem_singleton] at he
    rcases he with he | rfl
    · exact Nat.lt_succ_of_lt (h.born e he)
    · exact Nat.lt_succ_self _
  · simp only [Array.toList_push, List.map_append, List.map_cons, List.map_nil]
    refine List.nodup_append.2 ⟨h.nb, by simp, fun a ha b hb => ?_⟩
    obtain ⟨e, he, rfl⟩ := List.mem_map.1 ha
    simp only [List.mem_singleton] at hb
    have := h.born e he
    omega
  · rw [List.map_append]
    refine List.nodup_append.2 ⟨h.nk, by simp, fun a ha b hb => ?_⟩
    obtain ⟨x, hx, rfl⟩ := List.mem_map.1 ha
    simp only [List.map_cons, List.map_nil, List.mem_singleton] at hb
    rw [hb]; exact hk x hx
theorem EntOf.at {es : Array MapEntry} {ck : Nat} {l : List (κ × Value)} (h : EntOf enc es ck l) {i : Nat} {key : κ} {v : Value} (hi : l[i]? = some (key, v)) : ∃ e, es[i]? = some e ∧ e.key = enc key ∧ e.val = v := by
  have h1 : (es.toList.map fun e => (e.key, e.val))[i]? = some (enc key, v) := by rw [h.eq]; simp [hi]
  rw [List.getElem?_map] at h1
  obtain ⟨e, he, h2⟩ := Option.map_eq_some_iff.1 h1
  exact ⟨e, by simpa using he, by simpa using congrArg Prod.fst h2, by simpa using congrArg Prod.snd h2⟩
theorem EntOf.modify {es : Array MapEntry} {ck : Nat} {l : List (κ × Value)} (h : EntOf enc es ck l) {i : Nat} {key : κ} {u : Value} (hi : l[i]? = some (key, u)) (v : Value) :
    EntOf enc (es.modify i fun e => { e with key := enc key, val := v }) ck (l.modify i fun y => (y.1, v)) := by
  have hb : ∀ l' : List MapEntry, (l'.modify i fun e => { e with key := enc key, val := v }).map (·.born) = l'.map (·.born) := fun l' => by
    apply List.ext_getElem?
    intro j
    simp only [List.getElem?_map, List.getElem?_modify]
    cases l'[j]? <;> simp
    split <;> rfl
  have hk : (l.modify i fun y => (y.1, v)).map (·.1) = l.map (·.1) := by
    apply List.ext_getElem?
    intro j
    simp only [List.getElem?_map, List.getElem?_modify]
    cases l[j]? <;> simp
    split <;> rfl
  refine ⟨?_, fun e he => ?_, ?_, by rw [hk]; exact h.nk⟩
  · rw [Array.toList_modify]
    apply List.ext_getElem?
    intro j
    have hj : (es.toList[j]?).map (fun e => (e.key, e.val)) = (l[j]?).map fun x => (enc x.1, x.2) := by
      have := congrArg (fun t : List (Value × Value) => t[j]?) h.eq
      simpa only [List.getElem?_map] using this
    simp only [List.getElem?_map, List.getElem?_modify]
    by_cases hij : i = j
    · subst hij
      rw [hi] at hj ⊢
      obtain ⟨e, he, _⟩ := Option.map_eq_some_iff.1 hj
      rw [he]; simp
    · simp only [hij, if_false, id_map', Option.map_id_fun', id_eq]
      simpa using hj
  · rw [Array.toList_modify] at he
    have : e.born ∈ (es.toList.modify i fun e => { e with key := enc key, val := v }).map (·.born) := List.mem_map_of_mem he
    rw [hb] at this
    obtain ⟨e', he', e2⟩ := List.mem_map.1 this
    rw [← e2]; exact h.born e' he'
  · rw [Array.toList_modify, hb]; exact h.nb
theorem EntOf.erase {es : Array MapEntry} {ck : Nat} {l : List (κ × Value)} (h : EntOf enc es ck l) (i : Nat) : EntOf enc (es.eraseIdxIfInBounds i) ck (l.eraseIdx i) := by
  have e : (es.eraseIdxIfInBounds i).toList = es.toList.eraseIdx i := by
    unfold Array.eraseIdxIfInBounds
    split
    · simp
    · next hn => rw [List.eraseIdx_of_length_le (by simpa using hn)]
  have hm : ∀ {γ δ : Type} (f : γ → δ) (t : List γ), (t.eraseIdx i).map f = (t.map f).eraseIdx i := fun f t => by
    simp [List.eraseIdx_eq_take_drop_succ]
  refine ⟨by rw [e, hm, hm, h.eq], fun x hx => h.born x (List.mem_of_mem_eraseIdx (e ▸ hx)), ?_, ?_⟩
  · rw [e, hm]; exact h.nb.sublist (List.eraseIdx_sublist _ _)
  · rw [hm]; exact h.nk.sublist (List.eraseIdx_sublist _ _)
theorem EntOf.size {es : Array MapEntry} {ck : Nat} {l : List (κ × Value)} (h : EntOf enc es ck l) : es.size = l.length := by
  have := congrArg List.length h.eq
  simpa using this
end

/-! ### hashes as keys -/
abbrev hkey (h : Hs) : Value := .agg (hc h).toArray
theorem sameBits_bvs : ∀ xs : List UInt8, ((xs.map bv).zip (xs.map bv)).all (fun (x, y) => Instr.sameBits 9999 x y) = true
  | [] => rfl
  | x :: xs => by simp only [List.map_cons, List.zip_cons_cons, List.all_cons, sameBits_bvs xs, Bool.and_true]; simp [bv, Instr.sameBits]
theorem keyT_hash {P : Program} {kt e bytes : Nat} {z : Value} [ht : TyU P kt (.array 32 e)] [he : TyU P e (.int .u8)] [hi : TyI P e 1 bytes z] : KeyT P kt hkey where
  check := fun w em key => by
    have hl := hc_len key
    have step : ∀ j, j < 32 → ∃ v : UInt8, (part e (hc key).toArray (j * 1)).run P w = .ok (bv v) w := fun j hj => by
      refine ⟨(key.1)[j]'(by rw [key.2]; exact hj), ?_⟩
      have hu := he.eq
      have h1 : (isAgg e).run P w = .ok false w := by simp [isAgg, run_underlying hu]
      have h2 : (hc key)[j]? = some (bv ((key.1)[j]'(by rw [key.2]; exact hj))) := by
        rw [List.getElem?_map, List.getElem?_eq_getElem (by rw [key.2]; exact hj)]; rfl
      simp [part, h1, h2, -List.getElem?_map]
    have gen : ∀ m, (Instr.checkKey em (m + 1 + 1) kt (.agg (hc key).toArray)).run P w = .ok () w := fun m => by
     rw [Instr.checkKey]
     simp only [Sem.run_bind, run_underlying ht.eq, Result.andThen_ok]
     simp only [Std.Legacy.Range.forIn_eq_forIn_range', Std.Legacy.Range.size, Nat.sub_zero, Nat.add_one_sub_one, Nat.div_one]
     have each : ∀ j ∈ List.range' 0 32, j < 32 := fun j hj => by simpa using (List.mem_range'.1 hj)
     generalize List.range' 0 32 = is at each
     induction is with
     | nil => simp
     | cons j is ih =>
       obtain ⟨v, hv⟩ := step j (each j (by simp))
       have p2 : (Instr.checkKey em (m + 1) e (bv v)).run P w = .ok () w := by
         simp [Instr.checkKey, run_underlying he.eq, bv]
       rw [List.forIn_cons]
       simp only [Sem.run_bind, sizeOf_one hi, Result.andThen_ok, hv, p2, Sem.run_pure]
       exact ih (fun y hy => each y (by simp [hy]))
    exact gen 9998
  find := fun w key es l h => by
    have eqk : ∀ a b : Hs, (Op.equal kt (hkey a) (hkey b)).run P w = .ok (decide (a = b)) w := fun a b => by
      have h1 := run_equalIn_bytes (P := P) w 9998 kt e 32 ht.eq he.eq (sizeOf_one hi) a.1 b.1 a.2 b.2
      have : (Op.equal kt (hkey a) (hkey b)).run P w = .ok (a.1 == b.1) w := h1
      rw [this, dec_beq]
      congr 1
      exact decide_eq_decide.2 ⟨hc_inj, congrArg _⟩
    rw [run_findKey_eq w (by rw [ht.eq])]
    have gen : ∀ (es : List MapEntry) (l : List (Hs × Value)) (i : Nat), es.map (fun e => (e.key, e.val)) = l.map (fun x => (hkey x.1, x.2)) → (Instr.findAsking kt (hkey key) es i).run P w = .ok (mfind l key i) w := by
      intro es
      induction es with
      | nil =>
        intro l i h
        cases l with
        | nil => simp [Instr.findAsking, mfind]
        | cons a l => simp at h
      | cons x es ih =>
        intro l i h
        cases l with
        | nil => simp at h
        | cons a l =>
          obtain ⟨k, v⟩ := a
          simp only [List.map_cons, List.cons.injEq, Prod.mk.injEq] at h
          obtain ⟨⟨hk, hv⟩, ht⟩ := h
          simp only [Instr.findAsking, mfind, Sem.run_bind, hk, eqk, Result.andThen_ok]
          by_cases hkk : key = k
          · simp [hkk, hv]
          · simp only [hkk, decide_false, Bool.false_eq_true, if_false]
            exact ih l (i + 1) ht
    exact gen es l 0 h
  stays := fun w key => by
    have : Instr.sameBits 10000 (hkey key) (hkey key) = true := by
      show ((hc key).toArray.size == (hc key).toArray.size && ((hc key).toArray.toList.zip (hc key).toArray.toList).all fun (x, y) => Instr.sameBits 9999 x y) = true
      rw [List.toList_toArray, sameBits_bvs]; simp
    simp [Instr.keyThatStays, this]
/-! ### numbers as keys -/
abbrev ikey (i : Int) : Value := .int .i64 i
theorem keyT_int {P : Program} {kt : Nat} [ht : TyU P kt (.int .i64)] : KeyT P kt ikey where
  check := fun w em key => MapKept.run_checkKey ht.eq (k := ikey key) (by simp [MapKept.IsKey]) em 9999
  find := fun w key es l h => by
    have gen : ∀ (es : List MapEntry) (l : List (Int × Value)) (i : Nat), es.map (fun e => (e.key, e.val)) = l.map (fun x => (ikey x.1, x.2)) → Instr.findNow (.int .i64) (ikey key) es i = some (mfind l key i) := by
      intro es
      induction es with
      | nil =>
        intro l i h
        cases l with
        | nil => rfl
        | cons a l => simp at h
      | cons x es ih =>
        intro l i h
        cases l with
        | nil => simp at h
        | cons a l =>
          obtain ⟨k, v⟩ := a
          simp only [List.map_cons, List.cons.injEq, Prod.mk.injEq] at h
          obtain ⟨⟨hk, hv⟩, ht⟩ := h
          simp only [Instr.findNow, mfind, hk, Instr.sameNow, if_true]
          by_cases hkk : key = k
          · simp [hkk, hv]
          · have : (key == k) = false := by simp [hkk]
            simp only [this, hkk, if_false]
            exact ih l (i + 1) ht
    exact MapKept.run_findKey ht.eq (gen es l 0 h)
  stays := fun w key => MapKept.run_keyThatStays (d := .int .i64) (by simp [MapKept.IsKey])

/-! ### operations -/
section
variable {P : Program} {ops : Array Oper} {Q : Exit → Act → World → Prop} {n : Nat} {D : List Deferred} {W0 : World} {rest : List Oper} {ρ : Env} {A B R : HP}
variable {K : Env → HP → Prop} {d : Nat} {dst : Option Tmp} {ty : TypeId} {pos : String} {aft : Array Edge} {gd : Option (Nat × Bool)}
variable {κ : Type} {enc : κ → Value}
theorem g_lenMap {x : Operand} {T kt et p : Nat} {l : List (κ × Value)} (hx : ev ρ x = .map (some p)) [hf : FMapK A p κ enc l R] [ht : TyU P T (.map kt et)] :
    Gives P ⟨dst, .call { callee := .builtin .len, args := #[x], argTypes := #[T] }, ty, pos, aft, gd⟩ ρ A (.int .i64 l.length) := fun W0 w s => by
  obtain ⟨es, ck, hb, h⟩ := (s.ent hf.ent).mapK
  have : (Builtin.len_ #[T] ty #[.map (some p)]).run P w = .ok (.int .i64 l.length) w := by
    simp [Builtin.len_, run_underlying ht.eq, MapKept.run_getObj_map hb, h.size, goInt]
  simp [execOp, resolve, invoke, builtin, hx, this]
theorem o_mkmap {T : Nat} (hd : Nat.blt d n = true) (enc : κ → Value) (h : ∀ b, K (upd ρ d (.map (some b))) (MapK enc b [] * A)) : OT P Q n D W0 ⟨some d, .makeMap T none, ty, pos, aft, gd⟩ ρ A K :=
  o_run rfl hd fun w s => by
    refine ⟨_, _, w.alloc (.map #[] 0), ?_, (s.allocO (.map #[] 0)).ent (Ent.mul ent_obj (Ent.refl _)), h w.heap.size⟩
    rfl
variable [DecidableEq κ]
theorem spec_exL {α ι : Type} {f : FuncId} {args : List Value} {F : α → HP} {ret : ι → Value} {B : ι → HP} (h : ∀ x, Spec P f args (F x * R) ret B) : Spec P f args (ex F * R) ret B := fun W0 w st => by
  obtain ⟨x, s1⟩ := st.ex
  exact h x W0 w s1
theorem spec_prL {p : Prop} {ι : Type} {f : FuncId} {args : List Value} {ret : ι → Value} {B : ι → HP} (h : p → Spec P f args A ret B) : Spec P f args (pr p * A) ret B := fun W0 w st => by
  obtain ⟨hp, s1⟩ := st.pr
  exact h hp W0 w s1
/-- a map's keys are all unlike -/
theorem ct_nodup {c : Code} (p : Nat) {κ : Type} {enc : κ → Value} {l : List (κ × Value)} [hf : FMapK A p κ enc l R] (h : (l.map (·.1)).Nodup → CT P c Q n D W0 ρ A) : CT P c Q n D W0 ρ A := fun a w ha st => by
  obtain ⟨es, ck, _, he⟩ := (st.ent hf.ent).mapK
  exact h he.nk a w ha st
theorem o_runM {o : Oper} (ho : o.dst = none)
    (h : ∀ w, Sat W0 w A → ∃ v B w', (execOp (ev ρ) o).run P w = .ok (.value v) w' ∧ Sat W0 w' B ∧ K ρ B) : OT P Q n D W0 o ρ A K := fun a w ha s K' hK => by
  unfold Oper.wp
  obtain ⟨v, B, w', hr, s', hk⟩ := h w s
  rw [ha.eval, hr, Oper.upon_value, ho]
  exact hK _ _ _ w' hk ha s'
theorem run_lookup {T kt et size bytes p : Nat} {z : Value} {key : κ} {l : List (κ × Value)} {w : World} (ok : Bool) [ht : TyU P T (.map kt et)] [hk : KeyT P kt enc] [he : TyI P et size bytes z] (s : Sat W0 w (MapK enc p l * R)) :
    (Instr.lookup T (.map (some p)) (enc key) ok).run P w = .ok (if ok then .tuple #[(mget l key).getD z, .bool (mget l key).isSome] else (mget l key).getD z) w := by
  obtain ⟨es, ck, hb, h⟩ := s.mapK
  obtain ⟨i, hi, hz, _⟩ := tyI_parts he
  have hf := hk.find w key es.toList l h.eq
  have hzv : (zeroValue et).run P w = .ok z w := by simp [zeroValue, typeInfo, hi, hz]
  simp only [Instr.lookup, Sem.run_bind, run_underlying ht.eq, Result.andThen_ok, MapKept.run_getObj_map hb, Sem.run_pure, hk.check, hf, mget_find]
  cases hm : mfind l key 0 with
  | none => cases ok <;> simp [hzv]
  | some x => cases ok <;> simp
theorem g_look {x k : Operand} {T kt et size bytes p : Nat} {z v : Value} {key : κ} {l : List (κ × Value)} (hx : ev ρ x = .map (some p)) [hf : FMapK A p κ enc l R] [ht : TyU P T (.map kt et)] [hkt : KeyT P kt enc] [he : TyI P et size bytes z] (hk : ev ρ k = enc key) (hv : (mget l key).getD z = v) :
    Gives P ⟨dst, .lookup T x k false, ty, pos, aft, gd⟩ ρ A v := fun W0 w s => by
  have := run_lookup (P := P) (T := T) (key := key) false (s.ent hf.ent)
  simp only [execOp, hx, hk, Sem.run_bind, this, Result.andThen_ok, Bool.false_eq_true, if_false, Sem.run_pure, hv]
theorem g_lookOk {x k : Operand} {T kt et size bytes p : Nat} {z : Value} {key : κ} {l : List (κ × Value)} (hx : ev ρ x = .map (some p)) [hf : FMapK A p κ enc l R] [ht : TyU P T (.map kt et)] [hkt : KeyT P kt enc] [he : TyI P et size bytes z] (hk : ev ρ k = enc key) :
    Gives P ⟨dst, .lookup T x k true, ty, pos, aft, gd⟩ ρ A (.tuple #[(mget l key).getD z, .bool (mget l key).isSome]) := fun W0 w s => by
  have := run_lookup (P := P) (T := T) (key := key) true (s.ent hf.ent)
  simp only [execOp, hx, hk, Sem.run_bind, this, Result.andThen_ok, if_true, Sem.run_pure]
theorem o_mapset {x k y : Operand} {T kt et p : Nat} {key : κ} {v : Value} {l l' : List (κ × Value)} (hx : ev ρ x = .map (some p)) [hf : FMapK A p κ enc l R] [ht : TyU P T (.map kt et)] [hkt : KeyT P kt enc] (hk : ev ρ k = enc key) (hy : ev ρ y = v) (hl : mput l key v = l')
    (h : K ρ (MapK enc p l' * R)) : OT P Q n D W0 ⟨none, .mapUpdate T x k y, ty, pos, aft, gd⟩ ρ A K :=
  o_do rfl (fun w s => by
    have s' := s.ent hf.ent
    obtain ⟨es, ck, hb, he0⟩ := s'.mapK
    have hfi := hkt.find w key es.toList l he0.eq
    subst hl
    cases hm : mfind l key 0 with
    | none =>
      refine ⟨_, ?_, s'.mapSet (l' := mput l key v) (by rw [mput_find, hm]; exact he0.push (mfind_none.1 hm) v)⟩
      simp only [execOp, hx, hk, hy, Instr.mapUpdate, Sem.run_bind, run_underlying ht.eq, Result.andThen_ok, MapKept.run_getObj_map hb, hkt.check, hfi, hm, MapKept.run_setObj_map _ hb, Sem.run_pure]
    | some a =>
      obtain ⟨i, u⟩ := a
      have hat := mfind_some hm
      obtain ⟨e, he, hek, hev⟩ := he0.at hat
      refine ⟨_, ?_, s'.mapSet (l' := mput l key v) (by rw [mput_find, hm]; exact he0.modify hat v)⟩
      simp only [execOp, hx, hk, hy, Instr.mapUpdate, Sem.run_bind, run_underlying ht.eq, Result.andThen_ok, MapKept.run_getObj_map hb, hkt.check, hfi, hm, he, Option.map_some, Option.getD_some, hek, hkt.stays, MapKept.run_setObj_map _ hb, Sem.run_pure]) h
theorem o_mapdel {x k : Operand} {T kt et p kt' : Nat} {key : κ} {l l' : List (κ × Value)} (hx : ev ρ x = .map (some p)) [hf : FMapK A p κ enc l R] [ht : TyU P T (.map kt et)] [hkt : KeyT P kt enc] (hk : ev ρ k = enc key) (hl : mdel l key = l')
    (h : K ρ (MapK enc p l' * R)) : OT P Q n D W0 ⟨none, .call { callee := .builtin .delete, args := #[x, k], argTypes := #[T, kt'] }, ty, pos, aft, gd⟩ ρ A K :=
  o_runM rfl (fun w s => by
    have s' := s.ent hf.ent
    obtain ⟨es, ck, hb, he⟩ := s'.mapK
    have hfi := hkt.find w key es.toList l he.eq
    subst hl
    cases hm : mfind l key 0 with
    | none =>
      refine ⟨.tuple #[], _, _, ?_, s'.mapSet (l' := mdel l key) (by rw [mdel_find, hm]; exact he), h⟩
      have : (Builtin.delete_ #[T, kt'] ty #[.map (some p), enc key]).run P w = .ok (.tuple #[]) { w with heap := w.heap.setIfInBounds p (.map es ck) } := by
        simp [Builtin.delete_, run_underlying ht.eq, MapKept.run_getObj_map hb, hkt.check, hfi, hm, MapKept.run_setObj_map _ hb]
      simp [execOp, resolve, invoke, builtin, hx, hk, this]
    | some a =>
      obtain ⟨i, u⟩ := a
      refine ⟨.tuple #[], _, _, ?_, s'.mapSet (l' := mdel l key) (by rw [mdel_find, hm]; exact he.erase i), h⟩
      have : (Builtin.delete_ #[T, kt'] ty #[.map (some p), enc key]).run P w = .ok (.tuple #[]) { w with heap := w.heap.setIfInBounds p (.map (es.eraseIdxIfInBounds i) ck) } := by
        simp [Builtin.delete_, run_underlying ht.eq, MapKept.run_getObj_map hb, hkt.check, hfi, hm, MapKept.run_setObj_map _ hb]
      simp [execOp, resolve, invoke, builtin, hx, hk, this])
end
end Go.Proofs.Ytijplicijmpknaa
