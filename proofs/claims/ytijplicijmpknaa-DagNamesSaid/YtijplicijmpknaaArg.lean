/- What a row's arguments are in memory, whatever their types. Any program. -/
import Derived.Test.YtijplicijmpknaaRow
import Derived.Test.YtijplicijmpknaaW
import Derived.Deep.Slices
namespace Go.Proofs.Ytijplicijmpknaa
open Go.ChangeShapes Go.WideShapes Go.ChangeAt Go.RowKit Go.Deep

/-- what cells of a type are, and what they lead to: read, never written -/
def ArgOk (P : Program) (W : World) : Nat → TypeId → List Value → Prop
  | 0, _, _ => True
  | d + 1, t, cs => match P.underlying t with
    | some .bool => ∃ b, cs = [.bool b]
    | some (.int k) => ∃ n, cs = [.int k n] ∧ (Lit.int k n).wf = true
    | some .string => ∃ s, cs = [.string s] ∧ s.size ≤ 140737488351232
    | some (.slice e) => ∃ (a : Option Addr) (len cap : Nat) (es : List (List Value)), cs = [.slice a len cap] ∧ len ≤ cap ∧ es.length = cap ∧ cap * P.bytesOf e ≤ 140737488351232 ∧ (a = none → cap = 0) ∧
        (∀ g, a = some g → Reads (Old W) g es.flatten) ∧ ∀ x ∈ es, x.length = P.cellsOf e ∧ ArgOk P W d e x
    | some (.struct fs) => cs.length = P.cellsOf t ∧ ∀ f ∈ fs.toList, ArgOk P W d f.type ((cs.drop f.offset).take (P.cellsOf f.type))
    | some (.array n e) => cs.length = P.cellsOf t ∧ ∀ i, i < n → ArgOk P W d e ((cs.drop (i * P.cellsOf e)).take (P.cellsOf e))
    | _ => True

section
variable {H : Type} {enc : TypeId × Value → H} {P : Program} {W : World}
theorem weights_mem_all {e : TypeId} : ∀ {l : List (DataW H)} {d : DataW H}, d ∈ l → ∀ n ∈ d.weights P e, n ∈ DataW.weightsAll P e l
  | [], d, h, _, _ => by cases h
  | x :: l, d, h, n, hn => by
    simp only [DataW.weightsAll, List.mem_append]
    rcases List.mem_cons.1 h with rfl | h
    · exact .inl hn
    · exact .inr (weights_mem_all h n hn)
theorem argOk {d : Nat} : ∀ (fuel : Nat) (t : TypeId) (cs : List Value) (x : DataW H × List MemPlace), DataW.trod enc P W 0 (fun _ => true) true fuel t cs = some x → (∀ n ∈ x.1.weights P t, n ≤ reachBytes) → ArgOk P W d t cs := by
  induction d with
  | zero => intro _ _ _ _ _ _; trivial
  | succ d ih =>
    intro fuel t cs x h hw
    have hrb : reachBytes = 140737488351232 := by decide
    cases fuel with
    | zero => simp [DataW.trod] at h
    | succ fuel =>
    unfold ArgOk
    cases ht : P.underlying t with
    | none => trivial
    | some dd =>
    cases dd with
    | bool =>
      obtain ⟨b, rfl, _⟩ := DataW.trod_bool ht h
      exact ⟨b, rfl⟩
    | int k =>
      obtain ⟨n, rfl, _, hw⟩ := DataW.trod_int ht h
      exact ⟨n, rfl, hw⟩
    | string =>
      obtain ⟨s, rfl, rfl, _⟩ := DataW.trod_string ht h
      refine ⟨s, rfl, ?_⟩
      have := hw s.data.toList.length (by simp [DataW.weights])
      rw [hrb] at this
      simpa using this
    | slice e =>
      rcases open_slice ht h with ⟨rfl, _⟩ | ⟨a, len, cap, m, n, D, Pl, rfl, _, hl, hm, hmm, rfl, hx⟩
      · exact ⟨none, 0, 0, [], rfl, Nat.le_refl _, rfl, by simp, fun _ => rfl, fun g hg => (by cases hg), fun x hx => (by cases hx)⟩
      · simp only [if_true] at hmm
        subst hmm
        have hwt := hw ((len + (m - len)) * P.bytesOf e) (by simp [DataW.weights, ht])
        rw [show len + (m - len) = m by omega, hrb] at hwt
        obtain ⟨V, hV⟩ := choose_lt (α := List Value) (p := fun i cs' => W.cells? 0 (a.add (i * P.cellsOf e)) (P.cellsOf e) = some cs' ∧ DataW.trod enc P W 0 (fun _ => true) true n e cs' = some (D i, Pl i)) hx
        refine ⟨some a, len, m, (List.range m).map V, rfl, hl, by simp, hwt, fun h => (by cases h), fun g hg => ?_, fun x hx' => ?_⟩
        · cases hg
          refine reads_old (W := W) (R := emp) fun j v hv => ?_
          have hlen : ∀ x ∈ (List.range m).map V, x.length = P.cellsOf e := fun x hx => by
            obtain ⟨i, hi, rfl⟩ := List.mem_map.1 hx
            exact (World.cells?_some (hV i (List.mem_range.1 hi)).1).2.1
          have hj : j < m * P.cellsOf e := by
            have h1 := (List.getElem?_eq_some_iff.1 hv).1
            have : ((List.range m).map V).flatten.length = m * P.cellsOf e := by
              have key : ∀ l : List (List Value), (∀ x ∈ l, x.length = P.cellsOf e) → l.flatten.length = l.length * P.cellsOf e := by
                intro l
                induction l with
                | nil => intro _; simp
                | cons y l ih => intro hy; rw [List.flatten_cons, List.length_append, ih (fun x hx => hy x (List.mem_cons_of_mem _ hx)), hy y (List.mem_cons_self ..), List.length_cons, Nat.add_mul]; omega
              rw [key _ hlen]; simp
            omega
          have hc0 : 0 < P.cellsOf e := by
            rcases Nat.eq_zero_or_pos (P.cellsOf e) with h | h
            · rw [h] at hj; simp at hj
            · exact h
          have hi : j / P.cellsOf e < m := Nat.div_lt_of_lt_mul (by rwa [Nat.mul_comm] at hj)
          have hr : j % P.cellsOf e < P.cellsOf e := Nat.mod_lt _ hc0
          have hje : j / P.cellsOf e * P.cellsOf e + j % P.cellsOf e = j := by rw [Nat.mul_comm]; exact Nat.div_add_mod _ _
          obtain ⟨_, _, hcell⟩ := World.cells?_some (hV _ hi).1
          have h2 := hcell _ hr
          rw [add_add, hje] at h2
          rw [h2, ← hv]
          have key : ∀ (l : List (List Value)) (i : Nat) (y : List Value), (∀ x ∈ l, x.length = P.cellsOf e) → l[i]? = some y → ∀ k, k < P.cellsOf e → l.flatten[i * P.cellsOf e + k]? = y[k]? := by
            intro l
            induction l with
            | nil => intro i y _ h; simp at h
            | cons z l ih =>
              intro i y hl hy k hk
              have hz := hl z (List.mem_cons_self ..)
              cases i with
              | zero => simp at hy; subst hy; rw [List.flatten_cons, Nat.zero_mul, Nat.zero_add, List.getElem?_append_left (by omega)]
              | succ i =>
                rw [List.flatten_cons, List.getElem?_append_right (by rw [hz, Nat.add_mul]; omega), hz, show (i + 1) * P.cellsOf e + k - P.cellsOf e = i * P.cellsOf e + k by rw [Nat.add_mul]; omega]
                exact ih i y (fun x hx => hl x (List.mem_cons_of_mem _ hx)) (by simpa using hy) k hk
          have := key _ (j / P.cellsOf e) (V (j / P.cellsOf e)) hlen (by simp [hi]) _ hr
          rw [hje] at this
          exact this.symm
        · obtain ⟨i, hi, rfl⟩ := List.mem_map.1 hx'
          obtain ⟨h1, h2⟩ := hV i (List.mem_range.1 hi)
          refine ⟨(World.cells?_some h1).2.1, ih n e _ _ h2 fun k hk => hw k ?_⟩
          have hi' := List.mem_range.1 hi
          simp only [DataW.weights, ht, List.mem_cons, List.mem_append]
          right
          by_cases hil : i < len
          · exact .inl (weights_mem_all (List.mem_map.2 ⟨i, List.mem_range.2 hil, rfl⟩) k hk)
          · exact .inr (weights_mem_all (List.mem_map.2 ⟨i - len, List.mem_range.2 (by omega), by rw [show len + (i - len) = i by omega]⟩) k hk)
    | struct fs =>
      obtain ⟨xs, n, _, rfl, hl, hxl, hx⟩ := DataW.trod_struct ht h
      refine ⟨hl, fun f hf => ?_⟩
      obtain ⟨i, hi⟩ := List.getElem?_of_mem hf
      have h2 := hx i f (by simpa using hi)
      have hlt : i < xs.length := by
        have := (List.getElem?_eq_some_iff.1 hi).1
        simp at this; omega
      rw [List.getElem?_eq_getElem hlt] at h2
      refine ih n _ _ _ h2 fun k hk => hw k ?_
      simp only [DataW.weights, ht]
      exact DataW.weights_mem_each (j := i) (t := f.type) (d := xs[i].1) (by rw [List.getElem?_map, hi]; rfl) (by rw [List.getElem?_map, List.getElem?_eq_getElem hlt]; rfl) k hk
    | array n e =>
      obtain ⟨xs, m, _, rfl, hl, hxl, hx⟩ := DataW.trod_array ht h
      refine ⟨hl, fun i hi => ?_⟩
      have h2 := hx i hi
      rw [List.getElem?_eq_getElem (by omega)] at h2
      refine ih m _ _ _ h2 fun k hk => hw k ?_
      simp only [DataW.weights, ht]
      exact weights_mem_all (List.mem_map.2 ⟨xs[i], List.getElem_mem _, rfl⟩) k hk
    | _ => trivial
theorem argOk_array {d : Nat} {t e : TypeId} {n : Nat} {cs : List Value} (ht : P.underlying t = some (.array n e)) (h : ArgOk P W (d + 1) t cs) : cs.length = P.cellsOf t ∧ ∀ i, i < n → ArgOk P W d e ((cs.drop (i * P.cellsOf e)).take (P.cellsOf e)) := by
  unfold ArgOk at h; rw [ht] at h; exact h
theorem argOk_struct {d : Nat} {t : TypeId} {fs : Array Field} {cs : List Value} (ht : P.underlying t = some (.struct fs)) (h : ArgOk P W (d + 1) t cs) : cs.length = P.cellsOf t ∧ ∀ f ∈ fs.toList, ArgOk P W d f.type ((cs.drop f.offset).take (P.cellsOf f.type)) := by
  unfold ArgOk at h; rw [ht] at h; exact h
theorem argOk_int {d : Nat} {t : TypeId} {k : IntKind} {cs : List Value} (ht : P.underlying t = some (.int k)) (h : ArgOk P W (d + 1) t cs) : ∃ n, cs = [.int k n] ∧ (Lit.int k n).wf = true := by
  unfold ArgOk at h; rw [ht] at h; exact h
theorem argOk_bool {d : Nat} {t : TypeId} {cs : List Value} (ht : P.underlying t = some .bool) (h : ArgOk P W (d + 1) t cs) : ∃ b, cs = [.bool b] := by
  unfold ArgOk at h; rw [ht] at h; exact h
theorem argOk_string {d : Nat} {t : TypeId} {cs : List Value} (ht : P.underlying t = some .string) (h : ArgOk P W (d + 1) t cs) : ∃ s, cs = [.string s] ∧ s.size ≤ 140737488351232 := by
  unfold ArgOk at h; rw [ht] at h; exact h
theorem list_of {α : Type} {f : α → List Value} {q : α → Prop} : ∀ (es : List (List Value)), (∀ x ∈ es, ∃ o, x = f o ∧ q o) → ∃ l : List α, es = l.map f ∧ ∀ o ∈ l, q o
  | [], _ => ⟨[], rfl, fun o h => by cases h⟩
  | x :: es, h => by
    obtain ⟨o, rfl, ho⟩ := h x (List.mem_cons_self ..)
    obtain ⟨l, rfl, hl⟩ := list_of es fun y hy => h y (List.mem_cons_of_mem _ hy)
    exact ⟨o :: l, rfl, fun p hp => (List.mem_cons.1 hp).elim (fun e => e ▸ ho) (hl p)⟩
theorem flat_take {α : Type} {f : α → List Value} {size : Nat} (hf : ∀ x, (f x).length = size) : ∀ (l : List α) (n : Nat), (l.take n).flatMap f = (l.flatMap f).take (n * size)
  | [], n => by simp
  | x :: l, 0 => by simp
  | x :: l, n + 1 => by
    have e : (n + 1) * size - size = n * size := by rw [Nat.add_mul]; omega
    rw [List.take_succ_cons, List.flatMap_cons, List.flatMap_cons, List.take_append, hf, flat_take hf l n, e, List.take_of_length_le (l := f x) (by rw [hf, Nat.add_mul]; omega)]
theorem flatMap_one {α : Type} (g : α → Value) : ∀ l : List α, l.flatMap (fun b => [g b]) = l.map g
  | [] => rfl
  | x :: l => by rw [List.flatMap_cons, flatMap_one g l]; rfl
/-- an argument that is a slice: its elements, read one by one -/
theorem argOk_slice {α : Type} (f : α → List Value) (q : α → Prop) {size d : Nat} {t e : TypeId} {v : Value} (ht : P.underlying t = some (.slice e)) (hsz : P.cellsOf e = size) (hf : ∀ x, (f x).length = size) (he : ∀ x : List Value, x.length = size → ArgOk P W d e x → ∃ o, x = f o ∧ q o) (h : ArgOk P W (d + 1) t [v]) :
    ∃ (a : Option Addr) (c : Nat) (l : List α), v = .slice a l.length c ∧ Rd (Old W) a (l.flatMap f) ∧ l.length ≤ c ∧ c * P.bytesOf e ≤ 140737488351232 ∧ ∀ o ∈ l, q o := by
  unfold ArgOk at h; rw [ht] at h
  obtain ⟨a, len, cap, es, hv, hl, hes, hb, hn, hr, hx⟩ := h
  obtain ⟨l, rfl, hq⟩ := list_of (f := f) (q := q) es fun x hx' => he x (by rw [(hx x hx').1, hsz]) (hx x hx').2
  rw [List.length_map] at hes
  have hlen : (l.take len).length = len := by rw [List.length_take]; omega
  refine ⟨a, cap, l.take len, ?_, ?_, by omega, hb, fun o ho => hq o (List.mem_of_mem_take ho)⟩
  · rw [hlen]; simpa using hv
  · have e1 : (l.map f).flatten = l.flatMap f := by rw [List.flatMap_def]
    rw [e1] at hr
    refine ⟨fun _ _ _ h => ?_, fun g hg => ?_⟩
    · have := hn h
      have : l = [] := List.eq_nil_of_length_eq_zero (by omega)
      subst this; simp
    · rw [flat_take hf]
      exact (hr g hg).take _
theorem argOk_bytes {d : Nat} {t e : TypeId} {v : Value} (ht : P.underlying t = some (.slice e)) (he : P.underlying e = some (.int .u8)) (hc : P.cellsOf e = 1) (hb : P.bytesOf e = 1) (h : ArgOk P W (d + 2) t [v]) :
    ∃ (a : Option Addr) (c : Nat) (l : List UInt8), v = .slice a l.length c ∧ Rd (Old W) a (l.map bv) ∧ l.length ≤ c ∧ c ≤ 140737488351232 := by
  obtain ⟨a, c, l, h1, h2, h3, h4, _⟩ := argOk_slice (fun b : UInt8 => [bv b]) (fun _ => True) ht hc (fun _ => rfl) (fun x _ hx => by
    obtain ⟨n, rfl, hw⟩ := argOk_int he hx
    have := wf_u8 hw
    refine ⟨UInt8.ofNat n.toNat, ?_, trivial⟩
    show [Value.int .u8 n] = [Value.int .u8 (((UInt8.ofNat n.toNat).toNat : Nat) : Int)]
    rw [UInt8.toNat_ofNat_of_lt' (by show _ < 256; omega)]
    congr 2
    omega) h
  refine ⟨a, c, l, h1, ?_, h3, by rw [hb] at h4; omega⟩
  rwa [flatMap_one] at h2
end
theorem agg_of_cells {v : Value} (h : v.cells.toList.length ≠ 1) : ∃ cs, v = .agg cs := by
  cases v <;> first | exact ⟨_, rfl⟩ | exact absurd rfl h
end Go.Proofs.Ytijplicijmpknaa
