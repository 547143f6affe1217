/- Steps: what each operation of the model does, over heap assertions. Any program. -/
import Derived.Test.YtijplicijmpknaaSl
namespace Go.Proofs.Ytijplicijmpknaa
open Go.RowKit

/-! ### slots -/
abbrev Env := Nat → Value
def upd (ρ : Env) (t : Nat) (v : Value) : Env := fun s => bif Nat.beq s t then v else ρ s
def updl : List (Nat × Value) → Env → Env
  | [], ρ => ρ
  | (t, v) :: l, ρ => upd (updl l ρ) t v
def env0 : Env := fun _ => undef
def ev (ρ : Env) : Operand → Value
  | .tmp t => ρ t
  | .const v => v
  | .global g => .pointer (some ⟨g, 0, none⟩)
  | .func f => .func (.func f) #[] #[]

theorem beq_no {a b : Nat} (h : a ≠ b) : Nat.beq a b = false := by
  cases e : Nat.beq a b with
  | false => rfl
  | true => exact absurd (Nat.eq_of_beq_eq_true e) h

structure At (n : Nat) (D : List Deferred) (ρ : Env) (a : Act) : Prop where
  size : a.tmps.size = n
  get : ∀ t, a.tmps.getD t undef = ρ t
  defers : a.defers = D

theorem At.eval {n : Nat} {D : List Deferred} {ρ : Env} {a : Act} (h : At n D ρ a) : a.eval = ev ρ := by
  funext x
  cases x <;> first | exact h.get _ | rfl

theorem At.put {n : Nat} {D : List Deferred} {ρ : Env} {a : Act} (h : At n D ρ a) {d : Nat} (hd : Nat.blt d n = true) (v : Value) : At n D (upd ρ d v) (a.put (some d) v) := by
  have hd' : d < n := by simpa [Nat.blt_eq] using hd
  refine ⟨by simp [Act.put, h.size], fun t => ?_, h.defers⟩
  simp only [Act.put, upd]
  by_cases e : t = d
  · subst e
    simp [Array.getD, h.size, hd']
  · have : Nat.beq t d = false := beq_no e
    rw [this, cond_false, ← h.get t]
    have e' : d ≠ t := fun x => e x.symm
    simp [Array.getElem?_setIfInBounds, e']

def HoldsL (ρ : Env) : List (Nat × Value) → Prop
  | [] => True
  | (t, v) :: l => ρ t = v ∧ HoldsL ρ l
theorem updl_same {ρ : Env} : ∀ {l : List (Nat × Value)}, HoldsL ρ l → updl l ρ = ρ
  | [], _ => rfl
  | (t, v) :: l, h => by
    show upd (updl l ρ) t v = ρ
    rw [updl_same h.2]
    funext s
    simp only [upd]
    by_cases e : s = t
    · subst e; simp [h.1]
    · have : Nat.beq s t = false := beq_no e
      rw [this]; rfl

theorem least_nat {p : Nat → Prop} (h : ∃ k, p k) : ∃ k, p k ∧ ∀ j, p j → k ≤ j := by
  obtain ⟨k, hk⟩ := h
  induction k using Nat.strongRecOn with
  | _ k ih =>
    by_cases e : ∃ j, j < k ∧ p j
    · obtain ⟨j, hj, hp⟩ := e; exact ih j hj hp
    · exact ⟨k, hk, fun j hj => by rcases Nat.lt_or_ge j k with h | h; exact absurd ⟨j, h, hj⟩ e; exact h⟩

/-! ### the program's tables, as classes -/
class TyU (P : Program) (t : TypeId) (d : outParam TypeDesc) : Prop where
  eq : P.underlying t = some d
/-- a type's cells, bytes and zero -/
class TyI (P : Program) (t : TypeId) (size bytes : outParam Nat) (zero : outParam Value) : Prop where
  eq : (P.info? t).map (fun i => (i.zero, i.size, i.bytes)) = some (some zero, size, bytes)
  cells : zero.cells.size = size
/-- a type of one cell -/
class Ty1 (P : Program) (t : TypeId) : Prop where
  one : (P.info? t).map (·.size) = some 1
  plain : ∃ d, P.underlying t = some d ∧ ∀ (x : Array Field) (n : Nat) (e : TypeId), d ≠ .struct x ∧ d ≠ .array n e
/-- a struct's or an array's type, of so many cells -/
class TyA (P : Program) (t : TypeId) (size : outParam Nat) : Prop where
  size : (P.info? t).map (·.size) = some size
  agg : ∃ d, P.underlying t = some d ∧ ((∃ x, d = .struct x) ∨ ∃ n e, d = .array n e)
/-- a field: its place -/
class TyF (P : Program) (t : TypeId) (f : Nat) (off : outParam Nat) (ft : outParam TypeId) : Prop where
  eq : ∃ fs fl s, P.underlying t = some (.struct fs) ∧ fs[f]? = some fl ∧ fl.offset = off ∧ fl.type = ft ∧ (P.info? ft).map (·.size) = some (s + 1)
/-- a struct's fields: their places and sizes; its zero -/
class TyS (P : Program) (t : TypeId) (pl : outParam (List (Nat × Nat))) (zc : outParam (List Value)) : Prop where
  eq : ∃ fs, P.underlying t = some (.struct fs) ∧ (∀ w, ((fs.mapM fun f => do pure (f.offset, ← sizeOf f.type)) : Sem (Array (Nat × Nat))).run P w = .ok pl.toArray w) ∧ ∀ w, ∃ z, (zeroValue t).run P w = .ok z w ∧ z.cells = zc.toArray
/-- a Go function with a body -/
class FnB (P : Program) (f : FuncId) : Prop where
  enter : ∀ (args : Array Value) (w : World), (callFunc f args).run P w = .ok (.enter f args) w

/-! ### triples -/
section
variable (P : Program)
/-- operation 'o' gives v, and leaves the world as it is -/
def Gives (o : Oper) (ρ : Env) (A : HP) (v : Value) : Prop := ∀ W0 w, Sat W0 w A → (execOp (ev ρ) o).run P w = .ok (.value v) w
def RT (ops : Array Oper) (Q : Exit → Act → World → Prop) (n : Nat) (D : List Deferred) (W0 : World) (rest : List Oper) (ρ : Env) (A : HP) : Prop :=
  ∀ a w, At n D ρ a → Sat W0 w A → wpList P ops Q rest a w
def CT (c : Code) (Q : Exit → Act → World → Prop) (n : Nat) (D : List Deferred) (W0 : World) (ρ : Env) (A : HP) : Prop :=
  ∀ a w, At n D ρ a → Sat W0 w A → c.wp P Q a w
def QT (Q : Exit → Act → World → Prop) (e : Exit) (n : Nat) (D : List Deferred) (W0 : World) (ρ : Env) (A : HP) : Prop :=
  ∀ a w, At n D ρ a → Sat W0 w A → Q e a w
def Wants (ops : Array Oper) (n : Nat) (D : List Deferred) (o : Oper) (ρ : Env) : Prop := ∀ a, At n D ρ a → Region.wanted o (yielded ops a.tmps) = true
/-- one operation: from these slots and this memory it leads to such as K lets -/
def OT (Q : Exit → Act → World → Prop) (n : Nat) (D : List Deferred) (W0 : World) (o : Oper) (ρ : Env) (A : HP) (K : Env → HP → Prop) : Prop :=
  ∀ a w, At n D ρ a → Sat W0 w A → ∀ K' : Act → World → Prop, (∀ ρ' A' a' w', K ρ' A' → At n D ρ' a' → Sat W0 w' A' → K' a' w') → o.wp P a w K' Q
def Spec {ι : Type} (f : FuncId) (args : List Value) (A : HP) (ret : ι → Value) (B : ι → HP) : Prop :=
  ∀ W0 w, Sat W0 w A → Calls P f args.toArray w fun e w' => ∃ i, e = .returned (ret i) ∧ Sat W0 w' (B i)
end

section
variable {P : Program} {ops : Array Oper} {Q : Exit → Act → World → Prop} {n : Nat} {D : List Deferred} {W0 : World} {rest : List Oper} {ρ : Env} {A B R : HP} {o : Oper}

theorem wants_none (h : o.guard = none) : Wants ops n D o ρ := fun a _ => by simp [Region.wanted, h]
theorem wants_some {j d : Nat} {b : Bool} (h : o.guard = some (j, b)) (hj : (ops[j]?).bind (·.dst) = some d) (hd : Nat.blt d n = true) (hv : ρ d = .bool b) : Wants ops n D o ρ := fun a ha => by
  have hd' : d < n := by simpa [Nat.blt_eq] using hd
  have e : a.tmps[d]? = some (.bool b) := by
    have := ha.get d
    rw [hv] at this
    simp only [Array.getD, ha.size, hd', dif_pos] at this
    rw [Array.getElem?_eq_getElem (by rw [ha.size]; exact hd')]
    exact congrArg some this
  simp [Region.wanted, h, yielded, hj, e]
theorem wants_not {j d : Nat} {b : Bool} {a : Act} (h : o.guard = some (j, b)) (hj : (ops[j]?).bind (·.dst) = some d) (hd : Nat.blt d n = true) (hv : ρ d = .bool (!b) ∨ ρ d = undef) (ha : At n D ρ a) : Region.wanted o (yielded ops a.tmps) = false := by
  have hd' : d < n := by simpa [Nat.blt_eq] using hd
  have e : a.tmps[d]? = some (ρ d) := by
    have := ha.get d
    simp only [Array.getD, ha.size, hd', dif_pos] at this
    rw [Array.getElem?_eq_getElem (by rw [ha.size]; exact hd')]
    exact congrArg some this
  rcases hv with hv | hv
  · rw [hv] at e
    simp [Region.wanted, h, yielded, hj, e]
  · rw [hv] at e
    simp [Region.wanted, h, yielded, hj, e, undef]

theorem rt_nil (h : QT Q .normal n D W0 ρ A) : RT P ops Q n D W0 [] ρ A := fun a w ha s => h a w ha s
theorem rt_ent (h : RT P ops Q n D W0 rest ρ B) (e : Ent A B) : RT P ops Q n D W0 rest ρ A := fun a w ha s => h a w ha (s.ent e)
theorem rt_en [e : En A B] (h : RT P ops Q n D W0 rest ρ B) : RT P ops Q n D W0 rest ρ A := rt_ent h e.ent
theorem rt_ex {α : Type} {f : α → HP} (h : ∀ x, RT P ops Q n D W0 rest ρ (f x * R)) : RT P ops Q n D W0 rest ρ (ex f * R) := fun a w ha s =>
  let ⟨x, s'⟩ := s.ex; h x a w ha s'
theorem rt_pr {p : Prop} (h : p → RT P ops Q n D W0 rest ρ R) : RT P ops Q n D W0 rest ρ (pr p * R) := fun a w ha s =>
  let ⟨x, s'⟩ := s.pr; h x a w ha s'
theorem ct_ent {c : Code} (h : CT P c Q n D W0 ρ B) (e : Ent A B) : CT P c Q n D W0 ρ A := fun a w ha s => h a w ha (s.ent e)
theorem ct_ex {c : Code} {α : Type} {f : α → HP} (h : ∀ x, CT P c Q n D W0 ρ (f x * R)) : CT P c Q n D W0 ρ (ex f * R) := fun a w ha s =>
  let ⟨x, s'⟩ := s.ex; h x a w ha s'
theorem ct_pr {c : Code} {p : Prop} (h : p → CT P c Q n D W0 ρ R) : CT P c Q n D W0 ρ (pr p * R) := fun a w ha s =>
  let ⟨x, s'⟩ := s.pr; h x a w ha s'
theorem qt_ent {e : Exit} (h : QT Q e n D W0 ρ B) (k : Ent A B) : QT Q e n D W0 ρ A := fun a w ha s => h a w ha (s.ent k)

theorem wpList_run {a : Act} {w : World} (hw : Region.wanted o (yielded ops a.tmps) = true) (h : o.wp P a w (wpList P ops Q rest) Q) : wpList P ops Q (o :: rest) a w := by
  unfold wpList; rw [if_pos hw]; exact .inl h

theorem rt_op (hw : Wants ops n D o ρ) (h : OT P Q n D W0 o ρ A fun ρ' A' => RT P ops Q n D W0 rest ρ' A') : RT P ops Q n D W0 (o :: rest) ρ A := fun a w ha s =>
  wpList_run (hw a ha) (h a w ha s _ fun _ _ a' w' k ha' s' => k a' w' ha' s')

theorem rt_skip {d j e : Nat} {b : Bool} (hgd : o.guard = some (j, b)) (hj : (ops[j]?).bind (·.dst) = some e) (he : Nat.blt e n = true) (hv : ρ e = .bool (!b) ∨ ρ e = undef) (ho : o.dst = some d) (hd : Nat.blt d n = true)
    (h : RT P ops Q n D W0 rest (upd ρ d undef) A) : RT P ops Q n D W0 (o :: rest) ρ A := fun a w ha s => by
  unfold wpList
  rw [if_neg (by rw [wants_not hgd hj he hv ha]; decide), ho]
  exact h _ w (ha.put hd undef) s

section
variable {K : Env → HP → Prop}
/-- an operation that gives a value -/
theorem o_give {d : Nat} {v : Value} (hg : Gives P o ρ A v) (ho : o.dst = some d) (hd : Nat.blt d n = true)
    (h : K (upd ρ d v) A) : OT P Q n D W0 o ρ A K := fun a w ha s K' hK => by
  unfold Oper.wp
  rw [ha.eval, hg W0 w s, Oper.upon_value, ho]
  exact hK _ _ _ w h (ha.put hd v) s
theorem rg {d : Nat} {v : Value} (hgd : o.guard = none) (hg : Gives P o ρ A v) (ho : o.dst = some d) (hd : Nat.blt d n = true)
    (h : RT P ops Q n D W0 rest (upd ρ d v) A) : RT P ops Q n D W0 (o :: rest) ρ A := rt_op (wants_none hgd) (o_give hg ho hd h)
theorem rgw {d j g : Nat} {b : Bool} {v : Value} (hgd : o.guard = some (j, b)) (hj : (ops[j]?).bind (·.dst) = some g) (hd' : Nat.blt g n = true) (hv : ρ g = .bool b) (hg : Gives P o ρ A v) (ho : o.dst = some d) (hd : Nat.blt d n = true)
    (h : RT P ops Q n D W0 rest (upd ρ d v) A) : RT P ops Q n D W0 (o :: rest) ρ A := rt_op (wants_some hgd hj hd' hv) (o_give hg ho hd h)
theorem rgs {d j g : Nat} {b : Bool} (hgd : o.guard = some (j, b)) (hj : (ops[j]?).bind (·.dst) = some g) (hd' : Nat.blt g n = true) (hv : ρ g = .bool (!b)) (ho : o.dst = some d) (hd : Nat.blt d n = true)
    (h : RT P ops Q n D W0 rest (upd ρ d undef) A) : RT P ops Q n D W0 (o :: rest) ρ A := rt_skip hgd hj hd' (.inl hv) ho hd h
theorem rgu {d j g : Nat} {b : Bool} (hgd : o.guard = some (j, b)) (hj : (ops[j]?).bind (·.dst) = some g) (hd' : Nat.blt g n = true) (hv : ρ g = undef) (ho : o.dst = some d) (hd : Nat.blt d n = true)
    (h : RT P ops Q n D W0 rest (upd ρ d undef) A) : RT P ops Q n D W0 (o :: rest) ρ A := rt_skip hgd hj hd' (.inr hv) ho hd h
/-- an operation that gives a value and turns the world -/
theorem o_run {d : Nat} (ho : o.dst = some d) (hd : Nat.blt d n = true)
    (h : ∀ w, Sat W0 w A → ∃ v B w', (execOp (ev ρ) o).run P w = .ok (.value v) w' ∧ Sat W0 w' B ∧ K (upd ρ d v) B) : OT P Q n D W0 o ρ A K := fun a w ha s K' hK => by
  unfold Oper.wp
  obtain ⟨v, B, w', hr, s', hk⟩ := h w s
  rw [ha.eval, hr, Oper.upon_value, ho]
  exact hK _ _ _ w' hk (ha.put hd v) s'
/-- an operation without a value, that turns the world -/
theorem o_do (ho : o.dst = none)
    (h : ∀ w, Sat W0 w A → ∃ w', (execOp (ev ρ) o).run P w = .ok .skip w' ∧ Sat W0 w' B) (hk : K ρ B) : OT P Q n D W0 o ρ A K := fun a w ha s K' hK => by
  unfold Oper.wp
  obtain ⟨w', hr, s'⟩ := h w s
  rw [ha.eval, hr, Oper.upon_skip, ho]
  exact hK _ _ _ w' hk ha s'
end

/-! ### code -/
/-- an operation without what only its order hangs on -/
def lite (o : Oper) : Oper := { o with pos := "", after := #[] }
theorem lite_exec (e : Operand → Value) (o : Oper) : execOp e (lite o) = execOp e o := rfl
theorem lite_upon (o : Oper) : (lite o).upon P = o.upon P := by
  funext a K Q r
  unfold Oper.upon
  rfl
theorem lite_wpList {ops : Array Oper} : ∀ (l : List Oper) (a : Act) (w : World), wpList P (ops.map lite) Q (l.map lite) a w → wpList P ops Q l a w := by
  have hy : ∀ (t : Array Value), yielded (ops.map lite) t = yielded ops t := fun t => by
    funext j
    simp only [yielded, Array.getElem?_map]
    cases ops[j]? <;> rfl
  intro l
  induction l with
  | nil => intro a w h; exact h
  | cons o l ih =>
    intro a w h
    simp only [List.map_cons, wpList, hy] at h ⊢
    have hg : Region.wanted (lite o) (yielded ops a.tmps) = Region.wanted o (yielded ops a.tmps) := rfl
    rw [hg] at h
    by_cases hw : Region.wanted o (yielded ops a.tmps) = true
    · rw [if_pos hw] at h ⊢
      rcases h with h | h
      · left
        have h' : o.upon P a (wpList P (ops.map lite) Q (l.map lite)) Q ((execOp a.eval o).run P w) := by
          have h2 : (lite o).upon P a (wpList P (ops.map lite) Q (l.map lite)) Q ((execOp a.eval (lite o)).run P w) := h
          rwa [lite_upon, lite_exec] at h2
        unfold Oper.wp
        revert h'
        generalize (execOp a.eval o).run P w = r
        cases r with
        | ok x w' =>
          cases x <;> intro h' <;> first
            | exact ih _ _ h'
            | exact h'
            | exact Calls.mono h' fun e w'' q => by cases e <;> first | exact ih _ _ q | exact q
            | exact Rows.mono h' fun v w'' q => ih _ _ q
        | halt x w' => intro h'; cases x <;> exact h'
      · right; exact h
    · rw [if_neg hw] at h ⊢
      exact ih _ _ h
theorem ct_region' {id : Nat} {l l' : List Oper} (hl : l.map lite = l') (h : RT P l'.toArray Q n D W0 l' ρ A) : CT P (.region id l.toArray false) Q n D W0 ρ A := fun a w ha s => by
  subst hl
  refine wp_region_lit (lite_wpList l a w ?_)
  have := h a w ha s
  simpa using this
theorem ct_region {id : Nat} {l : List Oper} (h : RT P l.toArray Q n D W0 l ρ A) : CT P (.region id l.toArray false) Q n D W0 ρ A := fun a w ha s =>
  wp_region_lit (h a w ha s)
theorem ct_seq {x y : Code} (h : CT P x (Exit.then (y.wp P Q) Q) n D W0 ρ A) : CT P (.seq x y) Q n D W0 ρ A := fun a w ha s => wp_seq (h a w ha s)
theorem ct_block {id : Nat} {c : Code} (h : CT P c (Exit.inBlock id Q) n D W0 ρ A) : CT P (.block id c) Q n D W0 ρ A := fun a w ha s => wp_block (h a w ha s)
theorem ct_skip (h : QT Q .normal n D W0 ρ A) : CT P .skip Q n D W0 ρ A := fun a w ha s => wp_skip (h a w ha s)
theorem ct_exit {id : Nat} (h : QT Q (.exit id) n D W0 ρ A) : CT P (.exit id) Q n D W0 ρ A := fun a w ha s => wp_exit (h a w ha s)
theorem ct_ret (h : QT Q .ret n D W0 ρ A) : CT P .ret Q n D W0 ρ A := fun a w ha s => wp_ret (h a w ha s)
theorem ct_cond {c : Operand} {x y : Code} {t : Bool} (hc : ev ρ c = .bool t) (ht : t = true → CT P x Q n D W0 ρ A) (hf : t = false → CT P y Q n D W0 ρ A) :
    CT P (.cond c x y) Q n D W0 ρ A := fun a w ha s =>
  wp_cond_split (t := t) (by rw [ha.eval]; exact hc) (fun e => ht e a w ha s) (fun e => hf e a w ha s)
theorem ct_if {c : Operand} {x y : Code} {p : Prop} [Decidable p] (hc : ev ρ c = .bool (decide p)) (ht : p → CT P x Q n D W0 ρ A) (hf : ¬ p → CT P y Q n D W0 ρ A) :
    CT P (.cond c x y) Q n D W0 ρ A := ct_cond hc (fun e => ht (of_decide_eq_true e)) (fun e => hf (of_decide_eq_false e))
theorem ct_true {c : Operand} {x y : Code} (hc : ev ρ c = .bool true) (ht : CT P x Q n D W0 ρ A) : CT P (.cond c x y) Q n D W0 ρ A := ct_cond hc (fun _ => ht) (fun e => by cases e)
theorem ct_false {c : Operand} {x y : Code} (hc : ev ρ c = .bool false) (hf : CT P y Q n D W0 ρ A) : CT P (.cond c x y) Q n D W0 ρ A := ct_cond hc (fun e => by cases e) (fun _ => hf)

theorem q_then {y : Code} (h : CT P y Q n D W0 ρ A) : QT (Exit.then (y.wp P Q) Q) .normal n D W0 ρ A := h
theorem q_then_ret {K : Act → World → Prop} (h : QT Q .ret n D W0 ρ A) : QT (Exit.then K Q) .ret n D W0 ρ A := h
theorem q_then_exit {K : Act → World → Prop} {id : Nat} (h : QT Q (.exit id) n D W0 ρ A) : QT (Exit.then K Q) (.exit id) n D W0 ρ A := h
theorem q_block {id : Nat} (h : QT Q .normal n D W0 ρ A) : QT (Exit.inBlock id Q) .normal n D W0 ρ A := h
theorem q_block_ret {id : Nat} (h : QT Q .ret n D W0 ρ A) : QT (Exit.inBlock id Q) .ret n D W0 ρ A := h
theorem q_block_exit {id : Nat} (h : QT Q .normal n D W0 ρ A) : QT (Exit.inBlock id Q) (.exit id) n D W0 ρ A := fun a w ha s => by
  simp only [Exit.inBlock, if_true]; exact h a w ha s
theorem q_block_other {id id' : Nat} (hne : Nat.beq id' id = false) (h : QT Q (.exit id') n D W0 ρ A) : QT (Exit.inBlock id Q) (.exit id') n D W0 ρ A := fun a w ha s => by
  have : id' ≠ id := fun e => by subst e; simp at hne
  simp only [Exit.inBlock, this, if_false]; exact h a w ha s

/-- what a round of a loop must come to -/
def Again {ι : Type} (S : ι → List (Nat × Value)) (I : ι → HP) (μ : ι → Nat) (n : Nat) (D : List Deferred) (W0 : World) (m : Nat) (a : Act) (w : World) : Prop :=
  ∃ i, μ i < m ∧ (∃ ρ, At n D (updl (S i) ρ) a) ∧ Sat W0 w (I i)
theorem ct_loop {ι : Type} {c : Code} (S : ι → List (Nat × Value)) (I : ι → HP) (μ : ι → Nat) (i0 : ι) (hS : HoldsL ρ (S i0)) (hA : Ent A (I i0))
    (round : ∀ i ρ', CT P c (Exit.then (Again S I μ n D W0 (μ i)) Q) n D W0 (updl (S i) ρ') (I i)) : CT P (.loop c) Q n D W0 ρ A := fun a w ha s => by
  let p : Act → World → Nat → Prop := fun a w k => ∃ i, μ i = k ∧ (∃ ρ, At n D (updl (S i) ρ) a) ∧ Sat W0 w (I i)
  let m : Act → World → Nat := fun a w => by classical exact if h : ∃ k, p a w k then Classical.choose (least_nat h) else 0
  have hm : ∀ a w (h : ∃ k, p a w k), p a w (m a w) ∧ ∀ j, p a w j → m a w ≤ j := fun a w h => by
    have : m a w = Classical.choose (least_nat h) := by simp only [m]; rw [dif_pos h]
    rw [this]; exact Classical.choose_spec (least_nat h)
  refine wp_loop (fun a w => ∃ k, p a w k) m ⟨μ i0, i0, rfl, ⟨ρ, by rw [updl_same hS]; exact ha⟩, s.ent hA⟩ fun a w hI => ?_
  obtain ⟨⟨i, hi, ⟨ρ', ha'⟩, s'⟩, hmin⟩ := hm a w hI
  refine wp_mono (round i ρ' a w ha' s') fun e a2 w2 q => ?_
  cases e with
  | normal =>
    obtain ⟨j, hlt, hρ, sj⟩ := q
    have h2 : ∃ k, p a2 w2 k := ⟨μ j, j, rfl, hρ, sj⟩
    exact ⟨h2, Nat.lt_of_le_of_lt ((hm a2 w2 h2).2 (μ j) ⟨j, rfl, hρ, sj⟩) (hi ▸ hlt)⟩
  | exit id => exact q
  | goto l => exact q
  | ret => exact q
  | panic c => exact q
  | outgrown => exact q
theorem q_again {ι : Type} {S : ι → List (Nat × Value)} {I : ι → HP} {μ : ι → Nat} {m : Nat} (i : ι) (hlt : μ i < m) (hS : HoldsL ρ (S i)) (hA : Ent A (I i)) :
    QT (Exit.then (Again S I μ n D W0 m) Q) .normal n D W0 ρ A := fun a w ha s => ⟨i, hlt, ⟨ρ, by rw [updl_same hS]; exact ha⟩, s.ent hA⟩

/-- code behind which little need be known: slots and memory -/
theorem ct_cut {ι : Type} {x y : Code} (S : ι → List (Nat × Value)) (I : ι → HP)
    (hx : CT P x (Exit.then (fun a w => ∃ i, (∃ ρ, At n D (updl (S i) ρ) a) ∧ Sat W0 w (I i)) Q) n D W0 ρ A)
    (hy : ∀ i ρ', CT P y Q n D W0 (updl (S i) ρ') (I i)) : CT P (.seq x y) Q n D W0 ρ A := fun a w ha s =>
  wp_seq (wp_mono (hx a w ha s) fun e a w q => by
    cases e with
    | normal => obtain ⟨i, ⟨ρ', ha'⟩, s'⟩ := q; exact hy i ρ' a w ha' s'
    | exit id => exact q
    | goto l => exact q
    | ret => exact q
    | panic c => exact q
    | outgrown => exact q)
theorem q_cut {ι : Type} {S : ι → List (Nat × Value)} {I : ι → HP} (i : ι) (hS : HoldsL ρ (S i)) (hA : Ent A (I i)) :
    QT (Exit.then (fun a w => ∃ i, (∃ ρ, At n D (updl (S i) ρ) a) ∧ Sat W0 w (I i)) Q) .normal n D W0 ρ A := fun a w ha s => ⟨i, ⟨ρ, by rw [updl_same hS]; exact ha⟩, s.ent hA⟩

/-! ### functions -/
def argl : List Value → Nat → List (Nat × Value)
  | [], _ => []
  | v :: l, k => (k, v) :: argl l (k + 1)
theorem at_enter {args : List Value} {n : Nat} (hn : args.length ≤ n) :
    At n [] (updl (argl args 0) env0) { tmps := args.toArray ++ Array.replicate (n - args.toArray.size) undef, defers := [] } := by
  have key : ∀ (l : List Value) (k t : Nat), updl (argl l k) env0 t = if k ≤ t ∧ t < k + l.length then l.getD (t - k) undef else undef := by
    intro l
    induction l with
    | nil => intro k t; simp only [argl, updl, env0, List.length_nil]; rw [if_neg (by omega)]
    | cons v l ih =>
      intro k t
      simp only [argl, updl, upd, List.length_cons]
      by_cases e : t = k
      · subst e; simp
      · rw [beq_no e, cond_false, ih]
        by_cases h : k ≤ t ∧ t < k + (l.length + 1)
        · rw [if_pos h, if_pos (by omega)]
          obtain ⟨j, rfl⟩ : ∃ j, t = k + 1 + j := ⟨t - (k + 1), by omega⟩
          have h1 : k + 1 + j - (k + 1) = j := by omega
          have h2 : k + 1 + j - k = j + 1 := by omega
          rw [h1, h2]; simp
        · rw [if_neg h, if_neg (by omega)]
  refine ⟨by simp; omega, fun t => ?_, rfl⟩
  rw [key]
  simp only [Array.getD_eq_getD_getElem?, Nat.zero_add, Nat.sub_zero]
  by_cases h : t < args.length
  · rw [if_pos ⟨Nat.zero_le _, h⟩, Array.getElem?_append, if_pos (by simpa using h)]
    simp [List.getD]
  · rw [if_neg (fun x => h x.2), Array.getElem?_append, if_neg (by simpa using h)]
    simp only [Array.getElem?_replicate]
    split <;> rfl

/-- the post of a body -/
def Post {ι : Type} (P : Program) (fn : Func) (W0 : World) (ret : ι → Value) (B : ι → HP) : Exit → Act → World → Prop :=
  bodyPost P fn fun e w' => ∃ i, e = .returned (ret i) ∧ Sat W0 w' (B i)
theorem spec_of {ι : Type} {f : FuncId} {fn : Func} {c : Code} {args : List Value} {ret : ι → Value} {B : ι → HP} (hf : P.funcs[f]? = some fn) (hb : fn.body = some c) (hn : fn.ntmps = n) (hl : Nat.ble args.length n = true)
    (h : ∀ W0, CT P c (Post P fn W0 ret B) n [] W0 (updl (argl args 0) env0) A) : Spec P f args A ret B := fun W0 w s =>
  calls_of_wp hf hb (h W0 _ w (by rw [hn]; exact at_enter (Nat.le_of_ble_eq_true hl)) s)

theorem q_ret0 {ι : Type} {fn : Func} {ret : ι → Value} {B : ι → HP} (hr : fn.results = #[]) (i : ι) (hv : ret i = .tuple #[]) (hA : Ent A (B i)) {e : Exit} (he : e = .normal ∨ e = .ret) : QT (Post P fn W0 ret B) e n [] W0 ρ A := fun a w ha s => by
  rcases he with rfl | rfl <;> exact ⟨ha.defers, _, results_none hr _ _ _, i, by rw [hv], s.ent hA⟩
theorem q_ret1 {ι : Type} {fn : Func} {ret : ι → Value} {B : ι → HP} {t : Nat} {v : Value} (hr : fn.results = #[.tmp t]) (hv : ρ t = v) (i : ι) (hi : v = ret i) (hA : Ent A (B i)) : QT (Post P fn W0 ret B) .ret n [] W0 ρ A := fun a w ha s =>
  ⟨ha.defers, _, results_tmp hr _ _ _, i, by rw [ha.get, hv, hi], s.ent hA⟩
theorem q_ret2 {ι : Type} {fn : Func} {ret : ι → Value} {B : ι → HP} {t u : Nat} {v v' : Value} (hr : fn.results = #[.tmp t, .tmp u]) (hv : ρ t = v) (hv' : ρ u = v') (i : ι) (hi : .tuple #[v, v'] = ret i) (hA : Ent A (B i)) : QT (Post P fn W0 ret B) .ret n [] W0 ρ A := fun a w ha s =>
  ⟨ha.defers, _, results_tmp2 hr _ _ _, i, by rw [ha.get, ha.get, hv, hv', hi], s.ent hA⟩

/-- a call of a Go function -/
theorem o_call {K : Env → HP → Prop} {ι : Type} {d : Nat} {f : FuncId} {xs : List Operand} {ats : Array TypeId} {ty : TypeId} {pos : String} {aft : Array Edge} {gd : Option (Nat × Bool)} {args : List Value} {ret : ι → Value} {B : ι → HP}
    (hd : Nat.blt d n = true) (hx : xs.map (ev ρ) = args) [hf : FnB P f] (hs : Spec P f args A ret B) (h : ∀ i, K (upd ρ d (ret i)) (B i)) :
    OT P Q n D W0 ⟨some d, .call { callee := .value (.func f), args := xs.toArray, argTypes := ats }, ty, pos, aft, gd⟩ ρ A K := fun a w ha s K' hK => by
  unfold Oper.wp
  have e : (execOp a.eval ⟨some d, .call { callee := .value (.func f), args := xs.toArray, argTypes := ats }, ty, pos, aft, gd⟩) = callFunc f args.toArray := by
    rw [execOp_call_go, ha.eval, ← hx]; simp
  rw [e, hf.enter, Oper.upon_enter]
  refine (hs W0 w s).mono fun e w' ⟨i, he, s'⟩ => ?_
  subst he
  exact hK _ _ _ w' (h i) (ha.put hd _) s'
/-- the same, of a part of the memory -/
theorem o_callF {K : Env → HP → Prop} {ι : Type} {d : Nat} {f : FuncId} {xs : List Operand} {ats : Array TypeId} {ty : TypeId} {pos : String} {aft : Array Edge} {gd : Option (Nat × Bool)} {args : List Value} {ret : ι → Value} {B : ι → HP} {X : HP}
    (hd : Nat.blt d n = true) (hx : xs.map (ev ρ) = args) [hf : FnB P f] (hs : Spec P f args (X * R) ret B) [hr : Fr A X R] (h : ∀ i, K (upd ρ d (ret i)) (B i)) :
    OT P Q n D W0 ⟨some d, .call { callee := .value (.func f), args := xs.toArray, argTypes := ats }, ty, pos, aft, gd⟩ ρ A K := 
  o_call hd hx (fun W0 w s => hs W0 w (s.ent hr.ent)) h
end
end Go.Proofs.Ytijplicijmpknaa
