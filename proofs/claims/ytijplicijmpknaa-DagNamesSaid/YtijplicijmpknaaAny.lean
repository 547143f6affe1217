/- Regions that draw their order. Any program. -/
import Derived.Test.YtijplicijmpknaaOq
import Derived.Deep.Quiet
namespace Go.Proofs.Ytijplicijmpknaa
open Go.RowKit

/-- the program's regions may go in whatever order -/
class Mixed (P : Program) : Prop where
  eq : P.follows .mixedOrders = true

section
variable {P : Program} {ops : Array Oper} {md : Region.Mode} {C : World → Prop} {Q : Exit → Act → World → Prop}

/-! ### all operations quiet -/
def RQ (P : Program) (ops : Array Oper) (Q : Exit → Act → World → Prop) (n : Nat) (D : List Deferred) (W0 : World) (rest : List Oper) (ρ : Env) (A : HP) : Prop :=
  ∀ a, At n D ρ a → wpQuiet P ops (fun w => Sat W0 w A) (fun a' => ∀ w', Sat W0 w' A → Q .normal a' w') rest a

variable {n : Nat} {D : List Deferred} {W0 : World} {rest : List Oper} {ρ : Env} {A B R : HP} {o : Oper} {d : Nat} {v : Value}

theorem rq_nil (h : QT Q .normal n D W0 ρ A) : RQ P ops Q n D W0 [] ρ A := fun a ha => wpQuiet_nil fun w s => h a w ha s
theorem rq_give (hw : Wants ops n D o ρ) (hg : Gives P o ρ A v) (ho : o.dst = some d) (hd : Nat.blt d n = true) (h : RQ P ops Q n D W0 rest (upd ρ d v) A) : RQ P ops Q n D W0 (o :: rest) ρ A := fun a ha =>
  wpQuiet_step fun K hK => by
    rw [if_pos (hw a ha)]
    refine ⟨v, fun w s => ?_, hK _ ?_⟩
    · show Oper.quietUpon P _ w v ((execOp a.eval o).run P w)
      rw [ha.eval, hg W0 w s]; exact ⟨rfl, rfl⟩
    · rw [ho]; exact h _ (ha.put hd v)
theorem rq_skip {j e : Nat} {b : Bool} (hgd : o.guard = some (j, b)) (hj : (ops[j]?).bind (·.dst) = some e) (he : Nat.blt e n = true) (hv : ρ e = .bool (!b) ∨ ρ e = undef) (ho : o.dst = some d) (hd : Nat.blt d n = true)
    (h : RQ P ops Q n D W0 rest (upd ρ d undef) A) : RQ P ops Q n D W0 (o :: rest) ρ A := fun a ha =>
  wpQuiet_step fun K hK => by
    rw [if_neg (by rw [wants_not hgd hj he hv ha]; decide)]
    refine hK _ ?_
    rw [ho]; exact h _ (ha.put hd undef)
theorem qg (hgd : o.guard = none) (hg : Gives P o ρ A v) (ho : o.dst = some d) (hd : Nat.blt d n = true) (h : RQ P ops Q n D W0 rest (upd ρ d v) A) : RQ P ops Q n D W0 (o :: rest) ρ A := rq_give (wants_none hgd) hg ho hd h
theorem qgw {j g : Nat} {b : Bool} (hgd : o.guard = some (j, b)) (hj : (ops[j]?).bind (·.dst) = some g) (hd' : Nat.blt g n = true) (hv : ρ g = .bool b) (hg : Gives P o ρ A v) (ho : o.dst = some d) (hd : Nat.blt d n = true) (h : RQ P ops Q n D W0 rest (upd ρ d v) A) : RQ P ops Q n D W0 (o :: rest) ρ A := rq_give (wants_some hgd hj hd' hv) hg ho hd h
theorem qgs {j g : Nat} {b : Bool} (hgd : o.guard = some (j, b)) (hj : (ops[j]?).bind (·.dst) = some g) (hd' : Nat.blt g n = true) (hv : ρ g = .bool (!b)) (ho : o.dst = some d) (hd : Nat.blt d n = true) (h : RQ P ops Q n D W0 rest (upd ρ d undef) A) : RQ P ops Q n D W0 (o :: rest) ρ A := rq_skip hgd hj hd' (.inl hv) ho hd h
theorem qgu {j g : Nat} {b : Bool} (hgd : o.guard = some (j, b)) (hj : (ops[j]?).bind (·.dst) = some g) (hd' : Nat.blt g n = true) (hv : ρ g = undef) (ho : o.dst = some d) (hd : Nat.blt d n = true) (h : RQ P ops Q n D W0 rest (upd ρ d undef) A) : RQ P ops Q n D W0 (o :: rest) ρ A := rq_skip hgd hj hd' (.inr hv) ho hd h
/-- a call that leaves what is said of the memory as it is -/
theorem rq_call {ι : Type} {f : FuncId} {xs : List Operand} {ats : Array TypeId} {ty : TypeId} {pos : String} {aft : Array Edge} {gd : Option (Nat × Bool)} {args : List Value} {ret : ι → Value} {B : ι → HP}
    (hw : Wants ops n D ⟨some d, .call { callee := .value (.func f), args := xs.toArray, argTypes := ats }, ty, pos, aft, gd⟩ ρ) (hd : Nat.blt d n = true) (hx : xs.map (ev ρ) = args) [hf : FnB P f] (hs : Spec P f args A ret B) (hr : ∀ i, ret i = v) (hB : ∀ i, Ent (B i) A)
    (h : RQ P ops Q n D W0 rest (upd ρ d v) A) : RQ P ops Q n D W0 (⟨some d, .call { callee := .value (.func f), args := xs.toArray, argTypes := ats }, ty, pos, aft, gd⟩ :: rest) ρ A := fun a ha =>
  wpQuiet_step fun K hK => by
    rw [if_pos (hw a ha)]
    refine ⟨v, fun w s => ?_, hK _ (h _ (ha.put hd v))⟩
    show Oper.quietUpon P _ w v ((execOp a.eval _).run P w)
    rw [execOp_call_go, ha.eval]
    have e : #[] ++ xs.toArray.map (ev ρ) ++ #[] = args.toArray := by rw [← hx]; simp
    rw [e, hf.enter]
    exact ⟨rfl, (hs W0 w s).mono fun e w' ⟨i, he, s'⟩ => ⟨by rw [he, hr i], s'.ent (hB i)⟩⟩
theorem lite_wpQuiet {Q' : Act → Prop} {ops : Array Oper} : ∀ (l : List Oper) (a : Act), wpQuiet P (ops.map lite) C Q' (l.map lite) a → wpQuiet P ops C Q' l a := by
  have hy : ∀ (t : Array Value), yielded (ops.map lite) t = yielded ops t := fun t => by
    funext j
    simp only [yielded, Array.getElem?_map]
    cases ops[j]? <;> rfl
  intro l
  induction l with
  | nil => intro a h; exact h
  | cons o l ih =>
    intro a h
    simp only [List.map_cons, wpQuiet, hy] at h ⊢
    have hg : Region.wanted (lite o) (yielded ops a.tmps) = Region.wanted o (yielded ops a.tmps) := rfl
    rw [hg] at h
    by_cases hw : Region.wanted o (yielded ops a.tmps) = true
    · rw [if_pos hw] at h ⊢
      obtain ⟨v, h1, h2⟩ := h
      exact ⟨v, h1, ih _ h2⟩
    · rw [if_neg hw] at h ⊢
      exact ih _ h
theorem ct_quiet {id : Nat} {l l' : List Oper} [hm : Mixed P] (hB : Region.lexB .any l.toArray = true) (hl : l.map lite = l') (h : RQ P l'.toArray Q n D W0 l' ρ A) : CT P (.region id l.toArray true) Q n D W0 ρ A := fun a w ha s => by
  subst hl
  refine wp_region_quiet (C := fun w => Sat W0 w A) hm.eq hB s.drew ?_
  have := lite_wpQuiet (P := P) (ops := l.toArray) l a (by simpa using h a ha)
  simpa using this

/-! ### any order, some operations turning the memory -/
/-- ('C' need no longer hold behind operation 'e') -/
def wpAnyC (P : Program) (md : Region.Mode) (ops : Array Oper) (e : Nat) (C : World → Prop) (Q : Exit → Act → World → Prop) : Nat → Array Bool → Act → World → Prop
  | 0, listed, a, w => Region.ready md ops listed = [] ∧ Q .normal a w
  | fuel + 1, listed, a, w =>
    (Region.ready md ops listed = [] → Q .normal a w) ∧
    ∀ i ∈ Region.ready md ops listed, wpOp P ops Q i (fun a' w' => ((listed.setIfInBounds i true).getD e false = true ∨ C w') ∧ wpAnyC P md ops e C Q fuel (listed.setIfInBounds i true) a' w') a w
theorem wpAny_of_C {e : Nat} : ∀ (fuel : Nat) (listed : Array Bool) (a : Act) (w : World), wpAnyC P md ops e C Q fuel listed a w → wpAny P md ops Q fuel listed a w
  | 0, _, _, _, h => h
  | fuel + 1, _, _, _, h => ⟨h.1, fun i hi => wpOp_mono (fun a' w' k => wpAny_of_C fuel _ a' w' k.2) (h.2 i hi)⟩

/-- in every world of the class the operation gives v and leaves the world -/
def YieldsC (P : Program) (ops : Array Oper) (C : World → Prop) (o : Oper) (v : Value) (a : Act) : Prop :=
  (Region.wanted o (yielded ops a.tmps) = true ∧ ∀ w, C w → (execOp a.eval o).run P w = .ok (.value v) w) ∨ (Region.wanted o (yielded ops a.tmps) = false ∧ v = undef)
theorem YieldsC.of_same {a a' : Act} (hy : YieldsC P ops C o v a) (he : execOp a'.eval o = execOp a.eval o) (hw : Region.wanted o (yielded ops a'.tmps) = Region.wanted o (yielded ops a.tmps)) : YieldsC P ops C o v a' := by
  unfold YieldsC at *; rw [he, hw]; exact hy
theorem YieldsC.wpOp {i : Nat} {a : Act} {w : World} (hi : ops[i]? = some o) (hy : YieldsC P ops C o v a) (hC : C w) {K : Act → World → Prop} (h : K (a.put o.dst v) w) : wpOp P ops Q i K a w := by
  unfold Go.wpOp
  simp only [hi]
  rcases hy with ⟨hw, hv⟩ | ⟨hw, rfl⟩
  · simp only [hw, if_true]; left; unfold Oper.wp; rw [hv w hC]; exact h
  · simp only [hw, Bool.false_eq_true, if_false]; exact h
theorem wpOpC_put {j : Nat} {oi oj : Oper} {v : Value} (hj : ops[j]? = some oj) (hap : oi.apart ops oj = true)
    (hsi : ∀ cs b, oi.op ≠ .select cs b) (hsj : ∀ cs b, oj.op ≠ .select cs b)
    (hQ : ∀ c a w, Q (.panic c) (a.put oi.dst v) w → Q (.panic c) a w) {K : Act → World → Prop} {a : Act} {w : World}
    (hy : YieldsC P ops C oi v a) (h : wpOp P ops Q j K (a.put oi.dst v) w) :
    wpOp P ops Q j (fun a' w' => YieldsC P ops C oi v a' ∧ K (a'.put oi.dst v) w') a w := by
  obtain ⟨h1, h2, h3⟩ := Oper.apart_spec hap
  have keep : ∀ (a : Act), YieldsC P ops C oi v a → ∀ u, YieldsC P ops C oi v (a.put oj.dst u) := fun a hy u =>
    hy.of_same (execOp_put oi hsi a oj.dst u h3) (wanted_put oi a oj.dst u h3)
  have keepD : ∀ d, YieldsC P ops C oi v { a with defers := d :: a.defers } := fun d => hy.of_same rfl rfl
  unfold wpOp at *
  simp only [hj] at *
  rw [wanted_put oj a oi.dst v h1] at h
  split
  · rename_i hw
    simp only [hw, if_true] at h
    rcases h with h | ⟨hasks, hlets⟩
    case inr => exact .inr ⟨by unfold Oper.asks at *; rw [execOp_put oj hsj a oi.dst v h1] at hasks; exact hasks, hlets⟩
    refine .inl ?_
    unfold Oper.wp at *
    rw [execOp_put oj hsj a oi.dst v h1] at h
    generalize (execOp a.eval oj).run P w = r at *
    cases r with
    | ok n w' =>
      cases n <;> simp only [Oper.upon] at h ⊢
      case value u => exact ⟨keep a hy u, by rw [← Act.put_comm a v u h2]; exact h⟩
      case skip => exact ⟨keep a hy _, by rw [← Act.put_comm a v undef h2]; exact h⟩
      case defer d =>
        refine ⟨keep _ (keepD d) _, ?_⟩
        rw [← Act.put_comm _ v undef h2, ← Act.put_defers]
        exact h
      case enter f args =>
        refine Calls.mono h fun e w'' he => ?_
        cases e with
        | returned u => exact ⟨keep a hy u, by rw [← Act.put_comm a v u h2]; exact he⟩
        | panicked c => exact hQ _ _ _ he
        | outgrown => exact he
      case row row args => exact Rows.mono h fun u w'' he => ⟨keep a hy u, by rw [← Act.put_comm a v u h2]; exact he⟩
    | halt x w' =>
      cases x <;> simp only [Oper.upon] at h ⊢
      case panic u => exact hQ _ _ _ h
  · rename_i hw
    simp only [hw] at h
    exact ⟨keep a hy _, by rw [← Act.put_comm a v undef h2]; exact h⟩
def waitsB (md : Region.Mode) (ops : Array Oper) (e i : Nat) : Bool := Nat.ble ops.size e || (match ops[e]? with | some oe => oe.after.any fun x => Region.binds md x && x.on == i | none => true)
theorem waits_ne {e i j : Nat} {listed : Array Bool} (hw : waitsB md ops e i = true) (hi : listed.getD i true = false) (hj : j ∈ Region.ready md ops listed) : j ≠ e := fun hje => by
  subst hje
  obtain ⟨_, oj, hoj, hall⟩ := mem_ready.1 hj
  have hlt := (Array.getElem?_eq_some_iff.1 hoj).1
  have h1 : Nat.ble ops.size j = false := by
    cases h : Nat.ble ops.size j with
    | false => rfl
    | true => have := Nat.le_of_ble_eq_true h; omega
  simp only [waitsB, h1, Bool.false_or, hoj] at hw
  obtain ⟨x, hx, hb⟩ := Array.any_eq_true'.1 hw
  simp only [Bool.and_eq_true, beq_iff_eq] at hb
  have h2 := hall x hx hb.1
  rw [hb.2] at h2
  rcases Nat.lt_or_ge i listed.size with h' | h'
  · simp [h'] at hi h2; rw [hi] at h2; cases h2
  · simp [Array.getElem?_eq_none h'] at h2
theorem wpAnyC_first {e i : Nat} {oi : Oper} {v : Value} (hi : ops[i]? = some oi) (hsel : ∀ (j : Nat) (o : Oper) cs b, ops[j]? = some o → o.op ≠ .select cs b)
    (hQ : ∀ c a w, Q (.panic c) (a.put oi.dst v) w → Q (.panic c) a w) (hwait : waitsB md ops e i = true) (hei : i ≠ e) :
    ∀ (fuel : Nat) (listed : Array Bool) (a : Act) (w : World), listed.getD e false = false → C w →
      (∀ j oj, ops[j]? = some oj → j ≠ i → listed.getD j true = false → (∀ e ∈ oj.after, Region.binds md e = true → e.on ≠ i) → oi.apart ops oj = true) →
      i ∈ Region.ready md ops listed → YieldsC P ops C oi v a →
      wpAnyC P md ops e C Q fuel (listed.setIfInBounds i true) (a.put oi.dst v) w → wpAnyC P md ops e C Q (fuel + 1) listed a w := by
  intro fuel
  induction fuel with
  | zero =>
    intro listed a w he hC _ hr hy H
    refine ⟨fun h => (by rw [h] at hr; cases hr), fun j hj => ?_⟩
    by_cases hji : j = i
    · subst hji; exact hy.wpOp hi hC ⟨.inr hC, H⟩
    · have := ready_mono hj hji
      rw [H.1] at this
      cases this
  | succ fuel ih =>
    intro listed a w he hC hfree hr hy H
    refine ⟨fun h => (by rw [h] at hr; cases hr), fun j hj => ?_⟩
    by_cases hji : j = i
    · subst hji; exact hy.wpOp hi hC ⟨.inr hC, H⟩
    · have h1 := H.2 j (ready_mono hj hji)
      obtain ⟨hjun, oj, hoj, hall⟩ := mem_ready.1 hj
      have hje := waits_ne hwait (mem_ready.1 hr).1 hj
      have he' : (listed.setIfInBounds j true).getD e false = false := by rw [getD_set_ne false hje]; exact he
      have he2 : ((listed.setIfInBounds i true).setIfInBounds j true).getD e false = false := by
        rw [getD_set_ne false hje, getD_set_ne false hei]; exact he
      have hnot : ∀ e ∈ oj.after, Region.binds md e = true → e.on ≠ i := fun e he hb heq => by
        have h1 := hall e he hb
        have h0 := (mem_ready.1 hr).1
        rw [heq] at h1
        rcases Nat.lt_or_ge i listed.size with h' | h'
        · simp [h'] at h0 h1; rw [h0] at h1; cases h1
        · simp [Array.getElem?_eq_none h'] at h1
      have h2 := wpOpC_put hoj (hfree j oj hoj hji hjun hnot) (fun cs b => hsel i oi cs b hi) (fun cs b => hsel j oj cs b hoj) hQ hy h1
      have hfree' : ∀ k ok, ops[k]? = some ok → k ≠ i → (listed.setIfInBounds j true).getD k true = false →
          (∀ e ∈ ok.after, Region.binds md e = true → e.on ≠ i) → oi.apart ops ok = true := fun k ok hk hki hun hno => by
        refine hfree k ok hk hki ?_ hno
        by_cases hjk : j = k
        · subst hjk; exact hjun
        · rw [getD_set_ne true hjk] at hun; exact hun
      refine wpOp_mono (fun a' w' h3 => ?_) h2
      have hC' : C w' := h3.2.1.resolve_left (by rw [he2]; decide)
      refine ⟨.inr hC', ih (listed.setIfInBounds j true) a' w' he' hC' hfree' (ready_mono hr (Ne.symm hji)) h3.1 ?_⟩
      rw [Array.setIfInBounds_comm _ _ hji]
      exact h3.2.2

/-- a post that does not look at the slots where it speaks of a panic -/
class PanicOK (Q : Exit → Act → World → Prop) : Prop where
  ok : ∀ c a d v w, Q (.panic c) (Act.put a d v) w → Q (.panic c) a w
instance {ι : Type} {fn : Func} {ret : ι → Value} {B : ι → HP} : PanicOK (Post P fn W0 ret B) := ⟨fun c a d v w h => by cases d <;> exact h⟩
instance {K : Act → World → Prop} [h : PanicOK Q] : PanicOK (Exit.then K Q) := ⟨fun c a d v w k => h.ok c a d v w k⟩
instance {id : Nat} [h : PanicOK Q] : PanicOK (Exit.inBlock id Q) := ⟨fun c a d v w k => h.ok c a d v w k⟩

/-- whatever order is taken from here on; the operations that are not taken yet read of R alone -/
def AnyT (P : Program) (ops : Array Oper) (Q : Exit → Act → World → Prop) (n : Nat) (D : List Deferred) (W0 : World) (R : HP) (e : Nat) (fuel : Nat) (listed : Array Bool) (ρ : Env) (A : HP) : Prop :=
  ∀ a w, At n D ρ a → Sat W0 w A → wpAnyC P .any ops e (fun w => Sat W0 w R) Q fuel listed a w

theorem any_done {l : List Oper} {e : Nat} {listed : Array Bool} (hr : Region.ready .any l.toArray listed = []) (h : QT Q .normal n D W0 ρ A) : AnyT P l.toArray Q n D W0 R e 0 listed ρ A := fun a w ha s => ⟨hr, h a w ha s⟩
theorem any_take {l : List Oper} {e fuel : Nat} {listed : Array Bool} (k : Nat) (hk : l[k]? = some o) [hQ : PanicOK Q] (hB : (Region.noSelect l.toArray && Region.free .any l.toArray listed k && (Region.ready .any l.toArray listed).contains k && waitsB .any l.toArray e k && !(listed.getD e false) && !(Nat.beq k e)) = true) (hA : Ent A R)
    (hw : Wants l.toArray n D o ρ) (hg : Gives P o ρ R v) (ho : o.dst = some d) (hd : Nat.blt d n = true) (h : AnyT P l.toArray Q n D W0 R e fuel (listed.setIfInBounds k true) (upd ρ d v) A) : AnyT P l.toArray Q n D W0 R e (fuel + 1) listed ρ A := fun a w ha s => by
  simp only [Bool.and_eq_true, Bool.not_eq_true'] at hB
  obtain ⟨⟨⟨⟨⟨b1, b2⟩, b3⟩, b4⟩, b5⟩, b6⟩ := hB
  refine wpAnyC_first (by simpa using hk) (Region.noSelect_spec b1) (fun c a w => hQ.ok c a _ v w) b4 (fun x => by subst x; simp at b6) fuel listed a w b5 (s.ent hA) (Region.free_spec (by simpa using hk) b2) (by simpa using b3) (.inl ⟨hw a ha, fun w' s' => by rw [ha.eval]; exact hg W0 w' s'⟩) ?_
  rw [ho]
  exact h _ w (ha.put hd v) s
theorem any_skip {l : List Oper} {e fuel : Nat} {listed : Array Bool} (k : Nat) {j g : Nat} {b : Bool} (hk : l[k]? = some o) [hQ : PanicOK Q] (hB : (Region.noSelect l.toArray && Region.free .any l.toArray listed k && (Region.ready .any l.toArray listed).contains k && waitsB .any l.toArray e k && !(listed.getD e false) && !(Nat.beq k e)) = true) (hA : Ent A R)
    (hgd : o.guard = some (j, b)) (hj : (l.toArray[j]?).bind (·.dst) = some g) (he : Nat.blt g n = true) (hv : ρ g = .bool (!b) ∨ ρ g = undef) (ho : o.dst = some d) (hd : Nat.blt d n = true) (h : AnyT P l.toArray Q n D W0 R e fuel (listed.setIfInBounds k true) (upd ρ d undef) A) : AnyT P l.toArray Q n D W0 R e (fuel + 1) listed ρ A := fun a w ha s => by
  simp only [Bool.and_eq_true, Bool.not_eq_true'] at hB
  obtain ⟨⟨⟨⟨⟨b1, b2⟩, b3⟩, b4⟩, b5⟩, b6⟩ := hB
  refine wpAnyC_first (by simpa using hk) (Region.noSelect_spec b1) (fun c a w => hQ.ok c a _ undef w) b4 (fun x => by subst x; simp at b6) fuel listed a w b5 (s.ent hA) (Region.free_spec (by simpa using hk) b2) (by simpa using b3) (.inr ⟨wants_not hgd hj he hv ha, rfl⟩) ?_
  rw [ho]
  exact h _ w (ha.put hd undef) s
/-- what one operation among those that are ready must come to -/
def AnyOp (P : Program) (l : List Oper) (Q : Exit → Act → World → Prop) (n : Nat) (D : List Deferred) (W0 : World) (R : HP) (e : Nat) (fuel : Nat) (listed : Array Bool) (ρ : Env) (A : HP) (k : Nat) : Prop :=
  ∃ o, l[k]? = some o ∧ Wants l.toArray n D o ρ ∧ OT P Q n D W0 o ρ A fun ρ' A' => ((listed.setIfInBounds k true).getD e false = true ∨ Ent A' R) ∧ AnyT P l.toArray Q n D W0 R e fuel (listed.setIfInBounds k true) ρ' A'
theorem any_ops {l : List Oper} {e fuel : Nat} {listed : Array Bool} {rs : List Nat} (hr : Region.ready .any l.toArray listed = rs) (hne : rs.isEmpty = false) (h : ∀ k ∈ rs, AnyOp P l Q n D W0 R e fuel listed ρ A k) : AnyT P l.toArray Q n D W0 R e (fuel + 1) listed ρ A := fun a w ha s => by
  subst hr
  refine ⟨fun h0 => (by rw [h0] at hne; cases hne), fun i hi => ?_⟩
  obtain ⟨o, ho, hw, hot⟩ := h i hi
  unfold wpOp
  have ho' : l.toArray[i]? = some o := by simpa using ho
  simp only [ho', hw a ha, if_true]
  exact .inl (hot a w ha s _ fun ρ' A' a' w' k ha' s' => ⟨k.1.imp id s'.ent, k.2 a' w' ha' s'⟩)
theorem any_one {l : List Oper} {e fuel : Nat} {listed : Array Bool} (k : Nat) (hr : Region.ready .any l.toArray listed = [k]) (hk : l[k]? = some o) (hw : Wants l.toArray n D o ρ)
    (h : OT P Q n D W0 o ρ A fun ρ' A' => ((listed.setIfInBounds k true).getD e false = true ∨ Ent A' R) ∧ AnyT P l.toArray Q n D W0 R e fuel (listed.setIfInBounds k true) ρ' A') : AnyT P l.toArray Q n D W0 R e (fuel + 1) listed ρ A :=
  any_ops hr rfl fun k' hk' => by
    rw [List.mem_singleton] at hk'
    subst hk'
    exact ⟨o, hk, hw, h⟩
theorem any_two {l : List Oper} {e fuel : Nat} {listed : Array Bool} (k j : Nat) (hr : Region.ready .any l.toArray listed = [k, j]) (h1 : AnyOp P l Q n D W0 R e fuel listed ρ A k) (h2 : AnyOp P l Q n D W0 R e fuel listed ρ A j) : AnyT P l.toArray Q n D W0 R e (fuel + 1) listed ρ A :=
  any_ops hr rfl fun k' hk' => by
    rcases List.mem_cons.1 hk' with rfl | hk'
    · exact h1
    · rw [List.mem_singleton] at hk'; subst hk'; exact h2
theorem wpAnyC_mono {e : Nat} {C' : World → Prop} (h : ∀ w, C' w → C w) : ∀ (fuel : Nat) (listed : Array Bool) (a : Act) (w : World), wpAnyC P md ops e C' Q fuel listed a w → wpAnyC P md ops e C Q fuel listed a w
  | 0, _, _, _, k => k
  | fuel + 1, _, _, _, k => ⟨k.1, fun i hi => wpOp_mono (fun a' w' k => ⟨k.1.imp id (h w'), wpAnyC_mono h fuel _ a' w' k.2⟩) (k.2 i hi)⟩
/-- from here on more is read -/
theorem any_more {l : List Oper} {e fuel : Nat} {listed : Array Bool} (R' : HP) (hR : Ent R' R) (h : AnyT P l.toArray Q n D W0 R' e fuel listed ρ A) : AnyT P l.toArray Q n D W0 R e fuel listed ρ A := fun a w ha s =>
  wpAnyC_mono (fun _ s => s.ent hR) fuel listed a w (h a w ha s)
theorem ct_any {id : Nat} {l : List Oper} [hm : Mixed P] (R : HP) (e : Nat) (h : AnyT P l.toArray Q n D W0 R e l.length (Array.replicate l.length false) ρ A) : CT P (.region id l.toArray true) Q n D W0 ρ A := fun a w ha s => by
  refine wp_region_any hm.eq (wpAny_of_C (e := e) (C := fun w => Sat W0 w R) _ _ _ _ ?_)
  have := h a _ ha s.drew
  simpa using this
end
end Go.Proofs.Ytijplicijmpknaa
