/- Panics; function values; maps. Any program. -/
import Derived.Test.YtijplicijmpknaaStars
import Derived.Recover
import Derived.MapKept
namespace Go.Proofs.Ytijplicijmpknaa
open Go.RowKit

/-! ### panics -/
abbrev panicked1 (v : Value) : List PanicEntry := [{ v := v, recovered := false }]
/-- a call that panics -/
def SpecP (P : Program) {ι : Type} (f : FuncId) (args : List Value) (A : HP) (v : ι → Value) (B : ι → HP) : Prop :=
  ∀ W0 w, Sat W0 w A → Calls P f args.toArray w fun e w' => ∃ i, e = .panicked (panicked1 (v i)) ∧ Sat W0 w' (B i)
def PostP {ι : Type} (P : Program) (fn : Func) (W0 : World) (v : ι → Value) (B : ι → HP) : Exit → Act → World → Prop :=
  bodyPost P fn fun e w' => ∃ i, e = .panicked (panicked1 (v i)) ∧ Sat W0 w' (B i)
section
variable {P : Program} {ops : Array Oper} {Q : Exit → Act → World → Prop} {n : Nat} {D : List Deferred} {W0 : World} {rest : List Oper} {ρ : Env} {A B R : HP}
variable {K : Env → HP → Prop} {d : Nat} {dst : Option Tmp} {ty : TypeId} {pos : String} {aft : Array Edge} {gd : Option (Nat × Bool)}
theorem specP_of {ι : Type} {f : FuncId} {fn : Func} {c : Code} {args : List Value} {v : ι → Value} {B : ι → HP} (hf : P.funcs[f]? = some fn) (hb : fn.body = some c) (hn : fn.ntmps = n) (hl : Nat.ble args.length n = true)
    (h : ∀ W0, CT P c (PostP P fn W0 v B) n [] W0 (updl (argl args 0) env0) A) : SpecP P f args A v B := fun W0 w s =>
  calls_of_wp hf hb (h W0 _ w (by rw [hn]; exact at_enter (Nat.le_of_ble_eq_true hl)) s)
theorem q_panic {ι : Type} {fn : Func} {v : ι → Value} {B : ι → HP} {u : Value} (i : ι) (hv : u = v i) (hA : Ent A (B i)) : QT (PostP P fn W0 v B) (.panic (panicked1 u)) n [] W0 ρ A := fun a w ha s =>
  ⟨ha.defers, i, by rw [hv], s.ent hA⟩
theorem q_then_panic {K : Act → World → Prop} {ch : List PanicEntry} (h : QT Q (.panic ch) n D W0 ρ A) : QT (Exit.then K Q) (.panic ch) n D W0 ρ A := h
theorem q_block_panic {id : Nat} {ch : List PanicEntry} (h : QT Q (.panic ch) n D W0 ρ A) : QT (Exit.inBlock id Q) (.panic ch) n D W0 ρ A := h
/-- 'panic(x)' -/
theorem o_panic {x : Operand} {T : TypeId} {v : Value} (hx : ev ρ x = .iface T v) (h : QT Q (.panic (panicked1 (.iface T v))) n D W0 ρ A) : OT P Q n D W0 ⟨dst, .panic x, ty, pos, aft, gd⟩ ρ A K := fun a w ha s K' hK => by
  unfold Oper.wp
  have e : (execOp a.eval ⟨dst, .panic x, ty, pos, aft, gd⟩).run P w = .halt (.panic (.iface T v)) w := by
    rw [ha.eval]
    show ((do pure (.value (← Instr.panic (ev ρ x))) : Sem Next)).run P w = _
    rw [hx]; rfl
  rw [e, Oper.upon_panic]
  exact h a w ha s
/-- a call of a function that panics -/
theorem o_callP {ι : Type} {dd : Option Nat} {f : FuncId} {xs : List Operand} {ats : Array TypeId} {args : List Value} {v : ι → Value} {B : ι → HP} {X : HP}
    (hx : xs.map (ev ρ) = args) [hf : FnB P f] (he : Ent A X) (hs : SpecP P f args X v B) (h : ∀ i, QT Q (.panic (panicked1 (v i))) n D W0 ρ (B i)) :
    OT P Q n D W0 ⟨dd, .call { callee := .value (.func f), args := xs.toArray, argTypes := ats }, ty, pos, aft, gd⟩ ρ A K := fun a w ha s K' hK => by
  unfold Oper.wp
  have e : (execOp a.eval ⟨dd, .call { callee := .value (.func f), args := xs.toArray, argTypes := ats }, ty, pos, aft, gd⟩) = callFunc f args.toArray := by
    rw [execOp_call_go, ha.eval, ← hx]; simp
  rw [e, hf.enter, Oper.upon_enter]
  refine (hs W0 w (s.ent he)).mono fun e w' ⟨i, he, s'⟩ => ?_
  subst he
  exact h i a w' ha s'
/-! ### calls of function values -/
theorem g_func {fn : Fn} {cs : List Operand} {cv : List Value} (hc : cs.map (ev ρ) = cv) : Gives P ⟨dst, .makeFunc fn #[] cs.toArray, ty, pos, aft, gd⟩ ρ A (.func fn #[] cv.toArray) := fun _ w _ => by
  subst hc
  simp [execOp, Instr.makeFunc]
theorem exec_callV {P : Program} {dd : Option Nat} {ρ : Env} {c : Operand} {f : FuncId} {cap : Array Value} {xs : List Operand} {ats : Array TypeId} {args : List Value} (hc : ev ρ c = .func (.func f) #[] cap) (hx : xs.map (ev ρ) = args) (w : World) :
    (execOp (ev ρ) ⟨dd, .call { callee := .value c, args := xs.toArray, argTypes := ats }, ty, pos, aft, gd⟩).run P w = (callFunc f (args ++ cap.toList).toArray).run P w := by
  show ((do let d ← Deferred.ofValue (ev ρ c) (xs.toArray.map (ev ρ)); invoke d.target d.args : Sem Next)).run P w = _
  rw [hc, ← hx]
  simp [Deferred.ofValue, invoke]
  congr 2
  apply Array.ext'
  simp
theorem o_callV {ι : Type} {f : FuncId} {c : Operand} {cap : Array Value} {xs : List Operand} {ats : Array TypeId} {args all : List Value} {ret : ι → Value} {B : ι → HP} {X : HP}
    (hd : Nat.blt d n = true) (hc : ev ρ c = .func (.func f) #[] cap) (hx : xs.map (ev ρ) = args) (hall : args ++ cap.toList = all) [hf : FnB P f] (he : Ent A X) (hs : Spec P f all X ret B) (h : ∀ i, K (upd ρ d (ret i)) (B i)) :
    OT P Q n D W0 ⟨some d, .call { callee := .value c, args := xs.toArray, argTypes := ats }, ty, pos, aft, gd⟩ ρ A K := fun a w ha s K' hK => by
  unfold Oper.wp
  rw [ha.eval, exec_callV hc hx, hall, hf.enter, Oper.upon_enter]
  refine (hs W0 w (s.ent he)).mono fun e w' ⟨i, he, s'⟩ => ?_
  subst he
  exact hK _ _ _ w' (h i) (ha.put hd _) s'
theorem o_callVP {ι : Type} {dd : Option Nat} {f : FuncId} {c : Operand} {cap : Array Value} {xs : List Operand} {ats : Array TypeId} {args all : List Value} {v : ι → Value} {B : ι → HP} {X : HP}
    (hc : ev ρ c = .func (.func f) #[] cap) (hx : xs.map (ev ρ) = args) (hall : args ++ cap.toList = all) [hf : FnB P f] (he : Ent A X) (hs : SpecP P f all X v B) (h : ∀ i, QT Q (.panic (panicked1 (v i))) n D W0 ρ (B i)) :
    OT P Q n D W0 ⟨dd, .call { callee := .value c, args := xs.toArray, argTypes := ats }, ty, pos, aft, gd⟩ ρ A K := fun a w ha s K' hK => by
  unfold Oper.wp
  rw [ha.eval, exec_callV hc hx, hall, hf.enter, Oper.upon_enter]
  refine (hs W0 w (s.ent he)).mono fun e w' ⟨i, he, s'⟩ => ?_
  subst he
  exact h i a w' ha s'
/-- the same in a drawn region that is quiet -/
theorem rq_callV {ι : Type} {f : FuncId} {c : Operand} {cap : Array Value} {xs : List Operand} {ats : Array TypeId} {args all : List Value} {ret : ι → Value} {B : ι → HP} {v : Value} {ops : Array Oper} {rest : List Oper}
    (hw : Wants ops n D ⟨some d, .call { callee := .value c, args := xs.toArray, argTypes := ats }, ty, pos, aft, gd⟩ ρ) (hd : Nat.blt d n = true) (hc : ev ρ c = .func (.func f) #[] cap) (hx : xs.map (ev ρ) = args) (hall : args ++ cap.toList = all) [hf : FnB P f] (hs : Spec P f all A ret B) (hv : ∀ i, ret i = v) (hB : ∀ i, Ent (B i) A) (h : RQ P ops Q n D W0 rest (upd ρ d v) A) :
    RQ P ops Q n D W0 (⟨some d, .call { callee := .value c, args := xs.toArray, argTypes := ats }, ty, pos, aft, gd⟩ :: rest) ρ A := fun a ha =>
  wpQuiet_step fun K hK => by
    rw [if_pos (hw a ha)]
    refine ⟨v, fun w s => ?_, hK _ (h _ (ha.put hd v))⟩
    show Oper.quietUpon P _ w v ((execOp a.eval _).run P w)
    rw [ha.eval, exec_callV hc hx, hall, hf.enter]
    exact ⟨rfl, (hs W0 w s).mono fun e w' ⟨i, he, s'⟩ => ⟨by rw [he, hv i], s'.ent (hB i)⟩⟩
end
end Go.Proofs.Ytijplicijmpknaa
