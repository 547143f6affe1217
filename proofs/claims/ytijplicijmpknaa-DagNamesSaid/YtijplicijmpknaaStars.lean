/- A product over a list of pieces of memory. Any program. -/
import Derived.Test.YtijplicijmpknaaW
namespace Go.Proofs.Ytijplicijmpknaa
open Go.RowKit

def stars : List HP → HP
  | [] => emp
  | A :: l => A * stars l
/-- one piece taken out, and another put back in its place -/
theorem stars_pick : ∀ (l : List HP) (i : Nat) (A : HP), l[i]? = some A → Ent (stars l) (A * stars (l.eraseIdx i))
  | [], i, A, h => by simp at h
  | B :: l, 0, A, h => by simp at h; subst h; exact Ent.refl _
  | B :: l, i + 1, A, h => by
    have := stars_pick l i A (by simpa using h)
    show Ent (B * stars l) (A * (B * stars (l.eraseIdx i)))
    exact (Ent.mul (Ent.refl _) this).trans (ent_swap _ _ _)
theorem stars_put : ∀ (l : List HP) (i : Nat) (A : HP), i < l.length → Ent (A * stars (l.eraseIdx i)) (stars (l.set i A))
  | [], i, A, h => by simp at h
  | B :: l, 0, A, h => Ent.refl _
  | B :: l, i + 1, A, h => by
    show Ent (A * (B * stars (l.eraseIdx i))) (B * stars (l.set i A))
    exact (ent_swap _ _ _).trans (Ent.mul (Ent.refl _) (stars_put l i A (by simpa using h)))
theorem stars_snoc : ∀ (l : List HP) (A : HP), Ent (A * stars l) (stars (l ++ [A]))
  | [], A => Ent.refl _
  | B :: l, A => by
    show Ent (A * (B * stars l)) (B * stars (l ++ [A]))
    exact (ent_swap _ _ _).trans (Ent.mul (Ent.refl _) (stars_snoc l A))
theorem any_op {P : Program} {Q : Exit → Act → World → Prop} {n : Nat} {D : List Deferred} {W0 : World} {ρ : Env} {A R : HP} {l : List Oper} {o : Oper} {e fuel : Nat} {listed : Array Bool} {k : Nat} (ho : l[k]? = some o) (hw : Wants l.toArray n D o ρ) (h : OT P Q n D W0 o ρ A fun ρ' A' => ((listed.setIfInBounds k true).getD e false = true ∨ Ent A' R) ∧ AnyT P l.toArray Q n D W0 R e fuel (listed.setIfInBounds k true) ρ' A') : AnyOp P l Q n D W0 R e fuel listed ρ A k := by unfold AnyOp; exact ⟨o, ho, hw, h⟩
/-- a slice that is nil has no elements -/
theorem ct_rdnil {P : Program} {Q : Exit → Act → World → Prop} {n : Nat} {D : List Deferred} {W0 : World} {ρ : Env} {A : HP} {c : Code} {vs : List Value} (hr : Rd A none vs) (h : vs = [] → CT P c Q n D W0 ρ A) : CT P c Q n D W0 ρ A := fun a w ha s => h (hr.nil W0 w s rfl) a w ha s
/-- what a row's facts are, at an end -/
theorem qt_ar {Q : Exit → Act → World → Prop} {n : Nat} {D : List Deferred} {W0 : World} {ρ : Env} {A R : HP} {e : Exit} (ad : Option Addr) {E size cap m : Nat} {xs : List Value} [hf : FAr A ad E size cap m xs R] (h : xs.length = m * size → (ad = none → m = 0 ∧ cap = 0) → m ≤ cap → cap ≤ maxLen → QT Q e n D W0 ρ A) : QT Q e n D W0 ρ A := fun a w ha s => by
  have hf' : FArr A E size ad cap m xs R := ⟨hf.ent⟩
  obtain ⟨h1, h2, h3, h4⟩ := arr_fact (E := E) (size := size) ad cap s
  exact h h1 h2 h3 h4 a w ha s
end Go.Proofs.Ytijplicijmpknaa
