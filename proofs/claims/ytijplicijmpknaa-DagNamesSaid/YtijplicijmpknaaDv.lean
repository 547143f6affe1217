/- Vertices in memory, and the graph's pure state. -/
import Derived.Test.YtijplicijmpknaaMp
import Derived.Test.YtijplicijmpknaaTy
namespace Go.Proofs.Ytijplicijmpknaa
open Go.RowKit

/-! ### pure -/
structure V where
  id : Hs
  clock : Int
  par : List Hs
/-- a vertex with the place of its parents' row -/
structure Vx where
  v : V
  ad : Option Addr
  cap : Nat
def vx0 : Vx := ⟨⟨zeroH, 0, []⟩, none, 0⟩
def vcells (x : Vx) : List Value := hc x.v.id ++ [.int .i64 x.v.clock, .slice x.ad x.v.par.length x.cap]
theorem vcells_len (x : Vx) : (vcells x).length = 34 := by unfold vcells; rw [List.length_append, hc_len]; rfl
theorem vcells_one (x : Vx) : (vcells x).all Value.oneCell' = true := by unfold vcells; rw [List.all_append, hc_one]; rfl
theorem vcells_id (x : Vx) : (vcells x).take 32 = hc x.v.id := by unfold vcells; rw [List.take_append_of_le_length (by rw [hc_len]; exact Nat.le_refl _), List.take_of_length_le (by rw [hc_len]; exact Nat.le_refl _)]
theorem vcells_at (x : Vx) (j : Nat) : (vcells x)[32 + j]? = [Value.int .i64 x.v.clock, .slice x.ad x.v.par.length x.cap][j]? := by
  unfold vcells
  rw [List.getElem?_append_right (by rw [hc_len]; omega), hc_len]
  congr 1; omega
theorem vcells_set (x : Vx) (ad : Option Addr) (cap : Nat) : (vcells x).set 33 (.slice ad x.v.par.length cap) = vcells ⟨x.v, ad, cap⟩ := by
  unfold vcells
  rw [List.set_append_right _ _ (by rw [hc_len]; omega), hc_len]
  rfl
def vval (x : Vx) : Value := .agg (vcells x).toArray
def vent (x : Vx) : Hs × Value := (x.v.id, .agg (vcells x).toArray)
def hent (h : Hs) : Hs × Value := (h, .int .i64 1)

def hasS (l : List V) (h : Hs) : Bool := l.any fun v => decide (v.id = h)
def vget (l : List Vx) (h : Hs) : Vx := (l.find? fun x => decide (x.v.id = h)).getD vx0
theorem vget_map (l : List Vx) (h : Hs) : (vget l h).v = ((l.map Vx.v).find? fun v => decide (v.id = h)).getD vx0.v := by
  unfold vget
  rw [List.find?_map]
  cases e : l.find? ((fun v => decide (v.id = h)) ∘ Vx.v) with
  | none => rw [show l.find? (fun x => decide (x.v.id = h)) = none from e]; rfl
  | some x => rw [show l.find? (fun x => decide (x.v.id = h)) = some x from e]; rfl
theorem mget_vent (l : List Vx) (h : Hs) : mget (l.map vent) h = (l.find? fun x => decide (x.v.id = h)).map fun x => .agg (vcells x).toArray := by
  induction l with
  | nil => rfl
  | cons x l ih =>
    simp only [List.map_cons, vent, mget, List.find?_cons]
    by_cases hx : h = x.v.id
    · simp [hx]
    · rw [if_neg hx, decide_eq_false (Ne.symm hx)]; exact ih
theorem mget_vent_some (l : List Vx) (h : Hs) : (mget (l.map vent) h).isSome = hasS (l.map Vx.v) h := by
  rw [mget_vent, Option.isSome_map, Bool.eq_iff_iff]
  simp [hasS, List.find?_isSome]
theorem mput_vent {l : List Vx} {x : Vx} (hx : hasS (l.map Vx.v) x.v.id = false) : mput (l.map vent) x.v.id (.agg (vcells x).toArray) = (l ++ [x]).map vent := by
  rw [mput_new, List.map_append]; · rfl
  intro y hy
  obtain ⟨z, hz, rfl⟩ := List.mem_map.1 hy
  intro e
  have e : z.v.id = x.v.id := e
  have : hasS (l.map Vx.v) x.v.id = true := List.any_eq_true.2 ⟨z.v, List.mem_map_of_mem hz, by simp [e]⟩
  rw [hx] at this; cases this
theorem nodup_vent {l : List Vx} : (l.map vent).map (·.1) = (l.map Vx.v).map V.id := by rw [List.map_map, List.map_map]; rfl

/-! ### parts of a vertex that a variable holds -/
attribute [local irreducible] vcells
section
variable {P : Program} {ops : Array Oper} {Q : Exit → Act → World → Prop} {n : Nat} {D : List Deferred} {W0 : World} {rest : List Oper} {ρ : Env} {A B R : HP}
variable {K : Env → HP → Prop} {d : Nat} {dst : Option Tmp} {ty : TypeId} {pos : String} {aft : Array Edge} {gd : Option (Nat × Bool)}
theorem g_loadVid {x : Operand} {t p : Nat} {X : Vx} {T : TypeId} (hx : ev ρ x = .pointer (some ⟨p, 0, none⟩)) [h1 : TyA P t 32] [hb : FBlk A p (vcells X) T R] :
    Gives P ⟨dst, .load t x, ty, pos, aft, gd⟩ ρ A (.agg (hc X.v.id).toArray) := g_loadAgg_off hx (by rw [List.drop_zero]; exact vcells_id X) (hc_len _)
theorem g_loadVc {x : Operand} {t p : Nat} {X : Vx} {T : TypeId} (hx : ev ρ x = .pointer (some ⟨p, 32, none⟩)) [h1 : Ty1 P t] [hb : FBlk A p (vcells X) T R] :
    Gives P ⟨dst, .load t x, ty, pos, aft, gd⟩ ρ A (.int .i64 X.v.clock) := g_load hx (vcells_at X 0)
theorem g_loadVp {x : Operand} {t p : Nat} {X : Vx} {T : TypeId} (hx : ev ρ x = .pointer (some ⟨p, 33, none⟩)) [h1 : Ty1 P t] [hb : FBlk A p (vcells X) T R] :
    Gives P ⟨dst, .load t x, ty, pos, aft, gd⟩ ρ A (.slice X.ad X.v.par.length X.cap) := g_load hx (vcells_at X 1)
theorem o_storeVp {x y : Operand} {t p : Nat} {X : Vx} {T : TypeId} {ad : Option Addr} {cap : Nat} (hx : ev ρ x = .pointer (some ⟨p, 33, none⟩)) (hy : ev ρ y = .slice ad X.v.par.length cap) [h1 : Ty1 P t] [hb : FBlk A p (vcells X) T R]
    (h : K ρ (Blk p (vcells ⟨X.v, ad, cap⟩) T * R)) : OT P Q n D W0 ⟨none, .store t x y, ty, pos, aft, gd⟩ ρ A K := o_store hx hy rfl (by rw [vcells_len]; rfl) (vcells_set X ad cap) h
theorem g_lookV {x k : Operand} {T kt et size bytes p : Nat} {z : Value} {key : Hs} {l : List Vx} (hx : ev ρ x = .map (some p)) [hf : FMapK A p Hs hkey (l.map vent) R] [ht : TyU P T (.map kt et)] [hkt : KeyT P kt hkey] [he : TyI P et size bytes z] (hk : ev ρ k = hkey key) (hz : z = .agg (vcells vx0).toArray) :
    Gives P ⟨dst, .lookup T x k false, ty, pos, aft, gd⟩ ρ A (.agg (vcells (vget l key)).toArray) := g_look hx hk (by
  rw [mget_vent, hz, vget]
  cases l.find? fun x => decide (x.v.id = key) <;> rfl)
theorem g_lookVOk {x k : Operand} {T kt et size bytes p : Nat} {z : Value} {key : Hs} {l : List Vx} (hx : ev ρ x = .map (some p)) [hf : FMapK A p Hs hkey (l.map vent) R] [ht : TyU P T (.map kt et)] [hkt : KeyT P kt hkey] [he : TyI P et size bytes z] (hk : ev ρ k = hkey key) (hz : z = .agg (vcells vx0).toArray) :
    Gives P ⟨dst, .lookup T x k true, ty, pos, aft, gd⟩ ρ A (.tuple #[.agg (vcells (vget l key)).toArray, .bool (hasS (l.map Vx.v) key)]) := by
  have h := g_lookOk (P := P) (A := A) (ρ := ρ) (dst := dst) (ty := ty) (pos := pos) (aft := aft) (gd := gd) (T := T) (x := x) (k := k) (key := key) hx hk
  rw [mget_vent_some, mget_vent, hz] at h
  rw [vget]
  cases e : l.find? fun x => decide (x.v.id = key) <;> rw [e] at h <;> exact h
theorem g_fieldA {x : Operand} {T f off ft : Nat} {cs : List Value} {v : Value} (hx : ev ρ x = .agg cs.toArray) [h : TyF P T f off ft] [h1 : Ty1 P ft] (hv : cs[off]? = some v) : Gives P ⟨dst, .field T x f, ty, pos, aft, gd⟩ ρ A v := fun _ w _ => by
  obtain ⟨fs, fl, s, h2, h3, h4, h5, h6⟩ := h.eq
  subst h4 h5
  obtain ⟨dd, hd, hp⟩ := h1.plain
  have hag : (isAgg fl.type).run P w = .ok false w := by
    simp only [isAgg]
    rw [Sem.run_bind, run_underlying hd]
    simp only [Result.andThen_ok]
    cases dd <;> first | rfl | exact absurd rfl (hp _ 0 0).1 | exact absurd rfl (hp #[] _ _).2
  have hv' : cs[fl.offset]? = some v := hv
  simp [execOp, hx, Instr.field, run_underlying h2, h3, asAgg, part, hag, hv']
theorem g_fieldVc {x : Operand} {T f ft : Nat} {X : Vx} (hx : ev ρ x = .agg (vcells X).toArray) [h : TyF P T f 32 ft] [h1 : Ty1 P ft] : Gives P ⟨dst, .field T x f, ty, pos, aft, gd⟩ ρ A (.int .i64 X.v.clock) := g_fieldA hx (vcells_at X 0)
theorem g_fieldVp {x : Operand} {T f ft : Nat} {X : Vx} (hx : ev ρ x = .agg (vcells X).toArray) [h : TyF P T f 33 ft] [h1 : Ty1 P ft] : Gives P ⟨dst, .field T x f, ty, pos, aft, gd⟩ ρ A (.slice X.ad X.v.par.length X.cap) := g_fieldA hx (vcells_at X 1)
end
instance : KeyT Try.prog 32 hkey := keyT_hash
end Go.Proofs.Ytijplicijmpknaa
