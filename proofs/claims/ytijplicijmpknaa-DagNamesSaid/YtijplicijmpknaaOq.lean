/- More operations: new blocks, cut slices, appends, comparisons with nil. Any program. -/
import Derived.Test.YtijplicijmpknaaArr
import Derived.Laws.BytesArg
namespace Go.Proofs.Ytijplicijmpknaa
open Go.RowKit

section
variable {P : Program} {ops : Array Oper} {Q : Exit → Act → World → Prop} {n : Nat} {D : List Deferred} {W0 : World} {rest : List Oper} {ρ : Env} {A B R : HP}
variable {K : Env → HP → Prop} {d : Nat} {dst : Option Tmp} {ty : TypeId} {pos : String} {aft : Array Edge} {gd : Option (Nat × Bool)}

theorem run_newRow {E : TypeId} {cs : Array Value} {w : World} : (newRow E cs).run P w = .ok ⟨w.heap.size, 0, none⟩ (w.alloc (.cells cs E)) := rfl
theorem tyI_parts {t size bytes : Nat} {z : Value} (h : TyI P t size bytes z) : ∃ i, P.info? t = some i ∧ i.zero = some z ∧ i.size = size ∧ i.bytes = bytes := by
  obtain ⟨i, hi, hie⟩ := Option.map_eq_some_iff.1 h.eq
  exact ⟨i, hi, by simpa using hie⟩

/-- 'new', a variable whose address is taken -/
theorem o_alloc {E size bytes : Nat} {z : Value} (hd : Nat.blt d n = true) [he : TyI P E size bytes z]
    {zc : List Value} (hz : z.cells.toList = zc) (h : ∀ b, K (upd ρ d (.pointer (some ⟨b, 0, none⟩))) (Blk b zc E * A)) : OT P Q n D W0 ⟨some d, .alloc E, ty, pos, aft, gd⟩ ρ A K :=
  o_run rfl hd fun w s => by
    obtain ⟨i, hi, hz', _, _⟩ := tyI_parts he
    refine ⟨_, _, w.alloc (.cells z.cells E), ?_, hz ▸ s.alloc z.cells E, h w.heap.size⟩
    simp [execOp, Instr.alloc, zeroValue, typeInfo, hi, hz', newVar, run_newRow]
theorem o_box {E : Nat} {x : Operand} {v : Value} (hd : Nat.blt d n = true) (hx : ev ρ x = v) {vc : List Value} (hc : v.cells.toList = vc)
    (h : ∀ b, K (upd ρ d (.pointer (some ⟨b, 0, none⟩))) (Blk b vc E * A)) : OT P Q n D W0 ⟨some d, .box E x, ty, pos, aft, gd⟩ ρ A K :=
  o_run rfl hd fun w s => by
    refine ⟨_, _, w.alloc (.cells v.cells E), ?_, hc ▸ s.alloc v.cells E, h w.heap.size⟩
    simp [execOp, Instr.box, hx, newVar, run_newRow]
/-- '[]T{v}': the one new element of an append -/
theorem o_build1 {T E size bytes : Nat} {z : Value} {x : Operand} {v : Value} (hd : Nat.blt d n = true) [ht : TyU P T (.slice E)] [he : TyI P E size bytes z]
    (hx : ev ρ x = v) (hv : v.cells.size = size) (h0 : Nat.blt 0 size = true) (hs : Nat.ble size 65536 = true) {vc : List Value} (hc : v.cells.toList = vc)
    (h : ∀ b, K (upd ρ d (.slice (some ⟨b, 0, none⟩) 1 1)) (Blk b vc E * A)) : OT P Q n D W0 ⟨some d, .buildSlice T 1 #[(0, x)], ty, pos, aft, gd⟩ ρ A K :=
  o_run rfl hd fun w s => by
    obtain ⟨i, hi, hz, hsz, _⟩ := tyI_parts he
    refine ⟨_, _, w.alloc (.cells v.cells E), ?_, hc ▸ s.alloc v.cells E, h w.heap.size⟩
    have hfill : ∀ (cs : Array Value), cs.size = size → Instr.fill (fun i => some (i * size, size)) cs [(0, v)] = some v.cells := fun cs hcs => by
      have hne : ¬ (v.cells.size ≠ size ∨ 0 * size + v.cells.size > cs.size) := by omega
      simp only [Instr.fill]
      simp only [hv, hcs, Nat.zero_mul, Nat.zero_add]
      simp only [ne_eq, not_true_eq_false, decide_false, gt_iff_lt, Nat.lt_irrefl, Bool.or_self, Bool.false_eq_true, if_false, Option.some.injEq]
      have key : ∀ (l : List Value) (k : Nat) (cs : Array Value), cs.size = k + l.length → (l.zipIdx k).foldl (fun (cs : Array Value) (x : Value × Nat) => cs.setIfInBounds x.2 x.1) cs = (cs.toList.take k ++ l).toArray := by
        intro l
        induction l with
        | nil =>
          intro k cs h
          simp only [List.length_nil, Nat.add_zero] at h
          subst h
          apply Array.ext'
          rw [← Array.length_toList, List.take_length, List.append_nil]
          rfl
        | cons a l ih =>
          intro k cs h
          simp only [List.zipIdx_cons, List.foldl_cons]
          rw [ih (k + 1) _ (by simp at h ⊢; omega)]
          have hk : k < cs.toList.length := by simp at h ⊢; omega
          congr 1
          simp only [Array.toList_setIfInBounds]
          rw [List.take_set, List.take_succ_eq_append_getElem hk]
          have h1 : (cs.toList.take k).length = k := by rw [List.length_take]; omega
          rw [List.set_append, if_neg (by omega), h1, Nat.sub_self]
          rw [List.append_assoc]
          rfl
      have := key v.cells.toList 0 cs (by simp [hv, hcs])
      rw [← Array.foldl_toList]
      simpa [Array.toList_zipIdx] using this
    have h0 : 0 < size := by simpa [Nat.blt_eq] using h0
    have hs : size ≤ 65536 := Nat.le_of_ble_eq_true hs
    have hbig : ¬ (2 ^ 24 < size) := by omega
    have h0' : ¬ (size = 0) := by omega
    simp [execOp, Instr.buildSlice, hx, run_underlying ht.eq, sizeOf, zeroValue, typeInfo, hi, hz, hsz, hbig, h0', run_newRow]
    rw [hfill _ (by simp)]
    simp [run_newRow]

theorem o_append {T u E size bytes m k cap : Nat} {z : Value} {x y : Operand} {ad : Option Addr} {v : Value} {xs news : List Value} {du : TypeDesc}
    (hd : Nat.blt d n = true) [ht : TyU P T (.slice E)] [hu : TyU P u du] [he : TyI P E size bytes z]
    (hx : ev ρ x = .slice ad m cap) (hy : ev ρ y = v) [hf : FArr A E size ad cap m xs R] (hsrc : Src P R size v k news) (h1 : ∀ v ∈ news, v.oneCell' = true) (h63 : m + k ≤ maxLen) (hb : (m + k) * bytes ≤ 140737488355328)
    (hdu : (∃ e, du = .slice e) ∨ du = .string)
    (h : ∀ ad' cap', K (upd ρ d (.slice ad' (m + k) cap')) (Arr E size ad' cap' (m + k) (xs ++ news) * R)) :
    OT P Q n D W0 ⟨some d, .call { callee := .builtin .append, args := #[x, y], argTypes := #[T, u] }, ty, pos, aft, gd⟩ ρ A K :=
  o_run rfl hd fun w s => by
    obtain ⟨ad', cap', w', hr, s'⟩ := run_append_arr (P := P) (ty := ty) (T := T) (u := u) (z := z) hdu (s.ent hf.ent) (hsrc.ent (Ent.dropL _ _)) h1 h63 hb
    refine ⟨_, _, w', ?_, s', h ad' cap'⟩
    simp [execOp, resolve, invoke, builtin, hx, hy, hr]

/-- the bytes of a list longer by one, for append's bounds -/
theorem max_of_bytes {k bytes : Nat} (h0 : Nat.blt 0 bytes = true) (hb : k * bytes ≤ 140737488355328) : k ≤ maxLen := by
  have h0' : 0 < bytes := by simpa [Nat.blt_eq] using h0
  have := Nat.le_trans (Nat.le_mul_of_pos_right k h0') hb
  unfold maxLen; omega
/-- 's = append(s, v)': the one new element lies in a block that was just made -/
theorem o_app1 {T E b size bytes m cap c : Nat} {z : Value} {x y : Operand} {ad : Option Addr} {vc xs : List Value} {T' : TypeId} {R1 : HP}
    (hd : Nat.blt d n = true) [ht : TyU P T (.slice E)] [he : TyI P E size bytes z]
    (hx : ev ρ x = .slice ad m cap) (hy : ev ρ y = .slice (some ⟨b, 0, none⟩) 1 c) [hb : FBlk A b vc T' R1] [hf : FArr R1 E size ad cap m xs R] (hl : vc.length = size) (h1 : vc.all Value.oneCell' = true) (h0 : Nat.blt 0 bytes = true) (hbig : (m + 1) * bytes ≤ 140737488355328)
    (h : ∀ ad' cap', K (upd ρ d (.slice ad' (m + 1) cap')) (Arr E size ad' cap' (m + 1) (xs ++ vc) * R)) :
    OT P Q n D W0 ⟨some d, .call { callee := .builtin .append, args := #[x, y], argTypes := #[T, T] }, ty, pos, aft, gd⟩ ρ A K :=
  o_run rfl hd fun w s => by
    have e1 : Ent A (Blk b vc T' * (Arr E size ad cap m xs * R)) := hb.ent.trans (Ent.mul (Ent.refl _) hf.ent)
    have e2 : Ent A (Arr E size ad cap m xs * (Blk b vc T' * R)) := e1.trans ((Ent.assoc' _ _ _).trans ((Ent.mul (Ent.comm _ _) (Ent.refl _)).trans (Ent.assoc _ _ _)))
    have hsrc : Src P (Arr E size ad cap m xs * (Blk b vc T' * R)) size (.slice (some ⟨b, 0, none⟩) 1 c) 1 vc :=
      src_slice (by omega) (Reads.mulR (Reads.mulL (fun _ w s j v e => (s.ent (Ent.addEmp _)).cellsFrom 0 (by intro j v h; simpa using h) j v e)))
    obtain ⟨ad', cap', w', hr, s'⟩ := run_append_arr (P := P) (ty := ty) (T := T) (u := T) (z := z) (.inl ⟨E, rfl⟩) (s.ent e2) hsrc (by simpa [List.all_eq_true] using h1) (max_of_bytes h0 hbig) hbig
    refine ⟨_, _, w', ?_, s'.ent (Ent.mul (Ent.refl _) (Ent.dropL _ _)), h ad' cap'⟩
    simp [execOp, resolve, invoke, builtin, hx, hy, hr]

/-! ### cut slices -/
/-- where a cut slice begins -/
def cutAt (a : Addr) (cap l size : Nat) : Addr := if cap = l then a else a.add (l * size)
theorem run_bound {x : Value} {y : Nat} {c : BoundsCode} {k : IntKind} {i : Int} {w : World} (hx : x = .int k i) (h0 : 0 ≤ i) (h1 : i ≤ y) : (Instr.sliceBound x y c).run P w = .ok i.toNat w := by
  subst hx; simp [Instr.sliceBound, asIntOf, h0, h1]
theorem g_cut_hi {x hi : Operand} {T E l cap : Nat} {ad : Option Addr} {k : IntKind} {i : Int} {j : Nat} (hx : ev ρ x = .slice ad l cap) (hh : ev ρ hi = .int k i) [ht : TyU P T (.slice E)] {size bytes : Nat} {z : Value} [he : TyI P E size bytes z] (h0 : 0 ≤ i) (h1 : i ≤ cap) (hj : i.toNat = j) :
    Gives P ⟨dst, .slice T x none (some hi) none, ty, pos, aft, gd⟩ ρ A (.slice ad j cap) := fun _ w _ => by
  obtain ⟨inf, hinf, hz, hs, _⟩ := tyI_parts he
  have e : (if cap = 0 then ad else ad.map (·.add (0 * size))) = ad := by split <;> cases ad <;> simp [Addr.add]
  simp only [Nat.zero_mul] at e
  simp [execOp, Instr.sliceAt, Instr.slice, run_underlying ht.eq, Instr.sliceBounds, hx, hh, run_bound (k := k) (i := i) rfl h0 h1, sizeOf, typeInfo, hinf, hs, hj, e]
theorem g_cut_lo {x lo : Operand} {T E l cap : Nat} {a : Addr} {k : IntKind} {i : Int} {j : Nat} (hx : ev ρ x = .slice (some a) l cap) (hh : ev ρ lo = .int k i) [ht : TyU P T (.slice E)] {size bytes : Nat} {z : Value} [he : TyI P E size bytes z] (h0 : 0 ≤ i) (h1 : i ≤ l) (hj : i.toNat = j) :
    Gives P ⟨dst, .slice T x (some lo) none none, ty, pos, aft, gd⟩ ρ A (.slice (some (cutAt a cap j size)) (l - j) (cap - j)) := fun _ w _ => by
  obtain ⟨inf, hinf, hz, hs, _⟩ := tyI_parts he
  simp [execOp, Instr.sliceAt, Instr.slice, run_underlying ht.eq, Instr.sliceBounds, hx, hh, run_bound (k := k) (i := i) rfl h0 h1, sizeOf, typeInfo, hinf, hs, hj, cutAt]
  split <;> rfl
theorem g_cut_lo_nil {x lo : Operand} {T E : Nat} {k : IntKind} {i : Int} (hx : ev ρ x = .slice none 0 0) (hh : ev ρ lo = .int k i) [ht : TyU P T (.slice E)] {size bytes : Nat} {z : Value} [he : TyI P E size bytes z] (h0 : i = 0) :
    Gives P ⟨dst, .slice T x (some lo) none none, ty, pos, aft, gd⟩ ρ A (.slice none 0 0) := fun _ w _ => by
  obtain ⟨inf, hinf, hz, hs, _⟩ := tyI_parts he
  subst h0
  simp [execOp, Instr.sliceAt, Instr.slice, run_underlying ht.eq, Instr.sliceBounds, hx, hh, Instr.sliceBound, asIntOf, sizeOf, typeInfo, hinf, hs]
theorem g_cut_lohi {x lo hi : Operand} {T E l cap : Nat} {a : Addr} {k k' : IntKind} {i i' : Int} {j j' : Nat} (hx : ev ρ x = .slice (some a) l cap) (hl : ev ρ lo = .int k i) (hh : ev ρ hi = .int k' i') [ht : TyU P T (.slice E)] {size bytes : Nat} {z : Value} [he : TyI P E size bytes z]
    (h0 : 0 ≤ i) (h1 : i ≤ i') (h2 : i' ≤ cap) (hj : i.toNat = j) (hj' : i'.toNat = j') :
    Gives P ⟨dst, .slice T x (some lo) (some hi) none, ty, pos, aft, gd⟩ ρ A (.slice (some (cutAt a cap j size)) (j' - j) (cap - j)) := fun _ w _ => by
  obtain ⟨inf, hinf, hz, hs, _⟩ := tyI_parts he
  have h1' : i ≤ (i'.toNat : Int) := by omega
  simp [execOp, Instr.sliceAt, Instr.slice, run_underlying ht.eq, Instr.sliceBounds, hx, hl, hh, run_bound (k := k') (i := i') rfl (by omega) h2, run_bound (k := k) (i := i) rfl h0 h1', sizeOf, typeInfo, hinf, hs, hj, hj', cutAt]
  rw [← hj']
  simp [run_bound (P := P) (k := k) (i := i) rfl h0 h1', hj]
  split <;> rfl

/-- an array in memory, cut -/
theorem g_cutA {x : Operand} {T E len size bytes : Nat} {z : Value} {a : Addr} (hx : ev ρ x = .pointer (some a)) [ht : TyU P T (.array len E)] [he : TyI P E size bytes z] :
    Gives P ⟨dst, .slice T x none none none, ty, pos, aft, gd⟩ ρ A (.slice (some a) len len) := fun _ w _ => by
  obtain ⟨inf, hinf, hz, hs, _⟩ := tyI_parts he
  have e : (if len = 0 then a else a.add (0 * size)) = a := by split <;> simp [Addr.add]
  simp only [Nat.zero_mul] at e
  simp [execOp, Instr.sliceAt, Instr.sliceBounds, run_underlying ht.eq, hx, Instr.sureAddr, sizeOf, typeInfo, hinf, hs, e]
theorem g_cutA_lo {x lo : Operand} {T E len size bytes : Nat} {z : Value} {a : Addr} {k : IntKind} {i : Int} {j : Nat} (hx : ev ρ x = .pointer (some a)) (hl : ev ρ lo = .int k i) [ht : TyU P T (.array len E)] [he : TyI P E size bytes z] (h0 : 0 ≤ i) (h1 : i ≤ len) (hj : i.toNat = j) :
    Gives P ⟨dst, .slice T x (some lo) none none, ty, pos, aft, gd⟩ ρ A (.slice (some (cutAt a len j size)) (len - j) (len - j)) := fun _ w _ => by
  obtain ⟨inf, hinf, hz, hs, _⟩ := tyI_parts he
  simp [execOp, Instr.sliceAt, Instr.sliceBounds, run_underlying ht.eq, hx, hl, Instr.sureAddr, run_bound (k := k) (i := i) rfl h0 h1, sizeOf, typeInfo, hinf, hs, hj, cutAt]
/-- a slice of at least so many, as an array in memory -/
theorem g_s2a {x : Operand} {T E len l c : Nat} {a : Option Addr} (hx : ev ρ x = .slice a l c) [ht : TyU P T (.array len E)] (h : len ≤ l) :
    Gives P ⟨dst, .sliceToArrayPointer T x, ty, pos, aft, gd⟩ ρ A (.pointer a) := fun _ w _ => by
  have : ¬ l < len := by omega
  simp [execOp, Instr.arrayAt, run_underlying ht.eq, hx, this]

/-! ### '==' and '!=' -/
theorem run_beq {T : TypeId} {x y : Value} {b : Bool} {w : World} (hb : binOp .eql T x y = (do pure (.bool (← Op.equal T x y)))) (h : ∀ d, (Op.equalIn (d + 1) T x y).run P w = .ok b w) : (binOp .eql T x y).run P w = .ok (.bool b) w := by
  rw [hb]; simp [Op.equal, Op.maxDepth, h 9999]
theorem run_bne {T : TypeId} {x y : Value} {b : Bool} {w : World} (hb : binOp .neq T x y = (do pure (.bool (!(← Op.equal T x y))))) (h : ∀ d, (Op.equalIn (d + 1) T x y).run P w = .ok b w) : (binOp .neq T x y).run P w = .ok (.bool (!b)) w := by
  rw [hb]; simp [Op.equal, Op.maxDepth, h 9999]
theorem g_binEq {op : BinOp} {x y : Operand} {T T' : TypeId} {u v r : Value} (hx : ev ρ x = u) (hy : ev ρ y = v) (hg : ∀ w, (eqGuard op T x y u v).run P w = .ok () w) (h : ∀ W0 w, Sat W0 w A → (binOp op T u v).run P w = .ok r w) :
    Gives P ⟨dst, .binOp op T x y T', ty, pos, aft, gd⟩ ρ A r := fun W0 w s => by
  simp only [execOp, hx, hy]
  simp only [Sem.run_bind, hg, Result.andThen_ok, h W0 w s]
  rfl

/-- of an error: is it one? -/
def isErr : Value → Bool
  | .nilIface => false
  | _ => true
def IsIface (v : Value) : Prop := v = .nilIface ∨ ∃ t u, v = .iface t u
theorem guard_nilIface {op : BinOp} {T : TypeId} {x : Operand} {v : Value} (hv : IsIface v) (w : World) : (eqGuard op T x (.const .nilIface) v .nilIface).run P w = .ok () w := by
  unfold eqGuard
  rcases hv with rfl | ⟨t, u, rfl⟩
  · cases op <;> simp
  · cases op <;> rfl
theorem run_eqIn_nil {T : TypeId} {ms : Array (String × TypeId)} (ht : P.underlying T = some (.interface ms)) {v : Value} (hv : IsIface v) (w : World) (d : Nat) : (Op.equalIn (d + 1) T v .nilIface).run P w = .ok (!isErr v) w := by
  rcases hv with rfl | ⟨t, u, rfl⟩ <;> simp [Op.equalIn, run_underlying ht, isErr]
theorem g_err_ne {x : Operand} {T T' : TypeId} {ms : Array (String × TypeId)} {v : Value} (hx : ev ρ x = v) [ht : TyU P T (.interface ms)] (hv : IsIface v) :
    Gives P ⟨dst, .binOp .neq T x (.const .nilIface) T', ty, pos, aft, gd⟩ ρ A (.bool (isErr v)) :=
  g_binEq (v := .nilIface) hx rfl (guard_nilIface hv) fun _ w _ => by
    have := run_bne (P := P) (T := T) (x := v) (y := .nilIface) (w := w) (by rcases hv with rfl | ⟨t, u, rfl⟩ <;> rfl) (run_eqIn_nil ht.eq hv w)
    simpa using this
theorem g_err_eq {x : Operand} {T T' : TypeId} {ms : Array (String × TypeId)} {v : Value} (hx : ev ρ x = v) [ht : TyU P T (.interface ms)] (hv : IsIface v) :
    Gives P ⟨dst, .binOp .eql T x (.const .nilIface) T', ty, pos, aft, gd⟩ ρ A (.bool (!isErr v)) :=
  g_binEq hx rfl (guard_nilIface hv) fun _ w _ => run_beq (by rcases hv with rfl | ⟨t, u, rfl⟩ <;> rfl) (run_eqIn_nil ht.eq hv w)
theorem guard_ptr {op : BinOp} {T : TypeId} {x y : Operand} {a b : Option Addr} (w : World) : (eqGuard op T x y (.pointer a) (.pointer b)).run P w = .ok () w := by
  unfold eqGuard; cases op <;> rfl
theorem run_eqIn_ptr {T e : TypeId} (ht : P.underlying T = some (.pointer e)) {a : Option Addr} (w : World) (d : Nat) : (Op.equalIn (d + 1) T (.pointer a) (.pointer none)).run P w = .ok a.isNone w := by
  cases a <;> simp [Op.equalIn, run_underlying ht]
theorem g_ptr_eq {x : Operand} {T e T' : TypeId} {a : Option Addr} (hx : ev ρ x = .pointer a) [ht : TyU P T (.pointer e)] :
    Gives P ⟨dst, .binOp .eql T x (.const (.pointer none)) T', ty, pos, aft, gd⟩ ρ A (.bool a.isNone) :=
  g_binEq hx rfl guard_ptr fun _ w _ => run_beq rfl (run_eqIn_ptr ht.eq w)
theorem g_ptr_ne {x : Operand} {T e T' : TypeId} {a : Option Addr} (hx : ev ρ x = .pointer a) [ht : TyU P T (.pointer e)] :
    Gives P ⟨dst, .binOp .neq T x (.const (.pointer none)) T', ty, pos, aft, gd⟩ ρ A (.bool (!a.isNone)) :=
  g_binEq hx rfl guard_ptr fun _ w _ => run_bne rfl (run_eqIn_ptr ht.eq w)
theorem guard_slice {op : BinOp} {T : TypeId} {x y : Operand} {a b : Option Addr} {l c l' c' : Nat} (w : World) : (eqGuard op T x y (.slice a l c) (.slice b l' c')).run P w = .ok () w := by
  unfold eqGuard; cases op <;> rfl
theorem run_eqIn_slice {T e : TypeId} (ht : P.underlying T = some (.slice e)) {a : Option Addr} {l c : Nat} (w : World) (d : Nat) : (Op.equalIn (d + 1) T (.slice a l c) (.slice none 0 0)).run P w = .ok a.isNone w := by
  cases a <;> simp [Op.equalIn, run_underlying ht]
theorem g_slice_eq {x : Operand} {T e T' : TypeId} {a : Option Addr} {l c : Nat} (hx : ev ρ x = .slice a l c) [ht : TyU P T (.slice e)] :
    Gives P ⟨dst, .binOp .eql T x (.const (.slice none 0 0)) T', ty, pos, aft, gd⟩ ρ A (.bool a.isNone) :=
  g_binEq hx rfl guard_slice fun _ w _ => run_beq rfl (run_eqIn_slice ht.eq w)
theorem g_slice_ne {x : Operand} {T e T' : TypeId} {a : Option Addr} {l c : Nat} (hx : ev ρ x = .slice a l c) [ht : TyU P T (.slice e)] :
    Gives P ⟨dst, .binOp .neq T x (.const (.slice none 0 0)) T', ty, pos, aft, gd⟩ ρ A (.bool (!a.isNone)) :=
  g_binEq hx rfl guard_slice fun _ w _ => run_bne rfl (run_eqIn_slice ht.eq w)

theorem guard_string {op : BinOp} {T : TypeId} {x y : Operand} {s t : ByteArray} (w : World) : (eqGuard op T x y (.string s) (.string t)).run P w = .ok () w := by
  unfold eqGuard; cases op <;> rfl
theorem g_eqs {x y : Operand} {T T' : TypeId} {s t : ByteArray} (hx : ev ρ x = .string s) (hy : ev ρ y = .string t) : Gives P ⟨dst, .binOp .eql T x y T', ty, pos, aft, gd⟩ ρ A (.bool (decide (s.toList = t.toList))) :=
  g_binEq hx hy guard_string fun _ w _ => by
    have : (s.toList == t.toList) = decide (s.toList = t.toList) := by by_cases h : s.toList = t.toList <;> simp [h]
    rw [← this]; rfl
theorem g_nes {x y : Operand} {T T' : TypeId} {s t : ByteArray} (hx : ev ρ x = .string s) (hy : ev ρ y = .string t) : Gives P ⟨dst, .binOp .neq T x y T', ty, pos, aft, gd⟩ ρ A (.bool (decide (s.toList ≠ t.toList))) :=
  g_binEq hx hy guard_string fun _ w _ => by
    have : (!(s.toList == t.toList)) = decide (s.toList ≠ t.toList) := by by_cases h : s.toList = t.toList <;> simp [h]
    rw [← this]; rfl
theorem guard_bool {op : BinOp} {T : TypeId} {x y : Operand} {a b : Bool} (w : World) : (eqGuard op T x y (.bool a) (.bool b)).run P w = .ok () w := by
  unfold eqGuard; cases op <;> rfl
theorem g_eqb {x y : Operand} {T T' : TypeId} {a b : Bool} (hx : ev ρ x = .bool a) (hy : ev ρ y = .bool b) [ht : TyU P T .bool] : Gives P ⟨dst, .binOp .eql T x y T', ty, pos, aft, gd⟩ ρ A (.bool (a == b)) :=
  g_binEq hx hy guard_bool fun _ w _ => run_eql_bool w T a b ht.eq
theorem g_neb {x y : Operand} {T T' : TypeId} {a b : Bool} (hx : ev ρ x = .bool a) (hy : ev ρ y = .bool b) [ht : TyU P T .bool] : Gives P ⟨dst, .binOp .neq T x y T', ty, pos, aft, gd⟩ ρ A (.bool (a != b)) :=
  g_binEq hx hy guard_bool fun _ w _ => run_neq_bool w T a b ht.eq

theorem nat_beq_def (a b : Nat) : Nat.beq a b = (a == b) := by
  by_cases h : a = b
  · subst h; simp [Nat.beq_refl]
  · rw [beq_no h]; simp [h]
/-- a struct's cells, part by part -/
def fillL (pl : List (Nat × Nat)) : List Value → List (Nat × Value) → Option (List Value)
  | cells, [] => some cells
  | cells, (i, v) :: rest =>
    match pl[i]? with
    | none => none
    | some (off, size) => if v.cells.size = size ∧ off + size ≤ cells.length then fillL pl (cells.take off ++ v.cells.toList ++ cells.drop (off + size)) rest else none
theorem foldl_set_cells : ∀ (l : List Value) (off k : Nat) (cs : Array Value), off + k + l.length ≤ cs.size →
    (l.zipIdx k).foldl (fun (cs : Array Value) (x : Value × Nat) => cs.setIfInBounds (off + x.2) x.1) cs = (cs.toList.take (off + k) ++ l ++ cs.toList.drop (off + k + l.length)).toArray
  | [], off, k, cs, h => by
    apply Array.ext'
    simp only [List.zipIdx_nil, List.foldl_nil, List.append_nil, List.length_nil, Nat.add_zero, List.take_append_drop]
  | a :: l, off, k, cs, h => by
    simp only [List.length_cons] at h
    simp only [List.zipIdx_cons, List.foldl_cons]
    rw [foldl_set_cells l off (k + 1) _ (by simp; omega)]
    have e := list_seg_step cs.toList (off + k) a l (by simp; omega)
    congr 1
    simpa [Array.toList_setIfInBounds, Nat.add_assoc] using e
theorem fill_of_fillL {pl : List (Nat × Nat)} : ∀ (vs : List (Nat × Value)) (zc cells : List Value), fillL pl zc vs = some cells → Instr.fill (fun i => pl[i]?) zc.toArray vs = some cells.toArray
  | [], zc, cells, h => by simp only [fillL, Option.some.injEq] at h; subst h; rfl
  | (i, v) :: rest, zc, cells, h => by
    simp only [fillL] at h
    cases hp : pl[i]? with
    | none => rw [hp] at h; cases h
    | some x =>
      obtain ⟨off, size⟩ := x
      rw [hp] at h
      simp only at h
      split at h
      · next hc =>
        have ih := fill_of_fillL rest _ cells h
        simp only [Instr.fill, hp]
        have hne : (decide (v.cells.size ≠ size) || decide (off + v.cells.size > zc.toArray.size)) = false := by
          simp; omega
        rw [if_neg (by rw [hne]; decide), ← Array.foldl_toList, Array.toList_zipIdx]
        have key := foldl_set_cells v.cells.toList off 0 zc.toArray (by simp; omega)
        simp only [Nat.add_zero, List.toList_toArray, Array.length_toList] at key
        rw [key, hc.1]
        exact ih
      · cases h
/-- a struct's value, written out -/
theorem g_build {T : TypeId} {ps : List (Nat × Operand)} {pl : List (Nat × Nat)} {zc : List Value} {vs : List (Nat × Value)} {cells : List Value} [hS : TyS P T pl zc] (hp : ps.map (fun x => (x.1, ev ρ x.2)) = vs)
    (hf : fillL pl zc vs = some cells) : Gives P ⟨dst, .build T ps.toArray, ty, pos, aft, gd⟩ ρ A (.agg cells.toArray) := fun _ w _ => by
  obtain ⟨fs, h1, h2, h3⟩ := hS.eq
  obtain ⟨z, hz, hzc⟩ := h3 w
  have e : (ps.toArray.map fun (x : Nat × Operand) => (x.1, ev ρ x.2)) = vs.toArray := by rw [← hp]; simp
  have hf' : Instr.fill (fun i => pl.toArray[i]?) z.cells vs = some cells.toArray := by rw [hzc]; simpa using fill_of_fillL vs zc cells hf
  have e2 : (Instr.build T vs.toArray).run P w = .ok (.agg cells.toArray) w := by
    unfold Instr.build
    simp only [Sem.run_bind, hz, Result.andThen_ok, run_underlying h1, h2]
    simp only [hf']
    rfl
  simp only [execOp]
  rw [e]
  simp only [Sem.run_bind, e2, Result.andThen_ok]
  rfl
/-- a shift to the right of what is not negative -/
theorem g_shrN {x y : Operand} {T T' : TypeId} {k k' : IntKind} {a b q : Int} (hx : ev ρ x = .int k a) (hy : ev ρ y = .int k' b) (h : 0 ≤ b) (h0 : 0 ≤ a) (hq : (2 : Int) ^ (min b.toNat k.bits) = q) : Gives P ⟨dst, .binOp .shr T x y T', ty, pos, aft, gd⟩ ρ A (.int k (a / q)) := by
  have hg := g_shr (P := P) (A := A) (dst := dst) (ty := ty) (pos := pos) (aft := aft) (gd := gd) (T := T) (T' := T') hx hy h
  rw [hq] at hg
  have : a.fdiv q = a / q := Int.fdiv_eq_ediv_of_nonneg a (by rw [← hq]; exact Int.le_of_lt (Int.pow_pos (by omega)))
  rwa [this] at hg

/-- an element's address, whatever the slice's own -/
theorem g_elemR {x ix : Operand} {T e size bytes : Nat} {z : Value} {a : Addr} {l c j : Nat} {k : IntKind} {i : Int} (hx : ev ρ x = .slice (some a) l c) (hi : ev ρ ix = .int k i) [ht : TyU P T (.slice e)] [he : TyI P e size bytes z] (h0 : 0 ≤ i) (h1 : i < l) (hj : i.toNat = j) :
    Gives P ⟨dst, .indexAddr T x ix, ty, pos, aft, gd⟩ ρ A (.pointer (some (a.add (j * size)))) := fun _ w _ => by
  obtain ⟨inf, hinf, hz, hs, _⟩ := tyI_parts he
  simp [execOp, hx, hi, Instr.indexAt, asIntOf, run_underlying ht.eq, h0, h1, sizeOf, typeInfo, hinf, hs, hj]
theorem addr_add_add (a : Addr) (i j : Nat) : (a.add i).add j = a.add (i + j) := by
  unfold Addr.add
  by_cases hi : i = 0
  · subst hi; simp
  · by_cases hj : j = 0
    · subst hj; simp [hi]
    · rw [if_neg hi, if_neg hj, if_neg (by omega)]; simp [Nat.add_assoc]
theorem Reads.nil {a : Addr} : Reads A a [] := fun _ _ _ j v e => by simp at e
theorem Reads.drop {a : Addr} {vs : List Value} (h : Reads A a vs) (i : Nat) : Reads A (a.add i) (vs.drop i) := fun W0 w s j v e => by
  rw [addr_add_add]
  exact h W0 w s (i + j) v (by rwa [List.getElem?_drop] at e)
theorem Reads.take {a : Addr} {vs : List Value} (h : Reads A a vs) (i : Nat) : Reads A a (vs.take i) := fun W0 w s j v e => by
  refine h W0 w s j v ?_
  rw [List.getElem?_take] at e
  split at e
  · exact e
  · cases e
/-- a load of one cell among those that can be read -/
theorem g_load_at {x : Operand} {t i : Nat} {a : Addr} {v : Value} {vs : List Value} (hx : ev ρ x = .pointer (some (a.add i))) [h1 : Ty1 P t] (hc : Reads A a vs) (hv : vs[i]? = some v) :
    Gives P ⟨dst, .load t x, ty, pos, aft, gd⟩ ρ A v := fun W0 w s => by
  have := run_loadVar_one (P := P) (t := t) (w := w) (hc W0 w s i v hv)
  simp [execOp, hx, Instr.loadAt, Instr.sureAddr, this]

theorem g_cut_lohi_nil {x lo hi : Operand} {T E : Nat} {k k' : IntKind} {i i' : Int} (hx : ev ρ x = .slice none 0 0) (hl : ev ρ lo = .int k i) (hh : ev ρ hi = .int k' i') [ht : TyU P T (.slice E)] {size bytes : Nat} {z : Value} [he : TyI P E size bytes z] (h0 : i = 0) (h1 : i' = 0) :
    Gives P ⟨dst, .slice T x (some lo) (some hi) none, ty, pos, aft, gd⟩ ρ A (.slice none 0 0) := fun _ w _ => by
  obtain ⟨inf, hinf, hz, hs, _⟩ := tyI_parts he
  subst h0 h1
  simp [execOp, Instr.sliceAt, Instr.slice, run_underlying ht.eq, Instr.sliceBounds, hx, hl, hh, Instr.sliceBound, asIntOf, sizeOf, typeInfo, hinf, hs]
theorem fill_mono {pl pl' : Nat → Option (Nat × Nat)} (h : ∀ i x, pl i = some x → pl' i = some x) : ∀ (vs : List (Nat × Value)) (cs c : Array Value), Instr.fill pl cs vs = some c → Instr.fill pl' cs vs = some c
  | [], cs, c, e => e
  | (i, v) :: rest, cs, c, e => by
    simp only [Instr.fill] at e ⊢
    cases hp : pl i with
    | none => rw [hp] at e; cases e
    | some x =>
      obtain ⟨off, size⟩ := x
      rw [hp] at e
      rw [h i _ hp]
      simp only at e ⊢
      split at e
      · cases e
      · rename_i hc; rw [if_neg hc]; exact fill_mono h rest _ c e
/-- '[k]T{..}' -/
theorem g_buildA {T k E s b size b' : Nat} {z z' : Value} {ps : List (Nat × Operand)} {vs : List (Nat × Value)} {cells : List Value} [ht : TyU P T (.array k E)] [hT : TyI P T s b z] [hE : TyI P E size b' z'] (hp : ps.map (fun x => (x.1, ev ρ x.2)) = vs)
    (hf : fillL ((List.range k).map fun i => (i * size, size)) z.cells.toList vs = some cells) : Gives P ⟨dst, .build T ps.toArray, ty, pos, aft, gd⟩ ρ A (.agg cells.toArray) := fun _ w _ => by
  obtain ⟨i, hi, hzz, _, _⟩ := tyI_parts hT
  obtain ⟨i', hi', _, hs', _⟩ := tyI_parts hE
  have e : (ps.toArray.map fun (x : Nat × Operand) => (x.1, ev ρ x.2)) = vs.toArray := by rw [← hp]; simp
  have h2 : Instr.fill (fun i => some (i * size, size)) z.cells vs = some cells.toArray := by
    refine fill_mono (fun i x e => ?_) _ _ _ (show Instr.fill (fun i => ((List.range k).map fun i => (i * size, size))[i]?) _ _ = _ from by simpa using fill_of_fillL vs z.cells.toList cells hf)
    rw [List.getElem?_map] at e
    obtain ⟨j, hj, rfl⟩ := Option.map_eq_some_iff.1 e
    rw [List.getElem?_range (by have := (List.getElem?_eq_some_iff.1 hj).1; simpa using this)] at hj
    cases hj; rfl
  have e2 : (Instr.build T vs.toArray).run P w = .ok (.agg cells.toArray) w := by
    unfold Instr.build
    simp [zeroValue, typeInfo, hi, hzz, run_underlying ht.eq, sizeOf, hi', hs', h2]
  simp [execOp, e, e2]
/-- '[]T{..}' -/
theorem o_buildN {K : Env → HP → Prop} {Q : Exit → Act → World → Prop} {n : Nat} {D : List Deferred} {W0 : World} {d : Nat} {T E size bytes k : Nat} {z : Value} {parts : List (Nat × Operand)} {ps : List (Nat × Value)} {zl cs : List Value} (hd : Nat.blt d n = true) [ht : TyU P T (.slice E)] [he : TyI P E size bytes z]
    (hp : parts.map (fun x => (x.1, ev ρ x.2)) = ps) (hk : Nat.ble (k * size) 16777216 = true) (hz : ((List.range (k * size)).map fun j => z.cells[j % z.cells.size]!) = zl) (hf : fillL ((List.range k).map fun i => (i * size, size)) zl ps = some cs)
    (h : ∀ b, K (upd ρ d (.slice (some ⟨b, 0, none⟩) k k)) (Blk b cs E * A)) : OT P Q n D W0 ⟨some d, .buildSlice T k parts.toArray, ty, pos, aft, gd⟩ ρ A K :=
  o_run rfl hd fun w s => by
    obtain ⟨i, hi, hzz, hsz, _⟩ := tyI_parts he
    refine ⟨_, _, w.alloc (.cells cs.toArray E), ?_, s.alloc cs.toArray E, h w.heap.size⟩
    have hk' : ¬ k * size > 2 ^ 24 := by have := Nat.le_of_ble_eq_true hk; omega
    have h2 : Instr.fill (fun i => some (i * size, size)) ((Array.range (k * size)).map fun j => z.cells[j % z.cells.size]!) ps = some cs.toArray := by
      refine fill_mono (fun i x e => ?_) _ _ _ (show Instr.fill (fun i => ((List.range k).map fun i => (i * size, size))[i]?) _ _ = _ from ?_)
      · rw [List.getElem?_map] at e
        obtain ⟨j, hj, rfl⟩ := Option.map_eq_some_iff.1 e
        rw [List.getElem?_range (by have := (List.getElem?_eq_some_iff.1 hj).1; simpa using this)] at hj
        cases hj; rfl
      · have := fill_of_fillL ps zl cs hf
        rw [← hz] at this
        have e : (Array.range (k * size)).map (fun j => z.cells[j % z.cells.size]!) = ((List.range (k * size)).map fun j => z.cells[j % z.cells.size]!).toArray := by rw [← List.map_toArray, List.toArray_range]
        rw [e]; exact this
    have e1 : parts.toArray.map (fun (x : Nat × Operand) => (x.1, ev ρ x.2)) = ps.toArray := by rw [← hp]; simp
    have e0 : ∀ (f : Nat → Value), Array.map f (Array.range 0) = #[] := fun f => by apply Array.ext' <;> simp
    by_cases h0 : k * size = 0
    · have h2' : Instr.fill (fun i => some (i * size, size)) (#[] : Array Value) ps = some cs.toArray := by
        rw [h0, e0] at h2; exact h2
      simp [e0, execOp, Instr.buildSlice, run_underlying ht.eq, sizeOf, typeInfo, hi, hsz, h0, e1, h2', run_newRow]
    · simp [execOp, Instr.buildSlice, run_underlying ht.eq, sizeOf, typeInfo, hi, hsz, h0, hk', zeroValue, hzz, e1, h2, run_newRow]

/-- 'string(b)' -/
theorem g_convS {x : Operand} {S T e : TypeId} {l c : Nat} {a : Option Addr} {xs : List UInt8} (hx : ev ρ x = .slice a l c) [hs : TyU P S (.slice e)] [he : TyU P e (.int .u8)] [ht : TyU P T .string] (hl : xs.length = l) (h0 : a = none → xs = []) (hc : ∀ g, a = some g → Reads A g (xs.map fun b => .int .u8 (b.toNat : Int))) :
    Gives P ⟨dst, .convert S T x, ty, pos, aft, gd⟩ ρ A (.string ⟨xs.toArray⟩) := fun W0 w s => by
  have key : (convert S T (.slice a l c)).run P w = .ok (.string ⟨xs.toArray⟩) w := by
    cases a with
    | none =>
      obtain rfl := h0 rfl
      exact run_convert_bytes_nil w S e hs.eq he.eq l c T ht.eq
    | some g =>
      rw [run_convert_bytes_string w S T e _ l c hs.eq he.eq ht.eq]
      have hl' : (loadCells g l).run P w = .ok ((xs.map fun b => (b.toNat : Int)).map (Value.int .u8)).toArray w := by
        have := run_loadCells_list (P := P) (w := w) g _ (fun j v e => hc g rfl W0 w s j v e)
        rw [List.length_map, hl] at this
        rw [this, List.map_map]; rfl
      rw [run_bytesToString w g l c _ hl', foldl_push_bytes, List.map_map]
      have : (fun n : Int => UInt8.ofNat n.toNat) ∘ (fun b : UInt8 => (b.toNat : Int)) = id := by funext b; simp
      rw [this, List.map_id]
      congr 2
      show ByteArray.mk (#[] ++ xs.toArray) = _
      simp
  simp [execOp, hx, key]
theorem g_max {x y : Operand} {T T' : TypeId} {k : IntKind} {a b : Int} (hx : ev ρ x = .int k a) (hy : ev ρ y = .int k b) :
    Gives P ⟨dst, .call { callee := .builtin .max, args := #[x, y], argTypes := #[T, T'] }, ty, pos, aft, gd⟩ ρ A (.int k (max a b)) := fun _ w _ => by
  have : (if b > a then b else a) = max a b := by split <;> omega
  rw [← this]
  simp [execOp, resolve, invoke, builtin, hx, hy, Builtin.max_, Builtin.max2]

theorem g_convA {x : Operand} {S T e : TypeId} {l c m : Nat} {a : Option Addr} {xs : List UInt8} {vs : List Value} {R : HP} (hx : ev ρ x = .slice a l c) [hs : TyU P S (.slice e)] [he : TyU P e (.int .u8)] [ht : TyU P T .string] [hf : FArr A e 1 a c m vs R] (hm : m = l) (hv : vs = xs.map fun b => .int .u8 (b.toNat : Int)) :
    Gives P ⟨dst, .convert S T x, ty, pos, aft, gd⟩ ρ A (.string ⟨xs.toArray⟩) := fun W0 w s => by
  obtain ⟨h1, h2, _, _⟩ := arr_fact (E := e) (size := 1) a c s
  subst hv
  rw [List.length_map, Nat.mul_one] at h1
  refine g_convS (A := A) hx (by omega) (fun h => ?_) (fun g hg => ?_) W0 w s
  · exact List.eq_nil_of_length_eq_zero (by rw [h1]; exact (h2 h).1)
  · subst hg; exact reads_arr (E := e) (size := 1) (cap := c)
/-- two errors that hold numbers of one type -/
theorem run_eqIn_ifI {T U : TypeId} {ms : Array (String × TypeId)} {k : IntKind} {a b : Int} (ht : P.underlying T = some (.interface ms)) (hu : P.underlying U = some (.int k)) (hc : (P.info? U).map (·.comparable) = some true) (w : World) (d : Nat) :
    (Op.equalIn (d + 2) T (.iface U (.int k a)) (.iface U (.int k b))).run P w = .ok (a == b) w := by
  obtain ⟨inf, hinf, hcm⟩ := Option.map_eq_some_iff.1 hc
  have h2 : (Op.equalIn (d + 1) U (.int k a) (.int k b)).run P w = .ok (a == b) w := by simp [Op.equalIn, run_underlying hu]
  unfold Op.equalIn
  simp [run_underlying ht, typeInfo, hinf, hcm, h2]
theorem guard_iface {op : BinOp} {T U V : TypeId} {x y : Operand} {a b : Value} (w : World) : (eqGuard op T x y (.iface U a) (.iface V b)).run P w = .ok () w := by
  unfold eqGuard; cases op <;> rfl
theorem g_ifeqT {x y : Operand} {T U T' : TypeId} {ms : Array (String × TypeId)} {k : IntKind} {a b : Int} (hx : ev ρ x = .iface U (.int k a)) (hy : ev ρ y = .iface U (.int k b)) [ht : TyU P T (.interface ms)] [hu : TyU P U (.int k)] (hc : (P.info? U).map (·.comparable) = some true) (h : a = b) :
    Gives P ⟨dst, .binOp .eql T x y T', ty, pos, aft, gd⟩ ρ A (.bool true) :=
  g_binEq hx hy guard_iface fun _ w _ => by
    have e : (binOp .eql T (.iface U (.int k a)) (.iface U (.int k b))) = (do pure (.bool (← Op.equal T (.iface U (.int k a)) (.iface U (.int k b))))) := rfl
    rw [e]; simp [Op.equal, Op.maxDepth, run_eqIn_ifI ht.eq hu.eq hc w 9998, h]
theorem g_eqsT {x y : Operand} {T T' : TypeId} {s t : ByteArray} (hx : ev ρ x = .string s) (hy : ev ρ y = .string t) (h : s = t) : Gives P ⟨dst, .binOp .eql T x y T', ty, pos, aft, gd⟩ ρ A (.bool true) := by
  have := g_eqs (P := P) (A := A) (dst := dst) (ty := ty) (pos := pos) (aft := aft) (gd := gd) (T := T) (T' := T') hx hy
  rwa [decide_eq_true (by rw [h])] at this
theorem g_nesF {x y : Operand} {T T' : TypeId} {s t : ByteArray} (hx : ev ρ x = .string s) (hy : ev ρ y = .string t) (h : s = t) : Gives P ⟨dst, .binOp .neq T x y T', ty, pos, aft, gd⟩ ρ A (.bool false) := by
  have := g_nes (P := P) (A := A) (dst := dst) (ty := ty) (pos := pos) (aft := aft) (gd := gd) (T := T) (T' := T') hx hy
  rwa [decide_eq_false (by simp [h])] at this
theorem g_buildA0 {T k E s b s' b' : Nat} {z z' : Value} {zc : List Value} [ht : TyU P T (.array k E)] [hT : TyI P T s b z] [hE : TyI P E s' b' z'] (hz : z.cells.toList = zc) :
    Gives P ⟨dst, .build T #[], ty, pos, aft, gd⟩ ρ A (.agg zc.toArray) := fun _ w _ => by
  obtain ⟨i, hi, hzz, _, _⟩ := tyI_parts hT
  obtain ⟨i', hi', _, hs', _⟩ := tyI_parts hE
  have e2 : (Instr.build T #[]).run P w = .ok (.agg zc.toArray) w := by
    unfold Instr.build
    simp [zeroValue, typeInfo, hi, hzz, run_underlying ht.eq, sizeOf, hi', Instr.fill, ← hz]
  simp [execOp, e2]
/-- a store of a whole struct or array -/
theorem o_storeAgg {K : Env → HP → Prop} {Q : Exit → Act → World → Prop} {n : Nat} {D : List Deferred} {W0 : World} {x y : Operand} {t p size : Nat} {cs : List Value} {T : TypeId} {vs : Array Value} {R : HP}
    (hx : ev ρ x = .pointer (some ⟨p, 0, none⟩)) (hy : ev ρ y = .agg vs) {vl : List Value} (hvl : vs.toList = vl) (hv : vl.all (·.oneCell') = true) [h1 : TyA P t size] [hb : FBlk A p cs T R] (hs : vl.length = size) (hcs : cs.length = size)
    (h : K ρ (Blk p vl T * R)) : OT P Q n D W0 ⟨none, .store t x y, ty, pos, aft, gd⟩ ρ A K :=
  o_do rfl (fun w s => by
    have s' := s.ent hb.ent
    have e := run_storeVar_row (P := P) w p T t cs.toArray vs s'.blk (by rw [h1.size]; simp [← hs, ← hvl]) (by simp [hcs, ← hs, ← hvl]) (by rw [← hv, ← hvl]; simp)
    refine ⟨w.setRow p vs, ?_, by have := s'.row (cs' := vl); rw [← hvl] at this ⊢; simpa using this⟩
    simp [execOp, hx, hy, Instr.storeAt, Instr.sureAddr, e]) h
/-- 'x, ok := e.(T)' where e holds that very T -/
theorem g_assert {x : Operand} {xt T : TypeId} {v : Value} {dd : TypeDesc} (hx : ev ρ x = .iface T v) [ht : TyU P T dd] (hd : ∀ ms, dd ≠ .interface ms) : Gives P ⟨dst, .typeAssert x xt T true, ty, pos, aft, gd⟩ ρ A (.tuple #[v, .bool true]) := fun _ w _ => by
  have : (Instr.typeAssert (.iface T v) xt T true).run P w = .ok (.tuple #[v, .bool true]) w := by
    unfold Instr.typeAssert
    rw [Sem.run_bind, run_underlying ht.eq]
    simp only [Result.andThen_ok]
    cases dd <;> first | (exfalso; exact hd _ rfl) | simp
  simp [execOp, hx, this]

/-! ### what a function tells: three results, results in cells -/
theorem At.get' {n : Nat} {D : List Deferred} {a : Act} (h : At n D ρ a) (t : Nat) : a.tmps[t]?.getD undef = ρ t := by simpa using h.get t
theorem q_ret3 {ι : Type} {fn : Func} {ret : ι → Value} {B : ι → HP} {n : Nat} {W0 : World} {t u x : Nat} {v v' v'' : Value} (hr : fn.results = #[.tmp t, .tmp u, .tmp x]) (hv : ρ t = v) (hv' : ρ u = v') (hv'' : ρ x = v'') (i : ι) (hi : .tuple #[v, v', v''] = ret i) (hA : Ent A (B i)) : QT (Post P fn W0 ret B) .ret n [] W0 ρ A := fun a w ha s =>
  ⟨ha.defers, .tuple #[v, v', v''], by simp [results, hr, ha.get', hv, hv', hv''], i, by rw [hi], s.ent hA⟩
/-- what a cell of a result tells -/
def CellV (P : Program) (A : HP) (T : Nat) (u v : Value) : Prop := ∃ a, u = .pointer (some a) ∧ ∀ W0 w, Sat W0 w A → (loadVar T a).run P w = .ok v w
theorem cell_agg {T size : Nat} {a : Addr} {vs : List Value} {u : Value} (hu : u = .pointer (some a)) [h1 : TyA P T size] (hl : vs.length = size) (hc : Reads A a vs) : CellV P A T u (.agg vs.toArray) := ⟨a, hu, fun W0 w s => run_loadVar_agg (P := P) (t := T) (w := w) hl (hc W0 w s)⟩
theorem cell_blk {T size b : Nat} {cs : List Value} {T' : TypeId} {R : HP} {u : Value} (hu : u = .pointer (some ⟨b, 0, none⟩)) [h1 : TyA P T size] [hb : FBlk A b cs T' R] (hl : cs.length = size) : CellV P A T u (.agg cs.toArray) := cell_agg hu hl (reads_blk (cs := cs) (T := T') (R := R) (by intro j v h; simpa using h))
theorem q_retC {ι : Type} {fn : Func} {ret : ι → Value} {B : ι → HP} {n : Nat} {W0 : World} {t T : Nat} {v : Value} (hr : fn.results = #[.cell t T]) (hv : CellV P A T (ρ t) v) (i : ι) (hi : v = ret i) (hA : Ent A (B i)) : QT (Post P fn W0 ret B) .ret n [] W0 ρ A := fun a w ha s => by
  obtain ⟨p, hp, hl⟩ := hv
  exact ⟨ha.defers, v, by simp [results, hr, ha.get', hp, asAddr, hl W0 w s], i, by rw [hi], s.ent hA⟩
theorem q_retCT {ι : Type} {fn : Func} {ret : ι → Value} {B : ι → HP} {n : Nat} {W0 : World} {t T u : Nat} {v v' : Value} (hr : fn.results = #[.cell t T, .tmp u]) (hv : CellV P A T (ρ t) v) (hv' : ρ u = v') (i : ι) (hi : .tuple #[v, v'] = ret i) (hA : Ent A (B i)) : QT (Post P fn W0 ret B) .ret n [] W0 ρ A := fun a w ha s => by
  obtain ⟨p, hp, hl⟩ := hv
  exact ⟨ha.defers, .tuple #[v, v'], by simp [results, hr, ha.get', hp, hv', asAddr, hl W0 w s], i, by rw [hi], s.ent hA⟩
theorem q_retTC {ι : Type} {fn : Func} {ret : ι → Value} {B : ι → HP} {n : Nat} {W0 : World} {t T u : Nat} {v v' : Value} (hr : fn.results = #[.tmp u, .cell t T]) (hv' : ρ u = v') (hv : CellV P A T (ρ t) v) (i : ι) (hi : .tuple #[v', v] = ret i) (hA : Ent A (B i)) : QT (Post P fn W0 ret B) .ret n [] W0 ρ A := fun a w ha s => by
  obtain ⟨p, hp, hl⟩ := hv
  exact ⟨ha.defers, .tuple #[v', v], by simp [results, hr, ha.get', hp, hv', asAddr, hl W0 w s], i, by rw [hi], s.ent hA⟩
theorem q_retCC {ι : Type} {fn : Func} {ret : ι → Value} {B : ι → HP} {n : Nat} {W0 : World} {t T u U : Nat} {v v' : Value} (hr : fn.results = #[.cell t T, .cell u U]) (hv : CellV P A T (ρ t) v) (hv' : CellV P A U (ρ u) v') (i : ι) (hi : .tuple #[v, v'] = ret i) (hA : Ent A (B i)) : QT (Post P fn W0 ret B) .ret n [] W0 ρ A := fun a w ha s => by
  obtain ⟨p, hp, hl⟩ := hv
  obtain ⟨p', hp', hl'⟩ := hv'
  exact ⟨ha.defers, .tuple #[v, v'], by simp [results, hr, ha.get', hp, hp', asAddr, hl W0 w s, hl' W0 w s], i, by rw [hi], s.ent hA⟩
end
end Go.Proofs.Ytijplicijmpknaa
