/- Hashes written out, lists of them built, grown, written into byte by byte. Any program. -/
import Derived.Test.YtijplicijmpknaaMg
import Derived.Test.YtijplicijmpknaaQ3
namespace Go.Proofs.Ytijplicijmpknaa
open Go.RowKit

theorem rd_pre {E size cap n : Nat} {ad : Option Addr} {xs ys : List Value} : Rd (Arr E size ad cap n (xs ++ ys)) ad xs := by
  have := (inferInstance : Rd (Arr E size ad cap n (xs ++ ys)) ad (xs ++ ys)).take xs.length
  rwa [List.take_left] at this
theorem rd_preH {E cap n : Nat} {ad : Option Addr} {l r : List Hs} : Rd (Arr E 32 ad cap n ((l ++ r).flatMap hc)) ad (l.flatMap hc) := by
  rw [List.flatMap_append]; exact rd_pre
theorem Rd.pre {A : HP} {ad : Option Addr} {xs ys : List Value} (h : Rd A ad (xs ++ ys)) : Rd A ad xs := by
  have := h.take xs.length
  rwa [List.take_left] at this
theorem Rd.preB {A : HP} {ad : Option Addr} {xs ys : List UInt8} (h : Rd A ad ((xs ++ ys).map bv)) : Rd A ad (xs.map bv) := by
  rw [List.map_append] at h; exact h.pre
theorem Rd.preH {A : HP} {ad : Option Addr} {l r : List Hs} (h : Rd A ad ((l ++ r).flatMap hc)) : Rd A ad (l.flatMap hc) := by
  rw [List.flatMap_append] at h; exact h.pre
def setB (h : Hs) (i : Nat) (b : UInt8) : Hs := ⟨h.1.set i b, by rw [List.length_set]; exact h.2⟩
/-- 'Hash{i: b, ..}' -/
def mkH (ws : List (Nat × UInt8)) : Hs := ws.foldl (fun h w => setB h w.1 w.2) zeroH
theorem setB_cells (h : Hs) (i : Nat) (b : UInt8) (hi : i < 32) : (h.1.map bv).take (i * 1) ++ [bv b] ++ (h.1.map bv).drop (i * 1 + 1) = (setB h i b).1.map bv := by
  have hl := hc_len h
  unfold setB
  rw [Nat.mul_one, List.map_set]
  apply List.ext_getElem
  · simp [h.2]; omega
  · intro j h1 h2
    rw [List.getElem_set]
    simp only [List.length_set, hl] at h2
    by_cases hj : i = j
    · subst hj
      rw [if_pos rfl, List.getElem_append_left (by simp [h.2]; omega), List.getElem_append_right (by simp [h.2]; omega)]
      simp [h.2]
    · rw [if_neg hj]
      by_cases hlt : j < i
      · rw [List.getElem_append_left (by simp [h.2]; omega), List.getElem_append_left (by simp [h.2]; omega), List.getElem_take]
      · rw [List.getElem_append_right (by simp [h.2]; omega), List.getElem_drop]
        congr 1
        simp [h.2]; omega
theorem fill_hash : ∀ (ws : List (Nat × UInt8)) (h : Hs), (∀ w ∈ ws, w.1 < 32) → fillL ((List.range 32).map fun i => (i * 1, 1)) (h.1.map bv) (ws.map fun w => (w.1, bv w.2)) = some ((ws.foldl (fun h w => setB h w.1 w.2) h).1.map bv)
  | [], h, _ => rfl
  | w :: ws, h, hw => by
    have hl := hc_len h
    have h1 := hw w (List.mem_cons_self ..)
    have e : ((List.range 32).map fun i => (i * 1, 1))[w.1]? = some (w.1 * 1, 1) := by
      rw [List.getElem?_map, List.getElem?_range h1]; rfl
    have hc : (bv w.2).cells.size = 1 ∧ w.1 * 1 + 1 ≤ (h.1.map bv).length := ⟨rfl, by omega⟩
    rw [List.map_cons]
    simp only [fillL]
    rw [e]
    dsimp only
    rw [if_pos hc]
    have e2 := setB_cells h w.1 w.2 h1
    have e3 : (bv w.2).cells.toList = [bv w.2] := rfl
    rw [e3, e2]
    exact fill_hash ws (setB h w.1 w.2) fun x hx => hw x (List.mem_cons_of_mem _ hx)
section
variable {P : Program} {ops : Array Oper} {Q : Exit → Act → World → Prop} {n : Nat} {D : List Deferred} {W0 : World} {rest : List Oper} {ρ : Env} {A B R : HP}
variable {K : Env → HP → Prop} {d : Nat} {dst : Option Tmp} {ty : TypeId} {pos : String} {aft : Array Edge} {gd : Option (Nat × Bool)}
theorem g_buildHash {T e b b' : Nat} {z z' : Value} {ps : List (Nat × Operand)} {ws : List (Nat × UInt8)} [ht : TyU P T (.array 32 e)] [hT : TyI P T 32 b z] [hE : TyI P e 1 b' z'] (hz : z = .agg ((List.replicate 32 (0 : UInt8)).map bv).toArray) (hp : ps.map (fun x => (x.1, ev ρ x.2)) = ws.map fun w => (w.1, bv w.2)) (hw : ∀ w ∈ ws, w.1 < 32) :
    Gives P ⟨dst, .build T ps.toArray, ty, pos, aft, gd⟩ ρ A (.agg (hc (mkH ws)).toArray) := by
  refine g_buildA hp ?_
  subst hz
  have := fill_hash ws zeroH hw
  exact this
/-- '[]Hash{h, g}' -/
theorem o_buildH2 {T E bytes : Nat} {z : Value} {x y : Operand} {h g : Hs} (hd : Nat.blt d n = true) [ht : TyU P T (.slice E)] [he : TyI P E 32 bytes z] (hx : ev ρ x = .agg (hc h).toArray) (hy : ev ρ y = .agg (hc g).toArray) (hz : z.cells.size = 32)
    (hK : ∀ b, K (upd ρ d (.slice (some ⟨b, 0, none⟩) 2 2)) (Blk b ([h, g].flatMap hc) E * A)) : OT P Q n D W0 ⟨some d, .buildSlice T 2 #[(0, x), (1, y)], ty, pos, aft, gd⟩ ρ A K := by
  refine o_buildN (parts := [(0, x), (1, y)]) (ps := [(0, .agg (hc h).toArray), (1, .agg (hc g).toArray)]) (zl := (List.range (2 * 32)).map fun j => z.cells[j % z.cells.size]!) (cs := [h, g].flatMap hc) hd (by simp [hx, hy]) rfl rfl ?_ hK
  have h1 : (hc h).length = 32 := hc_len h
  have h2 : (hc g).length = 32 := hc_len g
  have c1 : (Value.agg (hc h).toArray).cells.size = 32 := h1
  have c2 : (Value.agg (hc g).toArray).cells.size = 32 := h2
  have t1 : (Value.agg (hc h).toArray).cells.toList = hc h := rfl
  have t2 : (Value.agg (hc g).toArray).cells.toList = hc g := rfl
  have p0 : ((List.range 2).map fun i => (i * 32, 32))[0]? = some (0, 32) := rfl
  have p1 : ((List.range 2).map fun i => (i * 32, 32))[1]? = some (32, 32) := rfl
  have hz0 : ((List.range (2 * 32)).map fun j => z.cells[j % z.cells.size]!).length = 64 := by simp
  generalize ((List.range (2 * 32)).map fun j => z.cells[j % z.cells.size]!) = zl at hz0
  simp only [fillL]
  rw [p0]
  dsimp only
  rw [if_pos ⟨c1, by omega⟩, p1]
  dsimp only
  have hl1 : (zl.take 0 ++ (Value.agg (hc h).toArray).cells.toList ++ zl.drop (0 + 32)).length = 64 := by rw [t1]; simp only [List.take_zero, List.nil_append, List.length_append, List.length_drop, h1, hz0]
  rw [if_pos ⟨c2, by omega⟩]
  congr 1
  rw [t1, t2, List.take_zero, List.nil_append, Nat.zero_add, List.take_append_of_le_length (by omega), List.take_of_length_le (by omega), List.drop_eq_nil_of_le (by rw [List.length_append, List.length_drop, h1, hz0]; omega), List.append_nil]
  simp
/-- append of a list of hashes -/
theorem o_appHs {T E bytes m k cap c : Nat} {z : Value} {x y : Operand} {ad ad2 : Option Addr} {l l' l2 : List Hs}
    (hd : Nat.blt d n = true) [ht : TyU P T (.slice E)] [he : TyI P E 32 bytes z]
    (hx : ev ρ x = .slice ad m cap) (hy : ev ρ y = .slice ad2 k c) [hf : FArr A E 32 ad cap m (l.flatMap hc) R] [hr : Rd R ad2 (l2.flatMap hc)] (hl : l2.length = k) (h0 : Nat.blt 0 bytes = true) (hb : (m + k) * bytes ≤ 140737488355328)
    {mk : Nat} (hm : m + k = mk) (hys : l ++ l2 = l') (h : ∀ ad' cap', mk ≤ cap' → (ad' = none → mk = 0 ∧ ad = none) → K (upd ρ d (.slice ad' mk cap')) (Arr E 32 ad' cap' mk (l'.flatMap hc) * R)) :
    OT P Q n D W0 ⟨some d, .call { callee := .builtin .append, args := #[x, y], argTypes := #[T, T] }, ty, pos, aft, gd⟩ ρ A K := by
  subst hys
  exact o_appR hd hx hy (by rw [hs_len, hl]) (hs_one l2) h0 rfl hb hm (List.flatMap_append).symm h
/-- a byte's place in a hash of a list -/
theorem g_elemAR {x ix : Operand} {T e bytes len j : Nat} {z : Value} {a : Addr} {o : Nat} {k : IntKind} {i : Int} (hx : ev ρ x = .pointer (some (a.add o))) (hi : ev ρ ix = .int k i) [ht : TyU P T (.array len e)] [he : TyI P e 1 bytes z] [hj : NatI i j] (h1 : j < len) :
    Gives P ⟨dst, .indexAddr T x ix, ty, pos, aft, gd⟩ ρ A (.pointer (some (a.add (o + j)))) := fun _ w _ => by
  obtain ⟨inf, hinf, hs⟩ := Option.map_eq_some_iff.1 he.eq
  have hs' : inf.size = 1 := by simpa using congrArg (fun x => x.2.1) hs
  have h0 := hj.nn
  have h1' : i < len := by rw [hj.eq]; omega
  have hto := hj.to
  simp [execOp, hx, hi, Instr.indexAt, asIntOf, run_underlying ht.eq, h0, h1', sizeOf, typeInfo, hinf, hs', hto, Instr.sureAddr, addr_add_add]
theorem flat_getB {l : List Hs} {i j : Nat} (h : i < l.length) (hj : j < 32) : (l.flatMap hc)[i * 32 + j]? = some (bv (l[i].1[j]'(by rw [l[i].2]; exact hj))) := by
  rw [flat_get hc_len l i j l[i] (List.getElem?_eq_getElem h) hj, List.getElem?_map, List.getElem?_eq_getElem (by rw [l[i].2]; exact hj)]; rfl
theorem flat_setB : ∀ (l : List Hs) (i j : Nat) (b : UInt8) (h : i < l.length), j < 32 → (l.flatMap hc).set (i * 32 + j) (bv b) = (l.set i (setB l[i] j b)).flatMap hc
  | [], i, j, b, h, _ => by simp at h
  | x :: l, 0, j, b, _, hj => by
    have hx : (hc x).length = 32 := hc_len x
    rw [List.flatMap_cons, Nat.zero_mul, Nat.zero_add, List.set_append_left _ _ (by omega), List.set_cons_zero, List.flatMap_cons]
    congr 1
    show (x.1.map bv).set j (bv b) = (x.1.set j b).map bv
    rw [List.map_set]
  | x :: l, i + 1, j, b, h, hj => by
    have hx : (hc x).length = 32 := hc_len x
    have ih := flat_setB l i j b (by simpa using h) hj
    rw [List.flatMap_cons, List.set_append_right _ _ (by omega), hx, show (i + 1) * 32 + j - 32 = i * 32 + j by omega, ih, List.set_cons_succ, List.flatMap_cons]
    rfl
theorem wrapU8 (z : Int) : IntKind.u8.wrap z = z % 256 := by simp [IntKind.wrap, IntKind.bits, IntKind.signed]
theorem xor8 (x y : UInt8) : bOp .xor .u8 (x.toNat : Int) (y.toNat : Int) = ((x ^^^ y).toNat : Int) := by
  have bv8 : ∀ x : UInt8, BitVec.ofInt 8 (x.toNat : Int) = x.toBitVec := fun x => by
    apply BitVec.eq_of_toNat_eq
    have := x.toNat_lt
    simp
  show IntKind.u8.wrap ((BitVec.ofInt 8 (x.toNat : Int) ^^^ BitVec.ofInt 8 (y.toNat : Int)).toNat : Int) = _
  rw [bv8, bv8, wrapU8]
  have := (x ^^^ y).toNat_lt
  show (((x ^^^ y).toNat : Int)) % 256 = _
  omega
theorem g_xor8 {x y : Operand} {T T' : TypeId} {a b : UInt8} (hx : ev ρ x = bv a) (hy : ev ρ y = bv b) : Gives P ⟨dst, .binOp .xor T x y T', ty, pos, aft, gd⟩ ρ A (bv (a ^^^ b)) := by
  have := g_xor (P := P) (A := A) (dst := dst) (ty := ty) (pos := pos) (aft := aft) (gd := gd) (T := T) (T' := T') hx hy; rwa [xor8] at this
/-- 'byte(i)' of a number -/
theorem g_convI8 {x : Operand} {S T : TypeId} {k : IntKind} {i : Int} {j : Nat} {ds : TypeDesc} (hx : ev ρ x = .int k i) [hs : TyU P S ds] [ht : TyU P T (.int .u8)] [hj : NatI i j] : Gives P ⟨dst, .convert S T x, ty, pos, aft, gd⟩ ρ A (bv (UInt8.ofNat j)) := by
  have := g_conv (P := P) (A := A) (dst := dst) (ty := ty) (pos := pos) (aft := aft) (gd := gd) (S := S) (T := T) (k' := .u8) hx
  rw [wrapU8, hj.eq] at this
  have e : ((j : Int)) % 256 = (((UInt8.ofNat j).toNat : Nat) : Int) := by simp [UInt8.toNat_ofNat']
  rwa [e] at this
/-- 'append(s[:n:n], h)' -/
theorem o_appHF {T E b bytes m c : Nat} {z : Value} {x y : Operand} {ad : Option Addr} {vc : List Value} {l : List Hs} {h : Hs} {T' : TypeId} {R1 : HP}
    (hd : Nat.blt d n = true) [ht : TyU P T (.slice E)] [he : TyI P E 32 bytes z]
    (hx : ev ρ x = .slice ad m m) (hy : ev ρ y = .slice (some ⟨b, 0, none⟩) 1 c) [hb : FBlk A b vc T' R1] [hr : Rd R1 ad (l.flatMap hc)] (hvc : vc = hc h) (hl : l.length = m) (h0 : Nat.blt 0 bytes = true) (hbig : (m + 1) * bytes ≤ 140737488355328)
    {mk : Nat} (hm : m + 1 = mk) (hK : ∀ g cap', mk ≤ cap' → K (upd ρ d (.slice (some g) mk cap')) (Arr E 32 (some g) cap' mk ((l ++ [h]).flatMap hc) * R1)) :
    OT P Q n D W0 ⟨some d, .call { callee := .builtin .append, args := #[x, y], argTypes := #[T, T] }, ty, pos, aft, gd⟩ ρ A K := by
  subst hvc
  have h1 : (hc h).length = 32 := hc_len h
  exact o_appF hd hx hy (by rw [hs_len, hl]) (by omega) h1 h0 hbig hm (by rw [List.flatMap_append]; simp) hK
end
end Go.Proofs.Ytijplicijmpknaa
