/- DagNames: the fixed calls. -/
import Derived.Test.YtijplicijmpknaaDg7
namespace Go.Proofs.Ytijplicijmpknaa
open Go.RowKit
attribute [local irreducible] Gives RT CT QT Spec Wants Reads Src Ent OT RQ AnyT AnyOp Again Code.wp Post

section
variable {P : Program} {ρ : Env} {A : HP} {dst : Option Tmp} {ty : TypeId} {pos : String} {aft : Array Edge} {gd : Option (Nat × Bool)}
theorem fill_vx (h : Hs) (c : Int) (l : List Hs) (ad : Option Addr) (cap : Nat) : fillL [(0, 32), (32, 1), (33, 1)] (vcells vx0) [(0, .agg (hc h).toArray), (1, .int .i64 c), (2, .slice ad l.length cap)] = some (vcells ⟨⟨h, c, l⟩, ad, cap⟩) := by
  have h0 : (vcells vx0).drop 32 = [.int .i64 0, .slice none 0 0] := by unfold vcells; rfl
  have hl := hc_len h
  have hv := vcells_len vx0
  simp only [fillL, Value.cells, List.getElem?_cons_zero, List.getElem?_cons_succ, hv, h0, List.take_zero, List.nil_append, Nat.zero_add, List.size_toArray, hl, List.length_append, List.length_cons, List.length_nil]
  simp only [List.take_append, List.drop_append, hl]
  simp [hl, vcells, List.take_of_length_le, List.drop_eq_nil_of_le]
theorem fill_vx2 (h : Hs) (c : Int) : fillL [(0, 32), (32, 1), (33, 1)] (vcells vx0) [(0, .agg (hc h).toArray), (1, .int .i64 c)] = some (vcells ⟨⟨h, c, []⟩, none, 0⟩) := by
  have h0 : (vcells vx0).drop 32 = [.int .i64 0, .slice none 0 0] := by unfold vcells; rfl
  have hl := hc_len h
  have hv := vcells_len vx0
  simp only [fillL, Value.cells, List.getElem?_cons_zero, List.getElem?_cons_succ, hv, h0, List.take_zero, List.nil_append, Nat.zero_add, List.size_toArray, hl, List.length_append, List.length_cons, List.length_nil]
  simp only [List.take_append, List.drop_append, hl]
  simp [hl, vcells, List.take_of_length_le, List.drop_eq_nil_of_le]
theorem g_buildV {T : TypeId} {x y z : Operand} {zc : List Value} {h : Hs} {c : Int} {ad : Option Addr} {m cap : Nat} (l : List Hs) (hx : ev ρ x = .agg (hc h).toArray) (hy : ev ρ y = .int .i64 c) (hw : ev ρ z = .slice ad m cap) [hS : TyS P T [(0, 32), (32, 1), (33, 1)] zc] (hz : zc = vcells vx0) (hl : l.length = m) :
    Gives P ⟨dst, .build T [(0, x), (1, y), (2, z)].toArray, ty, pos, aft, gd⟩ ρ A (.agg (vcells ⟨⟨h, c, l⟩, ad, cap⟩).toArray) :=
  g_build (vs := [(0, .agg (hc h).toArray), (1, .int .i64 c), (2, .slice ad l.length cap)]) (by simp only [List.map_cons, List.map_nil, hx, hy, hw, hl]) (by rw [hz]; exact fill_vx h c l ad cap)
theorem g_buildV2 {T : TypeId} {x y : Operand} {zc : List Value} {h : Hs} {c : Int} (hx : ev ρ x = .agg (hc h).toArray) (hy : ev ρ y = .int .i64 c) [hS : TyS P T [(0, 32), (32, 1), (33, 1)] zc] (hz : zc = vcells vx0) :
    Gives P ⟨dst, .build T [(0, x), (1, y)].toArray, ty, pos, aft, gd⟩ ρ A (.agg (vcells ⟨⟨h, c, []⟩, none, 0⟩).toArray) :=
  g_build (vs := [(0, .agg (hc h).toArray), (1, .int .i64 c)]) (by simp only [List.map_cons, List.map_nil, hx, hy]) (by rw [hz]; exact fill_vx2 h c)
end
attribute [local irreducible] vcells
abbrev aH : Hs := mkH [(0, 1)]
abbrev bH : Hs := mkH [(0, 2)]
def aV : V := ⟨aH, 1, []⟩
def bV : V := ⟨bH, 2, [aH]⟩
def s0 : DS := ⟨1, [], [], []⟩
def s1 : DS := ⟨1, [], [], [bV]⟩
def s2 : DS := ⟨1, [aV], [aH], [bV]⟩
theorem fit0 : fitS s0 bV = (3, 0) := by decide +kernel
theorem add0 : addS s0 bV = (s1, []) := by kernel_rfl
theorem fit1 : fitS s1 aV = (2, 0) := by decide +kernel
theorem add1 : addS s1 aV = (s2, []) := by kernel_rfl
theorem next2 : nextS s2 = some bV := by kernel_rfl
theorem new1 (R : HP) : Spec Try.prog 11 [.int .i64 1] R (fun d : Nat => .tuple #[.pointer (some ⟨d, 0, none⟩), .int .i64 0]) (fun d => IsDag d s0 [] * R) :=
  spec_conseq (new_spec R 1) (Ent.refl _) fun i => by
    obtain ⟨o, ho⟩ := i
    cases o with
    | none => exact absurd (ho.1 rfl) (by omega)
    | some d => exact ⟨d, rfl, Ent.refl _⟩
theorem addb (R : HP) (d : Nat) (b : Nat) [hr : Rd R (some ⟨b, 0, none⟩) (hc aH)] :
    Spec Try.prog 15 [.pointer (some ⟨d, 0, none⟩), .agg (vcells ⟨⟨bH, 2, [aH]⟩, some ⟨b, 0, none⟩, 1⟩).toArray] (IsDag d s0 [] * R) (fun i : Option Addr × Nat => .tuple #[.int .i64 3, .slice i.1 0 i.2, .int .i64 0]) (fun _ => IsDag d s1 [] * R) := by
  have hr' : Rd R (some ⟨b, 0, none⟩) ([aH].flatMap hc) := by rw [show [aH].flatMap hc = hc aH by simp]; exact hr
  have h := @add_spec R d s0 [] ⟨bV, some ⟨b, 0, none⟩, 1⟩ hr' (show [aH].length ≤ 140737488351232 by decide) (fun v hv => by cases hv) (by decide)
  rw [show (⟨bV, some ⟨b, 0, none⟩, 1⟩ : Vx).v = bV from rfl, fit0, add0] at h
  exact spec_conseq h (Ent.refl _) fun i => ⟨i, rfl, En.ent⟩
theorem adda (R : HP) (d : Nat) :
    Spec Try.prog 15 [.pointer (some ⟨d, 0, none⟩), .agg (vcells ⟨⟨aH, 1, []⟩, none, 0⟩).toArray] (IsDag d s1 [] * R) (fun i : Option Addr × Nat => .tuple #[.int .i64 2, .slice i.1 0 i.2, .int .i64 0]) (fun _ => IsDag d s2 [] * R) := by
  have h := @add_spec (Arr 32 32 none 0 0 [] * R) d s1 [] ⟨aV, none, 0⟩ (by exact Rd.left _ _ _ _) (by decide) (fun v hv => by cases hv) (by decide)
  rw [show (⟨aV, none, 0⟩ : Vx).v = aV from rfl, fit1, add1] at h
  exact spec_conseq h ((arr_nil _ 32 32).trans En.ent) fun i => ⟨i, rfl, En.ent⟩
theorem nextb (R : HP) (d : Nat) : Spec Try.prog 35 [.pointer (some ⟨d, 0, none⟩)] (IsDag d s2 [] * R)
      (fun i : Option Addr × Nat => .tuple #[.agg (vcells ⟨⟨bH, 2, [aH]⟩, i.1, i.2⟩).toArray, .bool true]) (fun _ => IsDag d s2 [] * R) := by
  have h := next_spec R d s2 []
  rw [show nextV s2 = bV by unfold nextV; rw [next2]; rfl, next2] at h
  exact spec_conseq h (Ent.refl _) fun i => ⟨i, rfl, En.ent⟩
theorem len2 (R : HP) (d : Nat) : Spec Try.prog 36 [.pointer (some ⟨d, 0, none⟩)] (IsDag d s2 [] * R) (fun _ : Unit => .int .i64 1) (fun _ => IsDag d s2 [] * R) := len_spec R d s2 []
attribute [local irreducible] s0 s1 s2
set_option maxRecDepth 100000 in
theorem fixed_spec (R : HP) : Spec Try.prog 9 [] R (fun _ : Unit => .bool true) (fun _ => R) := by
  refine spec_of Try.func9 rfl Try.ntmps9 rfl fun W0 => ?_
  have h1 := fun (R' : HP) => new1 R'
  have h2 := fun (R' : HP) (d b : Nat) [Rd R' (some ⟨b, 0, none⟩) (hc aH)] => addb R' d b
  have h3 := fun (R' : HP) (d : Nat) => adda R' d
  have h4 := fun (R' : HP) (d : Nat) => nextb R' d
  have h5 := fun (R' : HP) (d : Nat) => len2 R' d
  focus
    refine ct_seq ?_
    (refine ct_region' rfl ?_; simp only [List.map, lite])
    (refine rg rfl (g_assign (by conv => lhs; whnf)) rfl rfl ?_)
    refine rt_nil ?_
    refine q_then ?_
    refine ct_seq ?_
    (refine ct_region' rfl ?_; simp only [List.map, lite])
    (refine rt_op (wants_none rfl) (o_callE rfl rfl (Ent.refl _) (h1 _) fun i14 => ?_))
    (refine rg rfl (g_move (by conv => lhs; whnf)) rfl rfl ?_)
    (refine rg rfl (g_extract rfl (by conv => lhs; whnf)) rfl rfl ?_)
    (refine rg rfl (g_extract rfl (by conv => lhs; whnf)) rfl rfl ?_)
    (refine rg rfl (g_assign (by conv => lhs; whnf)) rfl rfl ?_)
    (refine rg rfl (g_assign (by conv => lhs; whnf)) rfl rfl ?_)
    refine rt_nil ?_
    refine q_then ?_
    refine ct_seq ?_
    refine ct_seq ?_
    (refine ct_region' rfl ?_; simp only [List.map, lite])
    (refine rg rfl (g_move (by conv => lhs; whnf)) rfl rfl ?_)
    (refine rg rfl (g_ptr_eq rfl) rfl rfl ?_)
    (refine rg rfl (g_move (by conv => lhs; whnf)) rfl rfl ?_)
    (refine rgw rfl rfl rfl rfl (g_move (by conv => lhs; whnf)) rfl rfl ?_)
    (refine rgw rfl rfl rfl rfl (g_neqF rfl rfl ?_) rfl rfl ?_; (· (omega)))
    (refine rg rfl (g_pick_f rfl (by conv => lhs; whnf)) rfl rfl ?_)
    refine rt_nil ?_
    refine q_then ?_
    refine ct_false rfl ?_
    refine ct_skip ?_
    refine q_then ?_
    refine ct_seq ?_
    (refine ct_region' rfl ?_; simp only [List.map, lite])
    (refine rg rfl (g_buildHash (ws := [(0, 1)]) rfl rfl (by decide)) rfl rfl ?_)
    (refine rg rfl (g_buildHash (ws := [(0, 2)]) rfl rfl (by decide)) rfl rfl ?_)
    (refine rt_op (wants_none rfl) (o_alloc rfl (by conv => lhs; whnf) fun b3 => ?_))
    (refine rt_op (wants_none rfl) (o_alloc rfl (by conv => lhs; whnf) fun b4 => ?_))
    (refine rt_op (wants_none rfl) (o_storeAgg rfl (by conv => lhs; whnf) (by first | exact List.toList_toArray | (conv => lhs; whnf)) (by first | rfl | exact bvsAll _ | exact wvs_all _ | assumption | exact vcells_one _) (by first | rfl | assumption | (simp; done) | (simp; omega) | exact vcells_len _ | exact hc_len _) (by first | rfl | assumption | (simp; done) | (simp; omega) | exact vcells_len _ | exact hc_len _) ?_))
    (refine rt_op (wants_none rfl) (o_storeAgg rfl (by conv => lhs; whnf) (by first | exact List.toList_toArray | (conv => lhs; whnf)) (by first | rfl | exact bvsAll _ | exact wvs_all _ | assumption | exact vcells_one _) (by first | rfl | assumption | (simp; done) | (simp; omega) | exact vcells_len _ | exact hc_len _) (by first | rfl | assumption | (simp; done) | (simp; omega) | exact vcells_len _ | exact hc_len _) ?_))
    refine rt_nil ?_
    refine q_then ?_
    refine ct_seq ?_
    (refine ct_region' rfl ?_; simp only [List.map, lite])
    (refine rg rfl (g_move (by conv => lhs; whnf)) rfl rfl ?_)
    (refine rg rfl (g_loadAgg_blk rfl (by first | rfl | assumption | (simp; done) | (simp; omega) | exact vcells_len _ | exact hc_len _)) rfl rfl ?_)
    (refine rg rfl (g_loadAgg_blk rfl (by first | rfl | assumption | (simp; done) | (simp; omega) | exact vcells_len _ | exact hc_len _)) rfl rfl ?_)
    (refine rt_op (wants_none rfl) (o_buildH rfl (by conv => lhs; whnf) fun b29 => ?_))
    (refine rg rfl (g_buildV [aH] rfl rfl rfl (by kernel_rfl) rfl) rfl rfl ?_)
    (refine rt_op (wants_none rfl) (o_callE rfl rfl (ent_right (ent_right (ent_right (Ent.refl _)))) (h2 _ _ _) fun i31 => ?_))
    (refine rg rfl (g_move (by conv => lhs; whnf)) rfl rfl ?_)
    (refine rg rfl (g_extract rfl (by conv => lhs; whnf)) rfl rfl ?_)
    (refine rg rfl (g_extract rfl (by conv => lhs; whnf)) rfl rfl ?_)
    (refine rg rfl (g_extract rfl (by conv => lhs; whnf)) rfl rfl ?_)
    (refine rg rfl (g_assign (by conv => lhs; whnf)) rfl rfl ?_)
    (refine rg rfl (g_assign (by conv => lhs; whnf)) rfl rfl ?_)
    (refine rg rfl (g_assign (by conv => lhs; whnf)) rfl rfl ?_)
    refine rt_nil ?_
    refine q_then ?_
    refine ct_seq ?_
    (refine ct_region' rfl ?_; simp only [List.map, lite])
    (refine rg rfl (g_move (by conv => lhs; whnf)) rfl rfl ?_)
    (refine rg rfl (g_loadAgg_blk rfl (by first | rfl | assumption | (simp; done) | (simp; omega) | exact vcells_len _ | exact hc_len _)) rfl rfl ?_)
    (refine rg rfl (g_buildV2 rfl rfl (by kernel_rfl)) rfl rfl ?_)
    (refine rt_op (wants_none rfl) (o_callE rfl rfl (Ent.refl _) (h3 _ _) fun i39 => ?_))
    (refine rg rfl (g_move (by conv => lhs; whnf)) rfl rfl ?_)
    (refine rg rfl (g_extract rfl (by conv => lhs; whnf)) rfl rfl ?_)
    (refine rg rfl (g_extract rfl (by conv => lhs; whnf)) rfl rfl ?_)
    (refine rg rfl (g_extract rfl (by conv => lhs; whnf)) rfl rfl ?_)
    (refine rg rfl (g_assign (by conv => lhs; whnf)) rfl rfl ?_)
    (refine rg rfl (g_assign (by conv => lhs; whnf)) rfl rfl ?_)
    (refine rg rfl (g_assign (by conv => lhs; whnf)) rfl rfl ?_)
    refine rt_nil ?_
    refine q_then ?_
    refine ct_seq ?_
    (refine ct_region' rfl ?_; simp only [List.map, lite])
    (refine rg rfl (g_move (by conv => lhs; whnf)) rfl rfl ?_)
    (refine rt_op (wants_none rfl) (o_callE rfl rfl (Ent.refl _) (h4 _ _) fun i45 => ?_))
    (refine rg rfl (g_move (by conv => lhs; whnf)) rfl rfl ?_)
    (refine rg rfl (g_extract rfl (by conv => lhs; whnf)) rfl rfl ?_)
    (refine rg rfl (g_extract rfl (by conv => lhs; whnf)) rfl rfl ?_)
    (refine rt_op (wants_none rfl) (o_alloc rfl (by conv => lhs; whnf) fun b11 => ?_))
    (refine rt_op (wants_none rfl) (o_storeAgg rfl (by conv => lhs; whnf) (by first | exact List.toList_toArray | (conv => lhs; whnf)) (by first | rfl | exact bvsAll _ | exact wvs_all _ | assumption | exact vcells_one _) (by first | rfl | assumption | (simp; done) | (simp; omega) | exact vcells_len _ | exact hc_len _) (by first | rfl | assumption | (simp; done) | (simp; omega) | exact vcells_len _ | exact hc_len _) ?_))
    (refine rg rfl (g_assign (by conv => lhs; whnf)) rfl rfl ?_)
    refine rt_nil ?_
    refine q_then ?_
    refine ct_seq ?_
    (refine ct_region' rfl ?_; simp only [List.map, lite])
    (refine rg rfl (g_move (by conv => lhs; whnf)) rfl rfl ?_)
    (refine rg rfl (g_eqlT rfl rfl ?_) rfl rfl ?_; (· (omega)))
    (refine rg rfl (g_move (by conv => lhs; whnf)) rfl rfl ?_)
    (refine rgw rfl rfl rfl rfl (g_move (by conv => lhs; whnf)) rfl rfl ?_)
    (refine rgw rfl rfl rfl rfl (g_eqlT rfl rfl ?_) rfl rfl ?_; (· (omega)))
    (refine rg rfl (g_pick_t rfl (by conv => lhs; whnf)) rfl rfl ?_)
    (refine rg rfl (g_move (by conv => lhs; whnf)) rfl rfl ?_)
    (refine rgw rfl rfl rfl rfl (g_move (by conv => lhs; whnf)) rfl rfl ?_)
    (refine rgw rfl rfl rfl rfl (g_eqlT rfl rfl ?_) rfl rfl ?_; (· (omega)))
    (refine rg rfl (g_pick_t rfl (by conv => lhs; whnf)) rfl rfl ?_)
    (refine rg rfl (g_move (by conv => lhs; whnf)) rfl rfl ?_)
    (refine rgw rfl rfl rfl rfl (g_move (by conv => lhs; whnf)) rfl rfl ?_)
    (refine rgw rfl rfl rfl rfl (g_eqlT rfl rfl ?_) rfl rfl ?_; (· (omega)))
    (refine rg rfl (g_pick_t rfl (by conv => lhs; whnf)) rfl rfl ?_)
    (refine rg rfl (g_move (by conv => lhs; whnf)) rfl rfl ?_)
    (refine rgw rfl rfl rfl rfl (g_move (by conv => lhs; whnf)) rfl rfl ?_)
    (refine rg rfl (g_pick_t rfl (by conv => lhs; whnf)) rfl rfl ?_)
    (refine rg rfl (g_move (by conv => lhs; whnf)) rfl rfl ?_)
    (refine rgw rfl rfl rfl rfl (g_field0 rfl) rfl rfl ?_)
    (refine rgw rfl rfl rfl rfl (g_loadVid rfl) rfl rfl ?_)
    (refine rgw rfl rfl rfl rfl (g_loadAgg_blk rfl (by first | rfl | assumption | (simp; done) | (simp; omega) | exact vcells_len _ | exact hc_len _)) rfl rfl ?_)
    (refine rgw rfl rfl rfl rfl (g_eqHT rfl rfl (by kernel_rfl) (by first | rfl | assumption | (simp; done) | (simp; omega)) ?_) rfl rfl ?_; (· (first | rfl | assumption)))
    (refine rg rfl (g_pick_t rfl (by conv => lhs; whnf)) rfl rfl ?_)
    (refine rg rfl (g_move (by conv => lhs; whnf)) rfl rfl ?_)
    (refine rgw rfl rfl rfl rfl (g_move (by conv => lhs; whnf)) rfl rfl ?_)
    (refine rt_op (wants_some rfl rfl rfl rfl) (o_callE rfl rfl (ent_right (Ent.refl _)) (h5 _ _) fun i73 => ?_))
    (refine rgw rfl rfl rfl rfl (g_eqlT rfl rfl ?_) rfl rfl ?_; (· (omega)))
    (refine rg rfl (g_pick_t rfl (by conv => lhs; whnf)) rfl rfl ?_)
    (refine rg rfl (g_assign (by conv => lhs; whnf)) rfl rfl ?_)
    refine rt_nil ?_
    refine q_then ?_
    refine ct_ret ?_
    exact q_ret1 rfl rfl () rfl En.ent
theorem dagNames_spec (R : HP) : Spec Try.prog 3 [] R (fun _ : Unit => .bool true) (fun _ => R) := by
  refine spec_of Try.func3 rfl Try.ntmps3 rfl fun W0 => ?_
  have hf := fun (R' : HP) => fixed_spec R'
  focus
    refine ct_seq ?_
    (refine ct_region' rfl ?_; simp only [List.map, lite])
    (refine rg rfl (g_assign (by conv => lhs; whnf)) rfl rfl ?_)
    refine rt_nil ?_
    refine q_then ?_
    refine ct_seq ?_
    (refine ct_region' rfl ?_; simp only [List.map, lite])
    (refine rg rfl (g_assign (by conv => lhs; whnf)) rfl rfl ?_)
    refine rt_nil ?_
    refine q_then ?_
    refine ct_seq ?_
    (refine ct_region' rfl ?_; simp only [List.map, lite])
    (refine rg rfl (g_assign (by conv => lhs; whnf)) rfl rfl ?_)
    refine rt_nil ?_
    refine q_then ?_
    refine ct_seq ?_
    (refine ct_region' rfl ?_; simp only [List.map, lite])
    (refine rg rfl (g_move (by conv => lhs; whnf)) rfl rfl ?_)
    (refine rg rfl (g_move (by conv => lhs; whnf)) rfl rfl ?_)
    (refine rgw rfl rfl rfl rfl (g_move (by conv => lhs; whnf)) rfl rfl ?_)
    (refine rg rfl (g_pick_t rfl (by conv => lhs; whnf)) rfl rfl ?_)
    (refine rg rfl (g_move (by conv => lhs; whnf)) rfl rfl ?_)
    (refine rg rfl (g_pick_t rfl (by conv => lhs; whnf)) rfl rfl ?_)
    (refine rg rfl (g_move (by conv => lhs; whnf)) rfl rfl ?_)
    (refine rg rfl (g_pick_t rfl (by conv => lhs; whnf)) rfl rfl ?_)
    (refine rg rfl (g_move (by conv => lhs; whnf)) rfl rfl ?_)
    (refine rg rfl (g_pick_t rfl (by conv => lhs; whnf)) rfl rfl ?_)
    (refine rg rfl (g_move (by conv => lhs; whnf)) rfl rfl ?_)
    (refine rt_op (wants_some rfl rfl rfl rfl) (o_callE rfl rfl (Ent.refl _) (hf _) fun i14 => ?_))
    (refine rg rfl (g_pick_t rfl (by conv => lhs; whnf)) rfl rfl ?_)
    (refine rg rfl (g_assign (by conv => lhs; whnf)) rfl rfl ?_)
    refine rt_nil ?_
    refine q_then ?_
    refine ct_ret ?_
    exact q_ret1 rfl rfl () rfl En.ent
end Go.Proofs.Ytijplicijmpknaa
