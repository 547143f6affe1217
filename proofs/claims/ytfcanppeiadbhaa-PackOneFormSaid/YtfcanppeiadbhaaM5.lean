/- The statement of PackOneForm: whatever is read of any bytes, laid again it is these bytes. The walk is in the texts that this one imports; here it is brought into the row's form. -/
import Derived.Test.YtfcanppeiadbhaaL5
import Derived.Test.YtfcanppeiadbhaaRow
namespace Go.Proofs.Ytfcanppeiadbhaa.packOneFormDone
open Go.ChangeShapes Go.WideShapes Go.ChangeAt Go.RowKit
set_option linter.unusedVariables false

theorem own : ownKnob Try.prog.godebug = none := by kernel_rfl
theorem laidOut : laidOutB Try.prog = true := by kernel_rfl
theorem bytes8 : Try.prog.bytesOf 5 = 1 := by kernel_rfl
theorem bytesI : Try.prog.bytesOf 3 = 8 := by kernel_rfl
theorem walk (w : World) (a b : Option Addr) (cap cap' : Nat) (xs : List UInt8) (ks : List Int) (hr : RdB (Old w) a xs) (hk : RdI (Old w) .i64 b ks) (hc : xs.length ≤ cap) (hl : xs.length ≤ 140737488351232) (hkl : ks.length ≤ 9223372036854775806) :
    Calls Try.prog 5 #[.slice a xs.length cap, .slice b ks.length cap'] w fun e w' => e = .returned (.bool true) ∧ Below w.heap.size w w' :=
  (packOneForm_spec (Old w) a cap xs b cap' ks hr hk hc hl hkl w w (Sat.begin w)).mono fun e w' ⟨_, he, s⟩ => ⟨he, (s.ent (Ent.addEmp _)).below⟩

set_option maxRecDepth 100000 in
theorem lifted (os : Os) (started : os.Started) (H : Type) (enc : TypeId × Value → H) :
    ReturnsInHanded {} Try.checked os 5 .any (Rows.packOneFormSpec.pre6 enc Try.prog Try.f5 Rows.packOneFormRow.domain false) (Rows.packOneFormSpec.post enc Try.prog Try.f5 false true false false) := by
  refine returnsInHanded_of_change_sized (C := Try.checked) own started (by kernel_rfl) Try.func5
    (ChangeSpec.witness6 (enc := enc) (C := Try.checked) false ⟨#[], #[.slice none 0 0, .slice none 0 0], []⟩ 8 (by kernel_rfl) (by kernel_rfl) (by kernel_rfl) (by kernel_rfl)) ?_
  intro W base args ds gs before hval0 hW _ hsz0 _
  have hsz : (DataW.weightsEach Try.prog (Try.f5.params.toList ++ Rows.packOneFormSpec.plain.varTypes Try.prog) (ds ++ gs)).all (· ≤ reachBytes) = true := hsz0
  clear hsz0
  have hval : ∀ (j : Nat) t v, Try.f5.params[j]? = some t → args[j]? = some v → Value.okWide Try.prog W .any base t v := hval0
  have hW' := hW
  obtain ⟨p, q, hA0, hV, rfl, hfz, hnd⟩ := hW
  have hA : DataW.TrodAll enc Try.prog W 0 (fun _ => true) true Try.f5.params.toList args.toList ds p := hA0
  rw [Try.params5] at hA hval hsz
  obtain ⟨v0, v1, d0, d1, p0, p1, rfl, rfl, rfl, h0, h1⟩ := trodAll_two hA
  obtain ⟨rfl, rfl⟩ := trodVars_none hV
  obtain ⟨a0, len0, cap0, rfl⟩ := okWide_slice Try.underlying36 (hval 0 36 v0 rfl rfl)
  obtain ⟨a1, len1, cap1, rfl⟩ := okWide_slice Try.underlying50 (hval 1 50 v1 rfl rfl)
  obtain ⟨z0, hz0, hl0, hm0, hb0, hn0, hr0, hw0⟩ := row_ints Try.underlying36 Try.underlying5 (by kernel_rfl) h0 hsz (j := 0) rfl rfl
  obtain ⟨z1, hz1, hl1, hm1, hb1, hn1, hr1, hw1⟩ := row_ints Try.underlying50 Try.underlying3 (by kernel_rfl) h1 hsz (j := 1) rfl rfl
  rw [bytes8] at hb0
  rw [bytesI] at hb1
  have hlt0 : ∀ x ∈ p0, x.block < W.heap.size := by obtain ⟨m, hm⟩ := h0; exact DataW.trod_lt m _ _ _ hm
  have hlt1 : ∀ x ∈ p1, x.block < W.heap.size := by obtain ⟨m, hm⟩ := h1; exact DataW.trod_lt m _ _ _ hm
  clear hA0 hval0
  have key := walk W a0 a1 cap0 cap1 ((z0.map fun n => UInt8.ofNat n.toNat).take len0) (z1.take len1)
    ⟨fun hn => (by rw [show len0 = 0 by have := hn0 hn; omega]; simp), fun g hg => (by rw [List.map_take, ← bytes_of hw0]; exact (hr0 g hg).take len0)⟩
    ⟨fun hn => (by rw [show len1 = 0 by have := hn1 hn; omega]; simp), fun g hg => (by rw [List.map_take]; exact (hr1 g hg).take len1)⟩
    (by simp; omega) (by simp; omega) (by simp; omega)
  rw [show ((z0.map fun n => UInt8.ofNat n.toNat).take len0).length = len0 by simp; omega, show (z1.take len1).length = len1 by simp; omega] at key
  refine key.mono fun e W' ⟨he, bel⟩ => ?_
  subst he
  exact ⟨_, rfl, _, _, _, [], _, [], hW', trodAll_mk1 (shut_bool Try.underlying4 _), trodAll_mk2 (Below.trod laidOut (by kernel_rfl) (of_decide_eq_true (by kernel_rfl)) h0 bel hlt0) (Below.trod laidOut (by kernel_rfl) (of_decide_eq_true (by kernel_rfl)) h1 bel hlt1), rfl, bel.frame _, fun h => by cases h⟩

theorem over : Rows.packOneFormRow.holds Try.pinned (OpenSpec.ofChange Rows.packOneFormSpec) :=
  OpenClaim.holds_of_wide 5 Try.f5 rfl rfl rfl rfl rfl rfl rfl ⟨rfl, rfl, rfl, rfl, rfl⟩ rfl rfl rfl rfl rfl (by kernel_rfl) Try.func5 (by kernel_rfl)
    (of_decide_eq_true (by kernel_rfl)) (by unfold Func.isWrapper; first | (rw [if_pos (by decide +kernel)]; kernel_rfl) | (rw [if_neg (by decide +kernel)]; exact ⟨rfl, rfl⟩))
    (fun os started H enc _ => lifted os started H enc)

theorem proved : Rows.PackOneFormSaid := over
#print axioms proved
end Go.Proofs.Ytfcanppeiadbhaa.packOneFormDone
