/- The statement of ShaFollows: the row's form. The walk is in the texts that this one imports; here it is brought into the row's form. -/
import Derived.Test.YtmhddmenmkjdlaaNs7
import Derived.Test.YtmhddmenmkjdlaaArg
namespace Go.Proofs.Ytmhddmenmkjdlaa.shaFollowsDone
open Go.ChangeShapes Go.WideShapes Go.ChangeAt Go.RowKit
set_option linter.unusedVariables false

theorem own : ownKnob Try.prog.godebug = none := by kernel_rfl
theorem laidOut : laidOutB Try.prog = true := by kernel_rfl
set_option maxRecDepth 100000 in
theorem lifted (os : Os) (started : os.Started) (H : Type) (enc : TypeId × Value → H) :
    ReturnsInHanded {} Try.checked os 9 .any (Rows.shaFollowsSpec.pre6 enc Try.prog Try.f9 Rows.shaFollowsRow.domain false) (Rows.shaFollowsSpec.post enc Try.prog Try.f9 false true false false) := by
  refine returnsInHanded_of_change_sized (C := Try.checked) own started (by kernel_rfl) Try.func9
    (ChangeSpec.witness6 (enc := enc) (C := Try.checked) false ⟨#[], #[.slice none 0 0, .slice none 0 0, .slice none 0 0], []⟩ 8 (by kernel_rfl) (by kernel_rfl) (by kernel_rfl) (by kernel_rfl)) ?_
  intro W base args ds gs before hval0 hW _ hsz0 _
  have hsz : (DataW.weightsEach Try.prog (Try.f9.params.toList ++ Rows.shaFollowsSpec.plain.varTypes Try.prog) (ds ++ gs)).all (· ≤ reachBytes) = true := hsz0
  clear hsz0
  have hval : ∀ (j : Nat) t v, Try.f9.params[j]? = some t → args[j]? = some v → Value.okWide Try.prog W .any base t v := hval0
  have hW' := hW
  obtain ⟨p, q, hA0, hV, rfl, hfz, hnd⟩ := hW
  have hA : DataW.TrodAll enc Try.prog W 0 (fun _ => true) true Try.f9.params.toList args.toList ds p := hA0
  rw [Try.params9] at hA hval hsz
  obtain ⟨v0, v1, v2, d0, d1, d2, p0, p1, p2, rfl, rfl, rfl, h0, h1, h2⟩ := trodAll_three hA
  obtain ⟨rfl, rfl⟩ := trodVars_none hV
  rw [List.all_eq_true] at hsz
  have a0 : ArgOk Try.prog W 12 28 v0.cells.toList := by
    obtain ⟨fuel, hf⟩ := h0
    exact argOk fuel _ _ _ hf fun k hk => of_decide_eq_true (hsz k (DataW.weights_mem_each (j := 0) rfl rfl k hk))
  have s0 := okWide_slice Try.underlying28 (hval 0 28 v0 rfl rfl)
  have l0 : ∀ x ∈ p0, x.block < W.heap.size := by obtain ⟨m, hm⟩ := h0; exact DataW.trod_lt m _ _ _ hm
  have a1 : ArgOk Try.prog W 12 28 v1.cells.toList := by
    obtain ⟨fuel, hf⟩ := h1
    exact argOk fuel _ _ _ hf fun k hk => of_decide_eq_true (hsz k (DataW.weights_mem_each (j := 1) rfl rfl k hk))
  have s1 := okWide_slice Try.underlying28 (hval 1 28 v1 rfl rfl)
  have l1 : ∀ x ∈ p1, x.block < W.heap.size := by obtain ⟨m, hm⟩ := h1; exact DataW.trod_lt m _ _ _ hm
  have a2 : ArgOk Try.prog W 12 50 v2.cells.toList := by
    obtain ⟨fuel, hf⟩ := h2
    exact argOk fuel _ _ _ hf fun k hk => of_decide_eq_true (hsz k (DataW.weights_mem_each (j := 2) rfl rfl k hk))
  have s2 := okWide_slice Try.underlying50 (hval 2 50 v2 rfl rfl)
  have l2 : ∀ x ∈ p2, x.block < W.heap.size := by obtain ⟨m, hm⟩ := h2; exact DataW.trod_lt m _ _ _ hm
  clear hA0 hval0
  refine (shaFollows_args W v0 v1 v2 s0 a0 s1 a1 s2 a2).mono fun e W' ⟨he, bel⟩ => ?_
  subst he
  exact ⟨_, rfl, _, _, _, [], _, [], hW', trodAll_mk1 (shut_bool Try.underlying4 _), trodAll_mk3 (Below.trod laidOut (by kernel_rfl) (of_decide_eq_true (by kernel_rfl)) h0 bel l0) (Below.trod laidOut (by kernel_rfl) (of_decide_eq_true (by kernel_rfl)) h1 bel l1) (Below.trod laidOut (by kernel_rfl) (of_decide_eq_true (by kernel_rfl)) h2 bel l2), rfl, bel.frame _, fun h => by cases h⟩

theorem over : Rows.shaFollowsRow.holds Try.pinned (OpenSpec.ofChange Rows.shaFollowsSpec) :=
  OpenClaim.holds_of_wide 9 Try.f9 rfl rfl rfl rfl rfl rfl rfl ⟨rfl, rfl, rfl, rfl, rfl⟩ rfl rfl rfl rfl rfl (by kernel_rfl) Try.func9 (by kernel_rfl)
    (of_decide_eq_true (by kernel_rfl)) (by unfold Func.isWrapper; first | (rw [if_pos (by decide +kernel)]; kernel_rfl) | (rw [if_neg (by decide +kernel)]; exact ⟨rfl, rfl⟩))
    (fun os started H enc _ => lifted os started H enc)

theorem proved : Rows.ShaFollowsSaid := over
#print axioms proved
end Go.Proofs.Ytmhddmenmkjdlaa.shaFollowsDone
