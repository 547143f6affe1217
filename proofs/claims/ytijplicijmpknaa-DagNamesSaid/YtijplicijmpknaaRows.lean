/-
  No cell of these rows narrows 'for every input' (looked for: loops, veiled, ifaces, maps, wideKeys, modest, calm, conditions, laid).
  DERIVED. THE GIVEN ROWS OF THIS SEAT. 6 by the template 'for every input the law returns true; each argument reads behind the call as it read before'; 0 by the template 'total and deterministic' (their statements: YtijplicijmpknaaTotals.lean).
  GIVEN WITH THE SEED: the statements are not yours to turn. If you find one false, say at which input.
  Laid BY PROGRAM, IN A SANDBOX (cutbox-rows.mjs): the forced cells as the released guide's own fill.sh prints them over the translation 2fb1c2bb610e5db6… (all of the seat's roots in one cut). By AI agents, Wed Nov 11 2026. No macro, syntax, notation, axiom, sorry.
-/
import Derived.Test.YtijplicijmpknaaChecked
import GoSem.Claim
import GoSem.ClaimJoined
import GoSem.ClaimMapViews
import Derived.JoinedTies
import Derived.KernelRfl
namespace Go.Proofs.Ytijplicijmpknaa
/- THE CELL 'sum', in the pinned program and in every row, IS THE sha256 OF THE DUMP (.gsa) THAT YtijplicijmpknaaProg.lean LOADS. Nothing in Lean hashes anything: it is a label: what it is worth is what the hold of that sum in a sandbox is worth. -/
noncomputable def Try.pinned : Pinned := { name := "ytijplicijmpknaa", sum := "2fb1c2bb610e5db6a469ee1aab91bfb6150130d3bbe9354d0e18474bc3b18f14", checked := Try.checked }
namespace Rows
def none {H : Type} : Left H := { results := [], args := [] }

/-- 'pleachlaw10.DagNames': WHATEVER THE INPUT: true; the input reads as it did. -/
def dagNamesSpec : ChangeSpec := { name := "dagNames", fn := fun _ => fun
  | [] => { results := [.lit (.bool true)], args := [] }
  | _ => none }
def dagNamesRow : OpenClaim := { program := "ytijplicijmpknaa", sum := "2fb1c2bb610e5db6a469ee1aab91bfb6150130d3bbe9354d0e18474bc3b18f14", func := "pleach/pleachlaw10.DagNames", spec := "dagNames", inPlace := ["internal/bytealg.Compare"], unfollowed := true, recurses := true, plainKeys := false, apart := false }
def DagNamesSaid : Prop := dagNamesRow.holds Try.pinned (OpenSpec.ofChange dagNamesSpec)

/-- ITS FALSE NEIGHBOUR: 'it returns false'. Refute it at one input. -/
def dagNamesWrong : ChangeSpec := { name := "dagNames", fn := fun _ => fun
  | [] => { results := [.lit (.bool false)], args := [] }
  | _ => none }
def DagNamesWrongFalsely : Prop := dagNamesRow.holds Try.pinned (OpenSpec.ofChange dagNamesWrong)

/-- 'pleachlaw10.DagFull': WHATEVER THE INPUT: true; the input reads as it did. -/
def dagFullSpec : ChangeSpec := { name := "dagFull", fn := fun _ => fun
  | [d1, d2, d3] => { results := [.lit (.bool true)], args := [d1, d2, d3] }
  | _ => none }
def dagFullRow : OpenClaim := { program := "ytijplicijmpknaa", sum := "2fb1c2bb610e5db6a469ee1aab91bfb6150130d3bbe9354d0e18474bc3b18f14", func := "pleach/pleachlaw10.DagFull", spec := "dagFull", inPlace := ["internal/bytealg.Compare"], unfollowed := true, recurses := true, plainKeys := false, apart := false }
def DagFullSaid : Prop := dagFullRow.holds Try.pinned (OpenSpec.ofChange dagFullSpec)

/-- ITS FALSE NEIGHBOUR: 'it returns false'. Refute it at one input. -/
def dagFullWrong : ChangeSpec := { name := "dagFull", fn := fun _ => fun
  | [d1, d2, d3] => { results := [.lit (.bool false)], args := [d1, d2, d3] }
  | _ => none }
def DagFullWrongFalsely : Prop := dagFullRow.holds Try.pinned (OpenSpec.ofChange dagFullWrong)

/-- 'pleachlaw10.DagMeets': WHATEVER THE INPUT: true; the input reads as it did. -/
def dagMeetsSpec : ChangeSpec := { name := "dagMeets", fn := fun _ => fun
  | [d1, d2] => { results := [.lit (.bool true)], args := [d1, d2] }
  | _ => none }
def dagMeetsRow : OpenClaim := { program := "ytijplicijmpknaa", sum := "2fb1c2bb610e5db6a469ee1aab91bfb6150130d3bbe9354d0e18474bc3b18f14", func := "pleach/pleachlaw10.DagMeets", spec := "dagMeets", inPlace := ["internal/bytealg.Compare"], unfollowed := true, recurses := true, plainKeys := false, apart := false }
def DagMeetsSaid : Prop := dagMeetsRow.holds Try.pinned (OpenSpec.ofChange dagMeetsSpec)

/-- ITS FALSE NEIGHBOUR: 'it returns false'. Refute it at one input. -/
def dagMeetsWrong : ChangeSpec := { name := "dagMeets", fn := fun _ => fun
  | [d1, d2] => { results := [.lit (.bool false)], args := [d1, d2] }
  | _ => none }
def DagMeetsWrongFalsely : Prop := dagMeetsRow.holds Try.pinned (OpenSpec.ofChange dagMeetsWrong)

/-- 'pleachlaw10.DagKeeps': WHATEVER THE INPUT: true; the input reads as it did. -/
def dagKeepsSpec : ChangeSpec := { name := "dagKeeps", fn := fun _ => fun
  | [d1, d2, d3] => { results := [.lit (.bool true)], args := [d1, d2, d3] }
  | _ => none }
def dagKeepsRow : OpenClaim := { program := "ytijplicijmpknaa", sum := "2fb1c2bb610e5db6a469ee1aab91bfb6150130d3bbe9354d0e18474bc3b18f14", func := "pleach/pleachlaw10.DagKeeps", spec := "dagKeeps", inPlace := ["internal/bytealg.Compare"], unfollowed := true, recurses := true, plainKeys := false, apart := false }
def DagKeepsSaid : Prop := dagKeepsRow.holds Try.pinned (OpenSpec.ofChange dagKeepsSpec)

/-- ITS FALSE NEIGHBOUR: 'it returns false'. Refute it at one input. -/
def dagKeepsWrong : ChangeSpec := { name := "dagKeeps", fn := fun _ => fun
  | [d1, d2, d3] => { results := [.lit (.bool false)], args := [d1, d2, d3] }
  | _ => none }
def DagKeepsWrongFalsely : Prop := dagKeepsRow.holds Try.pinned (OpenSpec.ofChange dagKeepsWrong)

/-- 'pleachlaw10.DagAnswers': WHATEVER THE INPUT: true; the input reads as it did. -/
def dagAnswersSpec : ChangeSpec := { name := "dagAnswers", fn := fun _ => fun
  | [d1, d2] => { results := [.lit (.bool true)], args := [d1, d2] }
  | _ => none }
def dagAnswersRow : OpenClaim := { program := "ytijplicijmpknaa", sum := "2fb1c2bb610e5db6a469ee1aab91bfb6150130d3bbe9354d0e18474bc3b18f14", func := "pleach/pleachlaw10.DagAnswers", spec := "dagAnswers", inPlace := ["internal/bytealg.Compare"], unfollowed := true, recurses := true, plainKeys := false, apart := false }
def DagAnswersSaid : Prop := dagAnswersRow.holds Try.pinned (OpenSpec.ofChange dagAnswersSpec)

/-- ITS FALSE NEIGHBOUR: 'it returns false'. Refute it at one input. -/
def dagAnswersWrong : ChangeSpec := { name := "dagAnswers", fn := fun _ => fun
  | [d1, d2] => { results := [.lit (.bool false)], args := [d1, d2] }
  | _ => none }
def DagAnswersWrongFalsely : Prop := dagAnswersRow.holds Try.pinned (OpenSpec.ofChange dagAnswersWrong)

/-- 'pleachlaw10.DagOrders': WHATEVER THE INPUT: true; the input reads as it did. -/
def dagOrdersSpec : ChangeSpec := { name := "dagOrders", fn := fun _ => fun
  | [d1, d2] => { results := [.lit (.bool true)], args := [d1, d2] }
  | _ => none }
def dagOrdersRow : OpenClaim := { program := "ytijplicijmpknaa", sum := "2fb1c2bb610e5db6a469ee1aab91bfb6150130d3bbe9354d0e18474bc3b18f14", func := "pleach/pleachlaw10.DagOrders", spec := "dagOrders", inPlace := ["internal/bytealg.Compare"], unfollowed := true, recurses := true, plainKeys := false, apart := false }
def DagOrdersSaid : Prop := dagOrdersRow.holds Try.pinned (OpenSpec.ofChange dagOrdersSpec)

/-- ITS FALSE NEIGHBOUR: 'it returns false'. Refute it at one input. -/
def dagOrdersWrong : ChangeSpec := { name := "dagOrders", fn := fun _ => fun
  | [d1, d2] => { results := [.lit (.bool false)], args := [d1, d2] }
  | _ => none }
def DagOrdersWrongFalsely : Prop := dagOrdersRow.holds Try.pinned (OpenSpec.ofChange dagOrdersWrong)

/- THE SECOND FORM. 'bulk': how many values and letters a reading holds, each counted each time it is reached (what is shared counts as often as it is met; a slice's spare places count too). A statement '..UptoSaid' is the law's where the arguments, and the package variables that the reading takes, are together of bulk at most 1048576: NARROWER than '..Said'. Prove '..Said' where nothing that the law and all that it calls make is longer than what came in: it says more and counts as full. Else prove '..UptoSaid'. A law counts once. -/
mutual
def uptoBulk {H : Type} : DataW H → Nat
  | .lit (.string bytes) => bytes.length + 1
  | .lit _ => 1
  | .nil => 1
  | .ptr d => uptoBulk d + 1
  | .slice elems spare => uptoBulkAll elems + uptoBulkAll spare + 1
  | .agg parts => uptoBulkAll parts + 1
  | .iface _ d => uptoBulk d + 1
  | .map entries => uptoBulkEntries entries + 1
  | .held _ => 1
def uptoBulkAll {H : Type} : List (DataW H) → Nat
  | [] => 0
  | d :: r => uptoBulk d + uptoBulkAll r
def uptoBulkEntries {H : Type} : List (Lit × DataW H) → Nat
  | [] => 0
  | x :: r => uptoBulkEntry x + uptoBulkEntries r
def uptoBulkEntry {H : Type} : Lit × DataW H → Nat
  | (.string bytes, d) => bytes.length + uptoBulk d + 1
  | (_, d) => uptoBulk d + 1
 end
def uptoSmall : (H : Type) → List (DataW H) → Bool := fun _ ds => decide (uptoBulkAll ds ≤ 1048576)
def OpenSpec.upto (s : _root_.Go.ChangeSpec) : _root_.Go.OpenSpec := { _root_.Go.OpenSpec.ofChange s with cond := some uptoSmall }

/-- 'pleachlaw10.DagNames', WHERE WHAT IT READS IS OF BULK AT MOST 1048576: true; the input reads as it did. -/
def dagNamesUptoRow : OpenClaim := { program := "ytijplicijmpknaa", sum := "2fb1c2bb610e5db6a469ee1aab91bfb6150130d3bbe9354d0e18474bc3b18f14", func := "pleach/pleachlaw10.DagNames", spec := "dagNames", inPlace := ["internal/bytealg.Compare"], unfollowed := true, recurses := true, plainKeys := false, apart := false, narrowed := true }
def DagNamesUptoSaid : Prop := dagNamesUptoRow.holds Try.pinned (OpenSpec.upto dagNamesSpec)

/-- 'pleachlaw10.DagFull', WHERE WHAT IT READS IS OF BULK AT MOST 1048576: true; the input reads as it did. -/
def dagFullUptoRow : OpenClaim := { program := "ytijplicijmpknaa", sum := "2fb1c2bb610e5db6a469ee1aab91bfb6150130d3bbe9354d0e18474bc3b18f14", func := "pleach/pleachlaw10.DagFull", spec := "dagFull", inPlace := ["internal/bytealg.Compare"], unfollowed := true, recurses := true, plainKeys := false, apart := false, narrowed := true }
def DagFullUptoSaid : Prop := dagFullUptoRow.holds Try.pinned (OpenSpec.upto dagFullSpec)

/-- 'pleachlaw10.DagMeets', WHERE WHAT IT READS IS OF BULK AT MOST 1048576: true; the input reads as it did. -/
def dagMeetsUptoRow : OpenClaim := { program := "ytijplicijmpknaa", sum := "2fb1c2bb610e5db6a469ee1aab91bfb6150130d3bbe9354d0e18474bc3b18f14", func := "pleach/pleachlaw10.DagMeets", spec := "dagMeets", inPlace := ["internal/bytealg.Compare"], unfollowed := true, recurses := true, plainKeys := false, apart := false, narrowed := true }
def DagMeetsUptoSaid : Prop := dagMeetsUptoRow.holds Try.pinned (OpenSpec.upto dagMeetsSpec)

/-- 'pleachlaw10.DagKeeps', WHERE WHAT IT READS IS OF BULK AT MOST 1048576: true; the input reads as it did. -/
def dagKeepsUptoRow : OpenClaim := { program := "ytijplicijmpknaa", sum := "2fb1c2bb610e5db6a469ee1aab91bfb6150130d3bbe9354d0e18474bc3b18f14", func := "pleach/pleachlaw10.DagKeeps", spec := "dagKeeps", inPlace := ["internal/bytealg.Compare"], unfollowed := true, recurses := true, plainKeys := false, apart := false, narrowed := true }
def DagKeepsUptoSaid : Prop := dagKeepsUptoRow.holds Try.pinned (OpenSpec.upto dagKeepsSpec)

/-- 'pleachlaw10.DagAnswers', WHERE WHAT IT READS IS OF BULK AT MOST 1048576: true; the input reads as it did. -/
def dagAnswersUptoRow : OpenClaim := { program := "ytijplicijmpknaa", sum := "2fb1c2bb610e5db6a469ee1aab91bfb6150130d3bbe9354d0e18474bc3b18f14", func := "pleach/pleachlaw10.DagAnswers", spec := "dagAnswers", inPlace := ["internal/bytealg.Compare"], unfollowed := true, recurses := true, plainKeys := false, apart := false, narrowed := true }
def DagAnswersUptoSaid : Prop := dagAnswersUptoRow.holds Try.pinned (OpenSpec.upto dagAnswersSpec)

/-- 'pleachlaw10.DagOrders', WHERE WHAT IT READS IS OF BULK AT MOST 1048576: true; the input reads as it did. -/
def dagOrdersUptoRow : OpenClaim := { program := "ytijplicijmpknaa", sum := "2fb1c2bb610e5db6a469ee1aab91bfb6150130d3bbe9354d0e18474bc3b18f14", func := "pleach/pleachlaw10.DagOrders", spec := "dagOrders", inPlace := ["internal/bytealg.Compare"], unfollowed := true, recurses := true, plainKeys := false, apart := false, narrowed := true }
def DagOrdersUptoSaid : Prop := dagOrdersUptoRow.holds Try.pinned (OpenSpec.upto dagOrdersSpec)

end Rows
end Go.Proofs.Ytijplicijmpknaa
