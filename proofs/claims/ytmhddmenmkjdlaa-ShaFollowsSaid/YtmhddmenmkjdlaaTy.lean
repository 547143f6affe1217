/- PRINTED by gen_ty.py (a program of this session's): the seat's types and functions, as instances. -/
import Derived.Test.YtmhddmenmkjdlaaAny
namespace Go.Proofs.Ytmhddmenmkjdlaa
open Go.Proofs
set_option maxRecDepth 100000
instance : Mixed Try.prog := ⟨by kernel_rfl⟩
instance : TyU Try.prog 2 (.int .i64) := ⟨Try.underlying2⟩
instance : TyI Try.prog 2 1 8 (.int .i64 0) := ⟨by kernel_rfl, rfl⟩
instance : Ty1 Try.prog 2 := ⟨by kernel_rfl, _, Try.underlying2, fun _ _ _ => ⟨TypeDesc.noConfusion, TypeDesc.noConfusion⟩⟩
instance : TyU Try.prog 3 (.int .i64) := ⟨Try.underlying3⟩
instance : TyI Try.prog 3 1 8 (.int .i64 0) := ⟨by kernel_rfl, rfl⟩
instance : Ty1 Try.prog 3 := ⟨by kernel_rfl, _, Try.underlying3, fun _ _ _ => ⟨TypeDesc.noConfusion, TypeDesc.noConfusion⟩⟩
instance : TyU Try.prog 4 .bool := ⟨Try.underlying4⟩
instance : TyI Try.prog 4 1 1 (.bool false) := ⟨by kernel_rfl, rfl⟩
instance : Ty1 Try.prog 4 := ⟨by kernel_rfl, _, Try.underlying4, fun _ _ _ => ⟨TypeDesc.noConfusion, TypeDesc.noConfusion⟩⟩
instance : TyU Try.prog 5 (.int .u8) := ⟨Try.underlying5⟩
instance : TyI Try.prog 5 1 1 (.int .u8 0) := ⟨by kernel_rfl, rfl⟩
instance : Ty1 Try.prog 5 := ⟨by kernel_rfl, _, Try.underlying5, fun _ _ _ => ⟨TypeDesc.noConfusion, TypeDesc.noConfusion⟩⟩
instance : TyU Try.prog 7 (.struct #[⟨ "x", 2, 0, false, "", "runtime", 0⟩, ⟨ "y", 3, 1, false, "", "runtime", 8⟩, ⟨ "signed", 4, 2, false, "", "runtime", 16⟩, ⟨ "code", 6, 3, false, "", "runtime", 17⟩]) := ⟨Try.underlying7⟩
instance : TyI Try.prog 7 4 24 (.agg #[(.int .i64 0), (.int .i64 0), (.bool false), (.int .u8 0)]) := ⟨by kernel_rfl, rfl⟩
instance : TyA Try.prog 7 4 := ⟨by kernel_rfl, _, Try.underlying7, .inl ⟨_, rfl⟩⟩
instance : TyS Try.prog 7 [(0, 1), (1, 1), (2, 1), (3, 1)] [(.int .i64 0), (.int .i64 0), (.bool false), (.int .u8 0)] := ⟨_, Try.underlying7, fun w => by kernel_rfl, fun w => ⟨(.agg #[(.int .i64 0), (.int .i64 0), (.bool false), (.int .u8 0)]), by kernel_rfl, rfl⟩⟩
instance : TyF Try.prog 7 0 0 2 := ⟨_, _, 0, Try.underlying7, rfl, rfl, rfl, by kernel_rfl⟩
instance : TyF Try.prog 7 1 1 3 := ⟨_, _, 0, Try.underlying7, rfl, rfl, rfl, by kernel_rfl⟩
instance : TyF Try.prog 7 2 2 4 := ⟨_, _, 0, Try.underlying7, rfl, rfl, rfl, by kernel_rfl⟩
instance : TyF Try.prog 7 3 3 6 := ⟨_, _, 0, Try.underlying7, rfl, rfl, rfl, by kernel_rfl⟩
instance : TyU Try.prog 9 .string := ⟨Try.underlying9⟩
instance : TyI Try.prog 9 1 16 (.string .empty) := ⟨by kernel_rfl, rfl⟩
instance : Ty1 Try.prog 9 := ⟨by kernel_rfl, _, Try.underlying9, fun _ _ _ => ⟨TypeDesc.noConfusion, TypeDesc.noConfusion⟩⟩
instance : TyU Try.prog 12 (.int .u64) := ⟨Try.underlying12⟩
instance : TyI Try.prog 12 1 8 (.int .u64 0) := ⟨by kernel_rfl, rfl⟩
instance : Ty1 Try.prog 12 := ⟨by kernel_rfl, _, Try.underlying12, fun _ _ _ => ⟨TypeDesc.noConfusion, TypeDesc.noConfusion⟩⟩
instance : TyU Try.prog 13 (.struct #[⟨ "msg", 9, 0, false, "", "runtime", 0⟩, ⟨ "addr", 12, 1, false, "", "runtime", 16⟩]) := ⟨Try.underlying13⟩
instance : TyI Try.prog 13 2 24 (.agg #[(.string .empty), (.int .u64 0)]) := ⟨by kernel_rfl, rfl⟩
instance : TyA Try.prog 13 2 := ⟨by kernel_rfl, _, Try.underlying13, .inl ⟨_, rfl⟩⟩
instance : TyS Try.prog 13 [(0, 1), (1, 1)] [(.string .empty), (.int .u64 0)] := ⟨_, Try.underlying13, fun w => by kernel_rfl, fun w => ⟨(.agg #[(.string .empty), (.int .u64 0)]), by kernel_rfl, rfl⟩⟩
instance : TyF Try.prog 13 0 0 9 := ⟨_, _, 0, Try.underlying13, rfl, rfl, rfl, by kernel_rfl⟩
instance : TyF Try.prog 13 1 1 12 := ⟨_, _, 0, Try.underlying13, rfl, rfl, rfl, by kernel_rfl⟩
instance : TyU Try.prog 18 (.struct #[⟨ "typ", 17, 0, false, "", "internal/runtime/maps", 0⟩]) := ⟨Try.underlying18⟩
instance : TyI Try.prog 18 1 8 (.agg #[(.pointer none)]) := ⟨by kernel_rfl, rfl⟩
instance : TyA Try.prog 18 1 := ⟨by kernel_rfl, _, Try.underlying18, .inl ⟨_, rfl⟩⟩
instance : TyS Try.prog 18 [(0, 1)] [(.pointer none)] := ⟨_, Try.underlying18, fun w => by kernel_rfl, fun w => ⟨(.agg #[(.pointer none)]), by kernel_rfl, rfl⟩⟩
instance : TyF Try.prog 18 0 0 17 := ⟨_, _, 0, Try.underlying18, rfl, rfl, rfl, by kernel_rfl⟩
instance : TyU Try.prog 20 (.interface #[]) := ⟨Try.underlying20⟩
instance : TyI Try.prog 20 1 16 .nilIface := ⟨by kernel_rfl, rfl⟩
instance : Ty1 Try.prog 20 := ⟨by kernel_rfl, _, Try.underlying20, fun _ _ _ => ⟨TypeDesc.noConfusion, TypeDesc.noConfusion⟩⟩
instance : TyU Try.prog 21 (.int .i32) := ⟨Try.underlying21⟩
instance : TyI Try.prog 21 1 4 (.int .i32 0) := ⟨by kernel_rfl, rfl⟩
instance : Ty1 Try.prog 21 := ⟨by kernel_rfl, _, Try.underlying21, fun _ _ _ => ⟨TypeDesc.noConfusion, TypeDesc.noConfusion⟩⟩
instance : TyU Try.prog 22 (.array 32 5) := ⟨Try.underlying22⟩
instance : TyI Try.prog 22 32 32 (.agg #[(.int .u8 0), (.int .u8 0), (.int .u8 0), (.int .u8 0), (.int .u8 0), (.int .u8 0), (.int .u8 0), (.int .u8 0), (.int .u8 0), (.int .u8 0), (.int .u8 0), (.int .u8 0), (.int .u8 0), (.int .u8 0), (.int .u8 0), (.int .u8 0), (.int .u8 0), (.int .u8 0), (.int .u8 0), (.int .u8 0), (.int .u8 0), (.int .u8 0), (.int .u8 0), (.int .u8 0), (.int .u8 0), (.int .u8 0), (.int .u8 0), (.int .u8 0), (.int .u8 0), (.int .u8 0), (.int .u8 0), (.int .u8 0)]) := ⟨by kernel_rfl, rfl⟩
instance : TyA Try.prog 22 32 := ⟨by kernel_rfl, _, Try.underlying22, .inr ⟨_, _, rfl⟩⟩
instance : TyU Try.prog 23 (.array 32 5) := ⟨Try.underlying23⟩
instance : TyI Try.prog 23 32 32 (.agg #[(.int .u8 0), (.int .u8 0), (.int .u8 0), (.int .u8 0), (.int .u8 0), (.int .u8 0), (.int .u8 0), (.int .u8 0), (.int .u8 0), (.int .u8 0), (.int .u8 0), (.int .u8 0), (.int .u8 0), (.int .u8 0), (.int .u8 0), (.int .u8 0), (.int .u8 0), (.int .u8 0), (.int .u8 0), (.int .u8 0), (.int .u8 0), (.int .u8 0), (.int .u8 0), (.int .u8 0), (.int .u8 0), (.int .u8 0), (.int .u8 0), (.int .u8 0), (.int .u8 0), (.int .u8 0), (.int .u8 0), (.int .u8 0)]) := ⟨by kernel_rfl, rfl⟩
instance : TyA Try.prog 23 32 := ⟨by kernel_rfl, _, Try.underlying23, .inr ⟨_, _, rfl⟩⟩
instance : TyU Try.prog 25 (.slice 28) := ⟨Try.underlying25⟩
instance : TyI Try.prog 25 1 24 (.slice none 0 0) := ⟨by kernel_rfl, rfl⟩
instance : Ty1 Try.prog 25 := ⟨by kernel_rfl, _, Try.underlying25, fun _ _ _ => ⟨TypeDesc.noConfusion, TypeDesc.noConfusion⟩⟩
instance : TyU Try.prog 28 (.slice 5) := ⟨Try.underlying28⟩
instance : TyI Try.prog 28 1 24 (.slice none 0 0) := ⟨by kernel_rfl, rfl⟩
instance : Ty1 Try.prog 28 := ⟨by kernel_rfl, _, Try.underlying28, fun _ _ _ => ⟨TypeDesc.noConfusion, TypeDesc.noConfusion⟩⟩
instance : TyU Try.prog 31 (.slice 40) := ⟨Try.underlying31⟩
instance : TyI Try.prog 31 1 24 (.slice none 0 0) := ⟨by kernel_rfl, rfl⟩
instance : Ty1 Try.prog 31 := ⟨by kernel_rfl, _, Try.underlying31, fun _ _ _ => ⟨TypeDesc.noConfusion, TypeDesc.noConfusion⟩⟩
instance : TyU Try.prog 33 (.pointer 37) := ⟨Try.underlying33⟩
instance : TyI Try.prog 33 1 8 (.pointer none) := ⟨by kernel_rfl, rfl⟩
instance : Ty1 Try.prog 33 := ⟨by kernel_rfl, _, Try.underlying33, fun _ _ _ => ⟨TypeDesc.noConfusion, TypeDesc.noConfusion⟩⟩
instance : TyU Try.prog 34 (.pointer 68) := ⟨Try.underlying34⟩
instance : TyI Try.prog 34 1 8 (.pointer none) := ⟨by kernel_rfl, rfl⟩
instance : Ty1 Try.prog 34 := ⟨by kernel_rfl, _, Try.underlying34, fun _ _ _ => ⟨TypeDesc.noConfusion, TypeDesc.noConfusion⟩⟩
instance : TyU Try.prog 36 (.struct #[⟨ "d", 34, 0, false, "", "pleach/pleachlaw01", 0⟩, ⟨ "b", 28, 1, false, "", "pleach/pleachlaw01", 8⟩]) := ⟨Try.underlying36⟩
instance : TyI Try.prog 36 2 32 (.agg #[(.pointer none), (.slice none 0 0)]) := ⟨by kernel_rfl, rfl⟩
instance : TyA Try.prog 36 2 := ⟨by kernel_rfl, _, Try.underlying36, .inl ⟨_, rfl⟩⟩
instance : TyS Try.prog 36 [(0, 1), (1, 1)] [(.pointer none), (.slice none 0 0)] := ⟨_, Try.underlying36, fun w => by kernel_rfl, fun w => ⟨(.agg #[(.pointer none), (.slice none 0 0)]), by kernel_rfl, rfl⟩⟩
instance : TyF Try.prog 36 0 0 34 := ⟨_, _, 0, Try.underlying36, rfl, rfl, rfl, by kernel_rfl⟩
instance : TyF Try.prog 36 1 1 28 := ⟨_, _, 0, Try.underlying36, rfl, rfl, rfl, by kernel_rfl⟩
instance : TyU Try.prog 37 (.struct #[⟨ "d", 34, 0, false, "", "pleach/pleachlaw01", 0⟩, ⟨ "b", 28, 1, false, "", "pleach/pleachlaw01", 8⟩]) := ⟨Try.underlying37⟩
instance : TyI Try.prog 37 2 32 (.agg #[(.pointer none), (.slice none 0 0)]) := ⟨by kernel_rfl, rfl⟩
instance : TyA Try.prog 37 2 := ⟨by kernel_rfl, _, Try.underlying37, .inl ⟨_, rfl⟩⟩
instance : TyS Try.prog 37 [(0, 1), (1, 1)] [(.pointer none), (.slice none 0 0)] := ⟨_, Try.underlying37, fun w => by kernel_rfl, fun w => ⟨(.agg #[(.pointer none), (.slice none 0 0)]), by kernel_rfl, rfl⟩⟩
instance : TyF Try.prog 37 0 0 34 := ⟨_, _, 0, Try.underlying37, rfl, rfl, rfl, by kernel_rfl⟩
instance : TyF Try.prog 37 1 1 28 := ⟨_, _, 0, Try.underlying37, rfl, rfl, rfl, by kernel_rfl⟩
instance : TyU Try.prog 38 (.slice 33) := ⟨Try.underlying38⟩
instance : TyI Try.prog 38 1 24 (.slice none 0 0) := ⟨by kernel_rfl, rfl⟩
instance : Ty1 Try.prog 38 := ⟨by kernel_rfl, _, Try.underlying38, fun _ _ _ => ⟨TypeDesc.noConfusion, TypeDesc.noConfusion⟩⟩
instance : TyU Try.prog 39 (.struct #[⟨ "Kind", 3, 0, false, "", "", 0⟩, ⟨ "On", 3, 1, false, "", "", 8⟩, ⟨ "B", 28, 2, false, "", "", 16⟩]) := ⟨Try.underlying39⟩
instance : TyI Try.prog 39 3 40 (.agg #[(.int .i64 0), (.int .i64 0), (.slice none 0 0)]) := ⟨by kernel_rfl, rfl⟩
instance : TyA Try.prog 39 3 := ⟨by kernel_rfl, _, Try.underlying39, .inl ⟨_, rfl⟩⟩
instance : TyS Try.prog 39 [(0, 1), (1, 1), (2, 1)] [(.int .i64 0), (.int .i64 0), (.slice none 0 0)] := ⟨_, Try.underlying39, fun w => by kernel_rfl, fun w => ⟨(.agg #[(.int .i64 0), (.int .i64 0), (.slice none 0 0)]), by kernel_rfl, rfl⟩⟩
instance : TyF Try.prog 39 0 0 3 := ⟨_, _, 0, Try.underlying39, rfl, rfl, rfl, by kernel_rfl⟩
instance : TyF Try.prog 39 1 1 3 := ⟨_, _, 0, Try.underlying39, rfl, rfl, rfl, by kernel_rfl⟩
instance : TyF Try.prog 39 2 2 28 := ⟨_, _, 0, Try.underlying39, rfl, rfl, rfl, by kernel_rfl⟩
instance : TyU Try.prog 40 (.struct #[⟨ "Kind", 3, 0, false, "", "", 0⟩, ⟨ "On", 3, 1, false, "", "", 8⟩, ⟨ "B", 28, 2, false, "", "", 16⟩]) := ⟨Try.underlying40⟩
instance : TyI Try.prog 40 3 40 (.agg #[(.int .i64 0), (.int .i64 0), (.slice none 0 0)]) := ⟨by kernel_rfl, rfl⟩
instance : TyA Try.prog 40 3 := ⟨by kernel_rfl, _, Try.underlying40, .inl ⟨_, rfl⟩⟩
instance : TyS Try.prog 40 [(0, 1), (1, 1), (2, 1)] [(.int .i64 0), (.int .i64 0), (.slice none 0 0)] := ⟨_, Try.underlying40, fun w => by kernel_rfl, fun w => ⟨(.agg #[(.int .i64 0), (.int .i64 0), (.slice none 0 0)]), by kernel_rfl, rfl⟩⟩
instance : TyF Try.prog 40 0 0 3 := ⟨_, _, 0, Try.underlying40, rfl, rfl, rfl, by kernel_rfl⟩
instance : TyF Try.prog 40 1 1 3 := ⟨_, _, 0, Try.underlying40, rfl, rfl, rfl, by kernel_rfl⟩
instance : TyF Try.prog 40 2 2 28 := ⟨_, _, 0, Try.underlying40, rfl, rfl, rfl, by kernel_rfl⟩
instance : TyU Try.prog 45 (.int .i64) := ⟨Try.underlying45⟩
instance : TyI Try.prog 45 1 8 (.int .i64 0) := ⟨by kernel_rfl, rfl⟩
instance : Ty1 Try.prog 45 := ⟨by kernel_rfl, _, Try.underlying45, fun _ _ _ => ⟨TypeDesc.noConfusion, TypeDesc.noConfusion⟩⟩
instance : TyU Try.prog 50 (.slice 23) := ⟨Try.underlying50⟩
instance : TyI Try.prog 50 1 24 (.slice none 0 0) := ⟨by kernel_rfl, rfl⟩
instance : Ty1 Try.prog 50 := ⟨by kernel_rfl, _, Try.underlying50, fun _ _ _ => ⟨TypeDesc.noConfusion, TypeDesc.noConfusion⟩⟩
instance : TyU Try.prog 60 (.int .u32) := ⟨Try.underlying60⟩
instance : TyI Try.prog 60 1 4 (.int .u32 0) := ⟨by kernel_rfl, rfl⟩
instance : Ty1 Try.prog 60 := ⟨by kernel_rfl, _, Try.underlying60, fun _ _ _ => ⟨TypeDesc.noConfusion, TypeDesc.noConfusion⟩⟩
instance : TyU Try.prog 61 (.array 8 60) := ⟨Try.underlying61⟩
instance : TyI Try.prog 61 8 32 (.agg #[(.int .u32 0), (.int .u32 0), (.int .u32 0), (.int .u32 0), (.int .u32 0), (.int .u32 0), (.int .u32 0), (.int .u32 0)]) := ⟨by kernel_rfl, rfl⟩
instance : TyA Try.prog 61 8 := ⟨by kernel_rfl, _, Try.underlying61, .inr ⟨_, _, rfl⟩⟩
instance : TyU Try.prog 63 (.array 64 60) := ⟨Try.underlying63⟩
instance : TyI Try.prog 63 64 256 (.agg #[(.int .u32 0), (.int .u32 0), (.int .u32 0), (.int .u32 0), (.int .u32 0), (.int .u32 0), (.int .u32 0), (.int .u32 0), (.int .u32 0), (.int .u32 0), (.int .u32 0), (.int .u32 0), (.int .u32 0), (.int .u32 0), (.int .u32 0), (.int .u32 0), (.int .u32 0), (.int .u32 0), (.int .u32 0), (.int .u32 0), (.int .u32 0), (.int .u32 0), (.int .u32 0), (.int .u32 0), (.int .u32 0), (.int .u32 0), (.int .u32 0), (.int .u32 0), (.int .u32 0), (.int .u32 0), (.int .u32 0), (.int .u32 0), (.int .u32 0), (.int .u32 0), (.int .u32 0), (.int .u32 0), (.int .u32 0), (.int .u32 0), (.int .u32 0), (.int .u32 0), (.int .u32 0), (.int .u32 0), (.int .u32 0), (.int .u32 0), (.int .u32 0), (.int .u32 0), (.int .u32 0), (.int .u32 0), (.int .u32 0), (.int .u32 0), (.int .u32 0), (.int .u32 0), (.int .u32 0), (.int .u32 0), (.int .u32 0), (.int .u32 0), (.int .u32 0), (.int .u32 0), (.int .u32 0), (.int .u32 0), (.int .u32 0), (.int .u32 0), (.int .u32 0), (.int .u32 0)]) := ⟨by kernel_rfl, rfl⟩
instance : TyA Try.prog 63 64 := ⟨by kernel_rfl, _, Try.underlying63, .inr ⟨_, _, rfl⟩⟩
instance : TyU Try.prog 66 (.array 64 5) := ⟨Try.underlying66⟩
instance : TyI Try.prog 66 64 64 (.agg #[(.int .u8 0), (.int .u8 0), (.int .u8 0), (.int .u8 0), (.int .u8 0), (.int .u8 0), (.int .u8 0), (.int .u8 0), (.int .u8 0), (.int .u8 0), (.int .u8 0), (.int .u8 0), (.int .u8 0), (.int .u8 0), (.int .u8 0), (.int .u8 0), (.int .u8 0), (.int .u8 0), (.int .u8 0), (.int .u8 0), (.int .u8 0), (.int .u8 0), (.int .u8 0), (.int .u8 0), (.int .u8 0), (.int .u8 0), (.int .u8 0), (.int .u8 0), (.int .u8 0), (.int .u8 0), (.int .u8 0), (.int .u8 0), (.int .u8 0), (.int .u8 0), (.int .u8 0), (.int .u8 0), (.int .u8 0), (.int .u8 0), (.int .u8 0), (.int .u8 0), (.int .u8 0), (.int .u8 0), (.int .u8 0), (.int .u8 0), (.int .u8 0), (.int .u8 0), (.int .u8 0), (.int .u8 0), (.int .u8 0), (.int .u8 0), (.int .u8 0), (.int .u8 0), (.int .u8 0), (.int .u8 0), (.int .u8 0), (.int .u8 0), (.int .u8 0), (.int .u8 0), (.int .u8 0), (.int .u8 0), (.int .u8 0), (.int .u8 0), (.int .u8 0), (.int .u8 0)]) := ⟨by kernel_rfl, rfl⟩
instance : TyA Try.prog 66 64 := ⟨by kernel_rfl, _, Try.underlying66, .inr ⟨_, _, rfl⟩⟩
instance : TyU Try.prog 67 (.struct #[⟨ "words", 61, 0, false, "", "pleach/sha", 0⟩, ⟨ "rest", 66, 8, false, "", "pleach/sha", 32⟩, ⟨ "number", 3, 72, false, "", "pleach/sha", 96⟩]) := ⟨Try.underlying67⟩
instance : TyI Try.prog 67 73 104 (.agg #[(.int .u32 0), (.int .u32 0), (.int .u32 0), (.int .u32 0), (.int .u32 0), (.int .u32 0), (.int .u32 0), (.int .u32 0), (.int .u8 0), (.int .u8 0), (.int .u8 0), (.int .u8 0), (.int .u8 0), (.int .u8 0), (.int .u8 0), (.int .u8 0), (.int .u8 0), (.int .u8 0), (.int .u8 0), (.int .u8 0), (.int .u8 0), (.int .u8 0), (.int .u8 0), (.int .u8 0), (.int .u8 0), (.int .u8 0), (.int .u8 0), (.int .u8 0), (.int .u8 0), (.int .u8 0), (.int .u8 0), (.int .u8 0), (.int .u8 0), (.int .u8 0), (.int .u8 0), (.int .u8 0), (.int .u8 0), (.int .u8 0), (.int .u8 0), (.int .u8 0), (.int .u8 0), (.int .u8 0), (.int .u8 0), (.int .u8 0), (.int .u8 0), (.int .u8 0), (.int .u8 0), (.int .u8 0), (.int .u8 0), (.int .u8 0), (.int .u8 0), (.int .u8 0), (.int .u8 0), (.int .u8 0), (.int .u8 0), (.int .u8 0), (.int .u8 0), (.int .u8 0), (.int .u8 0), (.int .u8 0), (.int .u8 0), (.int .u8 0), (.int .u8 0), (.int .u8 0), (.int .u8 0), (.int .u8 0), (.int .u8 0), (.int .u8 0), (.int .u8 0), (.int .u8 0), (.int .u8 0), (.int .u8 0), (.int .i64 0)]) := ⟨by kernel_rfl, rfl⟩
instance : TyA Try.prog 67 73 := ⟨by kernel_rfl, _, Try.underlying67, .inl ⟨_, rfl⟩⟩
instance : TyS Try.prog 67 [(0, 8), (8, 64), (72, 1)] [(.int .u32 0), (.int .u32 0), (.int .u32 0), (.int .u32 0), (.int .u32 0), (.int .u32 0), (.int .u32 0), (.int .u32 0), (.int .u8 0), (.int .u8 0), (.int .u8 0), (.int .u8 0), (.int .u8 0), (.int .u8 0), (.int .u8 0), (.int .u8 0), (.int .u8 0), (.int .u8 0), (.int .u8 0), (.int .u8 0), (.int .u8 0), (.int .u8 0), (.int .u8 0), (.int .u8 0), (.int .u8 0), (.int .u8 0), (.int .u8 0), (.int .u8 0), (.int .u8 0), (.int .u8 0), (.int .u8 0), (.int .u8 0), (.int .u8 0), (.int .u8 0), (.int .u8 0), (.int .u8 0), (.int .u8 0), (.int .u8 0), (.int .u8 0), (.int .u8 0), (.int .u8 0), (.int .u8 0), (.int .u8 0), (.int .u8 0), (.int .u8 0), (.int .u8 0), (.int .u8 0), (.int .u8 0), (.int .u8 0), (.int .u8 0), (.int .u8 0), (.int .u8 0), (.int .u8 0), (.int .u8 0), (.int .u8 0), (.int .u8 0), (.int .u8 0), (.int .u8 0), (.int .u8 0), (.int .u8 0), (.int .u8 0), (.int .u8 0), (.int .u8 0), (.int .u8 0), (.int .u8 0), (.int .u8 0), (.int .u8 0), (.int .u8 0), (.int .u8 0), (.int .u8 0), (.int .u8 0), (.int .u8 0), (.int .i64 0)] := ⟨_, Try.underlying67, fun w => by kernel_rfl, fun w => ⟨(.agg #[(.int .u32 0), (.int .u32 0), (.int .u32 0), (.int .u32 0), (.int .u32 0), (.int .u32 0), (.int .u32 0), (.int .u32 0), (.int .u8 0), (.int .u8 0), (.int .u8 0), (.int .u8 0), (.int .u8 0), (.int .u8 0), (.int .u8 0), (.int .u8 0), (.int .u8 0), (.int .u8 0), (.int .u8 0), (.int .u8 0), (.int .u8 0), (.int .u8 0), (.int .u8 0), (.int .u8 0), (.int .u8 0), (.int .u8 0), (.int .u8 0), (.int .u8 0), (.int .u8 0), (.int .u8 0), (.int .u8 0), (.int .u8 0), (.int .u8 0), (.int .u8 0), (.int .u8 0), (.int .u8 0), (.int .u8 0), (.int .u8 0), (.int .u8 0), (.int .u8 0), (.int .u8 0), (.int .u8 0), (.int .u8 0), (.int .u8 0), (.int .u8 0), (.int .u8 0), (.int .u8 0), (.int .u8 0), (.int .u8 0), (.int .u8 0), (.int .u8 0), (.int .u8 0), (.int .u8 0), (.int .u8 0), (.int .u8 0), (.int .u8 0), (.int .u8 0), (.int .u8 0), (.int .u8 0), (.int .u8 0), (.int .u8 0), (.int .u8 0), (.int .u8 0), (.int .u8 0), (.int .u8 0), (.int .u8 0), (.int .u8 0), (.int .u8 0), (.int .u8 0), (.int .u8 0), (.int .u8 0), (.int .u8 0), (.int .i64 0)]), by kernel_rfl, rfl⟩⟩
instance : TyF Try.prog 67 0 0 61 := ⟨_, _, 7, Try.underlying67, rfl, rfl, rfl, by kernel_rfl⟩
instance : TyF Try.prog 67 1 8 66 := ⟨_, _, 63, Try.underlying67, rfl, rfl, rfl, by kernel_rfl⟩
instance : TyF Try.prog 67 2 72 3 := ⟨_, _, 0, Try.underlying67, rfl, rfl, rfl, by kernel_rfl⟩
instance : TyU Try.prog 68 (.struct #[⟨ "words", 61, 0, false, "", "pleach/sha", 0⟩, ⟨ "rest", 66, 8, false, "", "pleach/sha", 32⟩, ⟨ "number", 3, 72, false, "", "pleach/sha", 96⟩]) := ⟨Try.underlying68⟩
instance : TyI Try.prog 68 73 104 (.agg #[(.int .u32 0), (.int .u32 0), (.int .u32 0), (.int .u32 0), (.int .u32 0), (.int .u32 0), (.int .u32 0), (.int .u32 0), (.int .u8 0), (.int .u8 0), (.int .u8 0), (.int .u8 0), (.int .u8 0), (.int .u8 0), (.int .u8 0), (.int .u8 0), (.int .u8 0), (.int .u8 0), (.int .u8 0), (.int .u8 0), (.int .u8 0), (.int .u8 0), (.int .u8 0), (.int .u8 0), (.int .u8 0), (.int .u8 0), (.int .u8 0), (.int .u8 0), (.int .u8 0), (.int .u8 0), (.int .u8 0), (.int .u8 0), (.int .u8 0), (.int .u8 0), (.int .u8 0), (.int .u8 0), (.int .u8 0), (.int .u8 0), (.int .u8 0), (.int .u8 0), (.int .u8 0), (.int .u8 0), (.int .u8 0), (.int .u8 0), (.int .u8 0), (.int .u8 0), (.int .u8 0), (.int .u8 0), (.int .u8 0), (.int .u8 0), (.int .u8 0), (.int .u8 0), (.int .u8 0), (.int .u8 0), (.int .u8 0), (.int .u8 0), (.int .u8 0), (.int .u8 0), (.int .u8 0), (.int .u8 0), (.int .u8 0), (.int .u8 0), (.int .u8 0), (.int .u8 0), (.int .u8 0), (.int .u8 0), (.int .u8 0), (.int .u8 0), (.int .u8 0), (.int .u8 0), (.int .u8 0), (.int .u8 0), (.int .i64 0)]) := ⟨by kernel_rfl, rfl⟩
instance : TyA Try.prog 68 73 := ⟨by kernel_rfl, _, Try.underlying68, .inl ⟨_, rfl⟩⟩
instance : TyS Try.prog 68 [(0, 8), (8, 64), (72, 1)] [(.int .u32 0), (.int .u32 0), (.int .u32 0), (.int .u32 0), (.int .u32 0), (.int .u32 0), (.int .u32 0), (.int .u32 0), (.int .u8 0), (.int .u8 0), (.int .u8 0), (.int .u8 0), (.int .u8 0), (.int .u8 0), (.int .u8 0), (.int .u8 0), (.int .u8 0), (.int .u8 0), (.int .u8 0), (.int .u8 0), (.int .u8 0), (.int .u8 0), (.int .u8 0), (.int .u8 0), (.int .u8 0), (.int .u8 0), (.int .u8 0), (.int .u8 0), (.int .u8 0), (.int .u8 0), (.int .u8 0), (.int .u8 0), (.int .u8 0), (.int .u8 0), (.int .u8 0), (.int .u8 0), (.int .u8 0), (.int .u8 0), (.int .u8 0), (.int .u8 0), (.int .u8 0), (.int .u8 0), (.int .u8 0), (.int .u8 0), (.int .u8 0), (.int .u8 0), (.int .u8 0), (.int .u8 0), (.int .u8 0), (.int .u8 0), (.int .u8 0), (.int .u8 0), (.int .u8 0), (.int .u8 0), (.int .u8 0), (.int .u8 0), (.int .u8 0), (.int .u8 0), (.int .u8 0), (.int .u8 0), (.int .u8 0), (.int .u8 0), (.int .u8 0), (.int .u8 0), (.int .u8 0), (.int .u8 0), (.int .u8 0), (.int .u8 0), (.int .u8 0), (.int .u8 0), (.int .u8 0), (.int .u8 0), (.int .i64 0)] := ⟨_, Try.underlying68, fun w => by kernel_rfl, fun w => ⟨(.agg #[(.int .u32 0), (.int .u32 0), (.int .u32 0), (.int .u32 0), (.int .u32 0), (.int .u32 0), (.int .u32 0), (.int .u32 0), (.int .u8 0), (.int .u8 0), (.int .u8 0), (.int .u8 0), (.int .u8 0), (.int .u8 0), (.int .u8 0), (.int .u8 0), (.int .u8 0), (.int .u8 0), (.int .u8 0), (.int .u8 0), (.int .u8 0), (.int .u8 0), (.int .u8 0), (.int .u8 0), (.int .u8 0), (.int .u8 0), (.int .u8 0), (.int .u8 0), (.int .u8 0), (.int .u8 0), (.int .u8 0), (.int .u8 0), (.int .u8 0), (.int .u8 0), (.int .u8 0), (.int .u8 0), (.int .u8 0), (.int .u8 0), (.int .u8 0), (.int .u8 0), (.int .u8 0), (.int .u8 0), (.int .u8 0), (.int .u8 0), (.int .u8 0), (.int .u8 0), (.int .u8 0), (.int .u8 0), (.int .u8 0), (.int .u8 0), (.int .u8 0), (.int .u8 0), (.int .u8 0), (.int .u8 0), (.int .u8 0), (.int .u8 0), (.int .u8 0), (.int .u8 0), (.int .u8 0), (.int .u8 0), (.int .u8 0), (.int .u8 0), (.int .u8 0), (.int .u8 0), (.int .u8 0), (.int .u8 0), (.int .u8 0), (.int .u8 0), (.int .u8 0), (.int .u8 0), (.int .u8 0), (.int .u8 0), (.int .i64 0)]), by kernel_rfl, rfl⟩⟩
instance : TyF Try.prog 68 0 0 61 := ⟨_, _, 7, Try.underlying68, rfl, rfl, rfl, by kernel_rfl⟩
instance : TyF Try.prog 68 1 8 66 := ⟨_, _, 63, Try.underlying68, rfl, rfl, rfl, by kernel_rfl⟩
instance : TyF Try.prog 68 2 72 3 := ⟨_, _, 0, Try.underlying68, rfl, rfl, rfl, by kernel_rfl⟩
instance : TyU Try.prog 69 (.int .u64) := ⟨Try.underlying69⟩
instance : TyI Try.prog 69 1 8 (.int .u64 0) := ⟨by kernel_rfl, rfl⟩
instance : Ty1 Try.prog 69 := ⟨by kernel_rfl, _, Try.underlying69, fun _ _ _ => ⟨TypeDesc.noConfusion, TypeDesc.noConfusion⟩⟩
instance : TyU Try.prog 70 (.int .u64) := ⟨Try.underlying70⟩
instance : TyI Try.prog 70 1 8 (.int .u64 0) := ⟨by kernel_rfl, rfl⟩
instance : Ty1 Try.prog 70 := ⟨by kernel_rfl, _, Try.underlying70, fun _ _ _ => ⟨TypeDesc.noConfusion, TypeDesc.noConfusion⟩⟩
instance : TyU Try.prog 83 (.int .i64) := ⟨Try.underlying83⟩
instance : TyI Try.prog 83 1 8 (.int .i64 0) := ⟨by kernel_rfl, rfl⟩
instance : Ty1 Try.prog 83 := ⟨by kernel_rfl, _, Try.underlying83, fun _ _ _ => ⟨TypeDesc.noConfusion, TypeDesc.noConfusion⟩⟩
instance : TyU Try.prog 92 (.int .u64) := ⟨Try.underlying92⟩
instance : TyI Try.prog 92 1 8 (.int .u64 0) := ⟨by kernel_rfl, rfl⟩
instance : Ty1 Try.prog 92 := ⟨by kernel_rfl, _, Try.underlying92, fun _ _ _ => ⟨TypeDesc.noConfusion, TypeDesc.noConfusion⟩⟩
instance : TyU Try.prog 96 (.pointer 3) := ⟨Try.underlying96⟩
instance : TyI Try.prog 96 1 8 (.pointer none) := ⟨by kernel_rfl, rfl⟩
instance : Ty1 Try.prog 96 := ⟨by kernel_rfl, _, Try.underlying96, fun _ _ _ => ⟨TypeDesc.noConfusion, TypeDesc.noConfusion⟩⟩
instance : TyU Try.prog 98 (.pointer 92) := ⟨Try.underlying98⟩
instance : TyI Try.prog 98 1 8 (.pointer none) := ⟨by kernel_rfl, rfl⟩
instance : Ty1 Try.prog 98 := ⟨by kernel_rfl, _, Try.underlying98, fun _ _ _ => ⟨TypeDesc.noConfusion, TypeDesc.noConfusion⟩⟩
instance : TyU Try.prog 102 (.struct #[⟨ "_interface", 17, 0, false, "", "runtime", 0⟩, ⟨ "concrete", 17, 1, false, "", "runtime", 8⟩, ⟨ "asserted", 17, 2, false, "", "runtime", 16⟩, ⟨ "missingMethod", 9, 3, false, "", "runtime", 24⟩]) := ⟨Try.underlying102⟩
instance : TyI Try.prog 102 4 40 (.agg #[(.pointer none), (.pointer none), (.pointer none), (.string .empty)]) := ⟨by kernel_rfl, rfl⟩
instance : TyA Try.prog 102 4 := ⟨by kernel_rfl, _, Try.underlying102, .inl ⟨_, rfl⟩⟩
instance : TyS Try.prog 102 [(0, 1), (1, 1), (2, 1), (3, 1)] [(.pointer none), (.pointer none), (.pointer none), (.string .empty)] := ⟨_, Try.underlying102, fun w => by kernel_rfl, fun w => ⟨(.agg #[(.pointer none), (.pointer none), (.pointer none), (.string .empty)]), by kernel_rfl, rfl⟩⟩
instance : TyF Try.prog 102 0 0 17 := ⟨_, _, 0, Try.underlying102, rfl, rfl, rfl, by kernel_rfl⟩
instance : TyF Try.prog 102 1 1 17 := ⟨_, _, 0, Try.underlying102, rfl, rfl, rfl, by kernel_rfl⟩
instance : TyF Try.prog 102 2 2 17 := ⟨_, _, 0, Try.underlying102, rfl, rfl, rfl, by kernel_rfl⟩
instance : TyF Try.prog 102 3 3 9 := ⟨_, _, 0, Try.underlying102, rfl, rfl, rfl, by kernel_rfl⟩
instance : TyU Try.prog 104 (.array 0 16) := ⟨Try.underlying104⟩
instance : TyI Try.prog 104 0 0 (.agg #[]) := ⟨by kernel_rfl, rfl⟩
instance : TyA Try.prog 104 0 := ⟨by kernel_rfl, _, Try.underlying104, .inr ⟨_, _, rfl⟩⟩
instance : TyU Try.prog 105 (.struct #[⟨ "_", 104, 0, false, "", "runtime", 0⟩]) := ⟨Try.underlying105⟩
instance : TyI Try.prog 105 0 0 (.agg #[]) := ⟨by kernel_rfl, rfl⟩
instance : TyA Try.prog 105 0 := ⟨by kernel_rfl, _, Try.underlying105, .inl ⟨_, rfl⟩⟩
instance : TyS Try.prog 105 [(0, 0)] [] := ⟨_, Try.underlying105, fun w => by kernel_rfl, fun w => ⟨(.agg #[]), by kernel_rfl, rfl⟩⟩
instance : TyU Try.prog 110 (.pointer 5) := ⟨Try.underlying110⟩
instance : TyI Try.prog 110 1 8 (.pointer none) := ⟨by kernel_rfl, rfl⟩
instance : Ty1 Try.prog 110 := ⟨by kernel_rfl, _, Try.underlying110, fun _ _ _ => ⟨TypeDesc.noConfusion, TypeDesc.noConfusion⟩⟩
instance : TyU Try.prog 113 (.struct #[⟨ "Size_", 12, 0, false, "", "", 0⟩, ⟨ "PtrBytes", 12, 1, false, "", "", 8⟩, ⟨ "Hash", 60, 2, false, "", "", 16⟩, ⟨ "TFlag", 107, 3, false, "", "", 20⟩, ⟨ "Align_", 5, 4, false, "", "", 21⟩, ⟨ "FieldAlign_", 5, 5, false, "", "", 22⟩, ⟨ "Kind_", 108, 6, false, "", "", 23⟩, ⟨ "Equal", 109, 7, false, "", "", 24⟩, ⟨ "GCData", 110, 8, false, "", "", 32⟩, ⟨ "Str", 111, 9, false, "", "", 40⟩, ⟨ "PtrToThis", 112, 10, false, "", "", 44⟩]) := ⟨Try.underlying113⟩
instance : TyI Try.prog 113 11 48 (.agg #[(.int .u64 0), (.int .u64 0), (.int .u32 0), (.int .u8 0), (.int .u8 0), (.int .u8 0), (.int .u8 0), .nilFunc, (.pointer none), (.int .i32 0), (.int .i32 0)]) := ⟨by kernel_rfl, rfl⟩
instance : TyA Try.prog 113 11 := ⟨by kernel_rfl, _, Try.underlying113, .inl ⟨_, rfl⟩⟩
instance : TyS Try.prog 113 [(0, 1), (1, 1), (2, 1), (3, 1), (4, 1), (5, 1), (6, 1), (7, 1), (8, 1), (9, 1), (10, 1)] [(.int .u64 0), (.int .u64 0), (.int .u32 0), (.int .u8 0), (.int .u8 0), (.int .u8 0), (.int .u8 0), .nilFunc, (.pointer none), (.int .i32 0), (.int .i32 0)] := ⟨_, Try.underlying113, fun w => by kernel_rfl, fun w => ⟨(.agg #[(.int .u64 0), (.int .u64 0), (.int .u32 0), (.int .u8 0), (.int .u8 0), (.int .u8 0), (.int .u8 0), .nilFunc, (.pointer none), (.int .i32 0), (.int .i32 0)]), by kernel_rfl, rfl⟩⟩
instance : TyF Try.prog 113 0 0 12 := ⟨_, _, 0, Try.underlying113, rfl, rfl, rfl, by kernel_rfl⟩
instance : TyF Try.prog 113 1 1 12 := ⟨_, _, 0, Try.underlying113, rfl, rfl, rfl, by kernel_rfl⟩
instance : TyF Try.prog 113 2 2 60 := ⟨_, _, 0, Try.underlying113, rfl, rfl, rfl, by kernel_rfl⟩
instance : TyF Try.prog 113 3 3 107 := ⟨_, _, 0, Try.underlying113, rfl, rfl, rfl, by kernel_rfl⟩
instance : TyF Try.prog 113 4 4 5 := ⟨_, _, 0, Try.underlying113, rfl, rfl, rfl, by kernel_rfl⟩
instance : TyF Try.prog 113 5 5 5 := ⟨_, _, 0, Try.underlying113, rfl, rfl, rfl, by kernel_rfl⟩
instance : TyF Try.prog 113 6 6 108 := ⟨_, _, 0, Try.underlying113, rfl, rfl, rfl, by kernel_rfl⟩
instance : TyF Try.prog 113 7 7 109 := ⟨_, _, 0, Try.underlying113, rfl, rfl, rfl, by kernel_rfl⟩
instance : TyF Try.prog 113 8 8 110 := ⟨_, _, 0, Try.underlying113, rfl, rfl, rfl, by kernel_rfl⟩
instance : TyF Try.prog 113 9 9 111 := ⟨_, _, 0, Try.underlying113, rfl, rfl, rfl, by kernel_rfl⟩
instance : TyF Try.prog 113 10 10 112 := ⟨_, _, 0, Try.underlying113, rfl, rfl, rfl, by kernel_rfl⟩
instance : FnB Try.prog 3 := ⟨fun _ _ => by kernel_rfl⟩
instance : FnB Try.prog 4 := ⟨fun _ _ => by kernel_rfl⟩
instance : FnB Try.prog 5 := ⟨fun _ _ => by kernel_rfl⟩
instance : FnB Try.prog 6 := ⟨fun _ _ => by kernel_rfl⟩
instance : FnB Try.prog 7 := ⟨fun _ _ => by kernel_rfl⟩
instance : FnB Try.prog 8 := ⟨fun _ _ => by kernel_rfl⟩
instance : FnB Try.prog 9 := ⟨fun _ _ => by kernel_rfl⟩
instance : FnB Try.prog 10 := ⟨fun _ _ => by kernel_rfl⟩
instance : FnB Try.prog 11 := ⟨fun _ _ => by kernel_rfl⟩
instance : FnB Try.prog 12 := ⟨fun _ _ => by kernel_rfl⟩
instance : FnB Try.prog 13 := ⟨fun _ _ => by kernel_rfl⟩
instance : FnB Try.prog 14 := ⟨fun _ _ => by kernel_rfl⟩
instance : FnB Try.prog 15 := ⟨fun _ _ => by kernel_rfl⟩
instance : FnB Try.prog 16 := ⟨fun _ _ => by kernel_rfl⟩
instance : FnB Try.prog 17 := ⟨fun _ _ => by kernel_rfl⟩
instance : FnB Try.prog 18 := ⟨fun _ _ => by kernel_rfl⟩
instance : FnB Try.prog 19 := ⟨fun _ _ => by kernel_rfl⟩
instance : FnB Try.prog 20 := ⟨fun _ _ => by kernel_rfl⟩
instance : FnB Try.prog 21 := ⟨fun _ _ => by kernel_rfl⟩
instance : FnB Try.prog 22 := ⟨fun _ _ => by kernel_rfl⟩
instance : FnB Try.prog 23 := ⟨fun _ _ => by kernel_rfl⟩
instance : FnB Try.prog 24 := ⟨fun _ _ => by kernel_rfl⟩
instance : FnB Try.prog 25 := ⟨fun _ _ => by kernel_rfl⟩
instance : FnB Try.prog 26 := ⟨fun _ _ => by kernel_rfl⟩
instance : FnB Try.prog 27 := ⟨fun _ _ => by kernel_rfl⟩
instance : FnB Try.prog 28 := ⟨fun _ _ => by kernel_rfl⟩
instance : FnB Try.prog 29 := ⟨fun _ _ => by kernel_rfl⟩
instance : FnB Try.prog 30 := ⟨fun _ _ => by kernel_rfl⟩
instance : FnB Try.prog 31 := ⟨fun _ _ => by kernel_rfl⟩
instance : FnB Try.prog 32 := ⟨fun _ _ => by kernel_rfl⟩
instance : FnB Try.prog 33 := ⟨fun _ _ => by kernel_rfl⟩
instance : FnB Try.prog 34 := ⟨fun _ _ => by kernel_rfl⟩
instance : FnB Try.prog 35 := ⟨fun _ _ => by kernel_rfl⟩
instance : FnB Try.prog 36 := ⟨fun _ _ => by kernel_rfl⟩
instance : FnB Try.prog 37 := ⟨fun _ _ => by kernel_rfl⟩
instance : FnB Try.prog 38 := ⟨fun _ _ => by kernel_rfl⟩
instance : FnB Try.prog 39 := ⟨fun _ _ => by kernel_rfl⟩
instance : FnB Try.prog 40 := ⟨fun _ _ => by kernel_rfl⟩
instance : FnB Try.prog 41 := ⟨fun _ _ => by kernel_rfl⟩
instance : FnB Try.prog 42 := ⟨fun _ _ => by kernel_rfl⟩
instance : FnB Try.prog 43 := ⟨fun _ _ => by kernel_rfl⟩
instance : FnB Try.prog 44 := ⟨fun _ _ => by kernel_rfl⟩
instance : FnB Try.prog 45 := ⟨fun _ _ => by kernel_rfl⟩
instance : FnB Try.prog 46 := ⟨fun _ _ => by kernel_rfl⟩
instance : FnB Try.prog 47 := ⟨fun _ _ => by kernel_rfl⟩
instance : FnB Try.prog 48 := ⟨fun _ _ => by kernel_rfl⟩
instance : FnB Try.prog 49 := ⟨fun _ _ => by kernel_rfl⟩
instance : FnB Try.prog 50 := ⟨fun _ _ => by kernel_rfl⟩
instance : FnB Try.prog 51 := ⟨fun _ _ => by kernel_rfl⟩
instance : FnB Try.prog 52 := ⟨fun _ _ => by kernel_rfl⟩
instance : FnB Try.prog 54 := ⟨fun _ _ => by kernel_rfl⟩
instance : FnB Try.prog 55 := ⟨fun _ _ => by kernel_rfl⟩
instance : FnB Try.prog 57 := ⟨fun _ _ => by kernel_rfl⟩
instance : FnB Try.prog 58 := ⟨fun _ _ => by kernel_rfl⟩
instance : FnB Try.prog 60 := ⟨fun _ _ => by kernel_rfl⟩
instance : FnB Try.prog 61 := ⟨fun _ _ => by kernel_rfl⟩
instance : FnB Try.prog 62 := ⟨fun _ _ => by kernel_rfl⟩
instance : FnB Try.prog 63 := ⟨fun _ _ => by kernel_rfl⟩
instance : FnB Try.prog 64 := ⟨fun _ _ => by kernel_rfl⟩
instance : FnB Try.prog 65 := ⟨fun _ _ => by kernel_rfl⟩
instance : FnB Try.prog 66 := ⟨fun _ _ => by kernel_rfl⟩
instance : FnB Try.prog 67 := ⟨fun _ _ => by kernel_rfl⟩
instance : FnB Try.prog 68 := ⟨fun _ _ => by kernel_rfl⟩
instance : FnB Try.prog 69 := ⟨fun _ _ => by kernel_rfl⟩
instance : FnB Try.prog 70 := ⟨fun _ _ => by kernel_rfl⟩
instance : FnB Try.prog 71 := ⟨fun _ _ => by kernel_rfl⟩
instance : FnB Try.prog 72 := ⟨fun _ _ => by kernel_rfl⟩
instance : FnB Try.prog 73 := ⟨fun _ _ => by kernel_rfl⟩
instance : FnB Try.prog 74 := ⟨fun _ _ => by kernel_rfl⟩
instance : FnB Try.prog 75 := ⟨fun _ _ => by kernel_rfl⟩
end Go.Proofs.Ytmhddmenmkjdlaa
