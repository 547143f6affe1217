/- PRINTED by gen_ty.py (a program of this session's): the seat's types and functions, as instances. -/
import Derived.Test.YtijplicijmpknaaAny
namespace Go.Proofs.Ytijplicijmpknaa
open Go.Proofs
set_option maxRecDepth 100000
instance : Mixed Try.prog := ⟨by kernel_rfl⟩
instance : TyU Try.prog 2 (.int .i64) := ⟨Try.underlying2⟩
instance : TyI Try.prog 2 1 8 (.int .i64 0) := ⟨by kernel_rfl, rfl⟩
instance : Ty1 Try.prog 2 := ⟨by kernel_rfl, _, Try.underlying2, fun _ _ _ => ⟨TypeDesc.noConfusion, TypeDesc.noConfusion⟩⟩
instance : TyU Try.prog 3 (.int .i64) := ⟨Try.underlying3⟩
instance : TyI Try.prog 3 1 8 (.int .i64 0) := ⟨by kernel_rfl, rfl⟩
instance : Ty1 Try.prog 3 := ⟨by kernel_rfl, _, Try.underlying3, fun _ _ _ => ⟨TypeDesc.noConfusion, TypeDesc.noConfusion⟩⟩
instance : TyU Try.prog 4 .bool := ⟨Try.underlying4⟩
instance : TyI Try.prog 4 1 1 (.bool false) := ⟨by kernel_rfl, rfl⟩
instance : Ty1 Try.prog 4 := ⟨by kernel_rfl, _, Try.underlying4, fun _ _ _ => ⟨TypeDesc.noConfusion, TypeDesc.noConfusion⟩⟩
instance : TyU Try.prog 5 (.int .u8) := ⟨Try.underlying5⟩
instance : TyI Try.prog 5 1 1 (.int .u8 0) := ⟨by kernel_rfl, rfl⟩
instance : Ty1 Try.prog 5 := ⟨by kernel_rfl, _, Try.underlying5, fun _ _ _ => ⟨TypeDesc.noConfusion, TypeDesc.noConfusion⟩⟩
instance : TyU Try.prog 7 (.struct #[⟨ "x", 2, 0, false, "", "runtime", 0⟩, ⟨ "y", 3, 1, false, "", "runtime", 8⟩, ⟨ "signed", 4, 2, false, "", "runtime", 16⟩, ⟨ "code", 6, 3, false, "", "runtime", 17⟩]) := ⟨Try.underlying7⟩
instance : TyI Try.prog 7 4 24 (.agg #[(.int .i64 0), (.int .i64 0), (.bool false), (.int .u8 0)]) := ⟨by kernel_rfl, rfl⟩
instance : TyA Try.prog 7 4 := ⟨by kernel_rfl, _, Try.underlying7, .inl ⟨_, rfl⟩⟩
instance : TyS Try.prog 7 [(0, 1), (1, 1), (2, 1), (3, 1)] [(.int .i64 0), (.int .i64 0), (.bool false), (.int .u8 0)] := ⟨_, Try.underlying7, fun w => by kernel_rfl, fun w => ⟨(.agg #[(.int .i64 0), (.int .i64 0), (.bool false), (.int .u8 0)]), by kernel_rfl, rfl⟩⟩
instance : TyF Try.prog 7 0 0 2 := ⟨_, _, 0, Try.underlying7, rfl, rfl, rfl, by kernel_rfl⟩
instance : TyF Try.prog 7 1 1 3 := ⟨_, _, 0, Try.underlying7, rfl, rfl, rfl, by kernel_rfl⟩
instance : TyF Try.prog 7 2 2 4 := ⟨_, _, 0, Try.underlying7, rfl, rfl, rfl, by kernel_rfl⟩
instance : TyF Try.prog 7 3 3 6 := ⟨_, _, 0, Try.underlying7, rfl, rfl, rfl, by kernel_rfl⟩
instance : TyU Try.prog 9 .string := ⟨Try.underlying9⟩
instance : TyI Try.prog 9 1 16 (.string .empty) := ⟨by kernel_rfl, rfl⟩
instance : Ty1 Try.prog 9 := ⟨by kernel_rfl, _, Try.underlying9, fun _ _ _ => ⟨TypeDesc.noConfusion, TypeDesc.noConfusion⟩⟩
instance : TyU Try.prog 12 (.int .u64) := ⟨Try.underlying12⟩
instance : TyI Try.prog 12 1 8 (.int .u64 0) := ⟨by kernel_rfl, rfl⟩
instance : Ty1 Try.prog 12 := ⟨by kernel_rfl, _, Try.underlying12, fun _ _ _ => ⟨TypeDesc.noConfusion, TypeDesc.noConfusion⟩⟩
instance : TyU Try.prog 13 (.struct #[⟨ "msg", 9, 0, false, "", "runtime", 0⟩, ⟨ "addr", 12, 1, false, "", "runtime", 16⟩]) := ⟨Try.underlying13⟩
instance : TyI Try.prog 13 2 24 (.agg #[(.string .empty), (.int .u64 0)]) := ⟨by kernel_rfl, rfl⟩
instance : TyA Try.prog 13 2 := ⟨by kernel_rfl, _, Try.underlying13, .inl ⟨_, rfl⟩⟩
instance : TyS Try.prog 13 [(0, 1), (1, 1)] [(.string .empty), (.int .u64 0)] := ⟨_, Try.underlying13, fun w => by kernel_rfl, fun w => ⟨(.agg #[(.string .empty), (.int .u64 0)]), by kernel_rfl, rfl⟩⟩
instance : TyF Try.prog 13 0 0 9 := ⟨_, _, 0, Try.underlying13, rfl, rfl, rfl, by kernel_rfl⟩
instance : TyF Try.prog 13 1 1 12 := ⟨_, _, 0, Try.underlying13, rfl, rfl, rfl, by kernel_rfl⟩
instance : TyU Try.prog 18 (.struct #[⟨ "typ", 17, 0, false, "", "internal/runtime/maps", 0⟩]) := ⟨Try.underlying18⟩
instance : TyI Try.prog 18 1 8 (.agg #[(.pointer none)]) := ⟨by kernel_rfl, rfl⟩
instance : TyA Try.prog 18 1 := ⟨by kernel_rfl, _, Try.underlying18, .inl ⟨_, rfl⟩⟩
instance : TyS Try.prog 18 [(0, 1)] [(.pointer none)] := ⟨_, Try.underlying18, fun w => by kernel_rfl, fun w => ⟨(.agg #[(.pointer none)]), by kernel_rfl, rfl⟩⟩
instance : TyF Try.prog 18 0 0 17 := ⟨_, _, 0, Try.underlying18, rfl, rfl, rfl, by kernel_rfl⟩
instance : TyU Try.prog 20 (.interface #[]) := ⟨Try.underlying20⟩
instance : TyI Try.prog 20 1 16 .nilIface := ⟨by kernel_rfl, rfl⟩
instance : Ty1 Try.prog 20 := ⟨by kernel_rfl, _, Try.underlying20, fun _ _ _ => ⟨TypeDesc.noConfusion, TypeDesc.noConfusion⟩⟩
instance : TyU Try.prog 21 (.int .i32) := ⟨Try.underlying21⟩
instance : TyI Try.prog 21 1 4 (.int .i32 0) := ⟨by kernel_rfl, rfl⟩
instance : Ty1 Try.prog 21 := ⟨by kernel_rfl, _, Try.underlying21, fun _ _ _ => ⟨TypeDesc.noConfusion, TypeDesc.noConfusion⟩⟩
instance : TyU Try.prog 24 (.pointer 78) := ⟨Try.underlying24⟩
instance : TyI Try.prog 24 1 8 (.pointer none) := ⟨by kernel_rfl, rfl⟩
instance : Ty1 Try.prog 24 := ⟨by kernel_rfl, _, Try.underlying24, fun _ _ _ => ⟨TypeDesc.noConfusion, TypeDesc.noConfusion⟩⟩
instance : TyU Try.prog 25 (.int .i64) := ⟨Try.underlying25⟩
instance : TyI Try.prog 25 1 8 (.int .i64 0) := ⟨by kernel_rfl, rfl⟩
instance : Ty1 Try.prog 25 := ⟨by kernel_rfl, _, Try.underlying25, fun _ _ _ => ⟨TypeDesc.noConfusion, TypeDesc.noConfusion⟩⟩
instance : TyU Try.prog 28 (.pointer 80) := ⟨Try.underlying28⟩
instance : TyI Try.prog 28 1 8 (.pointer none) := ⟨by kernel_rfl, rfl⟩
instance : Ty1 Try.prog 28 := ⟨by kernel_rfl, _, Try.underlying28, fun _ _ _ => ⟨TypeDesc.noConfusion, TypeDesc.noConfusion⟩⟩
instance : TyU Try.prog 31 (.array 32 5) := ⟨Try.underlying31⟩
instance : TyI Try.prog 31 32 32 (.agg #[(.int .u8 0), (.int .u8 0), (.int .u8 0), (.int .u8 0), (.int .u8 0), (.int .u8 0), (.int .u8 0), (.int .u8 0), (.int .u8 0), (.int .u8 0), (.int .u8 0), (.int .u8 0), (.int .u8 0), (.int .u8 0), (.int .u8 0), (.int .u8 0), (.int .u8 0), (.int .u8 0), (.int .u8 0), (.int .u8 0), (.int .u8 0), (.int .u8 0), (.int .u8 0), (.int .u8 0), (.int .u8 0), (.int .u8 0), (.int .u8 0), (.int .u8 0), (.int .u8 0), (.int .u8 0), (.int .u8 0), (.int .u8 0)]) := ⟨by kernel_rfl, rfl⟩
instance : TyA Try.prog 31 32 := ⟨by kernel_rfl, _, Try.underlying31, .inr ⟨_, _, rfl⟩⟩
instance : TyU Try.prog 32 (.array 32 5) := ⟨Try.underlying32⟩
instance : TyI Try.prog 32 32 32 (.agg #[(.int .u8 0), (.int .u8 0), (.int .u8 0), (.int .u8 0), (.int .u8 0), (.int .u8 0), (.int .u8 0), (.int .u8 0), (.int .u8 0), (.int .u8 0), (.int .u8 0), (.int .u8 0), (.int .u8 0), (.int .u8 0), (.int .u8 0), (.int .u8 0), (.int .u8 0), (.int .u8 0), (.int .u8 0), (.int .u8 0), (.int .u8 0), (.int .u8 0), (.int .u8 0), (.int .u8 0), (.int .u8 0), (.int .u8 0), (.int .u8 0), (.int .u8 0), (.int .u8 0), (.int .u8 0), (.int .u8 0), (.int .u8 0)]) := ⟨by kernel_rfl, rfl⟩
instance : TyA Try.prog 32 32 := ⟨by kernel_rfl, _, Try.underlying32, .inr ⟨_, _, rfl⟩⟩
instance : TyU Try.prog 34 (.slice 32) := ⟨Try.underlying34⟩
instance : TyI Try.prog 34 1 24 (.slice none 0 0) := ⟨by kernel_rfl, rfl⟩
instance : Ty1 Try.prog 34 := ⟨by kernel_rfl, _, Try.underlying34, fun _ _ _ => ⟨TypeDesc.noConfusion, TypeDesc.noConfusion⟩⟩
instance : TyU Try.prog 35 (.struct #[⟨ "ID", 32, 0, false, "", "", 0⟩, ⟨ "Clock", 3, 32, false, "", "", 32⟩, ⟨ "Parents", 34, 33, false, "", "", 40⟩]) := ⟨Try.underlying35⟩
instance : TyI Try.prog 35 34 64 (.agg #[(.int .u8 0), (.int .u8 0), (.int .u8 0), (.int .u8 0), (.int .u8 0), (.int .u8 0), (.int .u8 0), (.int .u8 0), (.int .u8 0), (.int .u8 0), (.int .u8 0), (.int .u8 0), (.int .u8 0), (.int .u8 0), (.int .u8 0), (.int .u8 0), (.int .u8 0), (.int .u8 0), (.int .u8 0), (.int .u8 0), (.int .u8 0), (.int .u8 0), (.int .u8 0), (.int .u8 0), (.int .u8 0), (.int .u8 0), (.int .u8 0), (.int .u8 0), (.int .u8 0), (.int .u8 0), (.int .u8 0), (.int .u8 0), (.int .i64 0), (.slice none 0 0)]) := ⟨by kernel_rfl, rfl⟩
instance : TyA Try.prog 35 34 := ⟨by kernel_rfl, _, Try.underlying35, .inl ⟨_, rfl⟩⟩
instance : TyS Try.prog 35 [(0, 32), (32, 1), (33, 1)] [(.int .u8 0), (.int .u8 0), (.int .u8 0), (.int .u8 0), (.int .u8 0), (.int .u8 0), (.int .u8 0), (.int .u8 0), (.int .u8 0), (.int .u8 0), (.int .u8 0), (.int .u8 0), (.int .u8 0), (.int .u8 0), (.int .u8 0), (.int .u8 0), (.int .u8 0), (.int .u8 0), (.int .u8 0), (.int .u8 0), (.int .u8 0), (.int .u8 0), (.int .u8 0), (.int .u8 0), (.int .u8 0), (.int .u8 0), (.int .u8 0), (.int .u8 0), (.int .u8 0), (.int .u8 0), (.int .u8 0), (.int .u8 0), (.int .i64 0), (.slice none 0 0)] := ⟨_, Try.underlying35, fun w => by kernel_rfl, fun w => ⟨(.agg #[(.int .u8 0), (.int .u8 0), (.int .u8 0), (.int .u8 0), (.int .u8 0), (.int .u8 0), (.int .u8 0), (.int .u8 0), (.int .u8 0), (.int .u8 0), (.int .u8 0), (.int .u8 0), (.int .u8 0), (.int .u8 0), (.int .u8 0), (.int .u8 0), (.int .u8 0), (.int .u8 0), (.int .u8 0), (.int .u8 0), (.int .u8 0), (.int .u8 0), (.int .u8 0), (.int .u8 0), (.int .u8 0), (.int .u8 0), (.int .u8 0), (.int .u8 0), (.int .u8 0), (.int .u8 0), (.int .u8 0), (.int .u8 0), (.int .i64 0), (.slice none 0 0)]), by kernel_rfl, rfl⟩⟩
instance : TyF Try.prog 35 0 0 32 := ⟨_, _, 31, Try.underlying35, rfl, rfl, rfl, by kernel_rfl⟩
instance : TyF Try.prog 35 1 32 3 := ⟨_, _, 0, Try.underlying35, rfl, rfl, rfl, by kernel_rfl⟩
instance : TyF Try.prog 35 2 33 34 := ⟨_, _, 0, Try.underlying35, rfl, rfl, rfl, by kernel_rfl⟩
instance : TyU Try.prog 36 (.struct #[⟨ "ID", 32, 0, false, "", "", 0⟩, ⟨ "Clock", 3, 32, false, "", "", 32⟩, ⟨ "Parents", 34, 33, false, "", "", 40⟩]) := ⟨Try.underlying36⟩
instance : TyI Try.prog 36 34 64 (.agg #[(.int .u8 0), (.int .u8 0), (.int .u8 0), (.int .u8 0), (.int .u8 0), (.int .u8 0), (.int .u8 0), (.int .u8 0), (.int .u8 0), (.int .u8 0), (.int .u8 0), (.int .u8 0), (.int .u8 0), (.int .u8 0), (.int .u8 0), (.int .u8 0), (.int .u8 0), (.int .u8 0), (.int .u8 0), (.int .u8 0), (.int .u8 0), (.int .u8 0), (.int .u8 0), (.int .u8 0), (.int .u8 0), (.int .u8 0), (.int .u8 0), (.int .u8 0), (.int .u8 0), (.int .u8 0), (.int .u8 0), (.int .u8 0), (.int .i64 0), (.slice none 0 0)]) := ⟨by kernel_rfl, rfl⟩
instance : TyA Try.prog 36 34 := ⟨by kernel_rfl, _, Try.underlying36, .inl ⟨_, rfl⟩⟩
instance : TyS Try.prog 36 [(0, 32), (32, 1), (33, 1)] [(.int .u8 0), (.int .u8 0), (.int .u8 0), (.int .u8 0), (.int .u8 0), (.int .u8 0), (.int .u8 0), (.int .u8 0), (.int .u8 0), (.int .u8 0), (.int .u8 0), (.int .u8 0), (.int .u8 0), (.int .u8 0), (.int .u8 0), (.int .u8 0), (.int .u8 0), (.int .u8 0), (.int .u8 0), (.int .u8 0), (.int .u8 0), (.int .u8 0), (.int .u8 0), (.int .u8 0), (.int .u8 0), (.int .u8 0), (.int .u8 0), (.int .u8 0), (.int .u8 0), (.int .u8 0), (.int .u8 0), (.int .u8 0), (.int .i64 0), (.slice none 0 0)] := ⟨_, Try.underlying36, fun w => by kernel_rfl, fun w => ⟨(.agg #[(.int .u8 0), (.int .u8 0), (.int .u8 0), (.int .u8 0), (.int .u8 0), (.int .u8 0), (.int .u8 0), (.int .u8 0), (.int .u8 0), (.int .u8 0), (.int .u8 0), (.int .u8 0), (.int .u8 0), (.int .u8 0), (.int .u8 0), (.int .u8 0), (.int .u8 0), (.int .u8 0), (.int .u8 0), (.int .u8 0), (.int .u8 0), (.int .u8 0), (.int .u8 0), (.int .u8 0), (.int .u8 0), (.int .u8 0), (.int .u8 0), (.int .u8 0), (.int .u8 0), (.int .u8 0), (.int .u8 0), (.int .u8 0), (.int .i64 0), (.slice none 0 0)]), by kernel_rfl, rfl⟩⟩
instance : TyF Try.prog 36 0 0 32 := ⟨_, _, 31, Try.underlying36, rfl, rfl, rfl, by kernel_rfl⟩
instance : TyF Try.prog 36 1 32 3 := ⟨_, _, 0, Try.underlying36, rfl, rfl, rfl, by kernel_rfl⟩
instance : TyF Try.prog 36 2 33 34 := ⟨_, _, 0, Try.underlying36, rfl, rfl, rfl, by kernel_rfl⟩
instance : TyU Try.prog 43 (.slice 36) := ⟨Try.underlying43⟩
instance : TyI Try.prog 43 1 24 (.slice none 0 0) := ⟨by kernel_rfl, rfl⟩
instance : Ty1 Try.prog 43 := ⟨by kernel_rfl, _, Try.underlying43, fun _ _ _ => ⟨TypeDesc.noConfusion, TypeDesc.noConfusion⟩⟩
instance : TyU Try.prog 44 (.slice 3) := ⟨Try.underlying44⟩
instance : TyI Try.prog 44 1 24 (.slice none 0 0) := ⟨by kernel_rfl, rfl⟩
instance : Ty1 Try.prog 44 := ⟨by kernel_rfl, _, Try.underlying44, fun _ _ _ => ⟨TypeDesc.noConfusion, TypeDesc.noConfusion⟩⟩
instance : TyU Try.prog 52 (.slice 54) := ⟨Try.underlying52⟩
instance : TyI Try.prog 52 1 24 (.slice none 0 0) := ⟨by kernel_rfl, rfl⟩
instance : Ty1 Try.prog 52 := ⟨by kernel_rfl, _, Try.underlying52, fun _ _ _ => ⟨TypeDesc.noConfusion, TypeDesc.noConfusion⟩⟩
instance : TyU Try.prog 53 (.struct #[⟨ "Kind", 3, 0, false, "", "", 0⟩, ⟨ "On", 3, 1, false, "", "", 8⟩, ⟨ "V", 36, 2, false, "", "", 16⟩, ⟨ "H", 32, 36, false, "", "", 80⟩]) := ⟨Try.underlying53⟩
instance : TyI Try.prog 53 68 112 (.agg #[(.int .i64 0), (.int .i64 0), (.int .u8 0), (.int .u8 0), (.int .u8 0), (.int .u8 0), (.int .u8 0), (.int .u8 0), (.int .u8 0), (.int .u8 0), (.int .u8 0), (.int .u8 0), (.int .u8 0), (.int .u8 0), (.int .u8 0), (.int .u8 0), (.int .u8 0), (.int .u8 0), (.int .u8 0), (.int .u8 0), (.int .u8 0), (.int .u8 0), (.int .u8 0), (.int .u8 0), (.int .u8 0), (.int .u8 0), (.int .u8 0), (.int .u8 0), (.int .u8 0), (.int .u8 0), (.int .u8 0), (.int .u8 0), (.int .u8 0), (.int .u8 0), (.int .i64 0), (.slice none 0 0), (.int .u8 0), (.int .u8 0), (.int .u8 0), (.int .u8 0), (.int .u8 0), (.int .u8 0), (.int .u8 0), (.int .u8 0), (.int .u8 0), (.int .u8 0), (.int .u8 0), (.int .u8 0), (.int .u8 0), (.int .u8 0), (.int .u8 0), (.int .u8 0), (.int .u8 0), (.int .u8 0), (.int .u8 0), (.int .u8 0), (.int .u8 0), (.int .u8 0), (.int .u8 0), (.int .u8 0), (.int .u8 0), (.int .u8 0), (.int .u8 0), (.int .u8 0), (.int .u8 0), (.int .u8 0), (.int .u8 0), (.int .u8 0)]) := ⟨by kernel_rfl, rfl⟩
instance : TyA Try.prog 53 68 := ⟨by kernel_rfl, _, Try.underlying53, .inl ⟨_, rfl⟩⟩
instance : TyS Try.prog 53 [(0, 1), (1, 1), (2, 34), (36, 32)] [(.int .i64 0), (.int .i64 0), (.int .u8 0), (.int .u8 0), (.int .u8 0), (.int .u8 0), (.int .u8 0), (.int .u8 0), (.int .u8 0), (.int .u8 0), (.int .u8 0), (.int .u8 0), (.int .u8 0), (.int .u8 0), (.int .u8 0), (.int .u8 0), (.int .u8 0), (.int .u8 0), (.int .u8 0), (.int .u8 0), (.int .u8 0), (.int .u8 0), (.int .u8 0), (.int .u8 0), (.int .u8 0), (.int .u8 0), (.int .u8 0), (.int .u8 0), (.int .u8 0), (.int .u8 0), (.int .u8 0), (.int .u8 0), (.int .u8 0), (.int .u8 0), (.int .i64 0), (.slice none 0 0), (.int .u8 0), (.int .u8 0), (.int .u8 0), (.int .u8 0), (.int .u8 0), (.int .u8 0), (.int .u8 0), (.int .u8 0), (.int .u8 0), (.int .u8 0), (.int .u8 0), (.int .u8 0), (.int .u8 0), (.int .u8 0), (.int .u8 0), (.int .u8 0), (.int .u8 0), (.int .u8 0), (.int .u8 0), (.int .u8 0), (.int .u8 0), (.int .u8 0), (.int .u8 0), (.int .u8 0), (.int .u8 0), (.int .u8 0), (.int .u8 0), (.int .u8 0), (.int .u8 0), (.int .u8 0), (.int .u8 0), (.int .u8 0)] := ⟨_, Try.underlying53, fun w => by kernel_rfl, fun w => ⟨(.agg #[(.int .i64 0), (.int .i64 0), (.int .u8 0), (.int .u8 0), (.int .u8 0), (.int .u8 0), (.int .u8 0), (.int .u8 0), (.int .u8 0), (.int .u8 0), (.int .u8 0), (.int .u8 0), (.int .u8 0), (.int .u8 0), (.int .u8 0), (.int .u8 0), (.int .u8 0), (.int .u8 0), (.int .u8 0), (.int .u8 0), (.int .u8 0), (.int .u8 0), (.int .u8 0), (.int .u8 0), (.int .u8 0), (.int .u8 0), (.int .u8 0), (.int .u8 0), (.int .u8 0), (.int .u8 0), (.int .u8 0), (.int .u8 0), (.int .u8 0), (.int .u8 0), (.int .i64 0), (.slice none 0 0), (.int .u8 0), (.int .u8 0), (.int .u8 0), (.int .u8 0), (.int .u8 0), (.int .u8 0), (.int .u8 0), (.int .u8 0), (.int .u8 0), (.int .u8 0), (.int .u8 0), (.int .u8 0), (.int .u8 0), (.int .u8 0), (.int .u8 0), (.int .u8 0), (.int .u8 0), (.int .u8 0), (.int .u8 0), (.int .u8 0), (.int .u8 0), (.int .u8 0), (.int .u8 0), (.int .u8 0), (.int .u8 0), (.int .u8 0), (.int .u8 0), (.int .u8 0), (.int .u8 0), (.int .u8 0), (.int .u8 0), (.int .u8 0)]), by kernel_rfl, rfl⟩⟩
instance : TyF Try.prog 53 0 0 3 := ⟨_, _, 0, Try.underlying53, rfl, rfl, rfl, by kernel_rfl⟩
instance : TyF Try.prog 53 1 1 3 := ⟨_, _, 0, Try.underlying53, rfl, rfl, rfl, by kernel_rfl⟩
instance : TyF Try.prog 53 2 2 36 := ⟨_, _, 33, Try.underlying53, rfl, rfl, rfl, by kernel_rfl⟩
instance : TyF Try.prog 53 3 36 32 := ⟨_, _, 31, Try.underlying53, rfl, rfl, rfl, by kernel_rfl⟩
instance : TyU Try.prog 54 (.struct #[⟨ "Kind", 3, 0, false, "", "", 0⟩, ⟨ "On", 3, 1, false, "", "", 8⟩, ⟨ "V", 36, 2, false, "", "", 16⟩, ⟨ "H", 32, 36, false, "", "", 80⟩]) := ⟨Try.underlying54⟩
instance : TyI Try.prog 54 68 112 (.agg #[(.int .i64 0), (.int .i64 0), (.int .u8 0), (.int .u8 0), (.int .u8 0), (.int .u8 0), (.int .u8 0), (.int .u8 0), (.int .u8 0), (.int .u8 0), (.int .u8 0), (.int .u8 0), (.int .u8 0), (.int .u8 0), (.int .u8 0), (.int .u8 0), (.int .u8 0), (.int .u8 0), (.int .u8 0), (.int .u8 0), (.int .u8 0), (.int .u8 0), (.int .u8 0), (.int .u8 0), (.int .u8 0), (.int .u8 0), (.int .u8 0), (.int .u8 0), (.int .u8 0), (.int .u8 0), (.int .u8 0), (.int .u8 0), (.int .u8 0), (.int .u8 0), (.int .i64 0), (.slice none 0 0), (.int .u8 0), (.int .u8 0), (.int .u8 0), (.int .u8 0), (.int .u8 0), (.int .u8 0), (.int .u8 0), (.int .u8 0), (.int .u8 0), (.int .u8 0), (.int .u8 0), (.int .u8 0), (.int .u8 0), (.int .u8 0), (.int .u8 0), (.int .u8 0), (.int .u8 0), (.int .u8 0), (.int .u8 0), (.int .u8 0), (.int .u8 0), (.int .u8 0), (.int .u8 0), (.int .u8 0), (.int .u8 0), (.int .u8 0), (.int .u8 0), (.int .u8 0), (.int .u8 0), (.int .u8 0), (.int .u8 0), (.int .u8 0)]) := ⟨by kernel_rfl, rfl⟩
instance : TyA Try.prog 54 68 := ⟨by kernel_rfl, _, Try.underlying54, .inl ⟨_, rfl⟩⟩
instance : TyS Try.prog 54 [(0, 1), (1, 1), (2, 34), (36, 32)] [(.int .i64 0), (.int .i64 0), (.int .u8 0), (.int .u8 0), (.int .u8 0), (.int .u8 0), (.int .u8 0), (.int .u8 0), (.int .u8 0), (.int .u8 0), (.int .u8 0), (.int .u8 0), (.int .u8 0), (.int .u8 0), (.int .u8 0), (.int .u8 0), (.int .u8 0), (.int .u8 0), (.int .u8 0), (.int .u8 0), (.int .u8 0), (.int .u8 0), (.int .u8 0), (.int .u8 0), (.int .u8 0), (.int .u8 0), (.int .u8 0), (.int .u8 0), (.int .u8 0), (.int .u8 0), (.int .u8 0), (.int .u8 0), (.int .u8 0), (.int .u8 0), (.int .i64 0), (.slice none 0 0), (.int .u8 0), (.int .u8 0), (.int .u8 0), (.int .u8 0), (.int .u8 0), (.int .u8 0), (.int .u8 0), (.int .u8 0), (.int .u8 0), (.int .u8 0), (.int .u8 0), (.int .u8 0), (.int .u8 0), (.int .u8 0), (.int .u8 0), (.int .u8 0), (.int .u8 0), (.int .u8 0), (.int .u8 0), (.int .u8 0), (.int .u8 0), (.int .u8 0), (.int .u8 0), (.int .u8 0), (.int .u8 0), (.int .u8 0), (.int .u8 0), (.int .u8 0), (.int .u8 0), (.int .u8 0), (.int .u8 0), (.int .u8 0)] := ⟨_, Try.underlying54, fun w => by kernel_rfl, fun w => ⟨(.agg #[(.int .i64 0), (.int .i64 0), (.int .u8 0), (.int .u8 0), (.int .u8 0), (.int .u8 0), (.int .u8 0), (.int .u8 0), (.int .u8 0), (.int .u8 0), (.int .u8 0), (.int .u8 0), (.int .u8 0), (.int .u8 0), (.int .u8 0), (.int .u8 0), (.int .u8 0), (.int .u8 0), (.int .u8 0), (.int .u8 0), (.int .u8 0), (.int .u8 0), (.int .u8 0), (.int .u8 0), (.int .u8 0), (.int .u8 0), (.int .u8 0), (.int .u8 0), (.int .u8 0), (.int .u8 0), (.int .u8 0), (.int .u8 0), (.int .u8 0), (.int .u8 0), (.int .i64 0), (.slice none 0 0), (.int .u8 0), (.int .u8 0), (.int .u8 0), (.int .u8 0), (.int .u8 0), (.int .u8 0), (.int .u8 0), (.int .u8 0), (.int .u8 0), (.int .u8 0), (.int .u8 0), (.int .u8 0), (.int .u8 0), (.int .u8 0), (.int .u8 0), (.int .u8 0), (.int .u8 0), (.int .u8 0), (.int .u8 0), (.int .u8 0), (.int .u8 0), (.int .u8 0), (.int .u8 0), (.int .u8 0), (.int .u8 0), (.int .u8 0), (.int .u8 0), (.int .u8 0), (.int .u8 0), (.int .u8 0), (.int .u8 0), (.int .u8 0)]), by kernel_rfl, rfl⟩⟩
instance : TyF Try.prog 54 0 0 3 := ⟨_, _, 0, Try.underlying54, rfl, rfl, rfl, by kernel_rfl⟩
instance : TyF Try.prog 54 1 1 3 := ⟨_, _, 0, Try.underlying54, rfl, rfl, rfl, by kernel_rfl⟩
instance : TyF Try.prog 54 2 2 36 := ⟨_, _, 33, Try.underlying54, rfl, rfl, rfl, by kernel_rfl⟩
instance : TyF Try.prog 54 3 36 32 := ⟨_, _, 31, Try.underlying54, rfl, rfl, rfl, by kernel_rfl⟩
instance : TyU Try.prog 58 (.slice 34) := ⟨Try.underlying58⟩
instance : TyI Try.prog 58 1 24 (.slice none 0 0) := ⟨by kernel_rfl, rfl⟩
instance : Ty1 Try.prog 58 := ⟨by kernel_rfl, _, Try.underlying58, fun _ _ _ => ⟨TypeDesc.noConfusion, TypeDesc.noConfusion⟩⟩
instance : TyU Try.prog 65 (.slice 24) := ⟨Try.underlying65⟩
instance : TyI Try.prog 65 1 24 (.slice none 0 0) := ⟨by kernel_rfl, rfl⟩
instance : Ty1 Try.prog 65 := ⟨by kernel_rfl, _, Try.underlying65, fun _ _ _ => ⟨TypeDesc.noConfusion, TypeDesc.noConfusion⟩⟩
instance : TyU Try.prog 66 (.slice 28) := ⟨Try.underlying66⟩
instance : TyI Try.prog 66 1 24 (.slice none 0 0) := ⟨by kernel_rfl, rfl⟩
instance : Ty1 Try.prog 66 := ⟨by kernel_rfl, _, Try.underlying66, fun _ _ _ => ⟨TypeDesc.noConfusion, TypeDesc.noConfusion⟩⟩
instance : TyU Try.prog 75 (.map 32 36) := ⟨Try.underlying75⟩
instance : TyI Try.prog 75 1 8 (.map none) := ⟨by kernel_rfl, rfl⟩
instance : Ty1 Try.prog 75 := ⟨by kernel_rfl, _, Try.underlying75, fun _ _ _ => ⟨TypeDesc.noConfusion, TypeDesc.noConfusion⟩⟩
instance : TyU Try.prog 76 (.map 32 3) := ⟨Try.underlying76⟩
instance : TyI Try.prog 76 1 8 (.map none) := ⟨by kernel_rfl, rfl⟩
instance : Ty1 Try.prog 76 := ⟨by kernel_rfl, _, Try.underlying76, fun _ _ _ => ⟨TypeDesc.noConfusion, TypeDesc.noConfusion⟩⟩
instance : TyU Try.prog 77 (.struct #[⟨ "room", 3, 0, false, "", "pleach/dag", 0⟩, ⟨ "held", 75, 1, false, "", "pleach/dag", 8⟩, ⟨ "heads", 76, 2, false, "", "pleach/dag", 16⟩, ⟨ "waits", 75, 3, false, "", "pleach/dag", 24⟩, ⟨ "oldest", 34, 4, false, "", "pleach/dag", 32⟩]) := ⟨Try.underlying77⟩
instance : TyI Try.prog 77 5 56 (.agg #[(.int .i64 0), (.map none), (.map none), (.map none), (.slice none 0 0)]) := ⟨by kernel_rfl, rfl⟩
instance : TyA Try.prog 77 5 := ⟨by kernel_rfl, _, Try.underlying77, .inl ⟨_, rfl⟩⟩
instance : TyS Try.prog 77 [(0, 1), (1, 1), (2, 1), (3, 1), (4, 1)] [(.int .i64 0), (.map none), (.map none), (.map none), (.slice none 0 0)] := ⟨_, Try.underlying77, fun w => by kernel_rfl, fun w => ⟨(.agg #[(.int .i64 0), (.map none), (.map none), (.map none), (.slice none 0 0)]), by kernel_rfl, rfl⟩⟩
instance : TyF Try.prog 77 0 0 3 := ⟨_, _, 0, Try.underlying77, rfl, rfl, rfl, by kernel_rfl⟩
instance : TyF Try.prog 77 1 1 75 := ⟨_, _, 0, Try.underlying77, rfl, rfl, rfl, by kernel_rfl⟩
instance : TyF Try.prog 77 2 2 76 := ⟨_, _, 0, Try.underlying77, rfl, rfl, rfl, by kernel_rfl⟩
instance : TyF Try.prog 77 3 3 75 := ⟨_, _, 0, Try.underlying77, rfl, rfl, rfl, by kernel_rfl⟩
instance : TyF Try.prog 77 4 4 34 := ⟨_, _, 0, Try.underlying77, rfl, rfl, rfl, by kernel_rfl⟩
instance : TyU Try.prog 78 (.struct #[⟨ "room", 3, 0, false, "", "pleach/dag", 0⟩, ⟨ "held", 75, 1, false, "", "pleach/dag", 8⟩, ⟨ "heads", 76, 2, false, "", "pleach/dag", 16⟩, ⟨ "waits", 75, 3, false, "", "pleach/dag", 24⟩, ⟨ "oldest", 34, 4, false, "", "pleach/dag", 32⟩]) := ⟨Try.underlying78⟩
instance : TyI Try.prog 78 5 56 (.agg #[(.int .i64 0), (.map none), (.map none), (.map none), (.slice none 0 0)]) := ⟨by kernel_rfl, rfl⟩
instance : TyA Try.prog 78 5 := ⟨by kernel_rfl, _, Try.underlying78, .inl ⟨_, rfl⟩⟩
instance : TyS Try.prog 78 [(0, 1), (1, 1), (2, 1), (3, 1), (4, 1)] [(.int .i64 0), (.map none), (.map none), (.map none), (.slice none 0 0)] := ⟨_, Try.underlying78, fun w => by kernel_rfl, fun w => ⟨(.agg #[(.int .i64 0), (.map none), (.map none), (.map none), (.slice none 0 0)]), by kernel_rfl, rfl⟩⟩
instance : TyF Try.prog 78 0 0 3 := ⟨_, _, 0, Try.underlying78, rfl, rfl, rfl, by kernel_rfl⟩
instance : TyF Try.prog 78 1 1 75 := ⟨_, _, 0, Try.underlying78, rfl, rfl, rfl, by kernel_rfl⟩
instance : TyF Try.prog 78 2 2 76 := ⟨_, _, 0, Try.underlying78, rfl, rfl, rfl, by kernel_rfl⟩
instance : TyF Try.prog 78 3 3 75 := ⟨_, _, 0, Try.underlying78, rfl, rfl, rfl, by kernel_rfl⟩
instance : TyF Try.prog 78 4 4 34 := ⟨_, _, 0, Try.underlying78, rfl, rfl, rfl, by kernel_rfl⟩
instance : TyU Try.prog 79 (.struct #[⟨ "Room", 3, 0, false, "", "", 0⟩, ⟨ "Held", 43, 1, false, "", "", 8⟩, ⟨ "Wait", 43, 2, false, "", "", 32⟩, ⟨ "sets", 34, 3, false, "", "pleach/pleachref10", 56⟩]) := ⟨Try.underlying79⟩
instance : TyI Try.prog 79 4 80 (.agg #[(.int .i64 0), (.slice none 0 0), (.slice none 0 0), (.slice none 0 0)]) := ⟨by kernel_rfl, rfl⟩
instance : TyA Try.prog 79 4 := ⟨by kernel_rfl, _, Try.underlying79, .inl ⟨_, rfl⟩⟩
instance : TyS Try.prog 79 [(0, 1), (1, 1), (2, 1), (3, 1)] [(.int .i64 0), (.slice none 0 0), (.slice none 0 0), (.slice none 0 0)] := ⟨_, Try.underlying79, fun w => by kernel_rfl, fun w => ⟨(.agg #[(.int .i64 0), (.slice none 0 0), (.slice none 0 0), (.slice none 0 0)]), by kernel_rfl, rfl⟩⟩
instance : TyF Try.prog 79 0 0 3 := ⟨_, _, 0, Try.underlying79, rfl, rfl, rfl, by kernel_rfl⟩
instance : TyF Try.prog 79 1 1 43 := ⟨_, _, 0, Try.underlying79, rfl, rfl, rfl, by kernel_rfl⟩
instance : TyF Try.prog 79 2 2 43 := ⟨_, _, 0, Try.underlying79, rfl, rfl, rfl, by kernel_rfl⟩
instance : TyF Try.prog 79 3 3 34 := ⟨_, _, 0, Try.underlying79, rfl, rfl, rfl, by kernel_rfl⟩
instance : TyU Try.prog 80 (.struct #[⟨ "Room", 3, 0, false, "", "", 0⟩, ⟨ "Held", 43, 1, false, "", "", 8⟩, ⟨ "Wait", 43, 2, false, "", "", 32⟩, ⟨ "sets", 34, 3, false, "", "pleach/pleachref10", 56⟩]) := ⟨Try.underlying80⟩
instance : TyI Try.prog 80 4 80 (.agg #[(.int .i64 0), (.slice none 0 0), (.slice none 0 0), (.slice none 0 0)]) := ⟨by kernel_rfl, rfl⟩
instance : TyA Try.prog 80 4 := ⟨by kernel_rfl, _, Try.underlying80, .inl ⟨_, rfl⟩⟩
instance : TyS Try.prog 80 [(0, 1), (1, 1), (2, 1), (3, 1)] [(.int .i64 0), (.slice none 0 0), (.slice none 0 0), (.slice none 0 0)] := ⟨_, Try.underlying80, fun w => by kernel_rfl, fun w => ⟨(.agg #[(.int .i64 0), (.slice none 0 0), (.slice none 0 0), (.slice none 0 0)]), by kernel_rfl, rfl⟩⟩
instance : TyF Try.prog 80 0 0 3 := ⟨_, _, 0, Try.underlying80, rfl, rfl, rfl, by kernel_rfl⟩
instance : TyF Try.prog 80 1 1 43 := ⟨_, _, 0, Try.underlying80, rfl, rfl, rfl, by kernel_rfl⟩
instance : TyF Try.prog 80 2 2 43 := ⟨_, _, 0, Try.underlying80, rfl, rfl, rfl, by kernel_rfl⟩
instance : TyF Try.prog 80 3 3 34 := ⟨_, _, 0, Try.underlying80, rfl, rfl, rfl, by kernel_rfl⟩
instance : TyU Try.prog 81 (.int .u64) := ⟨Try.underlying81⟩
instance : TyI Try.prog 81 1 8 (.int .u64 0) := ⟨by kernel_rfl, rfl⟩
instance : Ty1 Try.prog 81 := ⟨by kernel_rfl, _, Try.underlying81, fun _ _ _ => ⟨TypeDesc.noConfusion, TypeDesc.noConfusion⟩⟩
instance : TyU Try.prog 86 (.map 32 34) := ⟨Try.underlying86⟩
instance : TyI Try.prog 86 1 8 (.map none) := ⟨by kernel_rfl, rfl⟩
instance : Ty1 Try.prog 86 := ⟨by kernel_rfl, _, Try.underlying86, fun _ _ _ => ⟨TypeDesc.noConfusion, TypeDesc.noConfusion⟩⟩
instance : TyU Try.prog 87 (.pointer 102) := ⟨Try.underlying87⟩
instance : TyI Try.prog 87 1 8 (.pointer none) := ⟨by kernel_rfl, rfl⟩
instance : Ty1 Try.prog 87 := ⟨by kernel_rfl, _, Try.underlying87, fun _ _ _ => ⟨TypeDesc.noConfusion, TypeDesc.noConfusion⟩⟩
instance : TyU Try.prog 101 (.struct #[⟨ "l", 34, 0, false, "", "pleach/least", 0⟩, ⟨ "less", 89, 1, false, "", "pleach/least", 24⟩]) := ⟨Try.underlying101⟩
instance : TyI Try.prog 101 2 32 (.agg #[(.slice none 0 0), .nilFunc]) := ⟨by kernel_rfl, rfl⟩
instance : TyA Try.prog 101 2 := ⟨by kernel_rfl, _, Try.underlying101, .inl ⟨_, rfl⟩⟩
instance : TyS Try.prog 101 [(0, 1), (1, 1)] [(.slice none 0 0), .nilFunc] := ⟨_, Try.underlying101, fun w => by kernel_rfl, fun w => ⟨(.agg #[(.slice none 0 0), .nilFunc]), by kernel_rfl, rfl⟩⟩
instance : TyF Try.prog 101 0 0 34 := ⟨_, _, 0, Try.underlying101, rfl, rfl, rfl, by kernel_rfl⟩
instance : TyF Try.prog 101 1 1 89 := ⟨_, _, 0, Try.underlying101, rfl, rfl, rfl, by kernel_rfl⟩
instance : TyU Try.prog 102 (.struct #[⟨ "l", 34, 0, false, "", "pleach/least", 0⟩, ⟨ "less", 89, 1, false, "", "pleach/least", 24⟩]) := ⟨Try.underlying102⟩
instance : TyI Try.prog 102 2 32 (.agg #[(.slice none 0 0), .nilFunc]) := ⟨by kernel_rfl, rfl⟩
instance : TyA Try.prog 102 2 := ⟨by kernel_rfl, _, Try.underlying102, .inl ⟨_, rfl⟩⟩
instance : TyS Try.prog 102 [(0, 1), (1, 1)] [(.slice none 0 0), .nilFunc] := ⟨_, Try.underlying102, fun w => by kernel_rfl, fun w => ⟨(.agg #[(.slice none 0 0), .nilFunc]), by kernel_rfl, rfl⟩⟩
instance : TyF Try.prog 102 0 0 34 := ⟨_, _, 0, Try.underlying102, rfl, rfl, rfl, by kernel_rfl⟩
instance : TyF Try.prog 102 1 1 89 := ⟨_, _, 0, Try.underlying102, rfl, rfl, rfl, by kernel_rfl⟩
instance : TyU Try.prog 104 (.slice 5) := ⟨Try.underlying104⟩
instance : TyI Try.prog 104 1 24 (.slice none 0 0) := ⟨by kernel_rfl, rfl⟩
instance : Ty1 Try.prog 104 := ⟨by kernel_rfl, _, Try.underlying104, fun _ _ _ => ⟨TypeDesc.noConfusion, TypeDesc.noConfusion⟩⟩
instance : TyU Try.prog 108 (.slice 44) := ⟨Try.underlying108⟩
instance : TyI Try.prog 108 1 24 (.slice none 0 0) := ⟨by kernel_rfl, rfl⟩
instance : Ty1 Try.prog 108 := ⟨by kernel_rfl, _, Try.underlying108, fun _ _ _ => ⟨TypeDesc.noConfusion, TypeDesc.noConfusion⟩⟩
instance : TyU Try.prog 113 (.int .i64) := ⟨Try.underlying113⟩
instance : TyI Try.prog 113 1 8 (.int .i64 0) := ⟨by kernel_rfl, rfl⟩
instance : Ty1 Try.prog 113 := ⟨by kernel_rfl, _, Try.underlying113, fun _ _ _ => ⟨TypeDesc.noConfusion, TypeDesc.noConfusion⟩⟩
instance : TyU Try.prog 121 (.int .u32) := ⟨Try.underlying121⟩
instance : TyI Try.prog 121 1 4 (.int .u32 0) := ⟨by kernel_rfl, rfl⟩
instance : Ty1 Try.prog 121 := ⟨by kernel_rfl, _, Try.underlying121, fun _ _ _ => ⟨TypeDesc.noConfusion, TypeDesc.noConfusion⟩⟩
instance : TyU Try.prog 123 (.int .u64) := ⟨Try.underlying123⟩
instance : TyI Try.prog 123 1 8 (.int .u64 0) := ⟨by kernel_rfl, rfl⟩
instance : Ty1 Try.prog 123 := ⟨by kernel_rfl, _, Try.underlying123, fun _ _ _ => ⟨TypeDesc.noConfusion, TypeDesc.noConfusion⟩⟩
instance : TyU Try.prog 124 (.int .u64) := ⟨Try.underlying124⟩
instance : TyI Try.prog 124 1 8 (.int .u64 0) := ⟨by kernel_rfl, rfl⟩
instance : Ty1 Try.prog 124 := ⟨by kernel_rfl, _, Try.underlying124, fun _ _ _ => ⟨TypeDesc.noConfusion, TypeDesc.noConfusion⟩⟩
instance : TyU Try.prog 128 (.pointer 3) := ⟨Try.underlying128⟩
instance : TyI Try.prog 128 1 8 (.pointer none) := ⟨by kernel_rfl, rfl⟩
instance : Ty1 Try.prog 128 := ⟨by kernel_rfl, _, Try.underlying128, fun _ _ _ => ⟨TypeDesc.noConfusion, TypeDesc.noConfusion⟩⟩
instance : TyU Try.prog 130 (.pointer 124) := ⟨Try.underlying130⟩
instance : TyI Try.prog 130 1 8 (.pointer none) := ⟨by kernel_rfl, rfl⟩
instance : Ty1 Try.prog 130 := ⟨by kernel_rfl, _, Try.underlying130, fun _ _ _ => ⟨TypeDesc.noConfusion, TypeDesc.noConfusion⟩⟩
instance : TyU Try.prog 134 (.struct #[⟨ "_interface", 17, 0, false, "", "runtime", 0⟩, ⟨ "concrete", 17, 1, false, "", "runtime", 8⟩, ⟨ "asserted", 17, 2, false, "", "runtime", 16⟩, ⟨ "missingMethod", 9, 3, false, "", "runtime", 24⟩]) := ⟨Try.underlying134⟩
instance : TyI Try.prog 134 4 40 (.agg #[(.pointer none), (.pointer none), (.pointer none), (.string .empty)]) := ⟨by kernel_rfl, rfl⟩
instance : TyA Try.prog 134 4 := ⟨by kernel_rfl, _, Try.underlying134, .inl ⟨_, rfl⟩⟩
instance : TyS Try.prog 134 [(0, 1), (1, 1), (2, 1), (3, 1)] [(.pointer none), (.pointer none), (.pointer none), (.string .empty)] := ⟨_, Try.underlying134, fun w => by kernel_rfl, fun w => ⟨(.agg #[(.pointer none), (.pointer none), (.pointer none), (.string .empty)]), by kernel_rfl, rfl⟩⟩
instance : TyF Try.prog 134 0 0 17 := ⟨_, _, 0, Try.underlying134, rfl, rfl, rfl, by kernel_rfl⟩
instance : TyF Try.prog 134 1 1 17 := ⟨_, _, 0, Try.underlying134, rfl, rfl, rfl, by kernel_rfl⟩
instance : TyF Try.prog 134 2 2 17 := ⟨_, _, 0, Try.underlying134, rfl, rfl, rfl, by kernel_rfl⟩
instance : TyF Try.prog 134 3 3 9 := ⟨_, _, 0, Try.underlying134, rfl, rfl, rfl, by kernel_rfl⟩
instance : TyU Try.prog 136 (.array 0 16) := ⟨Try.underlying136⟩
instance : TyI Try.prog 136 0 0 (.agg #[]) := ⟨by kernel_rfl, rfl⟩
instance : TyA Try.prog 136 0 := ⟨by kernel_rfl, _, Try.underlying136, .inr ⟨_, _, rfl⟩⟩
instance : TyU Try.prog 137 (.struct #[⟨ "_", 136, 0, false, "", "runtime", 0⟩]) := ⟨Try.underlying137⟩
instance : TyI Try.prog 137 0 0 (.agg #[]) := ⟨by kernel_rfl, rfl⟩
instance : TyA Try.prog 137 0 := ⟨by kernel_rfl, _, Try.underlying137, .inl ⟨_, rfl⟩⟩
instance : TyS Try.prog 137 [(0, 0)] [] := ⟨_, Try.underlying137, fun w => by kernel_rfl, fun w => ⟨(.agg #[]), by kernel_rfl, rfl⟩⟩
instance : TyU Try.prog 142 (.pointer 5) := ⟨Try.underlying142⟩
instance : TyI Try.prog 142 1 8 (.pointer none) := ⟨by kernel_rfl, rfl⟩
instance : Ty1 Try.prog 142 := ⟨by kernel_rfl, _, Try.underlying142, fun _ _ _ => ⟨TypeDesc.noConfusion, TypeDesc.noConfusion⟩⟩
instance : TyU Try.prog 145 (.struct #[⟨ "Size_", 12, 0, false, "", "", 0⟩, ⟨ "PtrBytes", 12, 1, false, "", "", 8⟩, ⟨ "Hash", 121, 2, false, "", "", 16⟩, ⟨ "TFlag", 139, 3, false, "", "", 20⟩, ⟨ "Align_", 5, 4, false, "", "", 21⟩, ⟨ "FieldAlign_", 5, 5, false, "", "", 22⟩, ⟨ "Kind_", 140, 6, false, "", "", 23⟩, ⟨ "Equal", 141, 7, false, "", "", 24⟩, ⟨ "GCData", 142, 8, false, "", "", 32⟩, ⟨ "Str", 143, 9, false, "", "", 40⟩, ⟨ "PtrToThis", 144, 10, false, "", "", 44⟩]) := ⟨Try.underlying145⟩
instance : TyI Try.prog 145 11 48 (.agg #[(.int .u64 0), (.int .u64 0), (.int .u32 0), (.int .u8 0), (.int .u8 0), (.int .u8 0), (.int .u8 0), .nilFunc, (.pointer none), (.int .i32 0), (.int .i32 0)]) := ⟨by kernel_rfl, rfl⟩
instance : TyA Try.prog 145 11 := ⟨by kernel_rfl, _, Try.underlying145, .inl ⟨_, rfl⟩⟩
instance : TyS Try.prog 145 [(0, 1), (1, 1), (2, 1), (3, 1), (4, 1), (5, 1), (6, 1), (7, 1), (8, 1), (9, 1), (10, 1)] [(.int .u64 0), (.int .u64 0), (.int .u32 0), (.int .u8 0), (.int .u8 0), (.int .u8 0), (.int .u8 0), .nilFunc, (.pointer none), (.int .i32 0), (.int .i32 0)] := ⟨_, Try.underlying145, fun w => by kernel_rfl, fun w => ⟨(.agg #[(.int .u64 0), (.int .u64 0), (.int .u32 0), (.int .u8 0), (.int .u8 0), (.int .u8 0), (.int .u8 0), .nilFunc, (.pointer none), (.int .i32 0), (.int .i32 0)]), by kernel_rfl, rfl⟩⟩
instance : TyF Try.prog 145 0 0 12 := ⟨_, _, 0, Try.underlying145, rfl, rfl, rfl, by kernel_rfl⟩
instance : TyF Try.prog 145 1 1 12 := ⟨_, _, 0, Try.underlying145, rfl, rfl, rfl, by kernel_rfl⟩
instance : TyF Try.prog 145 2 2 121 := ⟨_, _, 0, Try.underlying145, rfl, rfl, rfl, by kernel_rfl⟩
instance : TyF Try.prog 145 3 3 139 := ⟨_, _, 0, Try.underlying145, rfl, rfl, rfl, by kernel_rfl⟩
instance : TyF Try.prog 145 4 4 5 := ⟨_, _, 0, Try.underlying145, rfl, rfl, rfl, by kernel_rfl⟩
instance : TyF Try.prog 145 5 5 5 := ⟨_, _, 0, Try.underlying145, rfl, rfl, rfl, by kernel_rfl⟩
instance : TyF Try.prog 145 6 6 140 := ⟨_, _, 0, Try.underlying145, rfl, rfl, rfl, by kernel_rfl⟩
instance : TyF Try.prog 145 7 7 141 := ⟨_, _, 0, Try.underlying145, rfl, rfl, rfl, by kernel_rfl⟩
instance : TyF Try.prog 145 8 8 142 := ⟨_, _, 0, Try.underlying145, rfl, rfl, rfl, by kernel_rfl⟩
instance : TyF Try.prog 145 9 9 143 := ⟨_, _, 0, Try.underlying145, rfl, rfl, rfl, by kernel_rfl⟩
instance : TyF Try.prog 145 10 10 144 := ⟨_, _, 0, Try.underlying145, rfl, rfl, rfl, by kernel_rfl⟩
instance : FnB Try.prog 3 := ⟨fun _ _ => by kernel_rfl⟩
instance : FnB Try.prog 4 := ⟨fun _ _ => by kernel_rfl⟩
instance : FnB Try.prog 5 := ⟨fun _ _ => by kernel_rfl⟩
instance : FnB Try.prog 6 := ⟨fun _ _ => by kernel_rfl⟩
instance : FnB Try.prog 7 := ⟨fun _ _ => by kernel_rfl⟩
instance : FnB Try.prog 8 := ⟨fun _ _ => by kernel_rfl⟩
instance : FnB Try.prog 9 := ⟨fun _ _ => by kernel_rfl⟩
instance : FnB Try.prog 10 := ⟨fun _ _ => by kernel_rfl⟩
instance : FnB Try.prog 11 := ⟨fun _ _ => by kernel_rfl⟩
instance : FnB Try.prog 12 := ⟨fun _ _ => by kernel_rfl⟩
instance : FnB Try.prog 13 := ⟨fun _ _ => by kernel_rfl⟩
instance : FnB Try.prog 14 := ⟨fun _ _ => by kernel_rfl⟩
instance : FnB Try.prog 15 := ⟨fun _ _ => by kernel_rfl⟩
instance : FnB Try.prog 16 := ⟨fun _ _ => by kernel_rfl⟩
instance : FnB Try.prog 17 := ⟨fun _ _ => by kernel_rfl⟩
instance : FnB Try.prog 18 := ⟨fun _ _ => by kernel_rfl⟩
instance : FnB Try.prog 19 := ⟨fun _ _ => by kernel_rfl⟩
instance : FnB Try.prog 20 := ⟨fun _ _ => by kernel_rfl⟩
instance : FnB Try.prog 21 := ⟨fun _ _ => by kernel_rfl⟩
instance : FnB Try.prog 22 := ⟨fun _ _ => by kernel_rfl⟩
instance : FnB Try.prog 23 := ⟨fun _ _ => by kernel_rfl⟩
instance : FnB Try.prog 24 := ⟨fun _ _ => by kernel_rfl⟩
instance : FnB Try.prog 25 := ⟨fun _ _ => by kernel_rfl⟩
instance : FnB Try.prog 26 := ⟨fun _ _ => by kernel_rfl⟩
instance : FnB Try.prog 27 := ⟨fun _ _ => by kernel_rfl⟩
instance : FnB Try.prog 28 := ⟨fun _ _ => by kernel_rfl⟩
instance : FnB Try.prog 29 := ⟨fun _ _ => by kernel_rfl⟩
instance : FnB Try.prog 30 := ⟨fun _ _ => by kernel_rfl⟩
instance : FnB Try.prog 31 := ⟨fun _ _ => by kernel_rfl⟩
instance : FnB Try.prog 32 := ⟨fun _ _ => by kernel_rfl⟩
instance : FnB Try.prog 33 := ⟨fun _ _ => by kernel_rfl⟩
instance : FnB Try.prog 34 := ⟨fun _ _ => by kernel_rfl⟩
instance : FnB Try.prog 35 := ⟨fun _ _ => by kernel_rfl⟩
instance : FnB Try.prog 36 := ⟨fun _ _ => by kernel_rfl⟩
instance : FnB Try.prog 37 := ⟨fun _ _ => by kernel_rfl⟩
instance : FnB Try.prog 38 := ⟨fun _ _ => by kernel_rfl⟩
instance : FnB Try.prog 39 := ⟨fun _ _ => by kernel_rfl⟩
instance : FnB Try.prog 40 := ⟨fun _ _ => by kernel_rfl⟩
instance : FnB Try.prog 41 := ⟨fun _ _ => by kernel_rfl⟩
instance : FnB Try.prog 42 := ⟨fun _ _ => by kernel_rfl⟩
instance : FnB Try.prog 43 := ⟨fun _ _ => by kernel_rfl⟩
instance : FnB Try.prog 44 := ⟨fun _ _ => by kernel_rfl⟩
instance : FnB Try.prog 45 := ⟨fun _ _ => by kernel_rfl⟩
instance : FnB Try.prog 46 := ⟨fun _ _ => by kernel_rfl⟩
instance : FnB Try.prog 47 := ⟨fun _ _ => by kernel_rfl⟩
instance : FnB Try.prog 48 := ⟨fun _ _ => by kernel_rfl⟩
instance : FnB Try.prog 49 := ⟨fun _ _ => by kernel_rfl⟩
instance : FnB Try.prog 50 := ⟨fun _ _ => by kernel_rfl⟩
instance : FnB Try.prog 51 := ⟨fun _ _ => by kernel_rfl⟩
instance : FnB Try.prog 52 := ⟨fun _ _ => by kernel_rfl⟩
instance : FnB Try.prog 53 := ⟨fun _ _ => by kernel_rfl⟩
instance : FnB Try.prog 54 := ⟨fun _ _ => by kernel_rfl⟩
instance : FnB Try.prog 55 := ⟨fun _ _ => by kernel_rfl⟩
instance : FnB Try.prog 56 := ⟨fun _ _ => by kernel_rfl⟩
instance : FnB Try.prog 57 := ⟨fun _ _ => by kernel_rfl⟩
instance : FnB Try.prog 58 := ⟨fun _ _ => by kernel_rfl⟩
instance : FnB Try.prog 59 := ⟨fun _ _ => by kernel_rfl⟩
instance : FnB Try.prog 60 := ⟨fun _ _ => by kernel_rfl⟩
instance : FnB Try.prog 61 := ⟨fun _ _ => by kernel_rfl⟩
instance : FnB Try.prog 62 := ⟨fun _ _ => by kernel_rfl⟩
instance : FnB Try.prog 63 := ⟨fun _ _ => by kernel_rfl⟩
instance : FnB Try.prog 64 := ⟨fun _ _ => by kernel_rfl⟩
instance : FnB Try.prog 65 := ⟨fun _ _ => by kernel_rfl⟩
instance : FnB Try.prog 66 := ⟨fun _ _ => by kernel_rfl⟩
instance : FnB Try.prog 67 := ⟨fun _ _ => by kernel_rfl⟩
instance : FnB Try.prog 68 := ⟨fun _ _ => by kernel_rfl⟩
instance : FnB Try.prog 69 := ⟨fun _ _ => by kernel_rfl⟩
instance : FnB Try.prog 70 := ⟨fun _ _ => by kernel_rfl⟩
instance : FnB Try.prog 71 := ⟨fun _ _ => by kernel_rfl⟩
instance : FnB Try.prog 72 := ⟨fun _ _ => by kernel_rfl⟩
instance : FnB Try.prog 73 := ⟨fun _ _ => by kernel_rfl⟩
instance : FnB Try.prog 74 := ⟨fun _ _ => by kernel_rfl⟩
instance : FnB Try.prog 75 := ⟨fun _ _ => by kernel_rfl⟩
instance : FnB Try.prog 76 := ⟨fun _ _ => by kernel_rfl⟩
instance : FnB Try.prog 77 := ⟨fun _ _ => by kernel_rfl⟩
instance : FnB Try.prog 78 := ⟨fun _ _ => by kernel_rfl⟩
instance : FnB Try.prog 79 := ⟨fun _ _ => by kernel_rfl⟩
instance : FnB Try.prog 80 := ⟨fun _ _ => by kernel_rfl⟩
instance : FnB Try.prog 81 := ⟨fun _ _ => by kernel_rfl⟩
instance : FnB Try.prog 82 := ⟨fun _ _ => by kernel_rfl⟩
instance : FnB Try.prog 83 := ⟨fun _ _ => by kernel_rfl⟩
instance : FnB Try.prog 84 := ⟨fun _ _ => by kernel_rfl⟩
instance : FnB Try.prog 85 := ⟨fun _ _ => by kernel_rfl⟩
instance : FnB Try.prog 86 := ⟨fun _ _ => by kernel_rfl⟩
instance : FnB Try.prog 87 := ⟨fun _ _ => by kernel_rfl⟩
instance : FnB Try.prog 88 := ⟨fun _ _ => by kernel_rfl⟩
instance : FnB Try.prog 89 := ⟨fun _ _ => by kernel_rfl⟩
instance : FnB Try.prog 90 := ⟨fun _ _ => by kernel_rfl⟩
instance : FnB Try.prog 91 := ⟨fun _ _ => by kernel_rfl⟩
instance : FnB Try.prog 93 := ⟨fun _ _ => by kernel_rfl⟩
instance : FnB Try.prog 94 := ⟨fun _ _ => by kernel_rfl⟩
instance : FnB Try.prog 95 := ⟨fun _ _ => by kernel_rfl⟩
instance : FnB Try.prog 96 := ⟨fun _ _ => by kernel_rfl⟩
instance : FnB Try.prog 97 := ⟨fun _ _ => by kernel_rfl⟩
instance : FnB Try.prog 98 := ⟨fun _ _ => by kernel_rfl⟩
instance : FnB Try.prog 99 := ⟨fun _ _ => by kernel_rfl⟩
instance : FnB Try.prog 100 := ⟨fun _ _ => by kernel_rfl⟩
instance : FnB Try.prog 101 := ⟨fun _ _ => by kernel_rfl⟩
instance : FnB Try.prog 102 := ⟨fun _ _ => by kernel_rfl⟩
instance : FnB Try.prog 103 := ⟨fun _ _ => by kernel_rfl⟩
instance : FnB Try.prog 104 := ⟨fun _ _ => by kernel_rfl⟩
instance : FnB Try.prog 105 := ⟨fun _ _ => by kernel_rfl⟩
instance : FnB Try.prog 106 := ⟨fun _ _ => by kernel_rfl⟩
instance : FnB Try.prog 107 := ⟨fun _ _ => by kernel_rfl⟩
instance : FnB Try.prog 108 := ⟨fun _ _ => by kernel_rfl⟩
instance : FnB Try.prog 109 := ⟨fun _ _ => by kernel_rfl⟩
instance : FnB Try.prog 110 := ⟨fun _ _ => by kernel_rfl⟩
instance : FnB Try.prog 111 := ⟨fun _ _ => by kernel_rfl⟩
end Go.Proofs.Ytijplicijmpknaa
