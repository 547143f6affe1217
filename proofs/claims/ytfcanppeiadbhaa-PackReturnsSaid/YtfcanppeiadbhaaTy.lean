/- PRINTED by gen_ty.py (a program of this session's): the seat's types and functions, as instances. -/
import Derived.Test.YtfcanppeiadbhaaAny
namespace Go.Proofs.Ytfcanppeiadbhaa
open Go.Proofs
set_option maxRecDepth 100000
instance : Mixed Try.prog := ⟨by kernel_rfl⟩
instance : TyU Try.prog 2 (.int .i64) := ⟨Try.underlying2⟩
instance : TyI Try.prog 2 1 8 (.int .i64 0) := ⟨by kernel_rfl, rfl⟩
instance : Ty1 Try.prog 2 := ⟨by kernel_rfl, _, Try.underlying2, fun _ _ _ => ⟨TypeDesc.noConfusion, TypeDesc.noConfusion⟩⟩
instance : TyU Try.prog 3 (.int .i64) := ⟨Try.underlying3⟩
instance : TyI Try.prog 3 1 8 (.int .i64 0) := ⟨by kernel_rfl, rfl⟩
instance : Ty1 Try.prog 3 := ⟨by kernel_rfl, _, Try.underlying3, fun _ _ _ => ⟨TypeDesc.noConfusion, TypeDesc.noConfusion⟩⟩
instance : TyU Try.prog 4 .bool := ⟨Try.underlying4⟩
instance : TyI Try.prog 4 1 1 (.bool false) := ⟨by kernel_rfl, rfl⟩
instance : Ty1 Try.prog 4 := ⟨by kernel_rfl, _, Try.underlying4, fun _ _ _ => ⟨TypeDesc.noConfusion, TypeDesc.noConfusion⟩⟩
instance : TyU Try.prog 5 (.int .u8) := ⟨Try.underlying5⟩
instance : TyI Try.prog 5 1 1 (.int .u8 0) := ⟨by kernel_rfl, rfl⟩
instance : Ty1 Try.prog 5 := ⟨by kernel_rfl, _, Try.underlying5, fun _ _ _ => ⟨TypeDesc.noConfusion, TypeDesc.noConfusion⟩⟩
instance : TyU Try.prog 7 (.struct #[⟨ "x", 2, 0, false, "", "runtime", 0⟩, ⟨ "y", 3, 1, false, "", "runtime", 8⟩, ⟨ "signed", 4, 2, false, "", "runtime", 16⟩, ⟨ "code", 6, 3, false, "", "runtime", 17⟩]) := ⟨Try.underlying7⟩
instance : TyI Try.prog 7 4 24 (.agg #[(.int .i64 0), (.int .i64 0), (.bool false), (.int .u8 0)]) := ⟨by kernel_rfl, rfl⟩
instance : TyA Try.prog 7 4 := ⟨by kernel_rfl, _, Try.underlying7, .inl ⟨_, rfl⟩⟩
instance : TyS Try.prog 7 [(0, 1), (1, 1), (2, 1), (3, 1)] [(.int .i64 0), (.int .i64 0), (.bool false), (.int .u8 0)] := ⟨_, Try.underlying7, fun w => by kernel_rfl, fun w => ⟨(.agg #[(.int .i64 0), (.int .i64 0), (.bool false), (.int .u8 0)]), by kernel_rfl, rfl⟩⟩
instance : TyF Try.prog 7 0 0 2 := ⟨_, _, 0, Try.underlying7, rfl, rfl, rfl, by kernel_rfl⟩
instance : TyF Try.prog 7 1 1 3 := ⟨_, _, 0, Try.underlying7, rfl, rfl, rfl, by kernel_rfl⟩
instance : TyF Try.prog 7 2 2 4 := ⟨_, _, 0, Try.underlying7, rfl, rfl, rfl, by kernel_rfl⟩
instance : TyF Try.prog 7 3 3 6 := ⟨_, _, 0, Try.underlying7, rfl, rfl, rfl, by kernel_rfl⟩
instance : TyU Try.prog 9 .string := ⟨Try.underlying9⟩
instance : TyI Try.prog 9 1 16 (.string .empty) := ⟨by kernel_rfl, rfl⟩
instance : Ty1 Try.prog 9 := ⟨by kernel_rfl, _, Try.underlying9, fun _ _ _ => ⟨TypeDesc.noConfusion, TypeDesc.noConfusion⟩⟩
instance : TyU Try.prog 12 (.int .u64) := ⟨Try.underlying12⟩
instance : TyI Try.prog 12 1 8 (.int .u64 0) := ⟨by kernel_rfl, rfl⟩
instance : Ty1 Try.prog 12 := ⟨by kernel_rfl, _, Try.underlying12, fun _ _ _ => ⟨TypeDesc.noConfusion, TypeDesc.noConfusion⟩⟩
instance : TyU Try.prog 13 (.struct #[⟨ "msg", 9, 0, false, "", "runtime", 0⟩, ⟨ "addr", 12, 1, false, "", "runtime", 16⟩]) := ⟨Try.underlying13⟩
instance : TyI Try.prog 13 2 24 (.agg #[(.string .empty), (.int .u64 0)]) := ⟨by kernel_rfl, rfl⟩
instance : TyA Try.prog 13 2 := ⟨by kernel_rfl, _, Try.underlying13, .inl ⟨_, rfl⟩⟩
instance : TyS Try.prog 13 [(0, 1), (1, 1)] [(.string .empty), (.int .u64 0)] := ⟨_, Try.underlying13, fun w => by kernel_rfl, fun w => ⟨(.agg #[(.string .empty), (.int .u64 0)]), by kernel_rfl, rfl⟩⟩
instance : TyF Try.prog 13 0 0 9 := ⟨_, _, 0, Try.underlying13, rfl, rfl, rfl, by kernel_rfl⟩
instance : TyF Try.prog 13 1 1 12 := ⟨_, _, 0, Try.underlying13, rfl, rfl, rfl, by kernel_rfl⟩
instance : TyU Try.prog 18 (.struct #[⟨ "typ", 17, 0, false, "", "internal/runtime/maps", 0⟩]) := ⟨Try.underlying18⟩
instance : TyI Try.prog 18 1 8 (.agg #[(.pointer none)]) := ⟨by kernel_rfl, rfl⟩
instance : TyA Try.prog 18 1 := ⟨by kernel_rfl, _, Try.underlying18, .inl ⟨_, rfl⟩⟩
instance : TyS Try.prog 18 [(0, 1)] [(.pointer none)] := ⟨_, Try.underlying18, fun w => by kernel_rfl, fun w => ⟨(.agg #[(.pointer none)]), by kernel_rfl, rfl⟩⟩
instance : TyF Try.prog 18 0 0 17 := ⟨_, _, 0, Try.underlying18, rfl, rfl, rfl, by kernel_rfl⟩
instance : TyU Try.prog 20 (.interface #[]) := ⟨Try.underlying20⟩
instance : TyI Try.prog 20 1 16 .nilIface := ⟨by kernel_rfl, rfl⟩
instance : Ty1 Try.prog 20 := ⟨by kernel_rfl, _, Try.underlying20, fun _ _ _ => ⟨TypeDesc.noConfusion, TypeDesc.noConfusion⟩⟩
instance : TyU Try.prog 21 (.int .i32) := ⟨Try.underlying21⟩
instance : TyI Try.prog 21 1 4 (.int .i32 0) := ⟨by kernel_rfl, rfl⟩
instance : Ty1 Try.prog 21 := ⟨by kernel_rfl, _, Try.underlying21, fun _ _ _ => ⟨TypeDesc.noConfusion, TypeDesc.noConfusion⟩⟩
instance : TyU Try.prog 22 (.pointer 25) := ⟨Try.underlying22⟩
instance : TyI Try.prog 22 1 8 (.pointer none) := ⟨by kernel_rfl, rfl⟩
instance : Ty1 Try.prog 22 := ⟨by kernel_rfl, _, Try.underlying22, fun _ _ _ => ⟨TypeDesc.noConfusion, TypeDesc.noConfusion⟩⟩
instance : TyU Try.prog 23 (.int .i64) := ⟨Try.underlying23⟩
instance : TyI Try.prog 23 1 8 (.int .i64 0) := ⟨by kernel_rfl, rfl⟩
instance : Ty1 Try.prog 23 := ⟨by kernel_rfl, _, Try.underlying23, fun _ _ _ => ⟨TypeDesc.noConfusion, TypeDesc.noConfusion⟩⟩
instance : TyU Try.prog 24 (.struct #[⟨ "Why", 23, 0, false, "", "", 0⟩, ⟨ "At", 3, 1, false, "", "", 8⟩]) := ⟨Try.underlying24⟩
instance : TyI Try.prog 24 2 16 (.agg #[(.int .i64 0), (.int .i64 0)]) := ⟨by kernel_rfl, rfl⟩
instance : TyA Try.prog 24 2 := ⟨by kernel_rfl, _, Try.underlying24, .inl ⟨_, rfl⟩⟩
instance : TyS Try.prog 24 [(0, 1), (1, 1)] [(.int .i64 0), (.int .i64 0)] := ⟨_, Try.underlying24, fun w => by kernel_rfl, fun w => ⟨(.agg #[(.int .i64 0), (.int .i64 0)]), by kernel_rfl, rfl⟩⟩
instance : TyF Try.prog 24 0 0 23 := ⟨_, _, 0, Try.underlying24, rfl, rfl, rfl, by kernel_rfl⟩
instance : TyF Try.prog 24 1 1 3 := ⟨_, _, 0, Try.underlying24, rfl, rfl, rfl, by kernel_rfl⟩
instance : TyU Try.prog 25 (.struct #[⟨ "Why", 23, 0, false, "", "", 0⟩, ⟨ "At", 3, 1, false, "", "", 8⟩]) := ⟨Try.underlying25⟩
instance : TyI Try.prog 25 2 16 (.agg #[(.int .i64 0), (.int .i64 0)]) := ⟨by kernel_rfl, rfl⟩
instance : TyA Try.prog 25 2 := ⟨by kernel_rfl, _, Try.underlying25, .inl ⟨_, rfl⟩⟩
instance : TyS Try.prog 25 [(0, 1), (1, 1)] [(.int .i64 0), (.int .i64 0)] := ⟨_, Try.underlying25, fun w => by kernel_rfl, fun w => ⟨(.agg #[(.int .i64 0), (.int .i64 0)]), by kernel_rfl, rfl⟩⟩
instance : TyF Try.prog 25 0 0 23 := ⟨_, _, 0, Try.underlying25, rfl, rfl, rfl, by kernel_rfl⟩
instance : TyF Try.prog 25 1 1 3 := ⟨_, _, 0, Try.underlying25, rfl, rfl, rfl, by kernel_rfl⟩
instance : TyU Try.prog 26 (.interface #[("Error", 126)]) := ⟨Try.underlying26⟩
instance : TyI Try.prog 26 1 16 .nilIface := ⟨by kernel_rfl, rfl⟩
instance : Ty1 Try.prog 26 := ⟨by kernel_rfl, _, Try.underlying26, fun _ _ _ => ⟨TypeDesc.noConfusion, TypeDesc.noConfusion⟩⟩
instance : TyU Try.prog 27 (.interface #[("Error", 126)]) := ⟨Try.underlying27⟩
instance : TyI Try.prog 27 1 16 .nilIface := ⟨by kernel_rfl, rfl⟩
instance : Ty1 Try.prog 27 := ⟨by kernel_rfl, _, Try.underlying27, fun _ _ _ => ⟨TypeDesc.noConfusion, TypeDesc.noConfusion⟩⟩
instance : TyU Try.prog 30 (.slice 43) := ⟨Try.underlying30⟩
instance : TyI Try.prog 30 1 24 (.slice none 0 0) := ⟨by kernel_rfl, rfl⟩
instance : Ty1 Try.prog 30 := ⟨by kernel_rfl, _, Try.underlying30, fun _ _ _ => ⟨TypeDesc.noConfusion, TypeDesc.noConfusion⟩⟩
instance : TyU Try.prog 31 (.slice 4) := ⟨Try.underlying31⟩
instance : TyI Try.prog 31 1 24 (.slice none 0 0) := ⟨by kernel_rfl, rfl⟩
instance : Ty1 Try.prog 31 := ⟨by kernel_rfl, _, Try.underlying31, fun _ _ _ => ⟨TypeDesc.noConfusion, TypeDesc.noConfusion⟩⟩
instance : TyU Try.prog 33 (.pointer 77) := ⟨Try.underlying33⟩
instance : TyI Try.prog 33 1 8 (.pointer none) := ⟨by kernel_rfl, rfl⟩
instance : Ty1 Try.prog 33 := ⟨by kernel_rfl, _, Try.underlying33, fun _ _ _ => ⟨TypeDesc.noConfusion, TypeDesc.noConfusion⟩⟩
instance : TyU Try.prog 35 (.slice 33) := ⟨Try.underlying35⟩
instance : TyI Try.prog 35 1 24 (.slice none 0 0) := ⟨by kernel_rfl, rfl⟩
instance : Ty1 Try.prog 35 := ⟨by kernel_rfl, _, Try.underlying35, fun _ _ _ => ⟨TypeDesc.noConfusion, TypeDesc.noConfusion⟩⟩
instance : TyU Try.prog 36 (.slice 5) := ⟨Try.underlying36⟩
instance : TyI Try.prog 36 1 24 (.slice none 0 0) := ⟨by kernel_rfl, rfl⟩
instance : Ty1 Try.prog 36 := ⟨by kernel_rfl, _, Try.underlying36, fun _ _ _ => ⟨TypeDesc.noConfusion, TypeDesc.noConfusion⟩⟩
instance : TyU Try.prog 37 (.slice 36) := ⟨Try.underlying37⟩
instance : TyI Try.prog 37 1 24 (.slice none 0 0) := ⟨by kernel_rfl, rfl⟩
instance : Ty1 Try.prog 37 := ⟨by kernel_rfl, _, Try.underlying37, fun _ _ _ => ⟨TypeDesc.noConfusion, TypeDesc.noConfusion⟩⟩
instance : TyU Try.prog 38 (.pointer 40) := ⟨Try.underlying38⟩
instance : TyI Try.prog 38 1 8 (.pointer none) := ⟨by kernel_rfl, rfl⟩
instance : Ty1 Try.prog 38 := ⟨by kernel_rfl, _, Try.underlying38, fun _ _ _ => ⟨TypeDesc.noConfusion, TypeDesc.noConfusion⟩⟩
instance : TyU Try.prog 39 (.struct #[⟨ "l", 37, 0, false, "", "pleach/pleachref02", 0⟩, ⟨ "g", 37, 1, false, "", "pleach/pleachref02", 24⟩, ⟨ "n", 3, 2, false, "", "pleach/pleachref02", 48⟩, ⟨ "bad", 4, 3, false, "", "pleach/pleachref02", 56⟩]) := ⟨Try.underlying39⟩
instance : TyI Try.prog 39 4 64 (.agg #[(.slice none 0 0), (.slice none 0 0), (.int .i64 0), (.bool false)]) := ⟨by kernel_rfl, rfl⟩
instance : TyA Try.prog 39 4 := ⟨by kernel_rfl, _, Try.underlying39, .inl ⟨_, rfl⟩⟩
instance : TyS Try.prog 39 [(0, 1), (1, 1), (2, 1), (3, 1)] [(.slice none 0 0), (.slice none 0 0), (.int .i64 0), (.bool false)] := ⟨_, Try.underlying39, fun w => by kernel_rfl, fun w => ⟨(.agg #[(.slice none 0 0), (.slice none 0 0), (.int .i64 0), (.bool false)]), by kernel_rfl, rfl⟩⟩
instance : TyF Try.prog 39 0 0 37 := ⟨_, _, 0, Try.underlying39, rfl, rfl, rfl, by kernel_rfl⟩
instance : TyF Try.prog 39 1 1 37 := ⟨_, _, 0, Try.underlying39, rfl, rfl, rfl, by kernel_rfl⟩
instance : TyF Try.prog 39 2 2 3 := ⟨_, _, 0, Try.underlying39, rfl, rfl, rfl, by kernel_rfl⟩
instance : TyF Try.prog 39 3 3 4 := ⟨_, _, 0, Try.underlying39, rfl, rfl, rfl, by kernel_rfl⟩
instance : TyU Try.prog 40 (.struct #[⟨ "l", 37, 0, false, "", "pleach/pleachref02", 0⟩, ⟨ "g", 37, 1, false, "", "pleach/pleachref02", 24⟩, ⟨ "n", 3, 2, false, "", "pleach/pleachref02", 48⟩, ⟨ "bad", 4, 3, false, "", "pleach/pleachref02", 56⟩]) := ⟨Try.underlying40⟩
instance : TyI Try.prog 40 4 64 (.agg #[(.slice none 0 0), (.slice none 0 0), (.int .i64 0), (.bool false)]) := ⟨by kernel_rfl, rfl⟩
instance : TyA Try.prog 40 4 := ⟨by kernel_rfl, _, Try.underlying40, .inl ⟨_, rfl⟩⟩
instance : TyS Try.prog 40 [(0, 1), (1, 1), (2, 1), (3, 1)] [(.slice none 0 0), (.slice none 0 0), (.int .i64 0), (.bool false)] := ⟨_, Try.underlying40, fun w => by kernel_rfl, fun w => ⟨(.agg #[(.slice none 0 0), (.slice none 0 0), (.int .i64 0), (.bool false)]), by kernel_rfl, rfl⟩⟩
instance : TyF Try.prog 40 0 0 37 := ⟨_, _, 0, Try.underlying40, rfl, rfl, rfl, by kernel_rfl⟩
instance : TyF Try.prog 40 1 1 37 := ⟨_, _, 0, Try.underlying40, rfl, rfl, rfl, by kernel_rfl⟩
instance : TyF Try.prog 40 2 2 3 := ⟨_, _, 0, Try.underlying40, rfl, rfl, rfl, by kernel_rfl⟩
instance : TyF Try.prog 40 3 3 4 := ⟨_, _, 0, Try.underlying40, rfl, rfl, rfl, by kernel_rfl⟩
instance : TyU Try.prog 41 (.int .u64) := ⟨Try.underlying41⟩
instance : TyI Try.prog 41 1 8 (.int .u64 0) := ⟨by kernel_rfl, rfl⟩
instance : Ty1 Try.prog 41 := ⟨by kernel_rfl, _, Try.underlying41, fun _ _ _ => ⟨TypeDesc.noConfusion, TypeDesc.noConfusion⟩⟩
instance : TyU Try.prog 42 (.struct #[⟨ "Kind", 3, 0, false, "", "", 0⟩, ⟨ "X", 41, 1, false, "", "", 8⟩, ⟨ "N", 3, 2, false, "", "", 16⟩, ⟨ "B", 36, 3, false, "", "", 24⟩]) := ⟨Try.underlying42⟩
instance : TyI Try.prog 42 4 48 (.agg #[(.int .i64 0), (.int .u64 0), (.int .i64 0), (.slice none 0 0)]) := ⟨by kernel_rfl, rfl⟩
instance : TyA Try.prog 42 4 := ⟨by kernel_rfl, _, Try.underlying42, .inl ⟨_, rfl⟩⟩
instance : TyS Try.prog 42 [(0, 1), (1, 1), (2, 1), (3, 1)] [(.int .i64 0), (.int .u64 0), (.int .i64 0), (.slice none 0 0)] := ⟨_, Try.underlying42, fun w => by kernel_rfl, fun w => ⟨(.agg #[(.int .i64 0), (.int .u64 0), (.int .i64 0), (.slice none 0 0)]), by kernel_rfl, rfl⟩⟩
instance : TyF Try.prog 42 0 0 3 := ⟨_, _, 0, Try.underlying42, rfl, rfl, rfl, by kernel_rfl⟩
instance : TyF Try.prog 42 1 1 41 := ⟨_, _, 0, Try.underlying42, rfl, rfl, rfl, by kernel_rfl⟩
instance : TyF Try.prog 42 2 2 3 := ⟨_, _, 0, Try.underlying42, rfl, rfl, rfl, by kernel_rfl⟩
instance : TyF Try.prog 42 3 3 36 := ⟨_, _, 0, Try.underlying42, rfl, rfl, rfl, by kernel_rfl⟩
instance : TyU Try.prog 43 (.struct #[⟨ "Kind", 3, 0, false, "", "", 0⟩, ⟨ "X", 41, 1, false, "", "", 8⟩, ⟨ "N", 3, 2, false, "", "", 16⟩, ⟨ "B", 36, 3, false, "", "", 24⟩]) := ⟨Try.underlying43⟩
instance : TyI Try.prog 43 4 48 (.agg #[(.int .i64 0), (.int .u64 0), (.int .i64 0), (.slice none 0 0)]) := ⟨by kernel_rfl, rfl⟩
instance : TyA Try.prog 43 4 := ⟨by kernel_rfl, _, Try.underlying43, .inl ⟨_, rfl⟩⟩
instance : TyS Try.prog 43 [(0, 1), (1, 1), (2, 1), (3, 1)] [(.int .i64 0), (.int .u64 0), (.int .i64 0), (.slice none 0 0)] := ⟨_, Try.underlying43, fun w => by kernel_rfl, fun w => ⟨(.agg #[(.int .i64 0), (.int .u64 0), (.int .i64 0), (.slice none 0 0)]), by kernel_rfl, rfl⟩⟩
instance : TyF Try.prog 43 0 0 3 := ⟨_, _, 0, Try.underlying43, rfl, rfl, rfl, by kernel_rfl⟩
instance : TyF Try.prog 43 1 1 41 := ⟨_, _, 0, Try.underlying43, rfl, rfl, rfl, by kernel_rfl⟩
instance : TyF Try.prog 43 2 2 3 := ⟨_, _, 0, Try.underlying43, rfl, rfl, rfl, by kernel_rfl⟩
instance : TyF Try.prog 43 3 3 36 := ⟨_, _, 0, Try.underlying43, rfl, rfl, rfl, by kernel_rfl⟩
instance : TyU Try.prog 50 (.slice 3) := ⟨Try.underlying50⟩
instance : TyI Try.prog 50 1 24 (.slice none 0 0) := ⟨by kernel_rfl, rfl⟩
instance : Ty1 Try.prog 50 := ⟨by kernel_rfl, _, Try.underlying50, fun _ _ _ => ⟨TypeDesc.noConfusion, TypeDesc.noConfusion⟩⟩
instance : TyU Try.prog 51 (.pointer 90) := ⟨Try.underlying51⟩
instance : TyI Try.prog 51 1 8 (.pointer none) := ⟨by kernel_rfl, rfl⟩
instance : Ty1 Try.prog 51 := ⟨by kernel_rfl, _, Try.underlying51, fun _ _ _ => ⟨TypeDesc.noConfusion, TypeDesc.noConfusion⟩⟩
instance : TyU Try.prog 56 (.pointer 63) := ⟨Try.underlying56⟩
instance : TyI Try.prog 56 1 8 (.pointer none) := ⟨by kernel_rfl, rfl⟩
instance : Ty1 Try.prog 56 := ⟨by kernel_rfl, _, Try.underlying56, fun _ _ _ => ⟨TypeDesc.noConfusion, TypeDesc.noConfusion⟩⟩
instance : TyU Try.prog 57 (.pointer 61) := ⟨Try.underlying57⟩
instance : TyI Try.prog 57 1 8 (.pointer none) := ⟨by kernel_rfl, rfl⟩
instance : Ty1 Try.prog 57 := ⟨by kernel_rfl, _, Try.underlying57, fun _ _ _ => ⟨TypeDesc.noConfusion, TypeDesc.noConfusion⟩⟩
instance : TyU Try.prog 58 (.struct #[⟨ "Why", 3, 0, false, "", "", 0⟩, ⟨ "At", 3, 1, false, "", "", 8⟩]) := ⟨Try.underlying58⟩
instance : TyI Try.prog 58 2 16 (.agg #[(.int .i64 0), (.int .i64 0)]) := ⟨by kernel_rfl, rfl⟩
instance : TyA Try.prog 58 2 := ⟨by kernel_rfl, _, Try.underlying58, .inl ⟨_, rfl⟩⟩
instance : TyS Try.prog 58 [(0, 1), (1, 1)] [(.int .i64 0), (.int .i64 0)] := ⟨_, Try.underlying58, fun w => by kernel_rfl, fun w => ⟨(.agg #[(.int .i64 0), (.int .i64 0)]), by kernel_rfl, rfl⟩⟩
instance : TyF Try.prog 58 0 0 3 := ⟨_, _, 0, Try.underlying58, rfl, rfl, rfl, by kernel_rfl⟩
instance : TyF Try.prog 58 1 1 3 := ⟨_, _, 0, Try.underlying58, rfl, rfl, rfl, by kernel_rfl⟩
instance : TyU Try.prog 59 (.struct #[⟨ "Why", 3, 0, false, "", "", 0⟩, ⟨ "At", 3, 1, false, "", "", 8⟩]) := ⟨Try.underlying59⟩
instance : TyI Try.prog 59 2 16 (.agg #[(.int .i64 0), (.int .i64 0)]) := ⟨by kernel_rfl, rfl⟩
instance : TyA Try.prog 59 2 := ⟨by kernel_rfl, _, Try.underlying59, .inl ⟨_, rfl⟩⟩
instance : TyS Try.prog 59 [(0, 1), (1, 1)] [(.int .i64 0), (.int .i64 0)] := ⟨_, Try.underlying59, fun w => by kernel_rfl, fun w => ⟨(.agg #[(.int .i64 0), (.int .i64 0)]), by kernel_rfl, rfl⟩⟩
instance : TyF Try.prog 59 0 0 3 := ⟨_, _, 0, Try.underlying59, rfl, rfl, rfl, by kernel_rfl⟩
instance : TyF Try.prog 59 1 1 3 := ⟨_, _, 0, Try.underlying59, rfl, rfl, rfl, by kernel_rfl⟩
instance : TyU Try.prog 60 (.struct #[⟨ "B", 36, 0, false, "", "", 0⟩, ⟨ "Pos", 3, 1, false, "", "", 24⟩, ⟨ "Bad", 59, 2, false, "", "", 32⟩]) := ⟨Try.underlying60⟩
instance : TyI Try.prog 60 4 48 (.agg #[(.slice none 0 0), (.int .i64 0), (.int .i64 0), (.int .i64 0)]) := ⟨by kernel_rfl, rfl⟩
instance : TyA Try.prog 60 4 := ⟨by kernel_rfl, _, Try.underlying60, .inl ⟨_, rfl⟩⟩
instance : TyS Try.prog 60 [(0, 1), (1, 1), (2, 2)] [(.slice none 0 0), (.int .i64 0), (.int .i64 0), (.int .i64 0)] := ⟨_, Try.underlying60, fun w => by kernel_rfl, fun w => ⟨(.agg #[(.slice none 0 0), (.int .i64 0), (.int .i64 0), (.int .i64 0)]), by kernel_rfl, rfl⟩⟩
instance : TyF Try.prog 60 0 0 36 := ⟨_, _, 0, Try.underlying60, rfl, rfl, rfl, by kernel_rfl⟩
instance : TyF Try.prog 60 1 1 3 := ⟨_, _, 0, Try.underlying60, rfl, rfl, rfl, by kernel_rfl⟩
instance : TyF Try.prog 60 2 2 59 := ⟨_, _, 1, Try.underlying60, rfl, rfl, rfl, by kernel_rfl⟩
instance : TyU Try.prog 61 (.struct #[⟨ "B", 36, 0, false, "", "", 0⟩, ⟨ "Pos", 3, 1, false, "", "", 24⟩, ⟨ "Bad", 59, 2, false, "", "", 32⟩]) := ⟨Try.underlying61⟩
instance : TyI Try.prog 61 4 48 (.agg #[(.slice none 0 0), (.int .i64 0), (.int .i64 0), (.int .i64 0)]) := ⟨by kernel_rfl, rfl⟩
instance : TyA Try.prog 61 4 := ⟨by kernel_rfl, _, Try.underlying61, .inl ⟨_, rfl⟩⟩
instance : TyS Try.prog 61 [(0, 1), (1, 1), (2, 2)] [(.slice none 0 0), (.int .i64 0), (.int .i64 0), (.int .i64 0)] := ⟨_, Try.underlying61, fun w => by kernel_rfl, fun w => ⟨(.agg #[(.slice none 0 0), (.int .i64 0), (.int .i64 0), (.int .i64 0)]), by kernel_rfl, rfl⟩⟩
instance : TyF Try.prog 61 0 0 36 := ⟨_, _, 0, Try.underlying61, rfl, rfl, rfl, by kernel_rfl⟩
instance : TyF Try.prog 61 1 1 3 := ⟨_, _, 0, Try.underlying61, rfl, rfl, rfl, by kernel_rfl⟩
instance : TyF Try.prog 61 2 2 59 := ⟨_, _, 1, Try.underlying61, rfl, rfl, rfl, by kernel_rfl⟩
instance : TyU Try.prog 62 (.struct #[⟨ "r", 51, 0, false, "", "pleach/pleachlaw02", 0⟩, ⟨ "x", 57, 1, false, "", "pleach/pleachlaw02", 8⟩, ⟨ "first", 27, 2, false, "", "pleach/pleachlaw02", 16⟩, ⟨ "book", 40, 3, false, "", "pleach/pleachlaw02", 32⟩]) := ⟨Try.underlying62⟩
instance : TyI Try.prog 62 7 96 (.agg #[(.pointer none), (.pointer none), .nilIface, (.slice none 0 0), (.slice none 0 0), (.int .i64 0), (.bool false)]) := ⟨by kernel_rfl, rfl⟩
instance : TyA Try.prog 62 7 := ⟨by kernel_rfl, _, Try.underlying62, .inl ⟨_, rfl⟩⟩
instance : TyS Try.prog 62 [(0, 1), (1, 1), (2, 1), (3, 4)] [(.pointer none), (.pointer none), .nilIface, (.slice none 0 0), (.slice none 0 0), (.int .i64 0), (.bool false)] := ⟨_, Try.underlying62, fun w => by kernel_rfl, fun w => ⟨(.agg #[(.pointer none), (.pointer none), .nilIface, (.slice none 0 0), (.slice none 0 0), (.int .i64 0), (.bool false)]), by kernel_rfl, rfl⟩⟩
instance : TyF Try.prog 62 0 0 51 := ⟨_, _, 0, Try.underlying62, rfl, rfl, rfl, by kernel_rfl⟩
instance : TyF Try.prog 62 1 1 57 := ⟨_, _, 0, Try.underlying62, rfl, rfl, rfl, by kernel_rfl⟩
instance : TyF Try.prog 62 2 2 27 := ⟨_, _, 0, Try.underlying62, rfl, rfl, rfl, by kernel_rfl⟩
instance : TyF Try.prog 62 3 3 40 := ⟨_, _, 3, Try.underlying62, rfl, rfl, rfl, by kernel_rfl⟩
instance : TyU Try.prog 63 (.struct #[⟨ "r", 51, 0, false, "", "pleach/pleachlaw02", 0⟩, ⟨ "x", 57, 1, false, "", "pleach/pleachlaw02", 8⟩, ⟨ "first", 27, 2, false, "", "pleach/pleachlaw02", 16⟩, ⟨ "book", 40, 3, false, "", "pleach/pleachlaw02", 32⟩]) := ⟨Try.underlying63⟩
instance : TyI Try.prog 63 7 96 (.agg #[(.pointer none), (.pointer none), .nilIface, (.slice none 0 0), (.slice none 0 0), (.int .i64 0), (.bool false)]) := ⟨by kernel_rfl, rfl⟩
instance : TyA Try.prog 63 7 := ⟨by kernel_rfl, _, Try.underlying63, .inl ⟨_, rfl⟩⟩
instance : TyS Try.prog 63 [(0, 1), (1, 1), (2, 1), (3, 4)] [(.pointer none), (.pointer none), .nilIface, (.slice none 0 0), (.slice none 0 0), (.int .i64 0), (.bool false)] := ⟨_, Try.underlying63, fun w => by kernel_rfl, fun w => ⟨(.agg #[(.pointer none), (.pointer none), .nilIface, (.slice none 0 0), (.slice none 0 0), (.int .i64 0), (.bool false)]), by kernel_rfl, rfl⟩⟩
instance : TyF Try.prog 63 0 0 51 := ⟨_, _, 0, Try.underlying63, rfl, rfl, rfl, by kernel_rfl⟩
instance : TyF Try.prog 63 1 1 57 := ⟨_, _, 0, Try.underlying63, rfl, rfl, rfl, by kernel_rfl⟩
instance : TyF Try.prog 63 2 2 27 := ⟨_, _, 0, Try.underlying63, rfl, rfl, rfl, by kernel_rfl⟩
instance : TyF Try.prog 63 3 3 40 := ⟨_, _, 3, Try.underlying63, rfl, rfl, rfl, by kernel_rfl⟩
instance : TyU Try.prog 76 (.struct #[⟨ "b", 36, 0, false, "", "pleach/pack", 0⟩]) := ⟨Try.underlying76⟩
instance : TyI Try.prog 76 1 24 (.agg #[(.slice none 0 0)]) := ⟨by kernel_rfl, rfl⟩
instance : TyA Try.prog 76 1 := ⟨by kernel_rfl, _, Try.underlying76, .inl ⟨_, rfl⟩⟩
instance : TyS Try.prog 76 [(0, 1)] [(.slice none 0 0)] := ⟨_, Try.underlying76, fun w => by kernel_rfl, fun w => ⟨(.agg #[(.slice none 0 0)]), by kernel_rfl, rfl⟩⟩
instance : TyF Try.prog 76 0 0 36 := ⟨_, _, 0, Try.underlying76, rfl, rfl, rfl, by kernel_rfl⟩
instance : TyU Try.prog 77 (.struct #[⟨ "b", 36, 0, false, "", "pleach/pack", 0⟩]) := ⟨Try.underlying77⟩
instance : TyI Try.prog 77 1 24 (.agg #[(.slice none 0 0)]) := ⟨by kernel_rfl, rfl⟩
instance : TyA Try.prog 77 1 := ⟨by kernel_rfl, _, Try.underlying77, .inl ⟨_, rfl⟩⟩
instance : TyS Try.prog 77 [(0, 1)] [(.slice none 0 0)] := ⟨_, Try.underlying77, fun w => by kernel_rfl, fun w => ⟨(.agg #[(.slice none 0 0)]), by kernel_rfl, rfl⟩⟩
instance : TyF Try.prog 77 0 0 36 := ⟨_, _, 0, Try.underlying77, rfl, rfl, rfl, by kernel_rfl⟩
instance : TyU Try.prog 83 (.array 32 5) := ⟨Try.underlying83⟩
instance : TyI Try.prog 83 32 32 (.agg #[(.int .u8 0), (.int .u8 0), (.int .u8 0), (.int .u8 0), (.int .u8 0), (.int .u8 0), (.int .u8 0), (.int .u8 0), (.int .u8 0), (.int .u8 0), (.int .u8 0), (.int .u8 0), (.int .u8 0), (.int .u8 0), (.int .u8 0), (.int .u8 0), (.int .u8 0), (.int .u8 0), (.int .u8 0), (.int .u8 0), (.int .u8 0), (.int .u8 0), (.int .u8 0), (.int .u8 0), (.int .u8 0), (.int .u8 0), (.int .u8 0), (.int .u8 0), (.int .u8 0), (.int .u8 0), (.int .u8 0), (.int .u8 0)]) := ⟨by kernel_rfl, rfl⟩
instance : TyA Try.prog 83 32 := ⟨by kernel_rfl, _, Try.underlying83, .inr ⟨_, _, rfl⟩⟩
instance : TyU Try.prog 84 (.array 32 5) := ⟨Try.underlying84⟩
instance : TyI Try.prog 84 32 32 (.agg #[(.int .u8 0), (.int .u8 0), (.int .u8 0), (.int .u8 0), (.int .u8 0), (.int .u8 0), (.int .u8 0), (.int .u8 0), (.int .u8 0), (.int .u8 0), (.int .u8 0), (.int .u8 0), (.int .u8 0), (.int .u8 0), (.int .u8 0), (.int .u8 0), (.int .u8 0), (.int .u8 0), (.int .u8 0), (.int .u8 0), (.int .u8 0), (.int .u8 0), (.int .u8 0), (.int .u8 0), (.int .u8 0), (.int .u8 0), (.int .u8 0), (.int .u8 0), (.int .u8 0), (.int .u8 0), (.int .u8 0), (.int .u8 0)]) := ⟨by kernel_rfl, rfl⟩
instance : TyA Try.prog 84 32 := ⟨by kernel_rfl, _, Try.underlying84, .inr ⟨_, _, rfl⟩⟩
instance : TyU Try.prog 87 (.int .u64) := ⟨Try.underlying87⟩
instance : TyI Try.prog 87 1 8 (.int .u64 0) := ⟨by kernel_rfl, rfl⟩
instance : Ty1 Try.prog 87 := ⟨by kernel_rfl, _, Try.underlying87, fun _ _ _ => ⟨TypeDesc.noConfusion, TypeDesc.noConfusion⟩⟩
instance : TyU Try.prog 89 (.struct #[⟨ "b", 36, 0, false, "", "pleach/pack", 0⟩, ⟨ "at", 3, 1, false, "", "pleach/pack", 24⟩, ⟨ "err", 27, 2, false, "", "pleach/pack", 32⟩]) := ⟨Try.underlying89⟩
instance : TyI Try.prog 89 3 48 (.agg #[(.slice none 0 0), (.int .i64 0), .nilIface]) := ⟨by kernel_rfl, rfl⟩
instance : TyA Try.prog 89 3 := ⟨by kernel_rfl, _, Try.underlying89, .inl ⟨_, rfl⟩⟩
instance : TyS Try.prog 89 [(0, 1), (1, 1), (2, 1)] [(.slice none 0 0), (.int .i64 0), .nilIface] := ⟨_, Try.underlying89, fun w => by kernel_rfl, fun w => ⟨(.agg #[(.slice none 0 0), (.int .i64 0), .nilIface]), by kernel_rfl, rfl⟩⟩
instance : TyF Try.prog 89 0 0 36 := ⟨_, _, 0, Try.underlying89, rfl, rfl, rfl, by kernel_rfl⟩
instance : TyF Try.prog 89 1 1 3 := ⟨_, _, 0, Try.underlying89, rfl, rfl, rfl, by kernel_rfl⟩
instance : TyF Try.prog 89 2 2 27 := ⟨_, _, 0, Try.underlying89, rfl, rfl, rfl, by kernel_rfl⟩
instance : TyU Try.prog 90 (.struct #[⟨ "b", 36, 0, false, "", "pleach/pack", 0⟩, ⟨ "at", 3, 1, false, "", "pleach/pack", 24⟩, ⟨ "err", 27, 2, false, "", "pleach/pack", 32⟩]) := ⟨Try.underlying90⟩
instance : TyI Try.prog 90 3 48 (.agg #[(.slice none 0 0), (.int .i64 0), .nilIface]) := ⟨by kernel_rfl, rfl⟩
instance : TyA Try.prog 90 3 := ⟨by kernel_rfl, _, Try.underlying90, .inl ⟨_, rfl⟩⟩
instance : TyS Try.prog 90 [(0, 1), (1, 1), (2, 1)] [(.slice none 0 0), (.int .i64 0), .nilIface] := ⟨_, Try.underlying90, fun w => by kernel_rfl, fun w => ⟨(.agg #[(.slice none 0 0), (.int .i64 0), .nilIface]), by kernel_rfl, rfl⟩⟩
instance : TyF Try.prog 90 0 0 36 := ⟨_, _, 0, Try.underlying90, rfl, rfl, rfl, by kernel_rfl⟩
instance : TyF Try.prog 90 1 1 3 := ⟨_, _, 0, Try.underlying90, rfl, rfl, rfl, by kernel_rfl⟩
instance : TyF Try.prog 90 2 2 27 := ⟨_, _, 0, Try.underlying90, rfl, rfl, rfl, by kernel_rfl⟩
instance : TyU Try.prog 127 (.struct #[⟨ "_interface", 17, 0, false, "", "runtime", 0⟩, ⟨ "concrete", 17, 1, false, "", "runtime", 8⟩, ⟨ "asserted", 17, 2, false, "", "runtime", 16⟩, ⟨ "missingMethod", 9, 3, false, "", "runtime", 24⟩]) := ⟨Try.underlying127⟩
instance : TyI Try.prog 127 4 40 (.agg #[(.pointer none), (.pointer none), (.pointer none), (.string .empty)]) := ⟨by kernel_rfl, rfl⟩
instance : TyA Try.prog 127 4 := ⟨by kernel_rfl, _, Try.underlying127, .inl ⟨_, rfl⟩⟩
instance : TyS Try.prog 127 [(0, 1), (1, 1), (2, 1), (3, 1)] [(.pointer none), (.pointer none), (.pointer none), (.string .empty)] := ⟨_, Try.underlying127, fun w => by kernel_rfl, fun w => ⟨(.agg #[(.pointer none), (.pointer none), (.pointer none), (.string .empty)]), by kernel_rfl, rfl⟩⟩
instance : TyF Try.prog 127 0 0 17 := ⟨_, _, 0, Try.underlying127, rfl, rfl, rfl, by kernel_rfl⟩
instance : TyF Try.prog 127 1 1 17 := ⟨_, _, 0, Try.underlying127, rfl, rfl, rfl, by kernel_rfl⟩
instance : TyF Try.prog 127 2 2 17 := ⟨_, _, 0, Try.underlying127, rfl, rfl, rfl, by kernel_rfl⟩
instance : TyF Try.prog 127 3 3 9 := ⟨_, _, 0, Try.underlying127, rfl, rfl, rfl, by kernel_rfl⟩
instance : TyU Try.prog 129 (.array 0 16) := ⟨Try.underlying129⟩
instance : TyI Try.prog 129 0 0 (.agg #[]) := ⟨by kernel_rfl, rfl⟩
instance : TyA Try.prog 129 0 := ⟨by kernel_rfl, _, Try.underlying129, .inr ⟨_, _, rfl⟩⟩
instance : TyU Try.prog 130 (.struct #[⟨ "_", 129, 0, false, "", "runtime", 0⟩]) := ⟨Try.underlying130⟩
instance : TyI Try.prog 130 0 0 (.agg #[]) := ⟨by kernel_rfl, rfl⟩
instance : TyA Try.prog 130 0 := ⟨by kernel_rfl, _, Try.underlying130, .inl ⟨_, rfl⟩⟩
instance : TyS Try.prog 130 [(0, 0)] [] := ⟨_, Try.underlying130, fun w => by kernel_rfl, fun w => ⟨(.agg #[]), by kernel_rfl, rfl⟩⟩
instance : TyU Try.prog 132 (.int .u32) := ⟨Try.underlying132⟩
instance : TyI Try.prog 132 1 4 (.int .u32 0) := ⟨by kernel_rfl, rfl⟩
instance : Ty1 Try.prog 132 := ⟨by kernel_rfl, _, Try.underlying132, fun _ _ _ => ⟨TypeDesc.noConfusion, TypeDesc.noConfusion⟩⟩
instance : TyU Try.prog 136 (.pointer 5) := ⟨Try.underlying136⟩
instance : TyI Try.prog 136 1 8 (.pointer none) := ⟨by kernel_rfl, rfl⟩
instance : Ty1 Try.prog 136 := ⟨by kernel_rfl, _, Try.underlying136, fun _ _ _ => ⟨TypeDesc.noConfusion, TypeDesc.noConfusion⟩⟩
instance : TyU Try.prog 139 (.struct #[⟨ "Size_", 12, 0, false, "", "", 0⟩, ⟨ "PtrBytes", 12, 1, false, "", "", 8⟩, ⟨ "Hash", 132, 2, false, "", "", 16⟩, ⟨ "TFlag", 133, 3, false, "", "", 20⟩, ⟨ "Align_", 5, 4, false, "", "", 21⟩, ⟨ "FieldAlign_", 5, 5, false, "", "", 22⟩, ⟨ "Kind_", 134, 6, false, "", "", 23⟩, ⟨ "Equal", 135, 7, false, "", "", 24⟩, ⟨ "GCData", 136, 8, false, "", "", 32⟩, ⟨ "Str", 137, 9, false, "", "", 40⟩, ⟨ "PtrToThis", 138, 10, false, "", "", 44⟩]) := ⟨Try.underlying139⟩
instance : TyI Try.prog 139 11 48 (.agg #[(.int .u64 0), (.int .u64 0), (.int .u32 0), (.int .u8 0), (.int .u8 0), (.int .u8 0), (.int .u8 0), .nilFunc, (.pointer none), (.int .i32 0), (.int .i32 0)]) := ⟨by kernel_rfl, rfl⟩
instance : TyA Try.prog 139 11 := ⟨by kernel_rfl, _, Try.underlying139, .inl ⟨_, rfl⟩⟩
instance : TyS Try.prog 139 [(0, 1), (1, 1), (2, 1), (3, 1), (4, 1), (5, 1), (6, 1), (7, 1), (8, 1), (9, 1), (10, 1)] [(.int .u64 0), (.int .u64 0), (.int .u32 0), (.int .u8 0), (.int .u8 0), (.int .u8 0), (.int .u8 0), .nilFunc, (.pointer none), (.int .i32 0), (.int .i32 0)] := ⟨_, Try.underlying139, fun w => by kernel_rfl, fun w => ⟨(.agg #[(.int .u64 0), (.int .u64 0), (.int .u32 0), (.int .u8 0), (.int .u8 0), (.int .u8 0), (.int .u8 0), .nilFunc, (.pointer none), (.int .i32 0), (.int .i32 0)]), by kernel_rfl, rfl⟩⟩
instance : TyF Try.prog 139 0 0 12 := ⟨_, _, 0, Try.underlying139, rfl, rfl, rfl, by kernel_rfl⟩
instance : TyF Try.prog 139 1 1 12 := ⟨_, _, 0, Try.underlying139, rfl, rfl, rfl, by kernel_rfl⟩
instance : TyF Try.prog 139 2 2 132 := ⟨_, _, 0, Try.underlying139, rfl, rfl, rfl, by kernel_rfl⟩
instance : TyF Try.prog 139 3 3 133 := ⟨_, _, 0, Try.underlying139, rfl, rfl, rfl, by kernel_rfl⟩
instance : TyF Try.prog 139 4 4 5 := ⟨_, _, 0, Try.underlying139, rfl, rfl, rfl, by kernel_rfl⟩
instance : TyF Try.prog 139 5 5 5 := ⟨_, _, 0, Try.underlying139, rfl, rfl, rfl, by kernel_rfl⟩
instance : TyF Try.prog 139 6 6 134 := ⟨_, _, 0, Try.underlying139, rfl, rfl, rfl, by kernel_rfl⟩
instance : TyF Try.prog 139 7 7 135 := ⟨_, _, 0, Try.underlying139, rfl, rfl, rfl, by kernel_rfl⟩
instance : TyF Try.prog 139 8 8 136 := ⟨_, _, 0, Try.underlying139, rfl, rfl, rfl, by kernel_rfl⟩
instance : TyF Try.prog 139 9 9 137 := ⟨_, _, 0, Try.underlying139, rfl, rfl, rfl, by kernel_rfl⟩
instance : TyF Try.prog 139 10 10 138 := ⟨_, _, 0, Try.underlying139, rfl, rfl, rfl, by kernel_rfl⟩
instance : FnB Try.prog 3 := ⟨fun _ _ => by kernel_rfl⟩
instance : FnB Try.prog 4 := ⟨fun _ _ => by kernel_rfl⟩
instance : FnB Try.prog 5 := ⟨fun _ _ => by kernel_rfl⟩
instance : FnB Try.prog 6 := ⟨fun _ _ => by kernel_rfl⟩
instance : FnB Try.prog 7 := ⟨fun _ _ => by kernel_rfl⟩
instance : FnB Try.prog 8 := ⟨fun _ _ => by kernel_rfl⟩
instance : FnB Try.prog 9 := ⟨fun _ _ => by kernel_rfl⟩
instance : FnB Try.prog 10 := ⟨fun _ _ => by kernel_rfl⟩
instance : FnB Try.prog 11 := ⟨fun _ _ => by kernel_rfl⟩
instance : FnB Try.prog 12 := ⟨fun _ _ => by kernel_rfl⟩
instance : FnB Try.prog 13 := ⟨fun _ _ => by kernel_rfl⟩
instance : FnB Try.prog 14 := ⟨fun _ _ => by kernel_rfl⟩
instance : FnB Try.prog 15 := ⟨fun _ _ => by kernel_rfl⟩
instance : FnB Try.prog 16 := ⟨fun _ _ => by kernel_rfl⟩
instance : FnB Try.prog 17 := ⟨fun _ _ => by kernel_rfl⟩
instance : FnB Try.prog 18 := ⟨fun _ _ => by kernel_rfl⟩
instance : FnB Try.prog 19 := ⟨fun _ _ => by kernel_rfl⟩
instance : FnB Try.prog 20 := ⟨fun _ _ => by kernel_rfl⟩
instance : FnB Try.prog 21 := ⟨fun _ _ => by kernel_rfl⟩
instance : FnB Try.prog 22 := ⟨fun _ _ => by kernel_rfl⟩
instance : FnB Try.prog 23 := ⟨fun _ _ => by kernel_rfl⟩
instance : FnB Try.prog 24 := ⟨fun _ _ => by kernel_rfl⟩
instance : FnB Try.prog 25 := ⟨fun _ _ => by kernel_rfl⟩
instance : FnB Try.prog 26 := ⟨fun _ _ => by kernel_rfl⟩
instance : FnB Try.prog 27 := ⟨fun _ _ => by kernel_rfl⟩
instance : FnB Try.prog 28 := ⟨fun _ _ => by kernel_rfl⟩
instance : FnB Try.prog 29 := ⟨fun _ _ => by kernel_rfl⟩
instance : FnB Try.prog 30 := ⟨fun _ _ => by kernel_rfl⟩
instance : FnB Try.prog 31 := ⟨fun _ _ => by kernel_rfl⟩
instance : FnB Try.prog 32 := ⟨fun _ _ => by kernel_rfl⟩
instance : FnB Try.prog 33 := ⟨fun _ _ => by kernel_rfl⟩
instance : FnB Try.prog 34 := ⟨fun _ _ => by kernel_rfl⟩
instance : FnB Try.prog 35 := ⟨fun _ _ => by kernel_rfl⟩
instance : FnB Try.prog 36 := ⟨fun _ _ => by kernel_rfl⟩
instance : FnB Try.prog 37 := ⟨fun _ _ => by kernel_rfl⟩
instance : FnB Try.prog 38 := ⟨fun _ _ => by kernel_rfl⟩
instance : FnB Try.prog 39 := ⟨fun _ _ => by kernel_rfl⟩
instance : FnB Try.prog 40 := ⟨fun _ _ => by kernel_rfl⟩
instance : FnB Try.prog 41 := ⟨fun _ _ => by kernel_rfl⟩
instance : FnB Try.prog 42 := ⟨fun _ _ => by kernel_rfl⟩
instance : FnB Try.prog 43 := ⟨fun _ _ => by kernel_rfl⟩
instance : FnB Try.prog 44 := ⟨fun _ _ => by kernel_rfl⟩
instance : FnB Try.prog 45 := ⟨fun _ _ => by kernel_rfl⟩
instance : FnB Try.prog 46 := ⟨fun _ _ => by kernel_rfl⟩
instance : FnB Try.prog 47 := ⟨fun _ _ => by kernel_rfl⟩
instance : FnB Try.prog 48 := ⟨fun _ _ => by kernel_rfl⟩
instance : FnB Try.prog 49 := ⟨fun _ _ => by kernel_rfl⟩
instance : FnB Try.prog 50 := ⟨fun _ _ => by kernel_rfl⟩
instance : FnB Try.prog 51 := ⟨fun _ _ => by kernel_rfl⟩
instance : FnB Try.prog 52 := ⟨fun _ _ => by kernel_rfl⟩
instance : FnB Try.prog 53 := ⟨fun _ _ => by kernel_rfl⟩
instance : FnB Try.prog 54 := ⟨fun _ _ => by kernel_rfl⟩
instance : FnB Try.prog 55 := ⟨fun _ _ => by kernel_rfl⟩
instance : FnB Try.prog 56 := ⟨fun _ _ => by kernel_rfl⟩
instance : FnB Try.prog 57 := ⟨fun _ _ => by kernel_rfl⟩
instance : FnB Try.prog 58 := ⟨fun _ _ => by kernel_rfl⟩
instance : FnB Try.prog 59 := ⟨fun _ _ => by kernel_rfl⟩
instance : FnB Try.prog 60 := ⟨fun _ _ => by kernel_rfl⟩
instance : FnB Try.prog 61 := ⟨fun _ _ => by kernel_rfl⟩
instance : FnB Try.prog 62 := ⟨fun _ _ => by kernel_rfl⟩
instance : FnB Try.prog 63 := ⟨fun _ _ => by kernel_rfl⟩
instance : FnB Try.prog 64 := ⟨fun _ _ => by kernel_rfl⟩
instance : FnB Try.prog 65 := ⟨fun _ _ => by kernel_rfl⟩
instance : FnB Try.prog 66 := ⟨fun _ _ => by kernel_rfl⟩
instance : FnB Try.prog 67 := ⟨fun _ _ => by kernel_rfl⟩
instance : FnB Try.prog 68 := ⟨fun _ _ => by kernel_rfl⟩
end Go.Proofs.Ytfcanppeiadbhaa
