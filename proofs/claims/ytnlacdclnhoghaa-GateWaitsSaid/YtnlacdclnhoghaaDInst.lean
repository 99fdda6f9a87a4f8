/- The rows of this program's types and functions, as instances. No conditions. -/
import Derived.Test.YtnlacdclnhoghaaDOp2
import Derived.Test.YtnlacdclnhoghaaDK2
namespace Go.Proofs.Ytnlacdclnhoghaa
open Go.RowKit
set_option linter.unusedVariables false
set_option maxRecDepth 100000
theorem mixed : Try.prog.follows .mixedOrders = true := by kernel_rfl
instance : HasTy Try.prog 2 ⟨false, 1, [.int .i64 0]⟩ := ⟨⟨_, Try.underlying2, rfl⟩, by kernel_rfl, ⟨.int .i64 0, [.int .i64 0], by kernel_rfl, rfl, ⟨rfl, trivial⟩⟩⟩
instance : HasBy Try.prog 2 8 := ⟨by kernel_rfl⟩
instance : HasInt Try.prog 2 .i64 := ⟨Try.underlying2⟩
theorem eqd2 : EqD Try.prog 1 2 false [.int .i64] := eqd_int Try.underlying2
instance : HasTy Try.prog 3 ⟨false, 1, [.int .i64 0]⟩ := ⟨⟨_, Try.underlying3, rfl⟩, by kernel_rfl, ⟨.int .i64 0, [.int .i64 0], by kernel_rfl, rfl, ⟨rfl, trivial⟩⟩⟩
instance : HasBy Try.prog 3 8 := ⟨by kernel_rfl⟩
instance : HasInt Try.prog 3 .i64 := ⟨Try.underlying3⟩
theorem eqd3 : EqD Try.prog 1 3 false [.int .i64] := eqd_int Try.underlying3
instance : HasTy Try.prog 4 ⟨false, 1, [.bool false]⟩ := ⟨⟨_, Try.underlying4, rfl⟩, by kernel_rfl, ⟨.bool false, [.bool false], by kernel_rfl, rfl, ⟨rfl, trivial⟩⟩⟩
instance : HasBy Try.prog 4 1 := ⟨by kernel_rfl⟩
theorem eqd4 : EqD Try.prog 1 4 false [.bool] := eqd_bool Try.underlying4
instance : HasTy Try.prog 5 ⟨false, 1, [.int .u8 0]⟩ := ⟨⟨_, Try.underlying5, rfl⟩, by kernel_rfl, ⟨.int .u8 0, [.int .u8 0], by kernel_rfl, rfl, ⟨rfl, trivial⟩⟩⟩
instance : HasBy Try.prog 5 1 := ⟨by kernel_rfl⟩
instance : HasInt Try.prog 5 .u8 := ⟨Try.underlying5⟩
theorem eqd5 : EqD Try.prog 1 5 false [.int .u8] := eqd_int Try.underlying5
instance : HasTy Try.prog 9 ⟨false, 1, [.str ⟨#[]⟩]⟩ := ⟨⟨_, Try.underlying9, rfl⟩, by kernel_rfl, ⟨.string ⟨#[]⟩, [.string ⟨#[]⟩], by kernel_rfl, rfl, ⟨rfl, trivial⟩⟩⟩
instance : HasBy Try.prog 9 16 := ⟨by kernel_rfl⟩
theorem eqd9 : EqD Try.prog 1 9 false [.str] := eqd_str Try.underlying9
instance : HasTy Try.prog 12 ⟨false, 1, [.int .u64 0]⟩ := ⟨⟨_, Try.underlying12, rfl⟩, by kernel_rfl, ⟨.int .u64 0, [.int .u64 0], by kernel_rfl, rfl, ⟨rfl, trivial⟩⟩⟩
instance : HasBy Try.prog 12 8 := ⟨by kernel_rfl⟩
instance : HasInt Try.prog 12 .u64 := ⟨Try.underlying12⟩
theorem eqd12 : EqD Try.prog 1 12 false [.int .u64] := eqd_int Try.underlying12
instance : HasTy Try.prog 15 ⟨false, 1, [.raw (.pointer none)]⟩ := ⟨⟨_, Try.underlying15, rfl⟩, by kernel_rfl, ⟨.pointer none, [.pointer none], by kernel_rfl, rfl, ⟨rfl, trivial⟩⟩⟩
instance : HasBy Try.prog 15 8 := ⟨by kernel_rfl⟩
instance : HasPtr Try.prog 15 89 := ⟨Try.underlying15⟩
instance : HasTy Try.prog 16 ⟨false, 1, [.raw (.pointer none)]⟩ := ⟨⟨_, Try.underlying16, rfl⟩, by kernel_rfl, ⟨.pointer none, [.pointer none], by kernel_rfl, rfl, ⟨rfl, trivial⟩⟩⟩
instance : HasBy Try.prog 16 8 := ⟨by kernel_rfl⟩
instance : HasPtr Try.prog 16 92 := ⟨Try.underlying16⟩
instance : HasTy Try.prog 17 ⟨false, 1, [.raw (.pointer none)]⟩ := ⟨⟨_, Try.underlying17, rfl⟩, by kernel_rfl, ⟨.pointer none, [.pointer none], by kernel_rfl, rfl, ⟨rfl, trivial⟩⟩⟩
instance : HasBy Try.prog 17 8 := ⟨by kernel_rfl⟩
instance : HasPtr Try.prog 17 102 := ⟨Try.underlying17⟩
instance : HasTy Try.prog 21 ⟨false, 1, [.int .i32 0]⟩ := ⟨⟨_, Try.underlying21, rfl⟩, by kernel_rfl, ⟨.int .i32 0, [.int .i32 0], by kernel_rfl, rfl, ⟨rfl, trivial⟩⟩⟩
instance : HasBy Try.prog 21 4 := ⟨by kernel_rfl⟩
instance : HasInt Try.prog 21 .i32 := ⟨Try.underlying21⟩
theorem eqd21 : EqD Try.prog 1 21 false [.int .i32] := eqd_int Try.underlying21
instance : HasTy Try.prog 22 ⟨false, 1, [.slice .nil 0 []]⟩ := ⟨⟨_, Try.underlying22, rfl⟩, by kernel_rfl, ⟨.slice none 0 0, [.slice none 0 0], by kernel_rfl, rfl, ⟨rfl, trivial⟩⟩⟩
instance : HasBy Try.prog 22 24 := ⟨by kernel_rfl⟩
instance : HasSl Try.prog 22 36 := ⟨Try.underlying22⟩
instance : HasTy Try.prog 23 ⟨false, 1, [.slice .nil 0 []]⟩ := ⟨⟨_, Try.underlying23, rfl⟩, by kernel_rfl, ⟨.slice none 0 0, [.slice none 0 0], by kernel_rfl, rfl, ⟨rfl, trivial⟩⟩⟩
instance : HasBy Try.prog 23 24 := ⟨by kernel_rfl⟩
instance : HasSl Try.prog 23 30 := ⟨Try.underlying23⟩
instance : HasTy Try.prog 24 ⟨true, 3, [.slice .nil 0 [], .int .i64 0, .int .i64 0]⟩ := ⟨⟨_, Try.underlying24, rfl⟩, by kernel_rfl, ⟨.agg #[.slice none 0 0, .int .i64 0, .int .i64 0], [.slice none 0 0, .int .i64 0, .int .i64 0], by kernel_rfl, rfl, ⟨rfl, rfl, rfl, trivial⟩⟩⟩
instance : HasBy Try.prog 24 40 := ⟨by kernel_rfl⟩
instance : HasTy Try.prog 25 ⟨true, 3, [.slice .nil 0 [], .int .i64 0, .int .i64 0]⟩ := ⟨⟨_, Try.underlying25, rfl⟩, by kernel_rfl, ⟨.agg #[.slice none 0 0, .int .i64 0, .int .i64 0], [.slice none 0 0, .int .i64 0, .int .i64 0], by kernel_rfl, rfl, ⟨rfl, rfl, rfl, trivial⟩⟩⟩
instance : HasBy Try.prog 25 40 := ⟨by kernel_rfl⟩
instance : HasTy Try.prog 28 ⟨false, 1, [.slice .nil 0 []]⟩ := ⟨⟨_, Try.underlying28, rfl⟩, by kernel_rfl, ⟨.slice none 0 0, [.slice none 0 0], by kernel_rfl, rfl, ⟨rfl, trivial⟩⟩⟩
instance : HasBy Try.prog 28 24 := ⟨by kernel_rfl⟩
instance : HasSl Try.prog 28 84 := ⟨Try.underlying28⟩
instance : HasTy Try.prog 29 ⟨true, 3, [.int .i64 0, .int .i64 0, .slice .nil 0 []]⟩ := ⟨⟨_, Try.underlying29, rfl⟩, by kernel_rfl, ⟨.agg #[.int .i64 0, .int .i64 0, .slice none 0 0], [.int .i64 0, .int .i64 0, .slice none 0 0], by kernel_rfl, rfl, ⟨rfl, rfl, rfl, trivial⟩⟩⟩
instance : HasBy Try.prog 29 40 := ⟨by kernel_rfl⟩
instance : HasTy Try.prog 30 ⟨true, 3, [.int .i64 0, .int .i64 0, .slice .nil 0 []]⟩ := ⟨⟨_, Try.underlying30, rfl⟩, by kernel_rfl, ⟨.agg #[.int .i64 0, .int .i64 0, .slice none 0 0], [.int .i64 0, .int .i64 0, .slice none 0 0], by kernel_rfl, rfl, ⟨rfl, rfl, rfl, trivial⟩⟩⟩
instance : HasBy Try.prog 30 40 := ⟨by kernel_rfl⟩
instance : HasTy Try.prog 31 ⟨false, 1, [.int .i64 0]⟩ := ⟨⟨_, Try.underlying31, rfl⟩, by kernel_rfl, ⟨.int .i64 0, [.int .i64 0], by kernel_rfl, rfl, ⟨rfl, trivial⟩⟩⟩
instance : HasBy Try.prog 31 8 := ⟨by kernel_rfl⟩
instance : HasInt Try.prog 31 .i64 := ⟨Try.underlying31⟩
theorem eqd31 : EqD Try.prog 1 31 false [.int .i64] := eqd_int Try.underlying31
instance : HasTy Try.prog 35 ⟨true, 4, [.int .i64 0, .int .i64 0, .int .i64 0, .str ⟨#[]⟩]⟩ := ⟨⟨_, Try.underlying35, rfl⟩, by kernel_rfl, ⟨.agg #[.int .i64 0, .int .i64 0, .int .i64 0, .string ⟨#[]⟩], [.int .i64 0, .int .i64 0, .int .i64 0, .string ⟨#[]⟩], by kernel_rfl, rfl, ⟨rfl, rfl, rfl, rfl, trivial⟩⟩⟩
instance : HasBy Try.prog 35 40 := ⟨by kernel_rfl⟩
instance : HasTy Try.prog 36 ⟨true, 4, [.int .i64 0, .int .i64 0, .int .i64 0, .str ⟨#[]⟩]⟩ := ⟨⟨_, Try.underlying36, rfl⟩, by kernel_rfl, ⟨.agg #[.int .i64 0, .int .i64 0, .int .i64 0, .string ⟨#[]⟩], [.int .i64 0, .int .i64 0, .int .i64 0, .string ⟨#[]⟩], by kernel_rfl, rfl, ⟨rfl, rfl, rfl, rfl, trivial⟩⟩⟩
instance : HasBy Try.prog 36 40 := ⟨by kernel_rfl⟩
instance : HasTy Try.prog 37 ⟨true, 3, [.int .i64 0, .int .i64 0, .int .i64 0]⟩ := ⟨⟨_, Try.underlying37, rfl⟩, by kernel_rfl, ⟨.agg #[.int .i64 0, .int .i64 0, .int .i64 0], [.int .i64 0, .int .i64 0, .int .i64 0], by kernel_rfl, rfl, ⟨rfl, rfl, rfl, trivial⟩⟩⟩
instance : HasBy Try.prog 37 24 := ⟨by kernel_rfl⟩
instance : HasTy Try.prog 38 ⟨false, 1, [.slice .nil 0 []]⟩ := ⟨⟨_, Try.underlying38, rfl⟩, by kernel_rfl, ⟨.slice none 0 0, [.slice none 0 0], by kernel_rfl, rfl, ⟨rfl, trivial⟩⟩⟩
instance : HasBy Try.prog 38 24 := ⟨by kernel_rfl⟩
instance : HasSl Try.prog 38 56 := ⟨Try.underlying38⟩
instance : HasTy Try.prog 39 ⟨true, 9, [.int .i64 0, .int .i64 0, .int .i64 0, .int .i64 0, .int .i64 0, .int .i64 0, .int .i64 0, .slice .nil 0 [], .slice .nil 0 []]⟩ := ⟨⟨_, Try.underlying39, rfl⟩, by kernel_rfl, ⟨.agg #[.int .i64 0, .int .i64 0, .int .i64 0, .int .i64 0, .int .i64 0, .int .i64 0, .int .i64 0, .slice none 0 0, .slice none 0 0], [.int .i64 0, .int .i64 0, .int .i64 0, .int .i64 0, .int .i64 0, .int .i64 0, .int .i64 0, .slice none 0 0, .slice none 0 0], by kernel_rfl, rfl, ⟨rfl, rfl, rfl, rfl, rfl, rfl, rfl, rfl, rfl, trivial⟩⟩⟩
instance : HasBy Try.prog 39 104 := ⟨by kernel_rfl⟩
instance : HasTy Try.prog 40 ⟨true, 9, [.int .i64 0, .int .i64 0, .int .i64 0, .int .i64 0, .int .i64 0, .int .i64 0, .int .i64 0, .slice .nil 0 [], .slice .nil 0 []]⟩ := ⟨⟨_, Try.underlying40, rfl⟩, by kernel_rfl, ⟨.agg #[.int .i64 0, .int .i64 0, .int .i64 0, .int .i64 0, .int .i64 0, .int .i64 0, .int .i64 0, .slice none 0 0, .slice none 0 0], [.int .i64 0, .int .i64 0, .int .i64 0, .int .i64 0, .int .i64 0, .int .i64 0, .int .i64 0, .slice none 0 0, .slice none 0 0], by kernel_rfl, rfl, ⟨rfl, rfl, rfl, rfl, rfl, rfl, rfl, rfl, rfl, trivial⟩⟩⟩
instance : HasBy Try.prog 40 104 := ⟨by kernel_rfl⟩
instance : HasTy Try.prog 42 ⟨false, 1, [.slice .nil 0 []]⟩ := ⟨⟨_, Try.underlying42, rfl⟩, by kernel_rfl, ⟨.slice none 0 0, [.slice none 0 0], by kernel_rfl, rfl, ⟨rfl, trivial⟩⟩⟩
instance : HasBy Try.prog 42 24 := ⟨by kernel_rfl⟩
instance : HasSl Try.prog 42 46 := ⟨Try.underlying42⟩
instance : HasTy Try.prog 45 ⟨true, 5, [.int .i64 0, .int .i64 0, .int .i64 0, .int .i64 0, .bool false]⟩ := ⟨⟨_, Try.underlying45, rfl⟩, by kernel_rfl, ⟨.agg #[.int .i64 0, .int .i64 0, .int .i64 0, .int .i64 0, .bool false], [.int .i64 0, .int .i64 0, .int .i64 0, .int .i64 0, .bool false], by kernel_rfl, rfl, ⟨rfl, rfl, rfl, rfl, rfl, trivial⟩⟩⟩
instance : HasBy Try.prog 45 40 := ⟨by kernel_rfl⟩
instance : HasTy Try.prog 46 ⟨true, 5, [.int .i64 0, .int .i64 0, .int .i64 0, .int .i64 0, .bool false]⟩ := ⟨⟨_, Try.underlying46, rfl⟩, by kernel_rfl, ⟨.agg #[.int .i64 0, .int .i64 0, .int .i64 0, .int .i64 0, .bool false], [.int .i64 0, .int .i64 0, .int .i64 0, .int .i64 0, .bool false], by kernel_rfl, rfl, ⟨rfl, rfl, rfl, rfl, rfl, trivial⟩⟩⟩
instance : HasBy Try.prog 46 40 := ⟨by kernel_rfl⟩
instance : HasTy Try.prog 50 ⟨false, 1, [.slice .nil 0 []]⟩ := ⟨⟨_, Try.underlying50, rfl⟩, by kernel_rfl, ⟨.slice none 0 0, [.slice none 0 0], by kernel_rfl, rfl, ⟨rfl, trivial⟩⟩⟩
instance : HasBy Try.prog 50 24 := ⟨by kernel_rfl⟩
instance : HasSl Try.prog 50 3 := ⟨Try.underlying50⟩
instance : HasTy Try.prog 53 ⟨false, 1, [.raw (.map none)]⟩ := ⟨⟨_, Try.underlying53, rfl⟩, by kernel_rfl, ⟨.map none, [.map none], by kernel_rfl, rfl, ⟨rfl, trivial⟩⟩⟩
instance : HasBy Try.prog 53 8 := ⟨by kernel_rfl⟩
instance : HasTy Try.prog 55 ⟨true, 4, [.int .i64 0, .int .i64 0, .int .i64 0, .int .i64 0]⟩ := ⟨⟨_, Try.underlying55, rfl⟩, by kernel_rfl, ⟨.agg #[.int .i64 0, .int .i64 0, .int .i64 0, .int .i64 0], [.int .i64 0, .int .i64 0, .int .i64 0, .int .i64 0], by kernel_rfl, rfl, ⟨rfl, rfl, rfl, rfl, trivial⟩⟩⟩
instance : HasBy Try.prog 55 32 := ⟨by kernel_rfl⟩
instance : HasTy Try.prog 56 ⟨true, 4, [.int .i64 0, .int .i64 0, .int .i64 0, .int .i64 0]⟩ := ⟨⟨_, Try.underlying56, rfl⟩, by kernel_rfl, ⟨.agg #[.int .i64 0, .int .i64 0, .int .i64 0, .int .i64 0], [.int .i64 0, .int .i64 0, .int .i64 0, .int .i64 0], by kernel_rfl, rfl, ⟨rfl, rfl, rfl, rfl, trivial⟩⟩⟩
instance : HasBy Try.prog 56 32 := ⟨by kernel_rfl⟩
instance : HasTy Try.prog 71 ⟨false, 1, [.raw (.map none)]⟩ := ⟨⟨_, Try.underlying71, rfl⟩, by kernel_rfl, ⟨.map none, [.map none], by kernel_rfl, rfl, ⟨rfl, trivial⟩⟩⟩
instance : HasBy Try.prog 71 8 := ⟨by kernel_rfl⟩
instance : HasTy Try.prog 75 ⟨true, 2, [.slice .nil 0 [], .slice .nil 0 []]⟩ := ⟨⟨_, Try.underlying75, rfl⟩, by kernel_rfl, ⟨.agg #[.slice none 0 0, .slice none 0 0], [.slice none 0 0, .slice none 0 0], by kernel_rfl, rfl, ⟨rfl, rfl, trivial⟩⟩⟩
instance : HasBy Try.prog 75 48 := ⟨by kernel_rfl⟩
instance : HasTy Try.prog 78 ⟨true, 32, [.int .u8 0, .int .u8 0, .int .u8 0, .int .u8 0, .int .u8 0, .int .u8 0, .int .u8 0, .int .u8 0, .int .u8 0, .int .u8 0, .int .u8 0, .int .u8 0, .int .u8 0, .int .u8 0, .int .u8 0, .int .u8 0, .int .u8 0, .int .u8 0, .int .u8 0, .int .u8 0, .int .u8 0, .int .u8 0, .int .u8 0, .int .u8 0, .int .u8 0, .int .u8 0, .int .u8 0, .int .u8 0, .int .u8 0, .int .u8 0, .int .u8 0, .int .u8 0]⟩ := ⟨⟨_, Try.underlying78, rfl⟩, by kernel_rfl, ⟨.agg #[.int .u8 0, .int .u8 0, .int .u8 0, .int .u8 0, .int .u8 0, .int .u8 0, .int .u8 0, .int .u8 0, .int .u8 0, .int .u8 0, .int .u8 0, .int .u8 0, .int .u8 0, .int .u8 0, .int .u8 0, .int .u8 0, .int .u8 0, .int .u8 0, .int .u8 0, .int .u8 0, .int .u8 0, .int .u8 0, .int .u8 0, .int .u8 0, .int .u8 0, .int .u8 0, .int .u8 0, .int .u8 0, .int .u8 0, .int .u8 0, .int .u8 0, .int .u8 0], [.int .u8 0, .int .u8 0, .int .u8 0, .int .u8 0, .int .u8 0, .int .u8 0, .int .u8 0, .int .u8 0, .int .u8 0, .int .u8 0, .int .u8 0, .int .u8 0, .int .u8 0, .int .u8 0, .int .u8 0, .int .u8 0, .int .u8 0, .int .u8 0, .int .u8 0, .int .u8 0, .int .u8 0, .int .u8 0, .int .u8 0, .int .u8 0, .int .u8 0, .int .u8 0, .int .u8 0, .int .u8 0, .int .u8 0, .int .u8 0, .int .u8 0, .int .u8 0], by kernel_rfl, rfl, ⟨rfl, rfl, rfl, rfl, rfl, rfl, rfl, rfl, rfl, rfl, rfl, rfl, rfl, rfl, rfl, rfl, rfl, rfl, rfl, rfl, rfl, rfl, rfl, rfl, rfl, rfl, rfl, rfl, rfl, rfl, rfl, rfl, trivial⟩⟩⟩
instance : HasBy Try.prog 78 32 := ⟨by kernel_rfl⟩
instance : HasTy Try.prog 79 ⟨false, 1, [.int .u64 0]⟩ := ⟨⟨_, Try.underlying79, rfl⟩, by kernel_rfl, ⟨.int .u64 0, [.int .u64 0], by kernel_rfl, rfl, ⟨rfl, trivial⟩⟩⟩
instance : HasBy Try.prog 79 8 := ⟨by kernel_rfl⟩
instance : HasInt Try.prog 79 .u64 := ⟨Try.underlying79⟩
theorem eqd79 : EqD Try.prog 1 79 false [.int .u64] := eqd_int Try.underlying79
instance : HasTy Try.prog 80 ⟨true, 4, [.int .u64 0, .int .u64 0, .int .u64 0, .int .u64 0]⟩ := ⟨⟨_, Try.underlying80, rfl⟩, by kernel_rfl, ⟨.agg #[.int .u64 0, .int .u64 0, .int .u64 0, .int .u64 0], [.int .u64 0, .int .u64 0, .int .u64 0, .int .u64 0], by kernel_rfl, rfl, ⟨rfl, rfl, rfl, rfl, trivial⟩⟩⟩
instance : HasBy Try.prog 80 32 := ⟨by kernel_rfl⟩
instance : HasTy Try.prog 81 ⟨true, 4, [.int .u64 0, .int .u64 0, .int .u64 0, .int .u64 0]⟩ := ⟨⟨_, Try.underlying81, rfl⟩, by kernel_rfl, ⟨.agg #[.int .u64 0, .int .u64 0, .int .u64 0, .int .u64 0], [.int .u64 0, .int .u64 0, .int .u64 0, .int .u64 0], by kernel_rfl, rfl, ⟨rfl, rfl, rfl, rfl, trivial⟩⟩⟩
instance : HasBy Try.prog 81 32 := ⟨by kernel_rfl⟩
instance : HasTy Try.prog 82 ⟨false, 1, [.slice .nil 0 []]⟩ := ⟨⟨_, Try.underlying82, rfl⟩, by kernel_rfl, ⟨.slice none 0 0, [.slice none 0 0], by kernel_rfl, rfl, ⟨rfl, trivial⟩⟩⟩
instance : HasBy Try.prog 82 24 := ⟨by kernel_rfl⟩
instance : HasSl Try.prog 82 5 := ⟨Try.underlying82⟩
instance : HasTy Try.prog 83 ⟨true, 109, [.int .i64 0, .int .u8 0, .int .u8 0, .int .u8 0, .int .u8 0, .int .u8 0, .int .u8 0, .int .u8 0, .int .u8 0, .int .u8 0, .int .u8 0, .int .u8 0, .int .u8 0, .int .u8 0, .int .u8 0, .int .u8 0, .int .u8 0, .int .u8 0, .int .u8 0, .int .u8 0, .int .u8 0, .int .u8 0, .int .u8 0, .int .u8 0, .int .u8 0, .int .u8 0, .int .u8 0, .int .u8 0, .int .u8 0, .int .u8 0, .int .u8 0, .int .u8 0, .int .u8 0, .int .u8 0, .int .u8 0, .int .u8 0, .int .u8 0, .int .u8 0, .int .u8 0, .int .u8 0, .int .u8 0, .int .u8 0, .int .u8 0, .int .u8 0, .int .u8 0, .int .u8 0, .int .u8 0, .int .u8 0, .int .u8 0, .int .u8 0, .int .u8 0, .int .u8 0, .int .u8 0, .int .u8 0, .int .u8 0, .int .u8 0, .int .u8 0, .int .u8 0, .int .u8 0, .int .u8 0, .int .u8 0, .int .u8 0, .int .u8 0, .int .u8 0, .int .u8 0, .int .i64 0, .int .u64 0, .int .u64 0, .int .u64 0, .int .u64 0, .int .u64 0, .int .u64 0, .int .u64 0, .int .u64 0, .int .u8 0, .int .u8 0, .int .u8 0, .int .u8 0, .int .u8 0, .int .u8 0, .int .u8 0, .int .u8 0, .int .u8 0, .int .u8 0, .int .u8 0, .int .u8 0, .int .u8 0, .int .u8 0, .int .u8 0, .int .u8 0, .int .u8 0, .int .u8 0, .int .u8 0, .int .u8 0, .int .u8 0, .int .u8 0, .int .u8 0, .int .u8 0, .int .u8 0, .int .u8 0, .int .u8 0, .int .u8 0, .int .u8 0, .int .u8 0, .int .u8 0, .int .u8 0, .int .i64 0, .int .i64 0, .slice .nil 0 []]⟩ := ⟨⟨_, Try.underlying83, rfl⟩, by kernel_rfl, ⟨.agg #[.int .i64 0, .int .u8 0, .int .u8 0, .int .u8 0, .int .u8 0, .int .u8 0, .int .u8 0, .int .u8 0, .int .u8 0, .int .u8 0, .int .u8 0, .int .u8 0, .int .u8 0, .int .u8 0, .int .u8 0, .int .u8 0, .int .u8 0, .int .u8 0, .int .u8 0, .int .u8 0, .int .u8 0, .int .u8 0, .int .u8 0, .int .u8 0, .int .u8 0, .int .u8 0, .int .u8 0, .int .u8 0, .int .u8 0, .int .u8 0, .int .u8 0, .int .u8 0, .int .u8 0, .int .u8 0, .int .u8 0, .int .u8 0, .int .u8 0, .int .u8 0, .int .u8 0, .int .u8 0, .int .u8 0, .int .u8 0, .int .u8 0, .int .u8 0, .int .u8 0, .int .u8 0, .int .u8 0, .int .u8 0, .int .u8 0, .int .u8 0, .int .u8 0, .int .u8 0, .int .u8 0, .int .u8 0, .int .u8 0, .int .u8 0, .int .u8 0, .int .u8 0, .int .u8 0, .int .u8 0, .int .u8 0, .int .u8 0, .int .u8 0, .int .u8 0, .int .u8 0, .int .i64 0, .int .u64 0, .int .u64 0, .int .u64 0, .int .u64 0, .int .u64 0, .int .u64 0, .int .u64 0, .int .u64 0, .int .u8 0, .int .u8 0, .int .u8 0, .int .u8 0, .int .u8 0, .int .u8 0, .int .u8 0, .int .u8 0, .int .u8 0, .int .u8 0, .int .u8 0, .int .u8 0, .int .u8 0, .int .u8 0, .int .u8 0, .int .u8 0, .int .u8 0, .int .u8 0, .int .u8 0, .int .u8 0, .int .u8 0, .int .u8 0, .int .u8 0, .int .u8 0, .int .u8 0, .int .u8 0, .int .u8 0, .int .u8 0, .int .u8 0, .int .u8 0, .int .u8 0, .int .u8 0, .int .i64 0, .int .i64 0, .slice none 0 0], [.int .i64 0, .int .u8 0, .int .u8 0, .int .u8 0, .int .u8 0, .int .u8 0, .int .u8 0, .int .u8 0, .int .u8 0, .int .u8 0, .int .u8 0, .int .u8 0, .int .u8 0, .int .u8 0, .int .u8 0, .int .u8 0, .int .u8 0, .int .u8 0, .int .u8 0, .int .u8 0, .int .u8 0, .int .u8 0, .int .u8 0, .int .u8 0, .int .u8 0, .int .u8 0, .int .u8 0, .int .u8 0, .int .u8 0, .int .u8 0, .int .u8 0, .int .u8 0, .int .u8 0, .int .u8 0, .int .u8 0, .int .u8 0, .int .u8 0, .int .u8 0, .int .u8 0, .int .u8 0, .int .u8 0, .int .u8 0, .int .u8 0, .int .u8 0, .int .u8 0, .int .u8 0, .int .u8 0, .int .u8 0, .int .u8 0, .int .u8 0, .int .u8 0, .int .u8 0, .int .u8 0, .int .u8 0, .int .u8 0, .int .u8 0, .int .u8 0, .int .u8 0, .int .u8 0, .int .u8 0, .int .u8 0, .int .u8 0, .int .u8 0, .int .u8 0, .int .u8 0, .int .i64 0, .int .u64 0, .int .u64 0, .int .u64 0, .int .u64 0, .int .u64 0, .int .u64 0, .int .u64 0, .int .u64 0, .int .u8 0, .int .u8 0, .int .u8 0, .int .u8 0, .int .u8 0, .int .u8 0, .int .u8 0, .int .u8 0, .int .u8 0, .int .u8 0, .int .u8 0, .int .u8 0, .int .u8 0, .int .u8 0, .int .u8 0, .int .u8 0, .int .u8 0, .int .u8 0, .int .u8 0, .int .u8 0, .int .u8 0, .int .u8 0, .int .u8 0, .int .u8 0, .int .u8 0, .int .u8 0, .int .u8 0, .int .u8 0, .int .u8 0, .int .u8 0, .int .u8 0, .int .u8 0, .int .i64 0, .int .i64 0, .slice none 0 0], by kernel_rfl, rfl, ⟨rfl, rfl, rfl, rfl, rfl, rfl, rfl, rfl, rfl, rfl, rfl, rfl, rfl, rfl, rfl, rfl, rfl, rfl, rfl, rfl, rfl, rfl, rfl, rfl, rfl, rfl, rfl, rfl, rfl, rfl, rfl, rfl, rfl, rfl, rfl, rfl, rfl, rfl, rfl, rfl, rfl, rfl, rfl, rfl, rfl, rfl, rfl, rfl, rfl, rfl, rfl, rfl, rfl, rfl, rfl, rfl, rfl, rfl, rfl, rfl, rfl, rfl, rfl, rfl, rfl, rfl, rfl, rfl, rfl, rfl, rfl, rfl, rfl, rfl, rfl, rfl, rfl, rfl, rfl, rfl, rfl, rfl, rfl, rfl, rfl, rfl, rfl, rfl, rfl, rfl, rfl, rfl, rfl, rfl, rfl, rfl, rfl, rfl, rfl, rfl, rfl, rfl, rfl, rfl, rfl, rfl, rfl, rfl, rfl, trivial⟩⟩⟩
instance : HasBy Try.prog 83 216 := ⟨by kernel_rfl⟩
instance : HasTy Try.prog 84 ⟨true, 109, [.int .i64 0, .int .u8 0, .int .u8 0, .int .u8 0, .int .u8 0, .int .u8 0, .int .u8 0, .int .u8 0, .int .u8 0, .int .u8 0, .int .u8 0, .int .u8 0, .int .u8 0, .int .u8 0, .int .u8 0, .int .u8 0, .int .u8 0, .int .u8 0, .int .u8 0, .int .u8 0, .int .u8 0, .int .u8 0, .int .u8 0, .int .u8 0, .int .u8 0, .int .u8 0, .int .u8 0, .int .u8 0, .int .u8 0, .int .u8 0, .int .u8 0, .int .u8 0, .int .u8 0, .int .u8 0, .int .u8 0, .int .u8 0, .int .u8 0, .int .u8 0, .int .u8 0, .int .u8 0, .int .u8 0, .int .u8 0, .int .u8 0, .int .u8 0, .int .u8 0, .int .u8 0, .int .u8 0, .int .u8 0, .int .u8 0, .int .u8 0, .int .u8 0, .int .u8 0, .int .u8 0, .int .u8 0, .int .u8 0, .int .u8 0, .int .u8 0, .int .u8 0, .int .u8 0, .int .u8 0, .int .u8 0, .int .u8 0, .int .u8 0, .int .u8 0, .int .u8 0, .int .i64 0, .int .u64 0, .int .u64 0, .int .u64 0, .int .u64 0, .int .u64 0, .int .u64 0, .int .u64 0, .int .u64 0, .int .u8 0, .int .u8 0, .int .u8 0, .int .u8 0, .int .u8 0, .int .u8 0, .int .u8 0, .int .u8 0, .int .u8 0, .int .u8 0, .int .u8 0, .int .u8 0, .int .u8 0, .int .u8 0, .int .u8 0, .int .u8 0, .int .u8 0, .int .u8 0, .int .u8 0, .int .u8 0, .int .u8 0, .int .u8 0, .int .u8 0, .int .u8 0, .int .u8 0, .int .u8 0, .int .u8 0, .int .u8 0, .int .u8 0, .int .u8 0, .int .u8 0, .int .u8 0, .int .i64 0, .int .i64 0, .slice .nil 0 []]⟩ := ⟨⟨_, Try.underlying84, rfl⟩, by kernel_rfl, ⟨.agg #[.int .i64 0, .int .u8 0, .int .u8 0, .int .u8 0, .int .u8 0, .int .u8 0, .int .u8 0, .int .u8 0, .int .u8 0, .int .u8 0, .int .u8 0, .int .u8 0, .int .u8 0, .int .u8 0, .int .u8 0, .int .u8 0, .int .u8 0, .int .u8 0, .int .u8 0, .int .u8 0, .int .u8 0, .int .u8 0, .int .u8 0, .int .u8 0, .int .u8 0, .int .u8 0, .int .u8 0, .int .u8 0, .int .u8 0, .int .u8 0, .int .u8 0, .int .u8 0, .int .u8 0, .int .u8 0, .int .u8 0, .int .u8 0, .int .u8 0, .int .u8 0, .int .u8 0, .int .u8 0, .int .u8 0, .int .u8 0, .int .u8 0, .int .u8 0, .int .u8 0, .int .u8 0, .int .u8 0, .int .u8 0, .int .u8 0, .int .u8 0, .int .u8 0, .int .u8 0, .int .u8 0, .int .u8 0, .int .u8 0, .int .u8 0, .int .u8 0, .int .u8 0, .int .u8 0, .int .u8 0, .int .u8 0, .int .u8 0, .int .u8 0, .int .u8 0, .int .u8 0, .int .i64 0, .int .u64 0, .int .u64 0, .int .u64 0, .int .u64 0, .int .u64 0, .int .u64 0, .int .u64 0, .int .u64 0, .int .u8 0, .int .u8 0, .int .u8 0, .int .u8 0, .int .u8 0, .int .u8 0, .int .u8 0, .int .u8 0, .int .u8 0, .int .u8 0, .int .u8 0, .int .u8 0, .int .u8 0, .int .u8 0, .int .u8 0, .int .u8 0, .int .u8 0, .int .u8 0, .int .u8 0, .int .u8 0, .int .u8 0, .int .u8 0, .int .u8 0, .int .u8 0, .int .u8 0, .int .u8 0, .int .u8 0, .int .u8 0, .int .u8 0, .int .u8 0, .int .u8 0, .int .u8 0, .int .i64 0, .int .i64 0, .slice none 0 0], [.int .i64 0, .int .u8 0, .int .u8 0, .int .u8 0, .int .u8 0, .int .u8 0, .int .u8 0, .int .u8 0, .int .u8 0, .int .u8 0, .int .u8 0, .int .u8 0, .int .u8 0, .int .u8 0, .int .u8 0, .int .u8 0, .int .u8 0, .int .u8 0, .int .u8 0, .int .u8 0, .int .u8 0, .int .u8 0, .int .u8 0, .int .u8 0, .int .u8 0, .int .u8 0, .int .u8 0, .int .u8 0, .int .u8 0, .int .u8 0, .int .u8 0, .int .u8 0, .int .u8 0, .int .u8 0, .int .u8 0, .int .u8 0, .int .u8 0, .int .u8 0, .int .u8 0, .int .u8 0, .int .u8 0, .int .u8 0, .int .u8 0, .int .u8 0, .int .u8 0, .int .u8 0, .int .u8 0, .int .u8 0, .int .u8 0, .int .u8 0, .int .u8 0, .int .u8 0, .int .u8 0, .int .u8 0, .int .u8 0, .int .u8 0, .int .u8 0, .int .u8 0, .int .u8 0, .int .u8 0, .int .u8 0, .int .u8 0, .int .u8 0, .int .u8 0, .int .u8 0, .int .i64 0, .int .u64 0, .int .u64 0, .int .u64 0, .int .u64 0, .int .u64 0, .int .u64 0, .int .u64 0, .int .u64 0, .int .u8 0, .int .u8 0, .int .u8 0, .int .u8 0, .int .u8 0, .int .u8 0, .int .u8 0, .int .u8 0, .int .u8 0, .int .u8 0, .int .u8 0, .int .u8 0, .int .u8 0, .int .u8 0, .int .u8 0, .int .u8 0, .int .u8 0, .int .u8 0, .int .u8 0, .int .u8 0, .int .u8 0, .int .u8 0, .int .u8 0, .int .u8 0, .int .u8 0, .int .u8 0, .int .u8 0, .int .u8 0, .int .u8 0, .int .u8 0, .int .u8 0, .int .u8 0, .int .i64 0, .int .i64 0, .slice none 0 0], by kernel_rfl, rfl, ⟨rfl, rfl, rfl, rfl, rfl, rfl, rfl, rfl, rfl, rfl, rfl, rfl, rfl, rfl, rfl, rfl, rfl, rfl, rfl, rfl, rfl, rfl, rfl, rfl, rfl, rfl, rfl, rfl, rfl, rfl, rfl, rfl, rfl, rfl, rfl, rfl, rfl, rfl, rfl, rfl, rfl, rfl, rfl, rfl, rfl, rfl, rfl, rfl, rfl, rfl, rfl, rfl, rfl, rfl, rfl, rfl, rfl, rfl, rfl, rfl, rfl, rfl, rfl, rfl, rfl, rfl, rfl, rfl, rfl, rfl, rfl, rfl, rfl, rfl, rfl, rfl, rfl, rfl, rfl, rfl, rfl, rfl, rfl, rfl, rfl, rfl, rfl, rfl, rfl, rfl, rfl, rfl, rfl, rfl, rfl, rfl, rfl, rfl, rfl, rfl, rfl, rfl, rfl, rfl, rfl, rfl, rfl, rfl, rfl, trivial⟩⟩⟩
instance : HasBy Try.prog 84 216 := ⟨by kernel_rfl⟩
instance : HasTy Try.prog 90 ⟨true, 0, []⟩ := ⟨⟨_, Try.underlying90, rfl⟩, by kernel_rfl, ⟨.agg #[], [], by kernel_rfl, rfl, trivial⟩⟩
instance : HasBy Try.prog 90 0 := ⟨by kernel_rfl⟩
instance : HasTy Try.prog 94 ⟨false, 1, [.int .u32 0]⟩ := ⟨⟨_, Try.underlying94, rfl⟩, by kernel_rfl, ⟨.int .u32 0, [.int .u32 0], by kernel_rfl, rfl, ⟨rfl, trivial⟩⟩⟩
instance : HasBy Try.prog 94 4 := ⟨by kernel_rfl⟩
instance : HasInt Try.prog 94 .u32 := ⟨Try.underlying94⟩
theorem eqd94 : EqD Try.prog 1 94 false [.int .u32] := eqd_int Try.underlying94
instance : HasTy Try.prog 98 ⟨false, 1, [.raw (.pointer none)]⟩ := ⟨⟨_, Try.underlying98, rfl⟩, by kernel_rfl, ⟨.pointer none, [.pointer none], by kernel_rfl, rfl, ⟨rfl, trivial⟩⟩⟩
instance : HasBy Try.prog 98 8 := ⟨by kernel_rfl⟩
instance : HasPtr Try.prog 98 5 := ⟨Try.underlying98⟩
instance : HasFld Try.prog 24 0 0 23 := ⟨⟨_, _, Try.underlying24, rfl, rfl, rfl⟩⟩
instance : HasFld Try.prog 24 1 1 3 := ⟨⟨_, _, Try.underlying24, rfl, rfl, rfl⟩⟩
instance : HasFld Try.prog 24 2 2 3 := ⟨⟨_, _, Try.underlying24, rfl, rfl, rfl⟩⟩
instance : HasPlaces Try.prog 24 [(0, 1), (1, 1), (2, 1)] := ⟨.inl ⟨_, Try.underlying24, fun w => by kernel_rfl⟩⟩
instance : HasFld Try.prog 25 0 0 23 := ⟨⟨_, _, Try.underlying25, rfl, rfl, rfl⟩⟩
instance : HasFld Try.prog 25 1 1 3 := ⟨⟨_, _, Try.underlying25, rfl, rfl, rfl⟩⟩
instance : HasFld Try.prog 25 2 2 3 := ⟨⟨_, _, Try.underlying25, rfl, rfl, rfl⟩⟩
instance : HasPlaces Try.prog 25 [(0, 1), (1, 1), (2, 1)] := ⟨.inl ⟨_, Try.underlying25, fun w => by kernel_rfl⟩⟩
instance : HasFld Try.prog 29 0 0 3 := ⟨⟨_, _, Try.underlying29, rfl, rfl, rfl⟩⟩
instance : HasFld Try.prog 29 1 1 3 := ⟨⟨_, _, Try.underlying29, rfl, rfl, rfl⟩⟩
instance : HasFld Try.prog 29 2 2 28 := ⟨⟨_, _, Try.underlying29, rfl, rfl, rfl⟩⟩
instance : HasPlaces Try.prog 29 [(0, 1), (1, 1), (2, 1)] := ⟨.inl ⟨_, Try.underlying29, fun w => by kernel_rfl⟩⟩
instance : HasFld Try.prog 30 0 0 3 := ⟨⟨_, _, Try.underlying30, rfl, rfl, rfl⟩⟩
instance : HasFld Try.prog 30 1 1 3 := ⟨⟨_, _, Try.underlying30, rfl, rfl, rfl⟩⟩
instance : HasFld Try.prog 30 2 2 28 := ⟨⟨_, _, Try.underlying30, rfl, rfl, rfl⟩⟩
instance : HasPlaces Try.prog 30 [(0, 1), (1, 1), (2, 1)] := ⟨.inl ⟨_, Try.underlying30, fun w => by kernel_rfl⟩⟩
instance : HasFld Try.prog 35 0 0 3 := ⟨⟨_, _, Try.underlying35, rfl, rfl, rfl⟩⟩
instance : HasFld Try.prog 35 1 1 3 := ⟨⟨_, _, Try.underlying35, rfl, rfl, rfl⟩⟩
instance : HasFld Try.prog 35 2 2 3 := ⟨⟨_, _, Try.underlying35, rfl, rfl, rfl⟩⟩
instance : HasFld Try.prog 35 3 3 9 := ⟨⟨_, _, Try.underlying35, rfl, rfl, rfl⟩⟩
instance : HasPlaces Try.prog 35 [(0, 1), (1, 1), (2, 1), (3, 1)] := ⟨.inl ⟨_, Try.underlying35, fun w => by kernel_rfl⟩⟩
instance : HasFld Try.prog 36 0 0 3 := ⟨⟨_, _, Try.underlying36, rfl, rfl, rfl⟩⟩
instance : HasFld Try.prog 36 1 1 3 := ⟨⟨_, _, Try.underlying36, rfl, rfl, rfl⟩⟩
instance : HasFld Try.prog 36 2 2 3 := ⟨⟨_, _, Try.underlying36, rfl, rfl, rfl⟩⟩
instance : HasFld Try.prog 36 3 3 9 := ⟨⟨_, _, Try.underlying36, rfl, rfl, rfl⟩⟩
instance : HasPlaces Try.prog 36 [(0, 1), (1, 1), (2, 1), (3, 1)] := ⟨.inl ⟨_, Try.underlying36, fun w => by kernel_rfl⟩⟩
instance : HasArr Try.prog 37 3 3 := ⟨Try.underlying37⟩
instance : HasPlaces Try.prog 37 [(0, 1), (1, 1), (2, 1)] := ⟨.inr ⟨_, _, _, Try.underlying37, (show _ = some 1 by kernel_rfl), rfl⟩⟩
instance : HasFld Try.prog 39 0 0 37 := ⟨⟨_, _, Try.underlying39, rfl, rfl, rfl⟩⟩
instance : HasFld Try.prog 39 1 3 37 := ⟨⟨_, _, Try.underlying39, rfl, rfl, rfl⟩⟩
instance : HasFld Try.prog 39 2 6 3 := ⟨⟨_, _, Try.underlying39, rfl, rfl, rfl⟩⟩
instance : HasFld Try.prog 39 3 7 38 := ⟨⟨_, _, Try.underlying39, rfl, rfl, rfl⟩⟩
instance : HasFld Try.prog 39 4 8 38 := ⟨⟨_, _, Try.underlying39, rfl, rfl, rfl⟩⟩
instance : HasPlaces Try.prog 39 [(0, 3), (3, 3), (6, 1), (7, 1), (8, 1)] := ⟨.inl ⟨_, Try.underlying39, fun w => by kernel_rfl⟩⟩
instance : HasFld Try.prog 40 0 0 37 := ⟨⟨_, _, Try.underlying40, rfl, rfl, rfl⟩⟩
instance : HasFld Try.prog 40 1 3 37 := ⟨⟨_, _, Try.underlying40, rfl, rfl, rfl⟩⟩
instance : HasFld Try.prog 40 2 6 3 := ⟨⟨_, _, Try.underlying40, rfl, rfl, rfl⟩⟩
instance : HasFld Try.prog 40 3 7 38 := ⟨⟨_, _, Try.underlying40, rfl, rfl, rfl⟩⟩
instance : HasFld Try.prog 40 4 8 38 := ⟨⟨_, _, Try.underlying40, rfl, rfl, rfl⟩⟩
instance : HasPlaces Try.prog 40 [(0, 3), (3, 3), (6, 1), (7, 1), (8, 1)] := ⟨.inl ⟨_, Try.underlying40, fun w => by kernel_rfl⟩⟩
instance : HasFld Try.prog 45 0 0 3 := ⟨⟨_, _, Try.underlying45, rfl, rfl, rfl⟩⟩
instance : HasFld Try.prog 45 1 1 3 := ⟨⟨_, _, Try.underlying45, rfl, rfl, rfl⟩⟩
instance : HasFld Try.prog 45 2 2 3 := ⟨⟨_, _, Try.underlying45, rfl, rfl, rfl⟩⟩
instance : HasFld Try.prog 45 3 3 3 := ⟨⟨_, _, Try.underlying45, rfl, rfl, rfl⟩⟩
instance : HasFld Try.prog 45 4 4 4 := ⟨⟨_, _, Try.underlying45, rfl, rfl, rfl⟩⟩
instance : HasPlaces Try.prog 45 [(0, 1), (1, 1), (2, 1), (3, 1), (4, 1)] := ⟨.inl ⟨_, Try.underlying45, fun w => by kernel_rfl⟩⟩
instance : HasFld Try.prog 46 0 0 3 := ⟨⟨_, _, Try.underlying46, rfl, rfl, rfl⟩⟩
instance : HasFld Try.prog 46 1 1 3 := ⟨⟨_, _, Try.underlying46, rfl, rfl, rfl⟩⟩
instance : HasFld Try.prog 46 2 2 3 := ⟨⟨_, _, Try.underlying46, rfl, rfl, rfl⟩⟩
instance : HasFld Try.prog 46 3 3 3 := ⟨⟨_, _, Try.underlying46, rfl, rfl, rfl⟩⟩
instance : HasFld Try.prog 46 4 4 4 := ⟨⟨_, _, Try.underlying46, rfl, rfl, rfl⟩⟩
instance : HasPlaces Try.prog 46 [(0, 1), (1, 1), (2, 1), (3, 1), (4, 1)] := ⟨.inl ⟨_, Try.underlying46, fun w => by kernel_rfl⟩⟩
instance : HasFld Try.prog 55 0 0 3 := ⟨⟨_, _, Try.underlying55, rfl, rfl, rfl⟩⟩
instance : HasFld Try.prog 55 1 1 3 := ⟨⟨_, _, Try.underlying55, rfl, rfl, rfl⟩⟩
instance : HasFld Try.prog 55 2 2 3 := ⟨⟨_, _, Try.underlying55, rfl, rfl, rfl⟩⟩
instance : HasFld Try.prog 55 3 3 3 := ⟨⟨_, _, Try.underlying55, rfl, rfl, rfl⟩⟩
instance : HasPlaces Try.prog 55 [(0, 1), (1, 1), (2, 1), (3, 1)] := ⟨.inl ⟨_, Try.underlying55, fun w => by kernel_rfl⟩⟩
instance : HasFld Try.prog 56 0 0 3 := ⟨⟨_, _, Try.underlying56, rfl, rfl, rfl⟩⟩
instance : HasFld Try.prog 56 1 1 3 := ⟨⟨_, _, Try.underlying56, rfl, rfl, rfl⟩⟩
instance : HasFld Try.prog 56 2 2 3 := ⟨⟨_, _, Try.underlying56, rfl, rfl, rfl⟩⟩
instance : HasFld Try.prog 56 3 3 3 := ⟨⟨_, _, Try.underlying56, rfl, rfl, rfl⟩⟩
instance : HasPlaces Try.prog 56 [(0, 1), (1, 1), (2, 1), (3, 1)] := ⟨.inl ⟨_, Try.underlying56, fun w => by kernel_rfl⟩⟩
instance : HasArr Try.prog 75 2 38 := ⟨Try.underlying75⟩
instance : HasPlaces Try.prog 75 [(0, 1), (1, 1)] := ⟨.inr ⟨_, _, _, Try.underlying75, (show _ = some 1 by kernel_rfl), rfl⟩⟩
instance : HasArr Try.prog 78 32 5 := ⟨Try.underlying78⟩
instance : HasPlaces Try.prog 78 [(0, 1), (1, 1), (2, 1), (3, 1), (4, 1), (5, 1), (6, 1), (7, 1), (8, 1), (9, 1), (10, 1), (11, 1), (12, 1), (13, 1), (14, 1), (15, 1), (16, 1), (17, 1), (18, 1), (19, 1), (20, 1), (21, 1), (22, 1), (23, 1), (24, 1), (25, 1), (26, 1), (27, 1), (28, 1), (29, 1), (30, 1), (31, 1)] := ⟨.inr ⟨_, _, _, Try.underlying78, (show _ = some 1 by kernel_rfl), rfl⟩⟩
instance : HasArr Try.prog 80 4 79 := ⟨Try.underlying80⟩
instance : HasPlaces Try.prog 80 [(0, 1), (1, 1), (2, 1), (3, 1)] := ⟨.inr ⟨_, _, _, Try.underlying80, (show _ = some 1 by kernel_rfl), rfl⟩⟩
instance : HasArr Try.prog 81 4 79 := ⟨Try.underlying81⟩
instance : HasPlaces Try.prog 81 [(0, 1), (1, 1), (2, 1), (3, 1)] := ⟨.inr ⟨_, _, _, Try.underlying81, (show _ = some 1 by kernel_rfl), rfl⟩⟩
instance : HasFld Try.prog 83 0 0 3 := ⟨⟨_, _, Try.underlying83, rfl, rfl, rfl⟩⟩
instance : HasFld Try.prog 83 1 1 78 := ⟨⟨_, _, Try.underlying83, rfl, rfl, rfl⟩⟩
instance : HasFld Try.prog 83 2 33 78 := ⟨⟨_, _, Try.underlying83, rfl, rfl, rfl⟩⟩
instance : HasFld Try.prog 83 3 65 3 := ⟨⟨_, _, Try.underlying83, rfl, rfl, rfl⟩⟩
instance : HasFld Try.prog 83 4 66 81 := ⟨⟨_, _, Try.underlying83, rfl, rfl, rfl⟩⟩
instance : HasFld Try.prog 83 5 70 81 := ⟨⟨_, _, Try.underlying83, rfl, rfl, rfl⟩⟩
instance : HasFld Try.prog 83 6 74 78 := ⟨⟨_, _, Try.underlying83, rfl, rfl, rfl⟩⟩
instance : HasFld Try.prog 83 7 106 3 := ⟨⟨_, _, Try.underlying83, rfl, rfl, rfl⟩⟩
instance : HasFld Try.prog 83 8 107 3 := ⟨⟨_, _, Try.underlying83, rfl, rfl, rfl⟩⟩
instance : HasFld Try.prog 83 9 108 82 := ⟨⟨_, _, Try.underlying83, rfl, rfl, rfl⟩⟩
instance : HasPlaces Try.prog 83 [(0, 1), (1, 32), (33, 32), (65, 1), (66, 4), (70, 4), (74, 32), (106, 1), (107, 1), (108, 1)] := ⟨.inl ⟨_, Try.underlying83, fun w => by kernel_rfl⟩⟩
instance : HasFld Try.prog 84 0 0 3 := ⟨⟨_, _, Try.underlying84, rfl, rfl, rfl⟩⟩
instance : HasFld Try.prog 84 1 1 78 := ⟨⟨_, _, Try.underlying84, rfl, rfl, rfl⟩⟩
instance : HasFld Try.prog 84 2 33 78 := ⟨⟨_, _, Try.underlying84, rfl, rfl, rfl⟩⟩
instance : HasFld Try.prog 84 3 65 3 := ⟨⟨_, _, Try.underlying84, rfl, rfl, rfl⟩⟩
instance : HasFld Try.prog 84 4 66 81 := ⟨⟨_, _, Try.underlying84, rfl, rfl, rfl⟩⟩
instance : HasFld Try.prog 84 5 70 81 := ⟨⟨_, _, Try.underlying84, rfl, rfl, rfl⟩⟩
instance : HasFld Try.prog 84 6 74 78 := ⟨⟨_, _, Try.underlying84, rfl, rfl, rfl⟩⟩
instance : HasFld Try.prog 84 7 106 3 := ⟨⟨_, _, Try.underlying84, rfl, rfl, rfl⟩⟩
instance : HasFld Try.prog 84 8 107 3 := ⟨⟨_, _, Try.underlying84, rfl, rfl, rfl⟩⟩
instance : HasFld Try.prog 84 9 108 82 := ⟨⟨_, _, Try.underlying84, rfl, rfl, rfl⟩⟩
instance : HasPlaces Try.prog 84 [(0, 1), (1, 32), (33, 32), (65, 1), (66, 4), (70, 4), (74, 32), (106, 1), (107, 1), (108, 1)] := ⟨.inl ⟨_, Try.underlying84, fun w => by kernel_rfl⟩⟩
instance : HasArr Try.prog 90 0 16 := ⟨Try.underlying90⟩
instance : HasPlaces Try.prog 90 [] := ⟨.inr ⟨_, _, _, Try.underlying90, (show _ = some 1 by kernel_rfl), rfl⟩⟩
theorem eqd35 : EqD Try.prog 2 35 true ([.int .i64] ++ ([.int .i64] ++ ([.int .i64] ++ ([.str] ++ [])))) := by
  refine eqd_struct Try.underlying35 (by kernel_rfl) ?_
  refine EqF.cons _ _ 3 _ _ _ _ rfl ?_ rfl inferInstance (fun dp hdp => eqd3 dp ?_) rfl ?_ ?_
  · decide
  · omega
  · exact fun _ => rfl
  refine EqF.cons _ _ 3 _ _ _ _ rfl ?_ rfl inferInstance (fun dp hdp => eqd3 dp ?_) rfl ?_ ?_
  · decide
  · omega
  · exact fun _ => rfl
  refine EqF.cons _ _ 3 _ _ _ _ rfl ?_ rfl inferInstance (fun dp hdp => eqd3 dp ?_) rfl ?_ ?_
  · decide
  · omega
  · exact fun _ => rfl
  refine EqF.cons _ _ 9 _ _ _ _ rfl ?_ rfl inferInstance (fun dp hdp => eqd9 dp ?_) rfl ?_ ?_
  · decide
  · omega
  · exact fun _ => rfl
  exact EqF.nil _
instance : EqT Try.prog 35 true [.int .i64, .int .i64, .int .i64, .str] := ⟨⟨_, by decide, eqd35⟩, by kernel_rfl⟩
theorem eqd36 : EqD Try.prog 2 36 true ([.int .i64] ++ ([.int .i64] ++ ([.int .i64] ++ ([.str] ++ [])))) := by
  refine eqd_struct Try.underlying36 (by kernel_rfl) ?_
  refine EqF.cons _ _ 3 _ _ _ _ rfl ?_ rfl inferInstance (fun dp hdp => eqd3 dp ?_) rfl ?_ ?_
  · decide
  · omega
  · exact fun _ => rfl
  refine EqF.cons _ _ 3 _ _ _ _ rfl ?_ rfl inferInstance (fun dp hdp => eqd3 dp ?_) rfl ?_ ?_
  · decide
  · omega
  · exact fun _ => rfl
  refine EqF.cons _ _ 3 _ _ _ _ rfl ?_ rfl inferInstance (fun dp hdp => eqd3 dp ?_) rfl ?_ ?_
  · decide
  · omega
  · exact fun _ => rfl
  refine EqF.cons _ _ 9 _ _ _ _ rfl ?_ rfl inferInstance (fun dp hdp => eqd9 dp ?_) rfl ?_ ?_
  · decide
  · omega
  · exact fun _ => rfl
  exact EqF.nil _
instance : EqT Try.prog 36 true [.int .i64, .int .i64, .int .i64, .str] := ⟨⟨_, by decide, eqd36⟩, by kernel_rfl⟩
theorem eqd37 : EqD Try.prog 2 37 true [.int .i64, .int .i64, .int .i64] := eqd_arr (ks := [.int .i64]) Try.underlying37 eqd3 rfl (fun _ => rfl)
instance : EqT Try.prog 37 true [.int .i64, .int .i64, .int .i64] := ⟨⟨_, by decide, eqd37⟩, by kernel_rfl⟩
theorem eqd45 : EqD Try.prog 2 45 true ([.int .i64] ++ ([.int .i64] ++ ([.int .i64] ++ ([.int .i64] ++ ([.bool] ++ []))))) := by
  refine eqd_struct Try.underlying45 (by kernel_rfl) ?_
  refine EqF.cons _ _ 3 _ _ _ _ rfl ?_ rfl inferInstance (fun dp hdp => eqd3 dp ?_) rfl ?_ ?_
  · decide
  · omega
  · exact fun _ => rfl
  refine EqF.cons _ _ 3 _ _ _ _ rfl ?_ rfl inferInstance (fun dp hdp => eqd3 dp ?_) rfl ?_ ?_
  · decide
  · omega
  · exact fun _ => rfl
  refine EqF.cons _ _ 3 _ _ _ _ rfl ?_ rfl inferInstance (fun dp hdp => eqd3 dp ?_) rfl ?_ ?_
  · decide
  · omega
  · exact fun _ => rfl
  refine EqF.cons _ _ 3 _ _ _ _ rfl ?_ rfl inferInstance (fun dp hdp => eqd3 dp ?_) rfl ?_ ?_
  · decide
  · omega
  · exact fun _ => rfl
  refine EqF.cons _ _ 4 _ _ _ _ rfl ?_ rfl inferInstance (fun dp hdp => eqd4 dp ?_) rfl ?_ ?_
  · decide
  · omega
  · exact fun _ => rfl
  exact EqF.nil _
instance : EqT Try.prog 45 true [.int .i64, .int .i64, .int .i64, .int .i64, .bool] := ⟨⟨_, by decide, eqd45⟩, by kernel_rfl⟩
theorem eqd46 : EqD Try.prog 2 46 true ([.int .i64] ++ ([.int .i64] ++ ([.int .i64] ++ ([.int .i64] ++ ([.bool] ++ []))))) := by
  refine eqd_struct Try.underlying46 (by kernel_rfl) ?_
  refine EqF.cons _ _ 3 _ _ _ _ rfl ?_ rfl inferInstance (fun dp hdp => eqd3 dp ?_) rfl ?_ ?_
  · decide
  · omega
  · exact fun _ => rfl
  refine EqF.cons _ _ 3 _ _ _ _ rfl ?_ rfl inferInstance (fun dp hdp => eqd3 dp ?_) rfl ?_ ?_
  · decide
  · omega
  · exact fun _ => rfl
  refine EqF.cons _ _ 3 _ _ _ _ rfl ?_ rfl inferInstance (fun dp hdp => eqd3 dp ?_) rfl ?_ ?_
  · decide
  · omega
  · exact fun _ => rfl
  refine EqF.cons _ _ 3 _ _ _ _ rfl ?_ rfl inferInstance (fun dp hdp => eqd3 dp ?_) rfl ?_ ?_
  · decide
  · omega
  · exact fun _ => rfl
  refine EqF.cons _ _ 4 _ _ _ _ rfl ?_ rfl inferInstance (fun dp hdp => eqd4 dp ?_) rfl ?_ ?_
  · decide
  · omega
  · exact fun _ => rfl
  exact EqF.nil _
instance : EqT Try.prog 46 true [.int .i64, .int .i64, .int .i64, .int .i64, .bool] := ⟨⟨_, by decide, eqd46⟩, by kernel_rfl⟩
theorem eqd55 : EqD Try.prog 2 55 true ([.int .i64] ++ ([.int .i64] ++ ([.int .i64] ++ ([.int .i64] ++ [])))) := by
  refine eqd_struct Try.underlying55 (by kernel_rfl) ?_
  refine EqF.cons _ _ 3 _ _ _ _ rfl ?_ rfl inferInstance (fun dp hdp => eqd3 dp ?_) rfl ?_ ?_
  · decide
  · omega
  · exact fun _ => rfl
  refine EqF.cons _ _ 3 _ _ _ _ rfl ?_ rfl inferInstance (fun dp hdp => eqd3 dp ?_) rfl ?_ ?_
  · decide
  · omega
  · exact fun _ => rfl
  refine EqF.cons _ _ 3 _ _ _ _ rfl ?_ rfl inferInstance (fun dp hdp => eqd3 dp ?_) rfl ?_ ?_
  · decide
  · omega
  · exact fun _ => rfl
  refine EqF.cons _ _ 3 _ _ _ _ rfl ?_ rfl inferInstance (fun dp hdp => eqd3 dp ?_) rfl ?_ ?_
  · decide
  · omega
  · exact fun _ => rfl
  exact EqF.nil _
instance : EqT Try.prog 55 true [.int .i64, .int .i64, .int .i64, .int .i64] := ⟨⟨_, by decide, eqd55⟩, by kernel_rfl⟩
theorem eqd56 : EqD Try.prog 2 56 true ([.int .i64] ++ ([.int .i64] ++ ([.int .i64] ++ ([.int .i64] ++ [])))) := by
  refine eqd_struct Try.underlying56 (by kernel_rfl) ?_
  refine EqF.cons _ _ 3 _ _ _ _ rfl ?_ rfl inferInstance (fun dp hdp => eqd3 dp ?_) rfl ?_ ?_
  · decide
  · omega
  · exact fun _ => rfl
  refine EqF.cons _ _ 3 _ _ _ _ rfl ?_ rfl inferInstance (fun dp hdp => eqd3 dp ?_) rfl ?_ ?_
  · decide
  · omega
  · exact fun _ => rfl
  refine EqF.cons _ _ 3 _ _ _ _ rfl ?_ rfl inferInstance (fun dp hdp => eqd3 dp ?_) rfl ?_ ?_
  · decide
  · omega
  · exact fun _ => rfl
  refine EqF.cons _ _ 3 _ _ _ _ rfl ?_ rfl inferInstance (fun dp hdp => eqd3 dp ?_) rfl ?_ ?_
  · decide
  · omega
  · exact fun _ => rfl
  exact EqF.nil _
instance : EqT Try.prog 56 true [.int .i64, .int .i64, .int .i64, .int .i64] := ⟨⟨_, by decide, eqd56⟩, by kernel_rfl⟩
theorem eqd78 : EqD Try.prog 2 78 true [.int .u8, .int .u8, .int .u8, .int .u8, .int .u8, .int .u8, .int .u8, .int .u8, .int .u8, .int .u8, .int .u8, .int .u8, .int .u8, .int .u8, .int .u8, .int .u8, .int .u8, .int .u8, .int .u8, .int .u8, .int .u8, .int .u8, .int .u8, .int .u8, .int .u8, .int .u8, .int .u8, .int .u8, .int .u8, .int .u8, .int .u8, .int .u8] := eqd_arr (ks := [.int .u8]) Try.underlying78 eqd5 rfl (fun _ => rfl)
instance : EqT Try.prog 78 true [.int .u8, .int .u8, .int .u8, .int .u8, .int .u8, .int .u8, .int .u8, .int .u8, .int .u8, .int .u8, .int .u8, .int .u8, .int .u8, .int .u8, .int .u8, .int .u8, .int .u8, .int .u8, .int .u8, .int .u8, .int .u8, .int .u8, .int .u8, .int .u8, .int .u8, .int .u8, .int .u8, .int .u8, .int .u8, .int .u8, .int .u8, .int .u8] := ⟨⟨_, by decide, eqd78⟩, by kernel_rfl⟩
theorem eqd80 : EqD Try.prog 2 80 true [.int .u64, .int .u64, .int .u64, .int .u64] := eqd_arr (ks := [.int .u64]) Try.underlying80 eqd79 rfl (fun _ => rfl)
instance : EqT Try.prog 80 true [.int .u64, .int .u64, .int .u64, .int .u64] := ⟨⟨_, by decide, eqd80⟩, by kernel_rfl⟩
theorem eqd81 : EqD Try.prog 2 81 true [.int .u64, .int .u64, .int .u64, .int .u64] := eqd_arr (ks := [.int .u64]) Try.underlying81 eqd79 rfl (fun _ => rfl)
instance : EqT Try.prog 81 true [.int .u64, .int .u64, .int .u64, .int .u64] := ⟨⟨_, by decide, eqd81⟩, by kernel_rfl⟩
instance : HasFn Try.prog 3 := ⟨⟨_, Try.func3, by kernel_rfl, by kernel_rfl⟩⟩
instance : HasFn Try.prog 4 := ⟨⟨_, Try.func4, by kernel_rfl, by kernel_rfl⟩⟩
instance : HasFn Try.prog 5 := ⟨⟨_, Try.func5, by kernel_rfl, by kernel_rfl⟩⟩
instance : HasFn Try.prog 6 := ⟨⟨_, Try.func6, by kernel_rfl, by kernel_rfl⟩⟩
instance : HasFn Try.prog 7 := ⟨⟨_, Try.func7, by kernel_rfl, by kernel_rfl⟩⟩
instance : HasFn Try.prog 8 := ⟨⟨_, Try.func8, by kernel_rfl, by kernel_rfl⟩⟩
instance : HasFn Try.prog 9 := ⟨⟨_, Try.func9, by kernel_rfl, by kernel_rfl⟩⟩
instance : HasFn Try.prog 10 := ⟨⟨_, Try.func10, by kernel_rfl, by kernel_rfl⟩⟩
instance : HasFn Try.prog 11 := ⟨⟨_, Try.func11, by kernel_rfl, by kernel_rfl⟩⟩
instance : HasFn Try.prog 12 := ⟨⟨_, Try.func12, by kernel_rfl, by kernel_rfl⟩⟩
instance : HasFn Try.prog 13 := ⟨⟨_, Try.func13, by kernel_rfl, by kernel_rfl⟩⟩
instance : HasFn Try.prog 14 := ⟨⟨_, Try.func14, by kernel_rfl, by kernel_rfl⟩⟩
instance : HasFn Try.prog 15 := ⟨⟨_, Try.func15, by kernel_rfl, by kernel_rfl⟩⟩
instance : HasFn Try.prog 16 := ⟨⟨_, Try.func16, by kernel_rfl, by kernel_rfl⟩⟩
instance : HasFn Try.prog 17 := ⟨⟨_, Try.func17, by kernel_rfl, by kernel_rfl⟩⟩
instance : HasFn Try.prog 18 := ⟨⟨_, Try.func18, by kernel_rfl, by kernel_rfl⟩⟩
instance : HasFn Try.prog 19 := ⟨⟨_, Try.func19, by kernel_rfl, by kernel_rfl⟩⟩
instance : HasFn Try.prog 20 := ⟨⟨_, Try.func20, by kernel_rfl, by kernel_rfl⟩⟩
instance : HasFn Try.prog 21 := ⟨⟨_, Try.func21, by kernel_rfl, by kernel_rfl⟩⟩
instance : HasFn Try.prog 22 := ⟨⟨_, Try.func22, by kernel_rfl, by kernel_rfl⟩⟩
instance : HasFn Try.prog 23 := ⟨⟨_, Try.func23, by kernel_rfl, by kernel_rfl⟩⟩
instance : HasFn Try.prog 24 := ⟨⟨_, Try.func24, by kernel_rfl, by kernel_rfl⟩⟩
instance : HasFn Try.prog 25 := ⟨⟨_, Try.func25, by kernel_rfl, by kernel_rfl⟩⟩
instance : HasFn Try.prog 26 := ⟨⟨_, Try.func26, by kernel_rfl, by kernel_rfl⟩⟩
instance : HasFn Try.prog 27 := ⟨⟨_, Try.func27, by kernel_rfl, by kernel_rfl⟩⟩
instance : HasFn Try.prog 28 := ⟨⟨_, Try.func28, by kernel_rfl, by kernel_rfl⟩⟩
instance : HasFn Try.prog 29 := ⟨⟨_, Try.func29, by kernel_rfl, by kernel_rfl⟩⟩
instance : HasFn Try.prog 30 := ⟨⟨_, Try.func30, by kernel_rfl, by kernel_rfl⟩⟩
instance : HasFn Try.prog 31 := ⟨⟨_, Try.func31, by kernel_rfl, by kernel_rfl⟩⟩
instance : HasFn Try.prog 32 := ⟨⟨_, Try.func32, by kernel_rfl, by kernel_rfl⟩⟩

end Go.Proofs.Ytnlacdclnhoghaa
