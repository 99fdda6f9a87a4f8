/- The rows of this program's types and functions, as instances. No conditions. -/
import Derived.Test.YtbpaimfnfigjpaaDOp2
import Derived.Test.YtbpaimfnfigjpaaDK2
namespace Go.Proofs.Ytbpaimfnfigjpaa
open Go.RowKit
set_option linter.unusedVariables false
set_option maxRecDepth 100000
theorem mixed : Try.prog.follows .mixedOrders = true := by kernel_rfl
instance : HasTy Try.prog 2 ⟨false, 1, [.int .i64 0]⟩ := ⟨⟨_, Try.underlying2, rfl⟩, by kernel_rfl, ⟨.int .i64 0, [.int .i64 0], by kernel_rfl, rfl, ⟨rfl, trivial⟩⟩⟩
instance : HasBy Try.prog 2 8 := ⟨by kernel_rfl⟩
instance : HasInt Try.prog 2 .i64 := ⟨Try.underlying2⟩
theorem eqd2 : EqD Try.prog 1 2 false [.int .i64] := eqd_int Try.underlying2
instance : HasTy Try.prog 3 ⟨false, 1, [.int .i64 0]⟩ := ⟨⟨_, Try.underlying3, rfl⟩, by kernel_rfl, ⟨.int .i64 0, [.int .i64 0], by kernel_rfl, rfl, ⟨rfl, trivial⟩⟩⟩
instance : HasBy Try.prog 3 8 := ⟨by kernel_rfl⟩
instance : HasInt Try.prog 3 .i64 := ⟨Try.underlying3⟩
theorem eqd3 : EqD Try.prog 1 3 false [.int .i64] := eqd_int Try.underlying3
instance : HasTy Try.prog 4 ⟨false, 1, [.bool false]⟩ := ⟨⟨_, Try.underlying4, rfl⟩, by kernel_rfl, ⟨.bool false, [.bool false], by kernel_rfl, rfl, ⟨rfl, trivial⟩⟩⟩
instance : HasBy Try.prog 4 1 := ⟨by kernel_rfl⟩
theorem eqd4 : EqD Try.prog 1 4 false [.bool] := eqd_bool Try.underlying4
instance : HasTy Try.prog 5 ⟨false, 1, [.int .u8 0]⟩ := ⟨⟨_, Try.underlying5, rfl⟩, by kernel_rfl, ⟨.int .u8 0, [.int .u8 0], by kernel_rfl, rfl, ⟨rfl, trivial⟩⟩⟩
instance : HasBy Try.prog 5 1 := ⟨by kernel_rfl⟩
instance : HasInt Try.prog 5 .u8 := ⟨Try.underlying5⟩
theorem eqd5 : EqD Try.prog 1 5 false [.int .u8] := eqd_int Try.underlying5
instance : HasTy Try.prog 9 ⟨false, 1, [.str ⟨#[]⟩]⟩ := ⟨⟨_, Try.underlying9, rfl⟩, by kernel_rfl, ⟨.string ⟨#[]⟩, [.string ⟨#[]⟩], by kernel_rfl, rfl, ⟨rfl, trivial⟩⟩⟩
instance : HasBy Try.prog 9 16 := ⟨by kernel_rfl⟩
theorem eqd9 : EqD Try.prog 1 9 false [.str] := eqd_str Try.underlying9
instance : HasTy Try.prog 12 ⟨false, 1, [.int .u64 0]⟩ := ⟨⟨_, Try.underlying12, rfl⟩, by kernel_rfl, ⟨.int .u64 0, [.int .u64 0], by kernel_rfl, rfl, ⟨rfl, trivial⟩⟩⟩
instance : HasBy Try.prog 12 8 := ⟨by kernel_rfl⟩
instance : HasInt Try.prog 12 .u64 := ⟨Try.underlying12⟩
theorem eqd12 : EqD Try.prog 1 12 false [.int .u64] := eqd_int Try.underlying12
instance : HasTy Try.prog 15 ⟨false, 1, [.raw (.pointer none)]⟩ := ⟨⟨_, Try.underlying15, rfl⟩, by kernel_rfl, ⟨.pointer none, [.pointer none], by kernel_rfl, rfl, ⟨rfl, trivial⟩⟩⟩
instance : HasBy Try.prog 15 8 := ⟨by kernel_rfl⟩
instance : HasPtr Try.prog 15 101 := ⟨Try.underlying15⟩
instance : HasTy Try.prog 16 ⟨false, 1, [.raw (.pointer none)]⟩ := ⟨⟨_, Try.underlying16, rfl⟩, by kernel_rfl, ⟨.pointer none, [.pointer none], by kernel_rfl, rfl, ⟨rfl, trivial⟩⟩⟩
instance : HasBy Try.prog 16 8 := ⟨by kernel_rfl⟩
instance : HasPtr Try.prog 16 104 := ⟨Try.underlying16⟩
instance : HasTy Try.prog 17 ⟨false, 1, [.raw (.pointer none)]⟩ := ⟨⟨_, Try.underlying17, rfl⟩, by kernel_rfl, ⟨.pointer none, [.pointer none], by kernel_rfl, rfl, ⟨rfl, trivial⟩⟩⟩
instance : HasBy Try.prog 17 8 := ⟨by kernel_rfl⟩
instance : HasPtr Try.prog 17 114 := ⟨Try.underlying17⟩
instance : HasTy Try.prog 21 ⟨false, 1, [.int .i32 0]⟩ := ⟨⟨_, Try.underlying21, rfl⟩, by kernel_rfl, ⟨.int .i32 0, [.int .i32 0], by kernel_rfl, rfl, ⟨rfl, trivial⟩⟩⟩
instance : HasBy Try.prog 21 4 := ⟨by kernel_rfl⟩
instance : HasInt Try.prog 21 .i32 := ⟨Try.underlying21⟩
theorem eqd21 : EqD Try.prog 1 21 false [.int .i32] := eqd_int Try.underlying21
instance : HasTy Try.prog 22 ⟨false, 1, [.slice .nil 0 []]⟩ := ⟨⟨_, Try.underlying22, rfl⟩, by kernel_rfl, ⟨.slice none 0 0, [.slice none 0 0], by kernel_rfl, rfl, ⟨rfl, trivial⟩⟩⟩
instance : HasBy Try.prog 22 24 := ⟨by kernel_rfl⟩
instance : HasSl Try.prog 22 24 := ⟨Try.underlying22⟩
instance : HasTy Try.prog 23 ⟨true, 4, [.int .i64 0, .int .i64 0, .int .i64 0, .str ⟨#[]⟩]⟩ := ⟨⟨_, Try.underlying23, rfl⟩, by kernel_rfl, ⟨.agg #[.int .i64 0, .int .i64 0, .int .i64 0, .string ⟨#[]⟩], [.int .i64 0, .int .i64 0, .int .i64 0, .string ⟨#[]⟩], by kernel_rfl, rfl, ⟨rfl, rfl, rfl, rfl, trivial⟩⟩⟩
instance : HasBy Try.prog 23 40 := ⟨by kernel_rfl⟩
instance : HasTy Try.prog 24 ⟨true, 4, [.int .i64 0, .int .i64 0, .int .i64 0, .str ⟨#[]⟩]⟩ := ⟨⟨_, Try.underlying24, rfl⟩, by kernel_rfl, ⟨.agg #[.int .i64 0, .int .i64 0, .int .i64 0, .string ⟨#[]⟩], [.int .i64 0, .int .i64 0, .int .i64 0, .string ⟨#[]⟩], by kernel_rfl, rfl, ⟨rfl, rfl, rfl, rfl, trivial⟩⟩⟩
instance : HasBy Try.prog 24 40 := ⟨by kernel_rfl⟩
instance : HasTy Try.prog 25 ⟨false, 1, [.slice .nil 0 []]⟩ := ⟨⟨_, Try.underlying25, rfl⟩, by kernel_rfl, ⟨.slice none 0 0, [.slice none 0 0], by kernel_rfl, rfl, ⟨rfl, trivial⟩⟩⟩
instance : HasBy Try.prog 25 24 := ⟨by kernel_rfl⟩
instance : HasSl Try.prog 25 46 := ⟨Try.underlying25⟩
instance : HasTy Try.prog 26 ⟨true, 32, [.int .u8 0, .int .u8 0, .int .u8 0, .int .u8 0, .int .u8 0, .int .u8 0, .int .u8 0, .int .u8 0, .int .u8 0, .int .u8 0, .int .u8 0, .int .u8 0, .int .u8 0, .int .u8 0, .int .u8 0, .int .u8 0, .int .u8 0, .int .u8 0, .int .u8 0, .int .u8 0, .int .u8 0, .int .u8 0, .int .u8 0, .int .u8 0, .int .u8 0, .int .u8 0, .int .u8 0, .int .u8 0, .int .u8 0, .int .u8 0, .int .u8 0, .int .u8 0]⟩ := ⟨⟨_, Try.underlying26, rfl⟩, by kernel_rfl, ⟨.agg #[.int .u8 0, .int .u8 0, .int .u8 0, .int .u8 0, .int .u8 0, .int .u8 0, .int .u8 0, .int .u8 0, .int .u8 0, .int .u8 0, .int .u8 0, .int .u8 0, .int .u8 0, .int .u8 0, .int .u8 0, .int .u8 0, .int .u8 0, .int .u8 0, .int .u8 0, .int .u8 0, .int .u8 0, .int .u8 0, .int .u8 0, .int .u8 0, .int .u8 0, .int .u8 0, .int .u8 0, .int .u8 0, .int .u8 0, .int .u8 0, .int .u8 0, .int .u8 0], [.int .u8 0, .int .u8 0, .int .u8 0, .int .u8 0, .int .u8 0, .int .u8 0, .int .u8 0, .int .u8 0, .int .u8 0, .int .u8 0, .int .u8 0, .int .u8 0, .int .u8 0, .int .u8 0, .int .u8 0, .int .u8 0, .int .u8 0, .int .u8 0, .int .u8 0, .int .u8 0, .int .u8 0, .int .u8 0, .int .u8 0, .int .u8 0, .int .u8 0, .int .u8 0, .int .u8 0, .int .u8 0, .int .u8 0, .int .u8 0, .int .u8 0, .int .u8 0], by kernel_rfl, rfl, ⟨rfl, rfl, rfl, rfl, rfl, rfl, rfl, rfl, rfl, rfl, rfl, rfl, rfl, rfl, rfl, rfl, rfl, rfl, rfl, rfl, rfl, rfl, rfl, rfl, rfl, rfl, rfl, rfl, rfl, rfl, rfl, rfl, trivial⟩⟩⟩
instance : HasBy Try.prog 26 32 := ⟨by kernel_rfl⟩
instance : HasTy Try.prog 27 ⟨false, 1, [.slice .nil 0 []]⟩ := ⟨⟨_, Try.underlying27, rfl⟩, by kernel_rfl, ⟨.slice none 0 0, [.slice none 0 0], by kernel_rfl, rfl, ⟨rfl, trivial⟩⟩⟩
instance : HasBy Try.prog 27 24 := ⟨by kernel_rfl⟩
instance : HasSl Try.prog 27 5 := ⟨Try.underlying27⟩
instance : HasTy Try.prog 28 ⟨true, 38, [.int .i64 0, .int .i64 0, .int .i64 0, .int .u8 0, .int .u8 0, .int .u8 0, .int .u8 0, .int .u8 0, .int .u8 0, .int .u8 0, .int .u8 0, .int .u8 0, .int .u8 0, .int .u8 0, .int .u8 0, .int .u8 0, .int .u8 0, .int .u8 0, .int .u8 0, .int .u8 0, .int .u8 0, .int .u8 0, .int .u8 0, .int .u8 0, .int .u8 0, .int .u8 0, .int .u8 0, .int .u8 0, .int .u8 0, .int .u8 0, .int .u8 0, .int .u8 0, .int .u8 0, .int .u8 0, .int .u8 0, .int .i64 0, .int .i64 0, .slice .nil 0 []]⟩ := ⟨⟨_, Try.underlying28, rfl⟩, by kernel_rfl, ⟨.agg #[.int .i64 0, .int .i64 0, .int .i64 0, .int .u8 0, .int .u8 0, .int .u8 0, .int .u8 0, .int .u8 0, .int .u8 0, .int .u8 0, .int .u8 0, .int .u8 0, .int .u8 0, .int .u8 0, .int .u8 0, .int .u8 0, .int .u8 0, .int .u8 0, .int .u8 0, .int .u8 0, .int .u8 0, .int .u8 0, .int .u8 0, .int .u8 0, .int .u8 0, .int .u8 0, .int .u8 0, .int .u8 0, .int .u8 0, .int .u8 0, .int .u8 0, .int .u8 0, .int .u8 0, .int .u8 0, .int .u8 0, .int .i64 0, .int .i64 0, .slice none 0 0], [.int .i64 0, .int .i64 0, .int .i64 0, .int .u8 0, .int .u8 0, .int .u8 0, .int .u8 0, .int .u8 0, .int .u8 0, .int .u8 0, .int .u8 0, .int .u8 0, .int .u8 0, .int .u8 0, .int .u8 0, .int .u8 0, .int .u8 0, .int .u8 0, .int .u8 0, .int .u8 0, .int .u8 0, .int .u8 0, .int .u8 0, .int .u8 0, .int .u8 0, .int .u8 0, .int .u8 0, .int .u8 0, .int .u8 0, .int .u8 0, .int .u8 0, .int .u8 0, .int .u8 0, .int .u8 0, .int .u8 0, .int .i64 0, .int .i64 0, .slice none 0 0], by kernel_rfl, rfl, ⟨rfl, rfl, rfl, rfl, rfl, rfl, rfl, rfl, rfl, rfl, rfl, rfl, rfl, rfl, rfl, rfl, rfl, rfl, rfl, rfl, rfl, rfl, rfl, rfl, rfl, rfl, rfl, rfl, rfl, rfl, rfl, rfl, rfl, rfl, rfl, rfl, rfl, rfl, trivial⟩⟩⟩
instance : HasBy Try.prog 28 96 := ⟨by kernel_rfl⟩
instance : HasTy Try.prog 29 ⟨true, 38, [.int .i64 0, .int .i64 0, .int .i64 0, .int .u8 0, .int .u8 0, .int .u8 0, .int .u8 0, .int .u8 0, .int .u8 0, .int .u8 0, .int .u8 0, .int .u8 0, .int .u8 0, .int .u8 0, .int .u8 0, .int .u8 0, .int .u8 0, .int .u8 0, .int .u8 0, .int .u8 0, .int .u8 0, .int .u8 0, .int .u8 0, .int .u8 0, .int .u8 0, .int .u8 0, .int .u8 0, .int .u8 0, .int .u8 0, .int .u8 0, .int .u8 0, .int .u8 0, .int .u8 0, .int .u8 0, .int .u8 0, .int .i64 0, .int .i64 0, .slice .nil 0 []]⟩ := ⟨⟨_, Try.underlying29, rfl⟩, by kernel_rfl, ⟨.agg #[.int .i64 0, .int .i64 0, .int .i64 0, .int .u8 0, .int .u8 0, .int .u8 0, .int .u8 0, .int .u8 0, .int .u8 0, .int .u8 0, .int .u8 0, .int .u8 0, .int .u8 0, .int .u8 0, .int .u8 0, .int .u8 0, .int .u8 0, .int .u8 0, .int .u8 0, .int .u8 0, .int .u8 0, .int .u8 0, .int .u8 0, .int .u8 0, .int .u8 0, .int .u8 0, .int .u8 0, .int .u8 0, .int .u8 0, .int .u8 0, .int .u8 0, .int .u8 0, .int .u8 0, .int .u8 0, .int .u8 0, .int .i64 0, .int .i64 0, .slice none 0 0], [.int .i64 0, .int .i64 0, .int .i64 0, .int .u8 0, .int .u8 0, .int .u8 0, .int .u8 0, .int .u8 0, .int .u8 0, .int .u8 0, .int .u8 0, .int .u8 0, .int .u8 0, .int .u8 0, .int .u8 0, .int .u8 0, .int .u8 0, .int .u8 0, .int .u8 0, .int .u8 0, .int .u8 0, .int .u8 0, .int .u8 0, .int .u8 0, .int .u8 0, .int .u8 0, .int .u8 0, .int .u8 0, .int .u8 0, .int .u8 0, .int .u8 0, .int .u8 0, .int .u8 0, .int .u8 0, .int .u8 0, .int .i64 0, .int .i64 0, .slice none 0 0], by kernel_rfl, rfl, ⟨rfl, rfl, rfl, rfl, rfl, rfl, rfl, rfl, rfl, rfl, rfl, rfl, rfl, rfl, rfl, rfl, rfl, rfl, rfl, rfl, rfl, rfl, rfl, rfl, rfl, rfl, rfl, rfl, rfl, rfl, rfl, rfl, rfl, rfl, rfl, rfl, rfl, rfl, trivial⟩⟩⟩
instance : HasBy Try.prog 29 96 := ⟨by kernel_rfl⟩
instance : HasTy Try.prog 30 ⟨true, 40, [.int .i64 0, .slice .nil 0 [], .int .i64 0, .int .i64 0, .int .i64 0, .int .u8 0, .int .u8 0, .int .u8 0, .int .u8 0, .int .u8 0, .int .u8 0, .int .u8 0, .int .u8 0, .int .u8 0, .int .u8 0, .int .u8 0, .int .u8 0, .int .u8 0, .int .u8 0, .int .u8 0, .int .u8 0, .int .u8 0, .int .u8 0, .int .u8 0, .int .u8 0, .int .u8 0, .int .u8 0, .int .u8 0, .int .u8 0, .int .u8 0, .int .u8 0, .int .u8 0, .int .u8 0, .int .u8 0, .int .u8 0, .int .u8 0, .int .u8 0, .int .i64 0, .int .i64 0, .slice .nil 0 []]⟩ := ⟨⟨_, Try.underlying30, rfl⟩, by kernel_rfl, ⟨.agg #[.int .i64 0, .slice none 0 0, .int .i64 0, .int .i64 0, .int .i64 0, .int .u8 0, .int .u8 0, .int .u8 0, .int .u8 0, .int .u8 0, .int .u8 0, .int .u8 0, .int .u8 0, .int .u8 0, .int .u8 0, .int .u8 0, .int .u8 0, .int .u8 0, .int .u8 0, .int .u8 0, .int .u8 0, .int .u8 0, .int .u8 0, .int .u8 0, .int .u8 0, .int .u8 0, .int .u8 0, .int .u8 0, .int .u8 0, .int .u8 0, .int .u8 0, .int .u8 0, .int .u8 0, .int .u8 0, .int .u8 0, .int .u8 0, .int .u8 0, .int .i64 0, .int .i64 0, .slice none 0 0], [.int .i64 0, .slice none 0 0, .int .i64 0, .int .i64 0, .int .i64 0, .int .u8 0, .int .u8 0, .int .u8 0, .int .u8 0, .int .u8 0, .int .u8 0, .int .u8 0, .int .u8 0, .int .u8 0, .int .u8 0, .int .u8 0, .int .u8 0, .int .u8 0, .int .u8 0, .int .u8 0, .int .u8 0, .int .u8 0, .int .u8 0, .int .u8 0, .int .u8 0, .int .u8 0, .int .u8 0, .int .u8 0, .int .u8 0, .int .u8 0, .int .u8 0, .int .u8 0, .int .u8 0, .int .u8 0, .int .u8 0, .int .u8 0, .int .u8 0, .int .i64 0, .int .i64 0, .slice none 0 0], by kernel_rfl, rfl, ⟨rfl, rfl, rfl, rfl, rfl, rfl, rfl, rfl, rfl, rfl, rfl, rfl, rfl, rfl, rfl, rfl, rfl, rfl, rfl, rfl, rfl, rfl, rfl, rfl, rfl, rfl, rfl, rfl, rfl, rfl, rfl, rfl, rfl, rfl, rfl, rfl, rfl, rfl, rfl, rfl, trivial⟩⟩⟩
instance : HasBy Try.prog 30 128 := ⟨by kernel_rfl⟩
instance : HasTy Try.prog 31 ⟨true, 40, [.int .i64 0, .slice .nil 0 [], .int .i64 0, .int .i64 0, .int .i64 0, .int .u8 0, .int .u8 0, .int .u8 0, .int .u8 0, .int .u8 0, .int .u8 0, .int .u8 0, .int .u8 0, .int .u8 0, .int .u8 0, .int .u8 0, .int .u8 0, .int .u8 0, .int .u8 0, .int .u8 0, .int .u8 0, .int .u8 0, .int .u8 0, .int .u8 0, .int .u8 0, .int .u8 0, .int .u8 0, .int .u8 0, .int .u8 0, .int .u8 0, .int .u8 0, .int .u8 0, .int .u8 0, .int .u8 0, .int .u8 0, .int .u8 0, .int .u8 0, .int .i64 0, .int .i64 0, .slice .nil 0 []]⟩ := ⟨⟨_, Try.underlying31, rfl⟩, by kernel_rfl, ⟨.agg #[.int .i64 0, .slice none 0 0, .int .i64 0, .int .i64 0, .int .i64 0, .int .u8 0, .int .u8 0, .int .u8 0, .int .u8 0, .int .u8 0, .int .u8 0, .int .u8 0, .int .u8 0, .int .u8 0, .int .u8 0, .int .u8 0, .int .u8 0, .int .u8 0, .int .u8 0, .int .u8 0, .int .u8 0, .int .u8 0, .int .u8 0, .int .u8 0, .int .u8 0, .int .u8 0, .int .u8 0, .int .u8 0, .int .u8 0, .int .u8 0, .int .u8 0, .int .u8 0, .int .u8 0, .int .u8 0, .int .u8 0, .int .u8 0, .int .u8 0, .int .i64 0, .int .i64 0, .slice none 0 0], [.int .i64 0, .slice none 0 0, .int .i64 0, .int .i64 0, .int .i64 0, .int .u8 0, .int .u8 0, .int .u8 0, .int .u8 0, .int .u8 0, .int .u8 0, .int .u8 0, .int .u8 0, .int .u8 0, .int .u8 0, .int .u8 0, .int .u8 0, .int .u8 0, .int .u8 0, .int .u8 0, .int .u8 0, .int .u8 0, .int .u8 0, .int .u8 0, .int .u8 0, .int .u8 0, .int .u8 0, .int .u8 0, .int .u8 0, .int .u8 0, .int .u8 0, .int .u8 0, .int .u8 0, .int .u8 0, .int .u8 0, .int .u8 0, .int .u8 0, .int .i64 0, .int .i64 0, .slice none 0 0], by kernel_rfl, rfl, ⟨rfl, rfl, rfl, rfl, rfl, rfl, rfl, rfl, rfl, rfl, rfl, rfl, rfl, rfl, rfl, rfl, rfl, rfl, rfl, rfl, rfl, rfl, rfl, rfl, rfl, rfl, rfl, rfl, rfl, rfl, rfl, rfl, rfl, rfl, rfl, rfl, rfl, rfl, rfl, rfl, trivial⟩⟩⟩
instance : HasBy Try.prog 31 128 := ⟨by kernel_rfl⟩
instance : HasTy Try.prog 33 ⟨false, 1, [.int .i64 0]⟩ := ⟨⟨_, Try.underlying33, rfl⟩, by kernel_rfl, ⟨.int .i64 0, [.int .i64 0], by kernel_rfl, rfl, ⟨rfl, trivial⟩⟩⟩
instance : HasBy Try.prog 33 8 := ⟨by kernel_rfl⟩
instance : HasInt Try.prog 33 .i64 := ⟨Try.underlying33⟩
theorem eqd33 : EqD Try.prog 1 33 false [.int .i64] := eqd_int Try.underlying33
instance : HasTy Try.prog 40 ⟨false, 1, [.int .u64 0]⟩ := ⟨⟨_, Try.underlying40, rfl⟩, by kernel_rfl, ⟨.int .u64 0, [.int .u64 0], by kernel_rfl, rfl, ⟨rfl, trivial⟩⟩⟩
instance : HasBy Try.prog 40 8 := ⟨by kernel_rfl⟩
instance : HasInt Try.prog 40 .u64 := ⟨Try.underlying40⟩
theorem eqd40 : EqD Try.prog 1 40 false [.int .u64] := eqd_int Try.underlying40
instance : HasTy Try.prog 41 ⟨true, 4, [.int .u64 0, .int .u64 0, .int .u64 0, .int .u64 0]⟩ := ⟨⟨_, Try.underlying41, rfl⟩, by kernel_rfl, ⟨.agg #[.int .u64 0, .int .u64 0, .int .u64 0, .int .u64 0], [.int .u64 0, .int .u64 0, .int .u64 0, .int .u64 0], by kernel_rfl, rfl, ⟨rfl, rfl, rfl, rfl, trivial⟩⟩⟩
instance : HasBy Try.prog 41 32 := ⟨by kernel_rfl⟩
instance : HasTy Try.prog 42 ⟨true, 4, [.int .u64 0, .int .u64 0, .int .u64 0, .int .u64 0]⟩ := ⟨⟨_, Try.underlying42, rfl⟩, by kernel_rfl, ⟨.agg #[.int .u64 0, .int .u64 0, .int .u64 0, .int .u64 0], [.int .u64 0, .int .u64 0, .int .u64 0, .int .u64 0], by kernel_rfl, rfl, ⟨rfl, rfl, rfl, rfl, trivial⟩⟩⟩
instance : HasBy Try.prog 42 32 := ⟨by kernel_rfl⟩
instance : HasTy Try.prog 43 ⟨true, 9, [.int .u64 0, .int .u64 0, .int .u64 0, .int .u64 0, .int .u64 0, .int .u64 0, .int .u64 0, .int .u64 0, .int .i64 0]⟩ := ⟨⟨_, Try.underlying43, rfl⟩, by kernel_rfl, ⟨.agg #[.int .u64 0, .int .u64 0, .int .u64 0, .int .u64 0, .int .u64 0, .int .u64 0, .int .u64 0, .int .u64 0, .int .i64 0], [.int .u64 0, .int .u64 0, .int .u64 0, .int .u64 0, .int .u64 0, .int .u64 0, .int .u64 0, .int .u64 0, .int .i64 0], by kernel_rfl, rfl, ⟨rfl, rfl, rfl, rfl, rfl, rfl, rfl, rfl, rfl, trivial⟩⟩⟩
instance : HasBy Try.prog 43 72 := ⟨by kernel_rfl⟩
instance : HasTy Try.prog 44 ⟨true, 9, [.int .u64 0, .int .u64 0, .int .u64 0, .int .u64 0, .int .u64 0, .int .u64 0, .int .u64 0, .int .u64 0, .int .i64 0]⟩ := ⟨⟨_, Try.underlying44, rfl⟩, by kernel_rfl, ⟨.agg #[.int .u64 0, .int .u64 0, .int .u64 0, .int .u64 0, .int .u64 0, .int .u64 0, .int .u64 0, .int .u64 0, .int .i64 0], [.int .u64 0, .int .u64 0, .int .u64 0, .int .u64 0, .int .u64 0, .int .u64 0, .int .u64 0, .int .u64 0, .int .i64 0], by kernel_rfl, rfl, ⟨rfl, rfl, rfl, rfl, rfl, rfl, rfl, rfl, rfl, trivial⟩⟩⟩
instance : HasBy Try.prog 44 72 := ⟨by kernel_rfl⟩
instance : HasTy Try.prog 45 ⟨true, 10, [.int .i64 0, .int .u64 0, .int .u64 0, .int .u64 0, .int .u64 0, .int .u64 0, .int .u64 0, .int .u64 0, .int .u64 0, .int .i64 0]⟩ := ⟨⟨_, Try.underlying45, rfl⟩, by kernel_rfl, ⟨.agg #[.int .i64 0, .int .u64 0, .int .u64 0, .int .u64 0, .int .u64 0, .int .u64 0, .int .u64 0, .int .u64 0, .int .u64 0, .int .i64 0], [.int .i64 0, .int .u64 0, .int .u64 0, .int .u64 0, .int .u64 0, .int .u64 0, .int .u64 0, .int .u64 0, .int .u64 0, .int .i64 0], by kernel_rfl, rfl, ⟨rfl, rfl, rfl, rfl, rfl, rfl, rfl, rfl, rfl, rfl, trivial⟩⟩⟩
instance : HasBy Try.prog 45 80 := ⟨by kernel_rfl⟩
instance : HasTy Try.prog 46 ⟨true, 10, [.int .i64 0, .int .u64 0, .int .u64 0, .int .u64 0, .int .u64 0, .int .u64 0, .int .u64 0, .int .u64 0, .int .u64 0, .int .i64 0]⟩ := ⟨⟨_, Try.underlying46, rfl⟩, by kernel_rfl, ⟨.agg #[.int .i64 0, .int .u64 0, .int .u64 0, .int .u64 0, .int .u64 0, .int .u64 0, .int .u64 0, .int .u64 0, .int .u64 0, .int .i64 0], [.int .i64 0, .int .u64 0, .int .u64 0, .int .u64 0, .int .u64 0, .int .u64 0, .int .u64 0, .int .u64 0, .int .u64 0, .int .i64 0], by kernel_rfl, rfl, ⟨rfl, rfl, rfl, rfl, rfl, rfl, rfl, rfl, rfl, rfl, trivial⟩⟩⟩
instance : HasBy Try.prog 46 80 := ⟨by kernel_rfl⟩
instance : HasTy Try.prog 49 ⟨false, 1, [.slice .nil 0 []]⟩ := ⟨⟨_, Try.underlying49, rfl⟩, by kernel_rfl, ⟨.slice none 0 0, [.slice none 0 0], by kernel_rfl, rfl, ⟨rfl, trivial⟩⟩⟩
instance : HasBy Try.prog 49 24 := ⟨by kernel_rfl⟩
instance : HasSl Try.prog 49 89 := ⟨Try.underlying49⟩
instance : HasTy Try.prog 50 ⟨true, 80, [.int .i64 0, .int .u64 0, .int .u64 0, .int .u64 0, .int .u64 0, .int .u64 0, .int .u64 0, .int .u64 0, .int .u64 0, .int .u8 0, .int .u8 0, .int .u8 0, .int .u8 0, .int .u8 0, .int .u8 0, .int .u8 0, .int .u8 0, .int .u8 0, .int .u8 0, .int .u8 0, .int .u8 0, .int .u8 0, .int .u8 0, .int .u8 0, .int .u8 0, .int .u8 0, .int .u8 0, .int .u8 0, .int .u8 0, .int .u8 0, .int .u8 0, .int .u8 0, .int .u8 0, .int .u8 0, .int .u8 0, .int .u8 0, .int .u8 0, .int .u8 0, .int .u8 0, .int .u8 0, .int .u8 0, .int .i64 0, .int .u8 0, .int .u8 0, .int .u8 0, .int .u8 0, .int .u8 0, .int .u8 0, .int .u8 0, .int .u8 0, .int .u8 0, .int .u8 0, .int .u8 0, .int .u8 0, .int .u8 0, .int .u8 0, .int .u8 0, .int .u8 0, .int .u8 0, .int .u8 0, .int .u8 0, .int .u8 0, .int .u8 0, .int .u8 0, .int .u8 0, .int .u8 0, .int .u8 0, .int .u8 0, .int .u8 0, .int .u8 0, .int .u8 0, .int .u8 0, .int .u8 0, .int .u8 0, .int .i64 0, .int .i64 0, .str ⟨#[]⟩, .slice .nil 0 [], .int .i64 0, .slice .nil 0 []]⟩ := ⟨⟨_, Try.underlying50, rfl⟩, by kernel_rfl, ⟨.agg #[.int .i64 0, .int .u64 0, .int .u64 0, .int .u64 0, .int .u64 0, .int .u64 0, .int .u64 0, .int .u64 0, .int .u64 0, .int .u8 0, .int .u8 0, .int .u8 0, .int .u8 0, .int .u8 0, .int .u8 0, .int .u8 0, .int .u8 0, .int .u8 0, .int .u8 0, .int .u8 0, .int .u8 0, .int .u8 0, .int .u8 0, .int .u8 0, .int .u8 0, .int .u8 0, .int .u8 0, .int .u8 0, .int .u8 0, .int .u8 0, .int .u8 0, .int .u8 0, .int .u8 0, .int .u8 0, .int .u8 0, .int .u8 0, .int .u8 0, .int .u8 0, .int .u8 0, .int .u8 0, .int .u8 0, .int .i64 0, .int .u8 0, .int .u8 0, .int .u8 0, .int .u8 0, .int .u8 0, .int .u8 0, .int .u8 0, .int .u8 0, .int .u8 0, .int .u8 0, .int .u8 0, .int .u8 0, .int .u8 0, .int .u8 0, .int .u8 0, .int .u8 0, .int .u8 0, .int .u8 0, .int .u8 0, .int .u8 0, .int .u8 0, .int .u8 0, .int .u8 0, .int .u8 0, .int .u8 0, .int .u8 0, .int .u8 0, .int .u8 0, .int .u8 0, .int .u8 0, .int .u8 0, .int .u8 0, .int .i64 0, .int .i64 0, .string ⟨#[]⟩, .slice none 0 0, .int .i64 0, .slice none 0 0], [.int .i64 0, .int .u64 0, .int .u64 0, .int .u64 0, .int .u64 0, .int .u64 0, .int .u64 0, .int .u64 0, .int .u64 0, .int .u8 0, .int .u8 0, .int .u8 0, .int .u8 0, .int .u8 0, .int .u8 0, .int .u8 0, .int .u8 0, .int .u8 0, .int .u8 0, .int .u8 0, .int .u8 0, .int .u8 0, .int .u8 0, .int .u8 0, .int .u8 0, .int .u8 0, .int .u8 0, .int .u8 0, .int .u8 0, .int .u8 0, .int .u8 0, .int .u8 0, .int .u8 0, .int .u8 0, .int .u8 0, .int .u8 0, .int .u8 0, .int .u8 0, .int .u8 0, .int .u8 0, .int .u8 0, .int .i64 0, .int .u8 0, .int .u8 0, .int .u8 0, .int .u8 0, .int .u8 0, .int .u8 0, .int .u8 0, .int .u8 0, .int .u8 0, .int .u8 0, .int .u8 0, .int .u8 0, .int .u8 0, .int .u8 0, .int .u8 0, .int .u8 0, .int .u8 0, .int .u8 0, .int .u8 0, .int .u8 0, .int .u8 0, .int .u8 0, .int .u8 0, .int .u8 0, .int .u8 0, .int .u8 0, .int .u8 0, .int .u8 0, .int .u8 0, .int .u8 0, .int .u8 0, .int .u8 0, .int .i64 0, .int .i64 0, .string ⟨#[]⟩, .slice none 0 0, .int .i64 0, .slice none 0 0], by kernel_rfl, rfl, ⟨rfl, rfl, rfl, rfl, rfl, rfl, rfl, rfl, rfl, rfl, rfl, rfl, rfl, rfl, rfl, rfl, rfl, rfl, rfl, rfl, rfl, rfl, rfl, rfl, rfl, rfl, rfl, rfl, rfl, rfl, rfl, rfl, rfl, rfl, rfl, rfl, rfl, rfl, rfl, rfl, rfl, rfl, rfl, rfl, rfl, rfl, rfl, rfl, rfl, rfl, rfl, rfl, rfl, rfl, rfl, rfl, rfl, rfl, rfl, rfl, rfl, rfl, rfl, rfl, rfl, rfl, rfl, rfl, rfl, rfl, rfl, rfl, rfl, rfl, rfl, rfl, rfl, rfl, rfl, rfl, trivial⟩⟩⟩
instance : HasBy Try.prog 50 232 := ⟨by kernel_rfl⟩
instance : HasTy Try.prog 51 ⟨true, 80, [.int .i64 0, .int .u64 0, .int .u64 0, .int .u64 0, .int .u64 0, .int .u64 0, .int .u64 0, .int .u64 0, .int .u64 0, .int .u8 0, .int .u8 0, .int .u8 0, .int .u8 0, .int .u8 0, .int .u8 0, .int .u8 0, .int .u8 0, .int .u8 0, .int .u8 0, .int .u8 0, .int .u8 0, .int .u8 0, .int .u8 0, .int .u8 0, .int .u8 0, .int .u8 0, .int .u8 0, .int .u8 0, .int .u8 0, .int .u8 0, .int .u8 0, .int .u8 0, .int .u8 0, .int .u8 0, .int .u8 0, .int .u8 0, .int .u8 0, .int .u8 0, .int .u8 0, .int .u8 0, .int .u8 0, .int .i64 0, .int .u8 0, .int .u8 0, .int .u8 0, .int .u8 0, .int .u8 0, .int .u8 0, .int .u8 0, .int .u8 0, .int .u8 0, .int .u8 0, .int .u8 0, .int .u8 0, .int .u8 0, .int .u8 0, .int .u8 0, .int .u8 0, .int .u8 0, .int .u8 0, .int .u8 0, .int .u8 0, .int .u8 0, .int .u8 0, .int .u8 0, .int .u8 0, .int .u8 0, .int .u8 0, .int .u8 0, .int .u8 0, .int .u8 0, .int .u8 0, .int .u8 0, .int .u8 0, .int .i64 0, .int .i64 0, .str ⟨#[]⟩, .slice .nil 0 [], .int .i64 0, .slice .nil 0 []]⟩ := ⟨⟨_, Try.underlying51, rfl⟩, by kernel_rfl, ⟨.agg #[.int .i64 0, .int .u64 0, .int .u64 0, .int .u64 0, .int .u64 0, .int .u64 0, .int .u64 0, .int .u64 0, .int .u64 0, .int .u8 0, .int .u8 0, .int .u8 0, .int .u8 0, .int .u8 0, .int .u8 0, .int .u8 0, .int .u8 0, .int .u8 0, .int .u8 0, .int .u8 0, .int .u8 0, .int .u8 0, .int .u8 0, .int .u8 0, .int .u8 0, .int .u8 0, .int .u8 0, .int .u8 0, .int .u8 0, .int .u8 0, .int .u8 0, .int .u8 0, .int .u8 0, .int .u8 0, .int .u8 0, .int .u8 0, .int .u8 0, .int .u8 0, .int .u8 0, .int .u8 0, .int .u8 0, .int .i64 0, .int .u8 0, .int .u8 0, .int .u8 0, .int .u8 0, .int .u8 0, .int .u8 0, .int .u8 0, .int .u8 0, .int .u8 0, .int .u8 0, .int .u8 0, .int .u8 0, .int .u8 0, .int .u8 0, .int .u8 0, .int .u8 0, .int .u8 0, .int .u8 0, .int .u8 0, .int .u8 0, .int .u8 0, .int .u8 0, .int .u8 0, .int .u8 0, .int .u8 0, .int .u8 0, .int .u8 0, .int .u8 0, .int .u8 0, .int .u8 0, .int .u8 0, .int .u8 0, .int .i64 0, .int .i64 0, .string ⟨#[]⟩, .slice none 0 0, .int .i64 0, .slice none 0 0], [.int .i64 0, .int .u64 0, .int .u64 0, .int .u64 0, .int .u64 0, .int .u64 0, .int .u64 0, .int .u64 0, .int .u64 0, .int .u8 0, .int .u8 0, .int .u8 0, .int .u8 0, .int .u8 0, .int .u8 0, .int .u8 0, .int .u8 0, .int .u8 0, .int .u8 0, .int .u8 0, .int .u8 0, .int .u8 0, .int .u8 0, .int .u8 0, .int .u8 0, .int .u8 0, .int .u8 0, .int .u8 0, .int .u8 0, .int .u8 0, .int .u8 0, .int .u8 0, .int .u8 0, .int .u8 0, .int .u8 0, .int .u8 0, .int .u8 0, .int .u8 0, .int .u8 0, .int .u8 0, .int .u8 0, .int .i64 0, .int .u8 0, .int .u8 0, .int .u8 0, .int .u8 0, .int .u8 0, .int .u8 0, .int .u8 0, .int .u8 0, .int .u8 0, .int .u8 0, .int .u8 0, .int .u8 0, .int .u8 0, .int .u8 0, .int .u8 0, .int .u8 0, .int .u8 0, .int .u8 0, .int .u8 0, .int .u8 0, .int .u8 0, .int .u8 0, .int .u8 0, .int .u8 0, .int .u8 0, .int .u8 0, .int .u8 0, .int .u8 0, .int .u8 0, .int .u8 0, .int .u8 0, .int .u8 0, .int .i64 0, .int .i64 0, .string ⟨#[]⟩, .slice none 0 0, .int .i64 0, .slice none 0 0], by kernel_rfl, rfl, ⟨rfl, rfl, rfl, rfl, rfl, rfl, rfl, rfl, rfl, rfl, rfl, rfl, rfl, rfl, rfl, rfl, rfl, rfl, rfl, rfl, rfl, rfl, rfl, rfl, rfl, rfl, rfl, rfl, rfl, rfl, rfl, rfl, rfl, rfl, rfl, rfl, rfl, rfl, rfl, rfl, rfl, rfl, rfl, rfl, rfl, rfl, rfl, rfl, rfl, rfl, rfl, rfl, rfl, rfl, rfl, rfl, rfl, rfl, rfl, rfl, rfl, rfl, rfl, rfl, rfl, rfl, rfl, rfl, rfl, rfl, rfl, rfl, rfl, rfl, rfl, rfl, rfl, rfl, rfl, rfl, trivial⟩⟩⟩
instance : HasBy Try.prog 51 232 := ⟨by kernel_rfl⟩
instance : HasTy Try.prog 63 ⟨false, 1, [.raw (.pointer none)]⟩ := ⟨⟨_, Try.underlying63, rfl⟩, by kernel_rfl, ⟨.pointer none, [.pointer none], by kernel_rfl, rfl, ⟨rfl, trivial⟩⟩⟩
instance : HasBy Try.prog 63 8 := ⟨by kernel_rfl⟩
instance : HasPtr Try.prog 63 65 := ⟨Try.underlying63⟩
instance : HasTy Try.prog 64 ⟨true, 1, [.slice .nil 0 []]⟩ := ⟨⟨_, Try.underlying64, rfl⟩, by kernel_rfl, ⟨.agg #[.slice none 0 0], [.slice none 0 0], by kernel_rfl, rfl, ⟨rfl, trivial⟩⟩⟩
instance : HasBy Try.prog 64 24 := ⟨by kernel_rfl⟩
instance : HasTy Try.prog 65 ⟨true, 1, [.slice .nil 0 []]⟩ := ⟨⟨_, Try.underlying65, rfl⟩, by kernel_rfl, ⟨.agg #[.slice none 0 0], [.slice none 0 0], by kernel_rfl, rfl, ⟨rfl, trivial⟩⟩⟩
instance : HasBy Try.prog 65 24 := ⟨by kernel_rfl⟩
instance : HasTy Try.prog 70 ⟨false, 1, [.raw (.pointer none)]⟩ := ⟨⟨_, Try.underlying70, rfl⟩, by kernel_rfl, ⟨.pointer none, [.pointer none], by kernel_rfl, rfl, ⟨rfl, trivial⟩⟩⟩
instance : HasBy Try.prog 70 8 := ⟨by kernel_rfl⟩
instance : HasPtr Try.prog 70 72 := ⟨Try.underlying70⟩
instance : HasTy Try.prog 71 ⟨true, 2, [.slice .nil 0 [], .bool false]⟩ := ⟨⟨_, Try.underlying71, rfl⟩, by kernel_rfl, ⟨.agg #[.slice none 0 0, .bool false], [.slice none 0 0, .bool false], by kernel_rfl, rfl, ⟨rfl, rfl, trivial⟩⟩⟩
instance : HasBy Try.prog 71 32 := ⟨by kernel_rfl⟩
instance : HasTy Try.prog 72 ⟨true, 2, [.slice .nil 0 [], .bool false]⟩ := ⟨⟨_, Try.underlying72, rfl⟩, by kernel_rfl, ⟨.agg #[.slice none 0 0, .bool false], [.slice none 0 0, .bool false], by kernel_rfl, rfl, ⟨rfl, rfl, trivial⟩⟩⟩
instance : HasBy Try.prog 72 32 := ⟨by kernel_rfl⟩
instance : HasTy Try.prog 88 ⟨true, 20, [.int .u8 0, .int .u8 0, .int .u8 0, .int .u8 0, .int .u8 0, .int .u8 0, .int .u8 0, .int .u8 0, .int .u8 0, .int .u8 0, .int .u8 0, .int .u8 0, .int .u8 0, .int .u8 0, .int .u8 0, .int .u8 0, .int .u8 0, .int .u8 0, .int .u8 0, .int .u8 0]⟩ := ⟨⟨_, Try.underlying88, rfl⟩, by kernel_rfl, ⟨.agg #[.int .u8 0, .int .u8 0, .int .u8 0, .int .u8 0, .int .u8 0, .int .u8 0, .int .u8 0, .int .u8 0, .int .u8 0, .int .u8 0, .int .u8 0, .int .u8 0, .int .u8 0, .int .u8 0, .int .u8 0, .int .u8 0, .int .u8 0, .int .u8 0, .int .u8 0, .int .u8 0], [.int .u8 0, .int .u8 0, .int .u8 0, .int .u8 0, .int .u8 0, .int .u8 0, .int .u8 0, .int .u8 0, .int .u8 0, .int .u8 0, .int .u8 0, .int .u8 0, .int .u8 0, .int .u8 0, .int .u8 0, .int .u8 0, .int .u8 0, .int .u8 0, .int .u8 0, .int .u8 0], by kernel_rfl, rfl, ⟨rfl, rfl, rfl, rfl, rfl, rfl, rfl, rfl, rfl, rfl, rfl, rfl, rfl, rfl, rfl, rfl, rfl, rfl, rfl, rfl, trivial⟩⟩⟩
instance : HasBy Try.prog 88 20 := ⟨by kernel_rfl⟩
instance : HasTy Try.prog 89 ⟨true, 20, [.int .u8 0, .int .u8 0, .int .u8 0, .int .u8 0, .int .u8 0, .int .u8 0, .int .u8 0, .int .u8 0, .int .u8 0, .int .u8 0, .int .u8 0, .int .u8 0, .int .u8 0, .int .u8 0, .int .u8 0, .int .u8 0, .int .u8 0, .int .u8 0, .int .u8 0, .int .u8 0]⟩ := ⟨⟨_, Try.underlying89, rfl⟩, by kernel_rfl, ⟨.agg #[.int .u8 0, .int .u8 0, .int .u8 0, .int .u8 0, .int .u8 0, .int .u8 0, .int .u8 0, .int .u8 0, .int .u8 0, .int .u8 0, .int .u8 0, .int .u8 0, .int .u8 0, .int .u8 0, .int .u8 0, .int .u8 0, .int .u8 0, .int .u8 0, .int .u8 0, .int .u8 0], [.int .u8 0, .int .u8 0, .int .u8 0, .int .u8 0, .int .u8 0, .int .u8 0, .int .u8 0, .int .u8 0, .int .u8 0, .int .u8 0, .int .u8 0, .int .u8 0, .int .u8 0, .int .u8 0, .int .u8 0, .int .u8 0, .int .u8 0, .int .u8 0, .int .u8 0, .int .u8 0], by kernel_rfl, rfl, ⟨rfl, rfl, rfl, rfl, rfl, rfl, rfl, rfl, rfl, rfl, rfl, rfl, rfl, rfl, rfl, rfl, rfl, rfl, rfl, rfl, trivial⟩⟩⟩
instance : HasBy Try.prog 89 20 := ⟨by kernel_rfl⟩
instance : HasTy Try.prog 92 ⟨false, 1, [.int .u64 0]⟩ := ⟨⟨_, Try.underlying92, rfl⟩, by kernel_rfl, ⟨.int .u64 0, [.int .u64 0], by kernel_rfl, rfl, ⟨rfl, trivial⟩⟩⟩
instance : HasBy Try.prog 92 8 := ⟨by kernel_rfl⟩
instance : HasInt Try.prog 92 .u64 := ⟨Try.underlying92⟩
theorem eqd92 : EqD Try.prog 1 92 false [.int .u64] := eqd_int Try.underlying92
instance : HasTy Try.prog 93 ⟨true, 1, [.bool false]⟩ := ⟨⟨_, Try.underlying93, rfl⟩, by kernel_rfl, ⟨.agg #[.bool false], [.bool false], by kernel_rfl, rfl, ⟨rfl, trivial⟩⟩⟩
instance : HasBy Try.prog 93 1 := ⟨by kernel_rfl⟩
instance : HasTy Try.prog 94 ⟨true, 1, [.bool false]⟩ := ⟨⟨_, Try.underlying94, rfl⟩, by kernel_rfl, ⟨.agg #[.bool false], [.bool false], by kernel_rfl, rfl, ⟨rfl, trivial⟩⟩⟩
instance : HasBy Try.prog 94 1 := ⟨by kernel_rfl⟩
instance : HasTy Try.prog 95 ⟨true, 0, []⟩ := ⟨⟨_, Try.underlying95, rfl⟩, by kernel_rfl, ⟨.agg #[], [], by kernel_rfl, rfl, trivial⟩⟩
instance : HasBy Try.prog 95 0 := ⟨by kernel_rfl⟩
instance : HasTy Try.prog 96 ⟨true, 0, []⟩ := ⟨⟨_, Try.underlying96, rfl⟩, by kernel_rfl, ⟨.agg #[], [], by kernel_rfl, rfl, trivial⟩⟩
instance : HasBy Try.prog 96 0 := ⟨by kernel_rfl⟩
instance : HasTy Try.prog 97 ⟨true, 0, []⟩ := ⟨⟨_, Try.underlying97, rfl⟩, by kernel_rfl, ⟨.agg #[], [], by kernel_rfl, rfl, trivial⟩⟩
instance : HasBy Try.prog 97 0 := ⟨by kernel_rfl⟩
instance : HasTy Try.prog 102 ⟨true, 0, []⟩ := ⟨⟨_, Try.underlying102, rfl⟩, by kernel_rfl, ⟨.agg #[], [], by kernel_rfl, rfl, trivial⟩⟩
instance : HasBy Try.prog 102 0 := ⟨by kernel_rfl⟩
instance : HasTy Try.prog 106 ⟨false, 1, [.int .u32 0]⟩ := ⟨⟨_, Try.underlying106, rfl⟩, by kernel_rfl, ⟨.int .u32 0, [.int .u32 0], by kernel_rfl, rfl, ⟨rfl, trivial⟩⟩⟩
instance : HasBy Try.prog 106 4 := ⟨by kernel_rfl⟩
instance : HasInt Try.prog 106 .u32 := ⟨Try.underlying106⟩
theorem eqd106 : EqD Try.prog 1 106 false [.int .u32] := eqd_int Try.underlying106
instance : HasTy Try.prog 110 ⟨false, 1, [.raw (.pointer none)]⟩ := ⟨⟨_, Try.underlying110, rfl⟩, by kernel_rfl, ⟨.pointer none, [.pointer none], by kernel_rfl, rfl, ⟨rfl, trivial⟩⟩⟩
instance : HasBy Try.prog 110 8 := ⟨by kernel_rfl⟩
instance : HasPtr Try.prog 110 5 := ⟨Try.underlying110⟩
instance : HasTy Try.prog 117 ⟨false, 1, [.slice .nil 0 []]⟩ := ⟨⟨_, Try.underlying117, rfl⟩, by kernel_rfl, ⟨.slice none 0 0, [.slice none 0 0], by kernel_rfl, rfl, ⟨rfl, trivial⟩⟩⟩
instance : HasBy Try.prog 117 24 := ⟨by kernel_rfl⟩
instance : HasSl Try.prog 117 27 := ⟨Try.underlying117⟩
instance : HasFld Try.prog 23 0 0 3 := ⟨⟨_, _, Try.underlying23, rfl, rfl, rfl⟩⟩
instance : HasFld Try.prog 23 1 1 3 := ⟨⟨_, _, Try.underlying23, rfl, rfl, rfl⟩⟩
instance : HasFld Try.prog 23 2 2 3 := ⟨⟨_, _, Try.underlying23, rfl, rfl, rfl⟩⟩
instance : HasFld Try.prog 23 3 3 9 := ⟨⟨_, _, Try.underlying23, rfl, rfl, rfl⟩⟩
instance : HasPlaces Try.prog 23 [(0, 1), (1, 1), (2, 1), (3, 1)] := ⟨.inl ⟨_, Try.underlying23, fun w => by kernel_rfl⟩⟩
instance : HasFld Try.prog 24 0 0 3 := ⟨⟨_, _, Try.underlying24, rfl, rfl, rfl⟩⟩
instance : HasFld Try.prog 24 1 1 3 := ⟨⟨_, _, Try.underlying24, rfl, rfl, rfl⟩⟩
instance : HasFld Try.prog 24 2 2 3 := ⟨⟨_, _, Try.underlying24, rfl, rfl, rfl⟩⟩
instance : HasFld Try.prog 24 3 3 9 := ⟨⟨_, _, Try.underlying24, rfl, rfl, rfl⟩⟩
instance : HasPlaces Try.prog 24 [(0, 1), (1, 1), (2, 1), (3, 1)] := ⟨.inl ⟨_, Try.underlying24, fun w => by kernel_rfl⟩⟩
instance : HasArr Try.prog 26 32 5 := ⟨Try.underlying26⟩
instance : HasPlaces Try.prog 26 [(0, 1), (1, 1), (2, 1), (3, 1), (4, 1), (5, 1), (6, 1), (7, 1), (8, 1), (9, 1), (10, 1), (11, 1), (12, 1), (13, 1), (14, 1), (15, 1), (16, 1), (17, 1), (18, 1), (19, 1), (20, 1), (21, 1), (22, 1), (23, 1), (24, 1), (25, 1), (26, 1), (27, 1), (28, 1), (29, 1), (30, 1), (31, 1)] := ⟨.inr ⟨_, _, _, Try.underlying26, (show _ = some 1 by kernel_rfl), rfl⟩⟩
instance : HasFld Try.prog 28 0 0 3 := ⟨⟨_, _, Try.underlying28, rfl, rfl, rfl⟩⟩
instance : HasFld Try.prog 28 1 1 3 := ⟨⟨_, _, Try.underlying28, rfl, rfl, rfl⟩⟩
instance : HasFld Try.prog 28 2 2 3 := ⟨⟨_, _, Try.underlying28, rfl, rfl, rfl⟩⟩
instance : HasFld Try.prog 28 3 3 26 := ⟨⟨_, _, Try.underlying28, rfl, rfl, rfl⟩⟩
instance : HasFld Try.prog 28 4 35 3 := ⟨⟨_, _, Try.underlying28, rfl, rfl, rfl⟩⟩
instance : HasFld Try.prog 28 5 36 3 := ⟨⟨_, _, Try.underlying28, rfl, rfl, rfl⟩⟩
instance : HasFld Try.prog 28 6 37 27 := ⟨⟨_, _, Try.underlying28, rfl, rfl, rfl⟩⟩
instance : HasPlaces Try.prog 28 [(0, 1), (1, 1), (2, 1), (3, 32), (35, 1), (36, 1), (37, 1)] := ⟨.inl ⟨_, Try.underlying28, fun w => by kernel_rfl⟩⟩
instance : HasFld Try.prog 29 0 0 3 := ⟨⟨_, _, Try.underlying29, rfl, rfl, rfl⟩⟩
instance : HasFld Try.prog 29 1 1 3 := ⟨⟨_, _, Try.underlying29, rfl, rfl, rfl⟩⟩
instance : HasFld Try.prog 29 2 2 3 := ⟨⟨_, _, Try.underlying29, rfl, rfl, rfl⟩⟩
instance : HasFld Try.prog 29 3 3 26 := ⟨⟨_, _, Try.underlying29, rfl, rfl, rfl⟩⟩
instance : HasFld Try.prog 29 4 35 3 := ⟨⟨_, _, Try.underlying29, rfl, rfl, rfl⟩⟩
instance : HasFld Try.prog 29 5 36 3 := ⟨⟨_, _, Try.underlying29, rfl, rfl, rfl⟩⟩
instance : HasFld Try.prog 29 6 37 27 := ⟨⟨_, _, Try.underlying29, rfl, rfl, rfl⟩⟩
instance : HasPlaces Try.prog 29 [(0, 1), (1, 1), (2, 1), (3, 32), (35, 1), (36, 1), (37, 1)] := ⟨.inl ⟨_, Try.underlying29, fun w => by kernel_rfl⟩⟩
instance : HasFld Try.prog 30 0 0 3 := ⟨⟨_, _, Try.underlying30, rfl, rfl, rfl⟩⟩
instance : HasFld Try.prog 30 1 1 25 := ⟨⟨_, _, Try.underlying30, rfl, rfl, rfl⟩⟩
instance : HasFld Try.prog 30 2 2 29 := ⟨⟨_, _, Try.underlying30, rfl, rfl, rfl⟩⟩
instance : HasPlaces Try.prog 30 [(0, 1), (1, 1), (2, 38)] := ⟨.inl ⟨_, Try.underlying30, fun w => by kernel_rfl⟩⟩
instance : HasFld Try.prog 31 0 0 3 := ⟨⟨_, _, Try.underlying31, rfl, rfl, rfl⟩⟩
instance : HasFld Try.prog 31 1 1 25 := ⟨⟨_, _, Try.underlying31, rfl, rfl, rfl⟩⟩
instance : HasFld Try.prog 31 2 2 29 := ⟨⟨_, _, Try.underlying31, rfl, rfl, rfl⟩⟩
instance : HasPlaces Try.prog 31 [(0, 1), (1, 1), (2, 38)] := ⟨.inl ⟨_, Try.underlying31, fun w => by kernel_rfl⟩⟩
instance : HasArr Try.prog 41 4 40 := ⟨Try.underlying41⟩
instance : HasPlaces Try.prog 41 [(0, 1), (1, 1), (2, 1), (3, 1)] := ⟨.inr ⟨_, _, _, Try.underlying41, (show _ = some 1 by kernel_rfl), rfl⟩⟩
instance : HasArr Try.prog 42 4 40 := ⟨Try.underlying42⟩
instance : HasPlaces Try.prog 42 [(0, 1), (1, 1), (2, 1), (3, 1)] := ⟨.inr ⟨_, _, _, Try.underlying42, (show _ = some 1 by kernel_rfl), rfl⟩⟩
instance : HasFld Try.prog 43 0 0 42 := ⟨⟨_, _, Try.underlying43, rfl, rfl, rfl⟩⟩
instance : HasFld Try.prog 43 1 4 42 := ⟨⟨_, _, Try.underlying43, rfl, rfl, rfl⟩⟩
instance : HasFld Try.prog 43 2 8 3 := ⟨⟨_, _, Try.underlying43, rfl, rfl, rfl⟩⟩
instance : HasPlaces Try.prog 43 [(0, 4), (4, 4), (8, 1)] := ⟨.inl ⟨_, Try.underlying43, fun w => by kernel_rfl⟩⟩
instance : HasFld Try.prog 44 0 0 42 := ⟨⟨_, _, Try.underlying44, rfl, rfl, rfl⟩⟩
instance : HasFld Try.prog 44 1 4 42 := ⟨⟨_, _, Try.underlying44, rfl, rfl, rfl⟩⟩
instance : HasFld Try.prog 44 2 8 3 := ⟨⟨_, _, Try.underlying44, rfl, rfl, rfl⟩⟩
instance : HasPlaces Try.prog 44 [(0, 4), (4, 4), (8, 1)] := ⟨.inl ⟨_, Try.underlying44, fun w => by kernel_rfl⟩⟩
instance : HasFld Try.prog 45 0 0 3 := ⟨⟨_, _, Try.underlying45, rfl, rfl, rfl⟩⟩
instance : HasFld Try.prog 45 1 1 44 := ⟨⟨_, _, Try.underlying45, rfl, rfl, rfl⟩⟩
instance : HasPlaces Try.prog 45 [(0, 1), (1, 9)] := ⟨.inl ⟨_, Try.underlying45, fun w => by kernel_rfl⟩⟩
instance : HasFld Try.prog 46 0 0 3 := ⟨⟨_, _, Try.underlying46, rfl, rfl, rfl⟩⟩
instance : HasFld Try.prog 46 1 1 44 := ⟨⟨_, _, Try.underlying46, rfl, rfl, rfl⟩⟩
instance : HasPlaces Try.prog 46 [(0, 1), (1, 9)] := ⟨.inl ⟨_, Try.underlying46, fun w => by kernel_rfl⟩⟩
instance : HasFld Try.prog 50 0 0 3 := ⟨⟨_, _, Try.underlying50, rfl, rfl, rfl⟩⟩
instance : HasFld Try.prog 50 1 1 42 := ⟨⟨_, _, Try.underlying50, rfl, rfl, rfl⟩⟩
instance : HasFld Try.prog 50 2 5 42 := ⟨⟨_, _, Try.underlying50, rfl, rfl, rfl⟩⟩
instance : HasFld Try.prog 50 3 9 26 := ⟨⟨_, _, Try.underlying50, rfl, rfl, rfl⟩⟩
instance : HasFld Try.prog 50 4 41 3 := ⟨⟨_, _, Try.underlying50, rfl, rfl, rfl⟩⟩
instance : HasFld Try.prog 50 5 42 26 := ⟨⟨_, _, Try.underlying50, rfl, rfl, rfl⟩⟩
instance : HasFld Try.prog 50 6 74 3 := ⟨⟨_, _, Try.underlying50, rfl, rfl, rfl⟩⟩
instance : HasFld Try.prog 50 7 75 3 := ⟨⟨_, _, Try.underlying50, rfl, rfl, rfl⟩⟩
instance : HasFld Try.prog 50 8 76 9 := ⟨⟨_, _, Try.underlying50, rfl, rfl, rfl⟩⟩
instance : HasFld Try.prog 50 9 77 27 := ⟨⟨_, _, Try.underlying50, rfl, rfl, rfl⟩⟩
instance : HasFld Try.prog 50 10 78 3 := ⟨⟨_, _, Try.underlying50, rfl, rfl, rfl⟩⟩
instance : HasFld Try.prog 50 11 79 49 := ⟨⟨_, _, Try.underlying50, rfl, rfl, rfl⟩⟩
instance : HasPlaces Try.prog 50 [(0, 1), (1, 4), (5, 4), (9, 32), (41, 1), (42, 32), (74, 1), (75, 1), (76, 1), (77, 1), (78, 1), (79, 1)] := ⟨.inl ⟨_, Try.underlying50, fun w => by kernel_rfl⟩⟩
instance : HasFld Try.prog 51 0 0 3 := ⟨⟨_, _, Try.underlying51, rfl, rfl, rfl⟩⟩
instance : HasFld Try.prog 51 1 1 42 := ⟨⟨_, _, Try.underlying51, rfl, rfl, rfl⟩⟩
instance : HasFld Try.prog 51 2 5 42 := ⟨⟨_, _, Try.underlying51, rfl, rfl, rfl⟩⟩
instance : HasFld Try.prog 51 3 9 26 := ⟨⟨_, _, Try.underlying51, rfl, rfl, rfl⟩⟩
instance : HasFld Try.prog 51 4 41 3 := ⟨⟨_, _, Try.underlying51, rfl, rfl, rfl⟩⟩
instance : HasFld Try.prog 51 5 42 26 := ⟨⟨_, _, Try.underlying51, rfl, rfl, rfl⟩⟩
instance : HasFld Try.prog 51 6 74 3 := ⟨⟨_, _, Try.underlying51, rfl, rfl, rfl⟩⟩
instance : HasFld Try.prog 51 7 75 3 := ⟨⟨_, _, Try.underlying51, rfl, rfl, rfl⟩⟩
instance : HasFld Try.prog 51 8 76 9 := ⟨⟨_, _, Try.underlying51, rfl, rfl, rfl⟩⟩
instance : HasFld Try.prog 51 9 77 27 := ⟨⟨_, _, Try.underlying51, rfl, rfl, rfl⟩⟩
instance : HasFld Try.prog 51 10 78 3 := ⟨⟨_, _, Try.underlying51, rfl, rfl, rfl⟩⟩
instance : HasFld Try.prog 51 11 79 49 := ⟨⟨_, _, Try.underlying51, rfl, rfl, rfl⟩⟩
instance : HasPlaces Try.prog 51 [(0, 1), (1, 4), (5, 4), (9, 32), (41, 1), (42, 32), (74, 1), (75, 1), (76, 1), (77, 1), (78, 1), (79, 1)] := ⟨.inl ⟨_, Try.underlying51, fun w => by kernel_rfl⟩⟩
instance : HasFld Try.prog 64 0 0 27 := ⟨⟨_, _, Try.underlying64, rfl, rfl, rfl⟩⟩
instance : HasPlaces Try.prog 64 [(0, 1)] := ⟨.inl ⟨_, Try.underlying64, fun w => by kernel_rfl⟩⟩
instance : HasFld Try.prog 65 0 0 27 := ⟨⟨_, _, Try.underlying65, rfl, rfl, rfl⟩⟩
instance : HasPlaces Try.prog 65 [(0, 1)] := ⟨.inl ⟨_, Try.underlying65, fun w => by kernel_rfl⟩⟩
instance : HasFld Try.prog 71 0 0 27 := ⟨⟨_, _, Try.underlying71, rfl, rfl, rfl⟩⟩
instance : HasFld Try.prog 71 1 1 4 := ⟨⟨_, _, Try.underlying71, rfl, rfl, rfl⟩⟩
instance : HasPlaces Try.prog 71 [(0, 1), (1, 1)] := ⟨.inl ⟨_, Try.underlying71, fun w => by kernel_rfl⟩⟩
instance : HasFld Try.prog 72 0 0 27 := ⟨⟨_, _, Try.underlying72, rfl, rfl, rfl⟩⟩
instance : HasFld Try.prog 72 1 1 4 := ⟨⟨_, _, Try.underlying72, rfl, rfl, rfl⟩⟩
instance : HasPlaces Try.prog 72 [(0, 1), (1, 1)] := ⟨.inl ⟨_, Try.underlying72, fun w => by kernel_rfl⟩⟩
instance : HasArr Try.prog 88 20 5 := ⟨Try.underlying88⟩
instance : HasPlaces Try.prog 88 [(0, 1), (1, 1), (2, 1), (3, 1), (4, 1), (5, 1), (6, 1), (7, 1), (8, 1), (9, 1), (10, 1), (11, 1), (12, 1), (13, 1), (14, 1), (15, 1), (16, 1), (17, 1), (18, 1), (19, 1)] := ⟨.inr ⟨_, _, _, Try.underlying88, (show _ = some 1 by kernel_rfl), rfl⟩⟩
instance : HasArr Try.prog 89 20 5 := ⟨Try.underlying89⟩
instance : HasPlaces Try.prog 89 [(0, 1), (1, 1), (2, 1), (3, 1), (4, 1), (5, 1), (6, 1), (7, 1), (8, 1), (9, 1), (10, 1), (11, 1), (12, 1), (13, 1), (14, 1), (15, 1), (16, 1), (17, 1), (18, 1), (19, 1)] := ⟨.inr ⟨_, _, _, Try.underlying89, (show _ = some 1 by kernel_rfl), rfl⟩⟩
instance : HasFld Try.prog 93 0 0 4 := ⟨⟨_, _, Try.underlying93, rfl, rfl, rfl⟩⟩
instance : HasPlaces Try.prog 93 [(0, 1)] := ⟨.inl ⟨_, Try.underlying93, fun w => by kernel_rfl⟩⟩
instance : HasFld Try.prog 94 0 0 4 := ⟨⟨_, _, Try.underlying94, rfl, rfl, rfl⟩⟩
instance : HasPlaces Try.prog 94 [(0, 1)] := ⟨.inl ⟨_, Try.underlying94, fun w => by kernel_rfl⟩⟩
instance : HasPlaces Try.prog 95 [] := ⟨.inl ⟨_, Try.underlying95, fun w => by kernel_rfl⟩⟩
instance : HasPlaces Try.prog 96 [] := ⟨.inl ⟨_, Try.underlying96, fun w => by kernel_rfl⟩⟩
instance : HasPlaces Try.prog 97 [] := ⟨.inl ⟨_, Try.underlying97, fun w => by kernel_rfl⟩⟩
instance : HasArr Try.prog 102 0 16 := ⟨Try.underlying102⟩
instance : HasPlaces Try.prog 102 [] := ⟨.inr ⟨_, _, _, Try.underlying102, (show _ = some 1 by kernel_rfl), rfl⟩⟩
theorem eqd23 : EqD Try.prog 2 23 true ([.int .i64] ++ ([.int .i64] ++ ([.int .i64] ++ ([.str] ++ [])))) := by
  refine eqd_struct Try.underlying23 (by kernel_rfl) ?_
  refine EqF.cons _ _ 3 _ _ _ _ rfl ?_ rfl inferInstance (fun dp hdp => eqd3 dp ?_) rfl ?_ ?_
  · decide
  · omega
  · exact fun _ => rfl
  refine EqF.cons _ _ 3 _ _ _ _ rfl ?_ rfl inferInstance (fun dp hdp => eqd3 dp ?_) rfl ?_ ?_
  · decide
  · omega
  · exact fun _ => rfl
  refine EqF.cons _ _ 3 _ _ _ _ rfl ?_ rfl inferInstance (fun dp hdp => eqd3 dp ?_) rfl ?_ ?_
  · decide
  · omega
  · exact fun _ => rfl
  refine EqF.cons _ _ 9 _ _ _ _ rfl ?_ rfl inferInstance (fun dp hdp => eqd9 dp ?_) rfl ?_ ?_
  · decide
  · omega
  · exact fun _ => rfl
  exact EqF.nil _
instance : EqT Try.prog 23 true [.int .i64, .int .i64, .int .i64, .str] := ⟨⟨_, by decide, eqd23⟩, by kernel_rfl⟩
theorem eqd24 : EqD Try.prog 2 24 true ([.int .i64] ++ ([.int .i64] ++ ([.int .i64] ++ ([.str] ++ [])))) := by
  refine eqd_struct Try.underlying24 (by kernel_rfl) ?_
  refine EqF.cons _ _ 3 _ _ _ _ rfl ?_ rfl inferInstance (fun dp hdp => eqd3 dp ?_) rfl ?_ ?_
  · decide
  · omega
  · exact fun _ => rfl
  refine EqF.cons _ _ 3 _ _ _ _ rfl ?_ rfl inferInstance (fun dp hdp => eqd3 dp ?_) rfl ?_ ?_
  · decide
  · omega
  · exact fun _ => rfl
  refine EqF.cons _ _ 3 _ _ _ _ rfl ?_ rfl inferInstance (fun dp hdp => eqd3 dp ?_) rfl ?_ ?_
  · decide
  · omega
  · exact fun _ => rfl
  refine EqF.cons _ _ 9 _ _ _ _ rfl ?_ rfl inferInstance (fun dp hdp => eqd9 dp ?_) rfl ?_ ?_
  · decide
  · omega
  · exact fun _ => rfl
  exact EqF.nil _
instance : EqT Try.prog 24 true [.int .i64, .int .i64, .int .i64, .str] := ⟨⟨_, by decide, eqd24⟩, by kernel_rfl⟩
theorem eqd26 : EqD Try.prog 2 26 true [.int .u8, .int .u8, .int .u8, .int .u8, .int .u8, .int .u8, .int .u8, .int .u8, .int .u8, .int .u8, .int .u8, .int .u8, .int .u8, .int .u8, .int .u8, .int .u8, .int .u8, .int .u8, .int .u8, .int .u8, .int .u8, .int .u8, .int .u8, .int .u8, .int .u8, .int .u8, .int .u8, .int .u8, .int .u8, .int .u8, .int .u8, .int .u8] := eqd_arr (ks := [.int .u8]) Try.underlying26 eqd5 rfl (fun _ => rfl)
instance : EqT Try.prog 26 true [.int .u8, .int .u8, .int .u8, .int .u8, .int .u8, .int .u8, .int .u8, .int .u8, .int .u8, .int .u8, .int .u8, .int .u8, .int .u8, .int .u8, .int .u8, .int .u8, .int .u8, .int .u8, .int .u8, .int .u8, .int .u8, .int .u8, .int .u8, .int .u8, .int .u8, .int .u8, .int .u8, .int .u8, .int .u8, .int .u8, .int .u8, .int .u8] := ⟨⟨_, by decide, eqd26⟩, by kernel_rfl⟩
theorem eqd41 : EqD Try.prog 2 41 true [.int .u64, .int .u64, .int .u64, .int .u64] := eqd_arr (ks := [.int .u64]) Try.underlying41 eqd40 rfl (fun _ => rfl)
instance : EqT Try.prog 41 true [.int .u64, .int .u64, .int .u64, .int .u64] := ⟨⟨_, by decide, eqd41⟩, by kernel_rfl⟩
theorem eqd42 : EqD Try.prog 2 42 true [.int .u64, .int .u64, .int .u64, .int .u64] := eqd_arr (ks := [.int .u64]) Try.underlying42 eqd40 rfl (fun _ => rfl)
instance : EqT Try.prog 42 true [.int .u64, .int .u64, .int .u64, .int .u64] := ⟨⟨_, by decide, eqd42⟩, by kernel_rfl⟩
theorem eqd43 : EqD Try.prog 3 43 true ([.int .u64, .int .u64, .int .u64, .int .u64] ++ ([.int .u64, .int .u64, .int .u64, .int .u64] ++ ([.int .i64] ++ []))) := by
  refine eqd_struct Try.underlying43 (by kernel_rfl) ?_
  refine EqF.cons _ _ 42 _ _ _ _ rfl ?_ rfl inferInstance (fun dp hdp => eqd42 dp ?_) rfl ?_ ?_
  · decide
  · omega
  · exact fun h => by cases h
  refine EqF.cons _ _ 42 _ _ _ _ rfl ?_ rfl inferInstance (fun dp hdp => eqd42 dp ?_) rfl ?_ ?_
  · decide
  · omega
  · exact fun h => by cases h
  refine EqF.cons _ _ 3 _ _ _ _ rfl ?_ rfl inferInstance (fun dp hdp => eqd3 dp ?_) rfl ?_ ?_
  · decide
  · omega
  · exact fun _ => rfl
  exact EqF.nil _
instance : EqT Try.prog 43 true [.int .u64, .int .u64, .int .u64, .int .u64, .int .u64, .int .u64, .int .u64, .int .u64, .int .i64] := ⟨⟨_, by decide, eqd43⟩, by kernel_rfl⟩
theorem eqd44 : EqD Try.prog 3 44 true ([.int .u64, .int .u64, .int .u64, .int .u64] ++ ([.int .u64, .int .u64, .int .u64, .int .u64] ++ ([.int .i64] ++ []))) := by
  refine eqd_struct Try.underlying44 (by kernel_rfl) ?_
  refine EqF.cons _ _ 42 _ _ _ _ rfl ?_ rfl inferInstance (fun dp hdp => eqd42 dp ?_) rfl ?_ ?_
  · decide
  · omega
  · exact fun h => by cases h
  refine EqF.cons _ _ 42 _ _ _ _ rfl ?_ rfl inferInstance (fun dp hdp => eqd42 dp ?_) rfl ?_ ?_
  · decide
  · omega
  · exact fun h => by cases h
  refine EqF.cons _ _ 3 _ _ _ _ rfl ?_ rfl inferInstance (fun dp hdp => eqd3 dp ?_) rfl ?_ ?_
  · decide
  · omega
  · exact fun _ => rfl
  exact EqF.nil _
instance : EqT Try.prog 44 true [.int .u64, .int .u64, .int .u64, .int .u64, .int .u64, .int .u64, .int .u64, .int .u64, .int .i64] := ⟨⟨_, by decide, eqd44⟩, by kernel_rfl⟩
theorem eqd45 : EqD Try.prog 4 45 true ([.int .i64] ++ ([.int .u64, .int .u64, .int .u64, .int .u64, .int .u64, .int .u64, .int .u64, .int .u64, .int .i64] ++ [])) := by
  refine eqd_struct Try.underlying45 (by kernel_rfl) ?_
  refine EqF.cons _ _ 3 _ _ _ _ rfl ?_ rfl inferInstance (fun dp hdp => eqd3 dp ?_) rfl ?_ ?_
  · decide
  · omega
  · exact fun _ => rfl
  refine EqF.cons _ _ 44 _ _ _ _ rfl ?_ rfl inferInstance (fun dp hdp => eqd44 dp ?_) rfl ?_ ?_
  · decide
  · omega
  · exact fun h => by cases h
  exact EqF.nil _
instance : EqT Try.prog 45 true [.int .i64, .int .u64, .int .u64, .int .u64, .int .u64, .int .u64, .int .u64, .int .u64, .int .u64, .int .i64] := ⟨⟨_, by decide, eqd45⟩, by kernel_rfl⟩
theorem eqd46 : EqD Try.prog 4 46 true ([.int .i64] ++ ([.int .u64, .int .u64, .int .u64, .int .u64, .int .u64, .int .u64, .int .u64, .int .u64, .int .i64] ++ [])) := by
  refine eqd_struct Try.underlying46 (by kernel_rfl) ?_
  refine EqF.cons _ _ 3 _ _ _ _ rfl ?_ rfl inferInstance (fun dp hdp => eqd3 dp ?_) rfl ?_ ?_
  · decide
  · omega
  · exact fun _ => rfl
  refine EqF.cons _ _ 44 _ _ _ _ rfl ?_ rfl inferInstance (fun dp hdp => eqd44 dp ?_) rfl ?_ ?_
  · decide
  · omega
  · exact fun h => by cases h
  exact EqF.nil _
instance : EqT Try.prog 46 true [.int .i64, .int .u64, .int .u64, .int .u64, .int .u64, .int .u64, .int .u64, .int .u64, .int .u64, .int .i64] := ⟨⟨_, by decide, eqd46⟩, by kernel_rfl⟩
theorem eqd88 : EqD Try.prog 2 88 true [.int .u8, .int .u8, .int .u8, .int .u8, .int .u8, .int .u8, .int .u8, .int .u8, .int .u8, .int .u8, .int .u8, .int .u8, .int .u8, .int .u8, .int .u8, .int .u8, .int .u8, .int .u8, .int .u8, .int .u8] := eqd_arr (ks := [.int .u8]) Try.underlying88 eqd5 rfl (fun _ => rfl)
instance : EqT Try.prog 88 true [.int .u8, .int .u8, .int .u8, .int .u8, .int .u8, .int .u8, .int .u8, .int .u8, .int .u8, .int .u8, .int .u8, .int .u8, .int .u8, .int .u8, .int .u8, .int .u8, .int .u8, .int .u8, .int .u8, .int .u8] := ⟨⟨_, by decide, eqd88⟩, by kernel_rfl⟩
theorem eqd89 : EqD Try.prog 2 89 true [.int .u8, .int .u8, .int .u8, .int .u8, .int .u8, .int .u8, .int .u8, .int .u8, .int .u8, .int .u8, .int .u8, .int .u8, .int .u8, .int .u8, .int .u8, .int .u8, .int .u8, .int .u8, .int .u8, .int .u8] := eqd_arr (ks := [.int .u8]) Try.underlying89 eqd5 rfl (fun _ => rfl)
instance : EqT Try.prog 89 true [.int .u8, .int .u8, .int .u8, .int .u8, .int .u8, .int .u8, .int .u8, .int .u8, .int .u8, .int .u8, .int .u8, .int .u8, .int .u8, .int .u8, .int .u8, .int .u8, .int .u8, .int .u8, .int .u8, .int .u8] := ⟨⟨_, by decide, eqd89⟩, by kernel_rfl⟩
theorem eqd93 : EqD Try.prog 2 93 true ([.bool] ++ []) := by
  refine eqd_struct Try.underlying93 (by kernel_rfl) ?_
  refine EqF.cons _ _ 4 _ _ _ _ rfl ?_ rfl inferInstance (fun dp hdp => eqd4 dp ?_) rfl ?_ ?_
  · decide
  · omega
  · exact fun _ => rfl
  exact EqF.nil _
instance : EqT Try.prog 93 true [.bool] := ⟨⟨_, by decide, eqd93⟩, by kernel_rfl⟩
theorem eqd94 : EqD Try.prog 2 94 true ([.bool] ++ []) := by
  refine eqd_struct Try.underlying94 (by kernel_rfl) ?_
  refine EqF.cons _ _ 4 _ _ _ _ rfl ?_ rfl inferInstance (fun dp hdp => eqd4 dp ?_) rfl ?_ ?_
  · decide
  · omega
  · exact fun _ => rfl
  exact EqF.nil _
instance : EqT Try.prog 94 true [.bool] := ⟨⟨_, by decide, eqd94⟩, by kernel_rfl⟩
instance : HasFn Try.prog 3 := ⟨⟨_, Try.func3, by kernel_rfl, by kernel_rfl⟩⟩
instance : HasFn Try.prog 4 := ⟨⟨_, Try.func4, by kernel_rfl, by kernel_rfl⟩⟩
instance : HasFn Try.prog 5 := ⟨⟨_, Try.func5, by kernel_rfl, by kernel_rfl⟩⟩
instance : HasFn Try.prog 6 := ⟨⟨_, Try.func6, by kernel_rfl, by kernel_rfl⟩⟩
instance : HasFn Try.prog 7 := ⟨⟨_, Try.func7, by kernel_rfl, by kernel_rfl⟩⟩
instance : HasFn Try.prog 8 := ⟨⟨_, Try.func8, by kernel_rfl, by kernel_rfl⟩⟩
instance : HasFn Try.prog 9 := ⟨⟨_, Try.func9, by kernel_rfl, by kernel_rfl⟩⟩
instance : HasFn Try.prog 10 := ⟨⟨_, Try.func10, by kernel_rfl, by kernel_rfl⟩⟩
instance : HasFn Try.prog 11 := ⟨⟨_, Try.func11, by kernel_rfl, by kernel_rfl⟩⟩
instance : HasFn Try.prog 12 := ⟨⟨_, Try.func12, by kernel_rfl, by kernel_rfl⟩⟩
instance : HasFn Try.prog 13 := ⟨⟨_, Try.func13, by kernel_rfl, by kernel_rfl⟩⟩
instance : HasFn Try.prog 14 := ⟨⟨_, Try.func14, by kernel_rfl, by kernel_rfl⟩⟩
instance : HasFn Try.prog 15 := ⟨⟨_, Try.func15, by kernel_rfl, by kernel_rfl⟩⟩
instance : HasFn Try.prog 16 := ⟨⟨_, Try.func16, by kernel_rfl, by kernel_rfl⟩⟩
instance : HasFn Try.prog 17 := ⟨⟨_, Try.func17, by kernel_rfl, by kernel_rfl⟩⟩
instance : HasFn Try.prog 18 := ⟨⟨_, Try.func18, by kernel_rfl, by kernel_rfl⟩⟩
instance : HasFn Try.prog 19 := ⟨⟨_, Try.func19, by kernel_rfl, by kernel_rfl⟩⟩
instance : HasFn Try.prog 20 := ⟨⟨_, Try.func20, by kernel_rfl, by kernel_rfl⟩⟩
instance : HasFn Try.prog 21 := ⟨⟨_, Try.func21, by kernel_rfl, by kernel_rfl⟩⟩
instance : HasFn Try.prog 22 := ⟨⟨_, Try.func22, by kernel_rfl, by kernel_rfl⟩⟩
instance : HasFn Try.prog 23 := ⟨⟨_, Try.func23, by kernel_rfl, by kernel_rfl⟩⟩
instance : HasFn Try.prog 24 := ⟨⟨_, Try.func24, by kernel_rfl, by kernel_rfl⟩⟩
instance : HasFn Try.prog 25 := ⟨⟨_, Try.func25, by kernel_rfl, by kernel_rfl⟩⟩
instance : HasFn Try.prog 26 := ⟨⟨_, Try.func26, by kernel_rfl, by kernel_rfl⟩⟩
instance : HasFn Try.prog 27 := ⟨⟨_, Try.func27, by kernel_rfl, by kernel_rfl⟩⟩
instance : HasFn Try.prog 28 := ⟨⟨_, Try.func28, by kernel_rfl, by kernel_rfl⟩⟩
instance : HasFn Try.prog 29 := ⟨⟨_, Try.func29, by kernel_rfl, by kernel_rfl⟩⟩
instance : HasFn Try.prog 30 := ⟨⟨_, Try.func30, by kernel_rfl, by kernel_rfl⟩⟩
instance : HasFn Try.prog 31 := ⟨⟨_, Try.func31, by kernel_rfl, by kernel_rfl⟩⟩
instance : HasFn Try.prog 32 := ⟨⟨_, Try.func32, by kernel_rfl, by kernel_rfl⟩⟩
instance : HasFn Try.prog 33 := ⟨⟨_, Try.func33, by kernel_rfl, by kernel_rfl⟩⟩
instance : HasFn Try.prog 34 := ⟨⟨_, Try.func34, by kernel_rfl, by kernel_rfl⟩⟩
instance : HasFn Try.prog 35 := ⟨⟨_, Try.func35, by kernel_rfl, by kernel_rfl⟩⟩
instance : HasFn Try.prog 36 := ⟨⟨_, Try.func36, by kernel_rfl, by kernel_rfl⟩⟩
instance : HasFn Try.prog 37 := ⟨⟨_, Try.func37, by kernel_rfl, by kernel_rfl⟩⟩
instance : HasFn Try.prog 54 := ⟨⟨_, Try.func54, by kernel_rfl, by kernel_rfl⟩⟩
instance : HasFn Try.prog 55 := ⟨⟨_, Try.func55, by kernel_rfl, by kernel_rfl⟩⟩
instance : HasFn Try.prog 56 := ⟨⟨_, Try.func56, by kernel_rfl, by kernel_rfl⟩⟩
instance : HasFn Try.prog 57 := ⟨⟨_, Try.func57, by kernel_rfl, by kernel_rfl⟩⟩
instance : HasFn Try.prog 58 := ⟨⟨_, Try.func58, by kernel_rfl, by kernel_rfl⟩⟩
instance : HasFn Try.prog 59 := ⟨⟨_, Try.func59, by kernel_rfl, by kernel_rfl⟩⟩
instance : HasFn Try.prog 60 := ⟨⟨_, Try.func60, by kernel_rfl, by kernel_rfl⟩⟩
instance : HasFn Try.prog 61 := ⟨⟨_, Try.func61, by kernel_rfl, by kernel_rfl⟩⟩
instance : HasFn Try.prog 62 := ⟨⟨_, Try.func62, by kernel_rfl, by kernel_rfl⟩⟩
instance : HasFn Try.prog 63 := ⟨⟨_, Try.func63, by kernel_rfl, by kernel_rfl⟩⟩
instance : HasFn Try.prog 64 := ⟨⟨_, Try.func64, by kernel_rfl, by kernel_rfl⟩⟩
instance : HasFn Try.prog 65 := ⟨⟨_, Try.func65, by kernel_rfl, by kernel_rfl⟩⟩
instance : HasFn Try.prog 66 := ⟨⟨_, Try.func66, by kernel_rfl, by kernel_rfl⟩⟩
instance : HasFn Try.prog 67 := ⟨⟨_, Try.func67, by kernel_rfl, by kernel_rfl⟩⟩
instance : HasFn Try.prog 68 := ⟨⟨_, Try.func68, by kernel_rfl, by kernel_rfl⟩⟩
instance : HasFn Try.prog 69 := ⟨⟨_, Try.func69, by kernel_rfl, by kernel_rfl⟩⟩

end Go.Proofs.Ytbpaimfnfigjpaa
