/- The rows of this program's types and functions, as instances. No conditions. -/
import Derived.Test.YtbljcgdehihlgaaDOp2
import Derived.Test.YtbljcgdehihlgaaDK2
namespace Go.Proofs.Ytbljcgdehihlgaa
open Go.RowKit
set_option linter.unusedVariables false
set_option maxRecDepth 100000
theorem mixed : Try.prog.follows .mixedOrders = true := by kernel_rfl
instance : HasTy Try.prog 2 ⟨false, 1, [.int .i64 0]⟩ := ⟨⟨_, Try.underlying2, rfl⟩, by kernel_rfl, ⟨.int .i64 0, [.int .i64 0], by kernel_rfl, rfl, ⟨rfl, trivial⟩⟩⟩
instance : HasInt Try.prog 2 .i64 := ⟨Try.underlying2⟩
theorem eqd2 : EqD Try.prog 1 2 false [.int .i64] := eqd_int Try.underlying2
instance : HasTy Try.prog 3 ⟨false, 1, [.int .i64 0]⟩ := ⟨⟨_, Try.underlying3, rfl⟩, by kernel_rfl, ⟨.int .i64 0, [.int .i64 0], by kernel_rfl, rfl, ⟨rfl, trivial⟩⟩⟩
instance : HasInt Try.prog 3 .i64 := ⟨Try.underlying3⟩
theorem eqd3 : EqD Try.prog 1 3 false [.int .i64] := eqd_int Try.underlying3
instance : HasTy Try.prog 4 ⟨false, 1, [.bool false]⟩ := ⟨⟨_, Try.underlying4, rfl⟩, by kernel_rfl, ⟨.bool false, [.bool false], by kernel_rfl, rfl, ⟨rfl, trivial⟩⟩⟩
theorem eqd4 : EqD Try.prog 1 4 false [.bool] := eqd_bool Try.underlying4
instance : HasTy Try.prog 12 ⟨false, 1, [.int .u64 0]⟩ := ⟨⟨_, Try.underlying12, rfl⟩, by kernel_rfl, ⟨.int .u64 0, [.int .u64 0], by kernel_rfl, rfl, ⟨rfl, trivial⟩⟩⟩
instance : HasInt Try.prog 12 .u64 := ⟨Try.underlying12⟩
theorem eqd12 : EqD Try.prog 1 12 false [.int .u64] := eqd_int Try.underlying12
instance : HasTy Try.prog 15 ⟨false, 1, [.raw (.pointer none)]⟩ := ⟨⟨_, Try.underlying15, rfl⟩, by kernel_rfl, ⟨.pointer none, [.pointer none], by kernel_rfl, rfl, ⟨rfl, trivial⟩⟩⟩
instance : HasTy Try.prog 16 ⟨false, 1, [.raw (.pointer none)]⟩ := ⟨⟨_, Try.underlying16, rfl⟩, by kernel_rfl, ⟨.pointer none, [.pointer none], by kernel_rfl, rfl, ⟨rfl, trivial⟩⟩⟩
instance : HasTy Try.prog 17 ⟨false, 1, [.raw (.pointer none)]⟩ := ⟨⟨_, Try.underlying17, rfl⟩, by kernel_rfl, ⟨.pointer none, [.pointer none], by kernel_rfl, rfl, ⟨rfl, trivial⟩⟩⟩
instance : HasTy Try.prog 22 ⟨false, 1, [.int .u64 0]⟩ := ⟨⟨_, Try.underlying22, rfl⟩, by kernel_rfl, ⟨.int .u64 0, [.int .u64 0], by kernel_rfl, rfl, ⟨rfl, trivial⟩⟩⟩
instance : HasInt Try.prog 22 .u64 := ⟨Try.underlying22⟩
theorem eqd22 : EqD Try.prog 1 22 false [.int .u64] := eqd_int Try.underlying22
instance : HasTy Try.prog 23 ⟨true, 4, [.int .u64 0, .int .u64 0, .int .u64 0, .int .u64 0]⟩ := ⟨⟨_, Try.underlying23, rfl⟩, by kernel_rfl, ⟨.agg #[.int .u64 0, .int .u64 0, .int .u64 0, .int .u64 0], [.int .u64 0, .int .u64 0, .int .u64 0, .int .u64 0], by kernel_rfl, rfl, ⟨rfl, rfl, rfl, rfl, trivial⟩⟩⟩
instance : HasTy Try.prog 24 ⟨true, 4, [.int .u64 0, .int .u64 0, .int .u64 0, .int .u64 0]⟩ := ⟨⟨_, Try.underlying24, rfl⟩, by kernel_rfl, ⟨.agg #[.int .u64 0, .int .u64 0, .int .u64 0, .int .u64 0], [.int .u64 0, .int .u64 0, .int .u64 0, .int .u64 0], by kernel_rfl, rfl, ⟨rfl, rfl, rfl, rfl, trivial⟩⟩⟩
instance : HasTy Try.prog 25 ⟨true, 9, [.int .u64 0, .int .u64 0, .int .u64 0, .int .u64 0, .int .u64 0, .int .u64 0, .int .u64 0, .int .u64 0, .bool false]⟩ := ⟨⟨_, Try.underlying25, rfl⟩, by kernel_rfl, ⟨.agg #[.int .u64 0, .int .u64 0, .int .u64 0, .int .u64 0, .int .u64 0, .int .u64 0, .int .u64 0, .int .u64 0, .bool false], [.int .u64 0, .int .u64 0, .int .u64 0, .int .u64 0, .int .u64 0, .int .u64 0, .int .u64 0, .int .u64 0, .bool false], by kernel_rfl, rfl, ⟨rfl, rfl, rfl, rfl, rfl, rfl, rfl, rfl, rfl, trivial⟩⟩⟩
instance : HasTy Try.prog 26 ⟨true, 9, [.int .u64 0, .int .u64 0, .int .u64 0, .int .u64 0, .int .u64 0, .int .u64 0, .int .u64 0, .int .u64 0, .bool false]⟩ := ⟨⟨_, Try.underlying26, rfl⟩, by kernel_rfl, ⟨.agg #[.int .u64 0, .int .u64 0, .int .u64 0, .int .u64 0, .int .u64 0, .int .u64 0, .int .u64 0, .int .u64 0, .bool false], [.int .u64 0, .int .u64 0, .int .u64 0, .int .u64 0, .int .u64 0, .int .u64 0, .int .u64 0, .int .u64 0, .bool false], by kernel_rfl, rfl, ⟨rfl, rfl, rfl, rfl, rfl, rfl, rfl, rfl, rfl, trivial⟩⟩⟩
instance : HasTy Try.prog 27 ⟨true, 25, [.int .u64 0, .int .u64 0, .int .u64 0, .int .u64 0, .int .u64 0, .int .u64 0, .int .u64 0, .int .u64 0, .int .u64 0, .int .u64 0, .int .u64 0, .int .u64 0, .int .u64 0, .int .u64 0, .int .u64 0, .int .u64 0, .int .u64 0, .int .u64 0, .int .u64 0, .int .u64 0, .int .u64 0, .int .u64 0, .int .u64 0, .int .u64 0, .bool false]⟩ := ⟨⟨_, Try.underlying27, rfl⟩, by kernel_rfl, ⟨.agg #[.int .u64 0, .int .u64 0, .int .u64 0, .int .u64 0, .int .u64 0, .int .u64 0, .int .u64 0, .int .u64 0, .int .u64 0, .int .u64 0, .int .u64 0, .int .u64 0, .int .u64 0, .int .u64 0, .int .u64 0, .int .u64 0, .int .u64 0, .int .u64 0, .int .u64 0, .int .u64 0, .int .u64 0, .int .u64 0, .int .u64 0, .int .u64 0, .bool false], [.int .u64 0, .int .u64 0, .int .u64 0, .int .u64 0, .int .u64 0, .int .u64 0, .int .u64 0, .int .u64 0, .int .u64 0, .int .u64 0, .int .u64 0, .int .u64 0, .int .u64 0, .int .u64 0, .int .u64 0, .int .u64 0, .int .u64 0, .int .u64 0, .int .u64 0, .int .u64 0, .int .u64 0, .int .u64 0, .int .u64 0, .int .u64 0, .bool false], by kernel_rfl, rfl, ⟨rfl, rfl, rfl, rfl, rfl, rfl, rfl, rfl, rfl, rfl, rfl, rfl, rfl, rfl, rfl, rfl, rfl, rfl, rfl, rfl, rfl, rfl, rfl, rfl, rfl, trivial⟩⟩⟩
instance : HasTy Try.prog 28 ⟨true, 25, [.int .u64 0, .int .u64 0, .int .u64 0, .int .u64 0, .int .u64 0, .int .u64 0, .int .u64 0, .int .u64 0, .int .u64 0, .int .u64 0, .int .u64 0, .int .u64 0, .int .u64 0, .int .u64 0, .int .u64 0, .int .u64 0, .int .u64 0, .int .u64 0, .int .u64 0, .int .u64 0, .int .u64 0, .int .u64 0, .int .u64 0, .int .u64 0, .bool false]⟩ := ⟨⟨_, Try.underlying28, rfl⟩, by kernel_rfl, ⟨.agg #[.int .u64 0, .int .u64 0, .int .u64 0, .int .u64 0, .int .u64 0, .int .u64 0, .int .u64 0, .int .u64 0, .int .u64 0, .int .u64 0, .int .u64 0, .int .u64 0, .int .u64 0, .int .u64 0, .int .u64 0, .int .u64 0, .int .u64 0, .int .u64 0, .int .u64 0, .int .u64 0, .int .u64 0, .int .u64 0, .int .u64 0, .int .u64 0, .bool false], [.int .u64 0, .int .u64 0, .int .u64 0, .int .u64 0, .int .u64 0, .int .u64 0, .int .u64 0, .int .u64 0, .int .u64 0, .int .u64 0, .int .u64 0, .int .u64 0, .int .u64 0, .int .u64 0, .int .u64 0, .int .u64 0, .int .u64 0, .int .u64 0, .int .u64 0, .int .u64 0, .int .u64 0, .int .u64 0, .int .u64 0, .int .u64 0, .bool false], by kernel_rfl, rfl, ⟨rfl, rfl, rfl, rfl, rfl, rfl, rfl, rfl, rfl, rfl, rfl, rfl, rfl, rfl, rfl, rfl, rfl, rfl, rfl, rfl, rfl, rfl, rfl, rfl, rfl, trivial⟩⟩⟩
instance : HasTy Try.prog 32 ⟨false, 1, [.int .i64 0]⟩ := ⟨⟨_, Try.underlying32, rfl⟩, by kernel_rfl, ⟨.int .i64 0, [.int .i64 0], by kernel_rfl, rfl, ⟨rfl, trivial⟩⟩⟩
instance : HasInt Try.prog 32 .i64 := ⟨Try.underlying32⟩
theorem eqd32 : EqD Try.prog 1 32 false [.int .i64] := eqd_int Try.underlying32
instance : HasTy Try.prog 39 ⟨false, 1, [.slice .tight 0 []]⟩ := ⟨⟨_, Try.underlying39, rfl⟩, by kernel_rfl, ⟨.slice none 0 0, [.slice none 0 0], by kernel_rfl, rfl, ⟨rfl, trivial⟩⟩⟩
instance : HasSl Try.prog 39 24 := ⟨Try.underlying39⟩
instance : HasTy Try.prog 47 ⟨true, 4, [.int .i64 0, .int .i64 0, .int .i64 0, .str ⟨#[]⟩]⟩ := ⟨⟨_, Try.underlying47, rfl⟩, by kernel_rfl, ⟨.agg #[.int .i64 0, .int .i64 0, .int .i64 0, .string ⟨#[]⟩], [.int .i64 0, .int .i64 0, .int .i64 0, .string ⟨#[]⟩], by kernel_rfl, rfl, ⟨rfl, rfl, rfl, rfl, trivial⟩⟩⟩
instance : HasTy Try.prog 48 ⟨true, 4, [.int .i64 0, .int .i64 0, .int .i64 0, .str ⟨#[]⟩]⟩ := ⟨⟨_, Try.underlying48, rfl⟩, by kernel_rfl, ⟨.agg #[.int .i64 0, .int .i64 0, .int .i64 0, .string ⟨#[]⟩], [.int .i64 0, .int .i64 0, .int .i64 0, .string ⟨#[]⟩], by kernel_rfl, rfl, ⟨rfl, rfl, rfl, rfl, trivial⟩⟩⟩
instance : HasTy Try.prog 55 ⟨true, 200, [.int .u64 0, .int .u64 0, .int .u64 0, .int .u64 0, .int .u64 0, .int .u64 0, .int .u64 0, .int .u64 0, .int .u64 0, .int .u64 0, .int .u64 0, .int .u64 0, .int .u64 0, .int .u64 0, .int .u64 0, .int .u64 0, .int .u64 0, .int .u64 0, .int .u64 0, .int .u64 0, .int .u64 0, .int .u64 0, .int .u64 0, .int .u64 0, .bool false, .int .u64 0, .int .u64 0, .int .u64 0, .int .u64 0, .int .u64 0, .int .u64 0, .int .u64 0, .int .u64 0, .int .u64 0, .int .u64 0, .int .u64 0, .int .u64 0, .int .u64 0, .int .u64 0, .int .u64 0, .int .u64 0, .int .u64 0, .int .u64 0, .int .u64 0, .int .u64 0, .int .u64 0, .int .u64 0, .int .u64 0, .int .u64 0, .bool false, .int .u64 0, .int .u64 0, .int .u64 0, .int .u64 0, .int .u64 0, .int .u64 0, .int .u64 0, .int .u64 0, .int .u64 0, .int .u64 0, .int .u64 0, .int .u64 0, .int .u64 0, .int .u64 0, .int .u64 0, .int .u64 0, .int .u64 0, .int .u64 0, .int .u64 0, .int .u64 0, .int .u64 0, .int .u64 0, .int .u64 0, .int .u64 0, .bool false, .int .u64 0, .int .u64 0, .int .u64 0, .int .u64 0, .int .u64 0, .int .u64 0, .int .u64 0, .int .u64 0, .int .u64 0, .int .u64 0, .int .u64 0, .int .u64 0, .int .u64 0, .int .u64 0, .int .u64 0, .int .u64 0, .int .u64 0, .int .u64 0, .int .u64 0, .int .u64 0, .int .u64 0, .int .u64 0, .int .u64 0, .int .u64 0, .bool false, .int .u64 0, .int .u64 0, .int .u64 0, .int .u64 0, .int .u64 0, .int .u64 0, .int .u64 0, .int .u64 0, .int .u64 0, .int .u64 0, .int .u64 0, .int .u64 0, .int .u64 0, .int .u64 0, .int .u64 0, .int .u64 0, .int .u64 0, .int .u64 0, .int .u64 0, .int .u64 0, .int .u64 0, .int .u64 0, .int .u64 0, .int .u64 0, .bool false, .int .u64 0, .int .u64 0, .int .u64 0, .int .u64 0, .int .u64 0, .int .u64 0, .int .u64 0, .int .u64 0, .int .u64 0, .int .u64 0, .int .u64 0, .int .u64 0, .int .u64 0, .int .u64 0, .int .u64 0, .int .u64 0, .int .u64 0, .int .u64 0, .int .u64 0, .int .u64 0, .int .u64 0, .int .u64 0, .int .u64 0, .int .u64 0, .bool false, .int .u64 0, .int .u64 0, .int .u64 0, .int .u64 0, .int .u64 0, .int .u64 0, .int .u64 0, .int .u64 0, .int .u64 0, .int .u64 0, .int .u64 0, .int .u64 0, .int .u64 0, .int .u64 0, .int .u64 0, .int .u64 0, .int .u64 0, .int .u64 0, .int .u64 0, .int .u64 0, .int .u64 0, .int .u64 0, .int .u64 0, .int .u64 0, .bool false, .int .u64 0, .int .u64 0, .int .u64 0, .int .u64 0, .int .u64 0, .int .u64 0, .int .u64 0, .int .u64 0, .int .u64 0, .int .u64 0, .int .u64 0, .int .u64 0, .int .u64 0, .int .u64 0, .int .u64 0, .int .u64 0, .int .u64 0, .int .u64 0, .int .u64 0, .int .u64 0, .int .u64 0, .int .u64 0, .int .u64 0, .int .u64 0, .bool false]⟩ := ⟨⟨_, Try.underlying55, rfl⟩, by kernel_rfl, ⟨.agg #[.int .u64 0, .int .u64 0, .int .u64 0, .int .u64 0, .int .u64 0, .int .u64 0, .int .u64 0, .int .u64 0, .int .u64 0, .int .u64 0, .int .u64 0, .int .u64 0, .int .u64 0, .int .u64 0, .int .u64 0, .int .u64 0, .int .u64 0, .int .u64 0, .int .u64 0, .int .u64 0, .int .u64 0, .int .u64 0, .int .u64 0, .int .u64 0, .bool false, .int .u64 0, .int .u64 0, .int .u64 0, .int .u64 0, .int .u64 0, .int .u64 0, .int .u64 0, .int .u64 0, .int .u64 0, .int .u64 0, .int .u64 0, .int .u64 0, .int .u64 0, .int .u64 0, .int .u64 0, .int .u64 0, .int .u64 0, .int .u64 0, .int .u64 0, .int .u64 0, .int .u64 0, .int .u64 0, .int .u64 0, .int .u64 0, .bool false, .int .u64 0, .int .u64 0, .int .u64 0, .int .u64 0, .int .u64 0, .int .u64 0, .int .u64 0, .int .u64 0, .int .u64 0, .int .u64 0, .int .u64 0, .int .u64 0, .int .u64 0, .int .u64 0, .int .u64 0, .int .u64 0, .int .u64 0, .int .u64 0, .int .u64 0, .int .u64 0, .int .u64 0, .int .u64 0, .int .u64 0, .int .u64 0, .bool false, .int .u64 0, .int .u64 0, .int .u64 0, .int .u64 0, .int .u64 0, .int .u64 0, .int .u64 0, .int .u64 0, .int .u64 0, .int .u64 0, .int .u64 0, .int .u64 0, .int .u64 0, .int .u64 0, .int .u64 0, .int .u64 0, .int .u64 0, .int .u64 0, .int .u64 0, .int .u64 0, .int .u64 0, .int .u64 0, .int .u64 0, .int .u64 0, .bool false, .int .u64 0, .int .u64 0, .int .u64 0, .int .u64 0, .int .u64 0, .int .u64 0, .int .u64 0, .int .u64 0, .int .u64 0, .int .u64 0, .int .u64 0, .int .u64 0, .int .u64 0, .int .u64 0, .int .u64 0, .int .u64 0, .int .u64 0, .int .u64 0, .int .u64 0, .int .u64 0, .int .u64 0, .int .u64 0, .int .u64 0, .int .u64 0, .bool false, .int .u64 0, .int .u64 0, .int .u64 0, .int .u64 0, .int .u64 0, .int .u64 0, .int .u64 0, .int .u64 0, .int .u64 0, .int .u64 0, .int .u64 0, .int .u64 0, .int .u64 0, .int .u64 0, .int .u64 0, .int .u64 0, .int .u64 0, .int .u64 0, .int .u64 0, .int .u64 0, .int .u64 0, .int .u64 0, .int .u64 0, .int .u64 0, .bool false, .int .u64 0, .int .u64 0, .int .u64 0, .int .u64 0, .int .u64 0, .int .u64 0, .int .u64 0, .int .u64 0, .int .u64 0, .int .u64 0, .int .u64 0, .int .u64 0, .int .u64 0, .int .u64 0, .int .u64 0, .int .u64 0, .int .u64 0, .int .u64 0, .int .u64 0, .int .u64 0, .int .u64 0, .int .u64 0, .int .u64 0, .int .u64 0, .bool false, .int .u64 0, .int .u64 0, .int .u64 0, .int .u64 0, .int .u64 0, .int .u64 0, .int .u64 0, .int .u64 0, .int .u64 0, .int .u64 0, .int .u64 0, .int .u64 0, .int .u64 0, .int .u64 0, .int .u64 0, .int .u64 0, .int .u64 0, .int .u64 0, .int .u64 0, .int .u64 0, .int .u64 0, .int .u64 0, .int .u64 0, .int .u64 0, .bool false], [.int .u64 0, .int .u64 0, .int .u64 0, .int .u64 0, .int .u64 0, .int .u64 0, .int .u64 0, .int .u64 0, .int .u64 0, .int .u64 0, .int .u64 0, .int .u64 0, .int .u64 0, .int .u64 0, .int .u64 0, .int .u64 0, .int .u64 0, .int .u64 0, .int .u64 0, .int .u64 0, .int .u64 0, .int .u64 0, .int .u64 0, .int .u64 0, .bool false, .int .u64 0, .int .u64 0, .int .u64 0, .int .u64 0, .int .u64 0, .int .u64 0, .int .u64 0, .int .u64 0, .int .u64 0, .int .u64 0, .int .u64 0, .int .u64 0, .int .u64 0, .int .u64 0, .int .u64 0, .int .u64 0, .int .u64 0, .int .u64 0, .int .u64 0, .int .u64 0, .int .u64 0, .int .u64 0, .int .u64 0, .int .u64 0, .bool false, .int .u64 0, .int .u64 0, .int .u64 0, .int .u64 0, .int .u64 0, .int .u64 0, .int .u64 0, .int .u64 0, .int .u64 0, .int .u64 0, .int .u64 0, .int .u64 0, .int .u64 0, .int .u64 0, .int .u64 0, .int .u64 0, .int .u64 0, .int .u64 0, .int .u64 0, .int .u64 0, .int .u64 0, .int .u64 0, .int .u64 0, .int .u64 0, .bool false, .int .u64 0, .int .u64 0, .int .u64 0, .int .u64 0, .int .u64 0, .int .u64 0, .int .u64 0, .int .u64 0, .int .u64 0, .int .u64 0, .int .u64 0, .int .u64 0, .int .u64 0, .int .u64 0, .int .u64 0, .int .u64 0, .int .u64 0, .int .u64 0, .int .u64 0, .int .u64 0, .int .u64 0, .int .u64 0, .int .u64 0, .int .u64 0, .bool false, .int .u64 0, .int .u64 0, .int .u64 0, .int .u64 0, .int .u64 0, .int .u64 0, .int .u64 0, .int .u64 0, .int .u64 0, .int .u64 0, .int .u64 0, .int .u64 0, .int .u64 0, .int .u64 0, .int .u64 0, .int .u64 0, .int .u64 0, .int .u64 0, .int .u64 0, .int .u64 0, .int .u64 0, .int .u64 0, .int .u64 0, .int .u64 0, .bool false, .int .u64 0, .int .u64 0, .int .u64 0, .int .u64 0, .int .u64 0, .int .u64 0, .int .u64 0, .int .u64 0, .int .u64 0, .int .u64 0, .int .u64 0, .int .u64 0, .int .u64 0, .int .u64 0, .int .u64 0, .int .u64 0, .int .u64 0, .int .u64 0, .int .u64 0, .int .u64 0, .int .u64 0, .int .u64 0, .int .u64 0, .int .u64 0, .bool false, .int .u64 0, .int .u64 0, .int .u64 0, .int .u64 0, .int .u64 0, .int .u64 0, .int .u64 0, .int .u64 0, .int .u64 0, .int .u64 0, .int .u64 0, .int .u64 0, .int .u64 0, .int .u64 0, .int .u64 0, .int .u64 0, .int .u64 0, .int .u64 0, .int .u64 0, .int .u64 0, .int .u64 0, .int .u64 0, .int .u64 0, .int .u64 0, .bool false, .int .u64 0, .int .u64 0, .int .u64 0, .int .u64 0, .int .u64 0, .int .u64 0, .int .u64 0, .int .u64 0, .int .u64 0, .int .u64 0, .int .u64 0, .int .u64 0, .int .u64 0, .int .u64 0, .int .u64 0, .int .u64 0, .int .u64 0, .int .u64 0, .int .u64 0, .int .u64 0, .int .u64 0, .int .u64 0, .int .u64 0, .int .u64 0, .bool false], by kernel_rfl, rfl, ⟨rfl, rfl, rfl, rfl, rfl, rfl, rfl, rfl, rfl, rfl, rfl, rfl, rfl, rfl, rfl, rfl, rfl, rfl, rfl, rfl, rfl, rfl, rfl, rfl, rfl, rfl, rfl, rfl, rfl, rfl, rfl, rfl, rfl, rfl, rfl, rfl, rfl, rfl, rfl, rfl, rfl, rfl, rfl, rfl, rfl, rfl, rfl, rfl, rfl, rfl, rfl, rfl, rfl, rfl, rfl, rfl, rfl, rfl, rfl, rfl, rfl, rfl, rfl, rfl, rfl, rfl, rfl, rfl, rfl, rfl, rfl, rfl, rfl, rfl, rfl, rfl, rfl, rfl, rfl, rfl, rfl, rfl, rfl, rfl, rfl, rfl, rfl, rfl, rfl, rfl, rfl, rfl, rfl, rfl, rfl, rfl, rfl, rfl, rfl, rfl, rfl, rfl, rfl, rfl, rfl, rfl, rfl, rfl, rfl, rfl, rfl, rfl, rfl, rfl, rfl, rfl, rfl, rfl, rfl, rfl, rfl, rfl, rfl, rfl, rfl, rfl, rfl, rfl, rfl, rfl, rfl, rfl, rfl, rfl, rfl, rfl, rfl, rfl, rfl, rfl, rfl, rfl, rfl, rfl, rfl, rfl, rfl, rfl, rfl, rfl, rfl, rfl, rfl, rfl, rfl, rfl, rfl, rfl, rfl, rfl, rfl, rfl, rfl, rfl, rfl, rfl, rfl, rfl, rfl, rfl, rfl, rfl, rfl, rfl, rfl, rfl, rfl, rfl, rfl, rfl, rfl, rfl, rfl, rfl, rfl, rfl, rfl, rfl, rfl, rfl, rfl, rfl, rfl, rfl, rfl, rfl, rfl, rfl, rfl, rfl, trivial⟩⟩⟩
instance : HasTy Try.prog 68 ⟨false, 1, [.raw (.pointer none)]⟩ := ⟨⟨_, Try.underlying68, rfl⟩, by kernel_rfl, ⟨.pointer none, [.pointer none], by kernel_rfl, rfl, ⟨rfl, trivial⟩⟩⟩
instance : HasTy Try.prog 69 ⟨true, 5, [.int .u64 0, .int .u64 0, .int .u64 0, .int .u64 0, .raw (.pointer none)]⟩ := ⟨⟨_, Try.underlying69, rfl⟩, by kernel_rfl, ⟨.agg #[.int .u64 0, .int .u64 0, .int .u64 0, .int .u64 0, .pointer none], [.int .u64 0, .int .u64 0, .int .u64 0, .int .u64 0, .pointer none], by kernel_rfl, rfl, ⟨rfl, rfl, rfl, rfl, rfl, trivial⟩⟩⟩
instance : HasTy Try.prog 70 ⟨true, 5, [.int .u64 0, .int .u64 0, .int .u64 0, .int .u64 0, .raw (.pointer none)]⟩ := ⟨⟨_, Try.underlying70, rfl⟩, by kernel_rfl, ⟨.agg #[.int .u64 0, .int .u64 0, .int .u64 0, .int .u64 0, .pointer none], [.int .u64 0, .int .u64 0, .int .u64 0, .int .u64 0, .pointer none], by kernel_rfl, rfl, ⟨rfl, rfl, rfl, rfl, rfl, trivial⟩⟩⟩
instance : HasTy Try.prog 74 ⟨false, 1, [.slice .tight 0 []]⟩ := ⟨⟨_, Try.underlying74, rfl⟩, by kernel_rfl, ⟨.slice none 0 0, [.slice none 0 0], by kernel_rfl, rfl, ⟨rfl, trivial⟩⟩⟩
instance : HasSl Try.prog 74 26 := ⟨Try.underlying74⟩
instance : HasTy Try.prog 85 ⟨false, 1, [.int .u64 0]⟩ := ⟨⟨_, Try.underlying85, rfl⟩, by kernel_rfl, ⟨.int .u64 0, [.int .u64 0], by kernel_rfl, rfl, ⟨rfl, trivial⟩⟩⟩
instance : HasInt Try.prog 85 .u64 := ⟨Try.underlying85⟩
theorem eqd85 : EqD Try.prog 1 85 false [.int .u64] := eqd_int Try.underlying85
instance : HasTy Try.prog 89 ⟨true, 0, []⟩ := ⟨⟨_, Try.underlying89, rfl⟩, by kernel_rfl, ⟨.agg #[], [], by kernel_rfl, rfl, trivial⟩⟩
instance : HasTy Try.prog 93 ⟨false, 1, [.int .u32 0]⟩ := ⟨⟨_, Try.underlying93, rfl⟩, by kernel_rfl, ⟨.int .u32 0, [.int .u32 0], by kernel_rfl, rfl, ⟨rfl, trivial⟩⟩⟩
instance : HasInt Try.prog 93 .u32 := ⟨Try.underlying93⟩
theorem eqd93 : EqD Try.prog 1 93 false [.int .u32] := eqd_int Try.underlying93
instance : HasTy Try.prog 97 ⟨false, 1, [.raw (.pointer none)]⟩ := ⟨⟨_, Try.underlying97, rfl⟩, by kernel_rfl, ⟨.pointer none, [.pointer none], by kernel_rfl, rfl, ⟨rfl, trivial⟩⟩⟩
instance : HasArr Try.prog 23 4 22 := ⟨Try.underlying23⟩
instance : HasPlaces Try.prog 23 [(0, 1), (1, 1), (2, 1), (3, 1)] := ⟨.inr ⟨_, _, _, Try.underlying23, (show _ = some 1 by kernel_rfl), rfl⟩⟩
instance : HasArr Try.prog 24 4 22 := ⟨Try.underlying24⟩
instance : HasPlaces Try.prog 24 [(0, 1), (1, 1), (2, 1), (3, 1)] := ⟨.inr ⟨_, _, _, Try.underlying24, (show _ = some 1 by kernel_rfl), rfl⟩⟩
instance : HasFld Try.prog 25 0 0 24 := ⟨⟨_, _, Try.underlying25, rfl, rfl, rfl⟩⟩
instance : HasFld Try.prog 25 1 4 24 := ⟨⟨_, _, Try.underlying25, rfl, rfl, rfl⟩⟩
instance : HasFld Try.prog 25 2 8 4 := ⟨⟨_, _, Try.underlying25, rfl, rfl, rfl⟩⟩
instance : HasPlaces Try.prog 25 [(0, 4), (4, 4), (8, 1)] := ⟨.inl ⟨_, Try.underlying25, fun w => by kernel_rfl⟩⟩
instance : HasFld Try.prog 26 0 0 24 := ⟨⟨_, _, Try.underlying26, rfl, rfl, rfl⟩⟩
instance : HasFld Try.prog 26 1 4 24 := ⟨⟨_, _, Try.underlying26, rfl, rfl, rfl⟩⟩
instance : HasFld Try.prog 26 2 8 4 := ⟨⟨_, _, Try.underlying26, rfl, rfl, rfl⟩⟩
instance : HasPlaces Try.prog 26 [(0, 4), (4, 4), (8, 1)] := ⟨.inl ⟨_, Try.underlying26, fun w => by kernel_rfl⟩⟩
instance : HasFld Try.prog 27 0 0 24 := ⟨⟨_, _, Try.underlying27, rfl, rfl, rfl⟩⟩
instance : HasFld Try.prog 27 1 4 24 := ⟨⟨_, _, Try.underlying27, rfl, rfl, rfl⟩⟩
instance : HasFld Try.prog 27 2 8 24 := ⟨⟨_, _, Try.underlying27, rfl, rfl, rfl⟩⟩
instance : HasFld Try.prog 27 3 12 24 := ⟨⟨_, _, Try.underlying27, rfl, rfl, rfl⟩⟩
instance : HasFld Try.prog 27 4 16 26 := ⟨⟨_, _, Try.underlying27, rfl, rfl, rfl⟩⟩
instance : HasPlaces Try.prog 27 [(0, 4), (4, 4), (8, 4), (12, 4), (16, 9)] := ⟨.inl ⟨_, Try.underlying27, fun w => by kernel_rfl⟩⟩
instance : HasFld Try.prog 28 0 0 24 := ⟨⟨_, _, Try.underlying28, rfl, rfl, rfl⟩⟩
instance : HasFld Try.prog 28 1 4 24 := ⟨⟨_, _, Try.underlying28, rfl, rfl, rfl⟩⟩
instance : HasFld Try.prog 28 2 8 24 := ⟨⟨_, _, Try.underlying28, rfl, rfl, rfl⟩⟩
instance : HasFld Try.prog 28 3 12 24 := ⟨⟨_, _, Try.underlying28, rfl, rfl, rfl⟩⟩
instance : HasFld Try.prog 28 4 16 26 := ⟨⟨_, _, Try.underlying28, rfl, rfl, rfl⟩⟩
instance : HasPlaces Try.prog 28 [(0, 4), (4, 4), (8, 4), (12, 4), (16, 9)] := ⟨.inl ⟨_, Try.underlying28, fun w => by kernel_rfl⟩⟩
instance : HasFld Try.prog 47 0 0 3 := ⟨⟨_, _, Try.underlying47, rfl, rfl, rfl⟩⟩
instance : HasFld Try.prog 47 1 1 3 := ⟨⟨_, _, Try.underlying47, rfl, rfl, rfl⟩⟩
instance : HasFld Try.prog 47 2 2 3 := ⟨⟨_, _, Try.underlying47, rfl, rfl, rfl⟩⟩
instance : HasFld Try.prog 47 3 3 9 := ⟨⟨_, _, Try.underlying47, rfl, rfl, rfl⟩⟩
instance : HasPlaces Try.prog 47 [(0, 1), (1, 1), (2, 1), (3, 1)] := ⟨.inl ⟨_, Try.underlying47, fun w => by kernel_rfl⟩⟩
instance : HasFld Try.prog 48 0 0 3 := ⟨⟨_, _, Try.underlying48, rfl, rfl, rfl⟩⟩
instance : HasFld Try.prog 48 1 1 3 := ⟨⟨_, _, Try.underlying48, rfl, rfl, rfl⟩⟩
instance : HasFld Try.prog 48 2 2 3 := ⟨⟨_, _, Try.underlying48, rfl, rfl, rfl⟩⟩
instance : HasFld Try.prog 48 3 3 9 := ⟨⟨_, _, Try.underlying48, rfl, rfl, rfl⟩⟩
instance : HasPlaces Try.prog 48 [(0, 1), (1, 1), (2, 1), (3, 1)] := ⟨.inl ⟨_, Try.underlying48, fun w => by kernel_rfl⟩⟩
instance : HasArr Try.prog 55 8 28 := ⟨Try.underlying55⟩
instance : HasPlaces Try.prog 55 [(0, 25), (25, 25), (50, 25), (75, 25), (100, 25), (125, 25), (150, 25), (175, 25)] := ⟨.inr ⟨_, _, _, Try.underlying55, (show _ = some 25 by kernel_rfl), rfl⟩⟩
instance : HasFld Try.prog 69 0 0 24 := ⟨⟨_, _, Try.underlying69, rfl, rfl, rfl⟩⟩
instance : HasFld Try.prog 69 1 4 68 := ⟨⟨_, _, Try.underlying69, rfl, rfl, rfl⟩⟩
instance : HasPlaces Try.prog 69 [(0, 4), (4, 1)] := ⟨.inl ⟨_, Try.underlying69, fun w => by kernel_rfl⟩⟩
instance : HasFld Try.prog 70 0 0 24 := ⟨⟨_, _, Try.underlying70, rfl, rfl, rfl⟩⟩
instance : HasFld Try.prog 70 1 4 68 := ⟨⟨_, _, Try.underlying70, rfl, rfl, rfl⟩⟩
instance : HasPlaces Try.prog 70 [(0, 4), (4, 1)] := ⟨.inl ⟨_, Try.underlying70, fun w => by kernel_rfl⟩⟩
instance : HasArr Try.prog 89 0 16 := ⟨Try.underlying89⟩
instance : HasPlaces Try.prog 89 [] := ⟨.inr ⟨_, _, _, Try.underlying89, (show _ = some 1 by kernel_rfl), rfl⟩⟩
theorem eqd23 : EqD Try.prog 2 23 true [.int .u64, .int .u64, .int .u64, .int .u64] := eqd_arr (ks := [.int .u64]) Try.underlying23 eqd22 rfl (fun _ => rfl)
instance : EqT Try.prog 23 true [.int .u64, .int .u64, .int .u64, .int .u64] := ⟨⟨_, by decide, eqd23⟩, by kernel_rfl⟩
theorem eqd24 : EqD Try.prog 2 24 true [.int .u64, .int .u64, .int .u64, .int .u64] := eqd_arr (ks := [.int .u64]) Try.underlying24 eqd22 rfl (fun _ => rfl)
instance : EqT Try.prog 24 true [.int .u64, .int .u64, .int .u64, .int .u64] := ⟨⟨_, by decide, eqd24⟩, by kernel_rfl⟩
theorem eqd25 : EqD Try.prog 3 25 true ([.int .u64, .int .u64, .int .u64, .int .u64] ++ ([.int .u64, .int .u64, .int .u64, .int .u64] ++ ([.bool] ++ []))) := by
  refine eqd_struct Try.underlying25 (by kernel_rfl) ?_
  refine EqF.cons _ _ 24 _ _ _ _ rfl ?_ rfl inferInstance (fun dp hdp => eqd24 dp ?_) rfl ?_ ?_
  · decide
  · omega
  · exact fun h => by cases h
  refine EqF.cons _ _ 24 _ _ _ _ rfl ?_ rfl inferInstance (fun dp hdp => eqd24 dp ?_) rfl ?_ ?_
  · decide
  · omega
  · exact fun h => by cases h
  refine EqF.cons _ _ 4 _ _ _ _ rfl ?_ rfl inferInstance (fun dp hdp => eqd4 dp ?_) rfl ?_ ?_
  · decide
  · omega
  · exact fun _ => rfl
  exact EqF.nil _
instance : EqT Try.prog 25 true [.int .u64, .int .u64, .int .u64, .int .u64, .int .u64, .int .u64, .int .u64, .int .u64, .bool] := ⟨⟨_, by decide, eqd25⟩, by kernel_rfl⟩
theorem eqd26 : EqD Try.prog 3 26 true ([.int .u64, .int .u64, .int .u64, .int .u64] ++ ([.int .u64, .int .u64, .int .u64, .int .u64] ++ ([.bool] ++ []))) := by
  refine eqd_struct Try.underlying26 (by kernel_rfl) ?_
  refine EqF.cons _ _ 24 _ _ _ _ rfl ?_ rfl inferInstance (fun dp hdp => eqd24 dp ?_) rfl ?_ ?_
  · decide
  · omega
  · exact fun h => by cases h
  refine EqF.cons _ _ 24 _ _ _ _ rfl ?_ rfl inferInstance (fun dp hdp => eqd24 dp ?_) rfl ?_ ?_
  · decide
  · omega
  · exact fun h => by cases h
  refine EqF.cons _ _ 4 _ _ _ _ rfl ?_ rfl inferInstance (fun dp hdp => eqd4 dp ?_) rfl ?_ ?_
  · decide
  · omega
  · exact fun _ => rfl
  exact EqF.nil _
instance : EqT Try.prog 26 true [.int .u64, .int .u64, .int .u64, .int .u64, .int .u64, .int .u64, .int .u64, .int .u64, .bool] := ⟨⟨_, by decide, eqd26⟩, by kernel_rfl⟩
theorem eqd27 : EqD Try.prog 4 27 true ([.int .u64, .int .u64, .int .u64, .int .u64] ++ ([.int .u64, .int .u64, .int .u64, .int .u64] ++ ([.int .u64, .int .u64, .int .u64, .int .u64] ++ ([.int .u64, .int .u64, .int .u64, .int .u64] ++ ([.int .u64, .int .u64, .int .u64, .int .u64, .int .u64, .int .u64, .int .u64, .int .u64, .bool] ++ []))))) := by
  refine eqd_struct Try.underlying27 (by kernel_rfl) ?_
  refine EqF.cons _ _ 24 _ _ _ _ rfl ?_ rfl inferInstance (fun dp hdp => eqd24 dp ?_) rfl ?_ ?_
  · decide
  · omega
  · exact fun h => by cases h
  refine EqF.cons _ _ 24 _ _ _ _ rfl ?_ rfl inferInstance (fun dp hdp => eqd24 dp ?_) rfl ?_ ?_
  · decide
  · omega
  · exact fun h => by cases h
  refine EqF.cons _ _ 24 _ _ _ _ rfl ?_ rfl inferInstance (fun dp hdp => eqd24 dp ?_) rfl ?_ ?_
  · decide
  · omega
  · exact fun h => by cases h
  refine EqF.cons _ _ 24 _ _ _ _ rfl ?_ rfl inferInstance (fun dp hdp => eqd24 dp ?_) rfl ?_ ?_
  · decide
  · omega
  · exact fun h => by cases h
  refine EqF.cons _ _ 26 _ _ _ _ rfl ?_ rfl inferInstance (fun dp hdp => eqd26 dp ?_) rfl ?_ ?_
  · decide
  · omega
  · exact fun h => by cases h
  exact EqF.nil _
instance : EqT Try.prog 27 true [.int .u64, .int .u64, .int .u64, .int .u64, .int .u64, .int .u64, .int .u64, .int .u64, .int .u64, .int .u64, .int .u64, .int .u64, .int .u64, .int .u64, .int .u64, .int .u64, .int .u64, .int .u64, .int .u64, .int .u64, .int .u64, .int .u64, .int .u64, .int .u64, .bool] := ⟨⟨_, by decide, eqd27⟩, by kernel_rfl⟩
theorem eqd28 : EqD Try.prog 4 28 true ([.int .u64, .int .u64, .int .u64, .int .u64] ++ ([.int .u64, .int .u64, .int .u64, .int .u64] ++ ([.int .u64, .int .u64, .int .u64, .int .u64] ++ ([.int .u64, .int .u64, .int .u64, .int .u64] ++ ([.int .u64, .int .u64, .int .u64, .int .u64, .int .u64, .int .u64, .int .u64, .int .u64, .bool] ++ []))))) := by
  refine eqd_struct Try.underlying28 (by kernel_rfl) ?_
  refine EqF.cons _ _ 24 _ _ _ _ rfl ?_ rfl inferInstance (fun dp hdp => eqd24 dp ?_) rfl ?_ ?_
  · decide
  · omega
  · exact fun h => by cases h
  refine EqF.cons _ _ 24 _ _ _ _ rfl ?_ rfl inferInstance (fun dp hdp => eqd24 dp ?_) rfl ?_ ?_
  · decide
  · omega
  · exact fun h => by cases h
  refine EqF.cons _ _ 24 _ _ _ _ rfl ?_ rfl inferInstance (fun dp hdp => eqd24 dp ?_) rfl ?_ ?_
  · decide
  · omega
  · exact fun h => by cases h
  refine EqF.cons _ _ 24 _ _ _ _ rfl ?_ rfl inferInstance (fun dp hdp => eqd24 dp ?_) rfl ?_ ?_
  · decide
  · omega
  · exact fun h => by cases h
  refine EqF.cons _ _ 26 _ _ _ _ rfl ?_ rfl inferInstance (fun dp hdp => eqd26 dp ?_) rfl ?_ ?_
  · decide
  · omega
  · exact fun h => by cases h
  exact EqF.nil _
instance : EqT Try.prog 28 true [.int .u64, .int .u64, .int .u64, .int .u64, .int .u64, .int .u64, .int .u64, .int .u64, .int .u64, .int .u64, .int .u64, .int .u64, .int .u64, .int .u64, .int .u64, .int .u64, .int .u64, .int .u64, .int .u64, .int .u64, .int .u64, .int .u64, .int .u64, .int .u64, .bool] := ⟨⟨_, by decide, eqd28⟩, by kernel_rfl⟩
instance : HasFn Try.prog 3 := ⟨⟨_, Try.func3, by kernel_rfl, by kernel_rfl⟩⟩
instance : HasFn Try.prog 4 := ⟨⟨_, Try.func4, by kernel_rfl, by kernel_rfl⟩⟩
instance : HasFn Try.prog 5 := ⟨⟨_, Try.func5, by kernel_rfl, by kernel_rfl⟩⟩
instance : HasFn Try.prog 6 := ⟨⟨_, Try.func6, by kernel_rfl, by kernel_rfl⟩⟩
instance : HasFn Try.prog 7 := ⟨⟨_, Try.func7, by kernel_rfl, by kernel_rfl⟩⟩
instance : HasFn Try.prog 8 := ⟨⟨_, Try.func8, by kernel_rfl, by kernel_rfl⟩⟩
instance : HasFn Try.prog 9 := ⟨⟨_, Try.func9, by kernel_rfl, by kernel_rfl⟩⟩
instance : HasFn Try.prog 10 := ⟨⟨_, Try.func10, by kernel_rfl, by kernel_rfl⟩⟩
instance : HasFn Try.prog 11 := ⟨⟨_, Try.func11, by kernel_rfl, by kernel_rfl⟩⟩
instance : HasFn Try.prog 12 := ⟨⟨_, Try.func12, by kernel_rfl, by kernel_rfl⟩⟩
instance : HasFn Try.prog 13 := ⟨⟨_, Try.func13, by kernel_rfl, by kernel_rfl⟩⟩
instance : HasFn Try.prog 14 := ⟨⟨_, Try.func14, by kernel_rfl, by kernel_rfl⟩⟩
instance : HasFn Try.prog 15 := ⟨⟨_, Try.func15, by kernel_rfl, by kernel_rfl⟩⟩
instance : HasFn Try.prog 16 := ⟨⟨_, Try.func16, by kernel_rfl, by kernel_rfl⟩⟩
instance : HasFn Try.prog 17 := ⟨⟨_, Try.func17, by kernel_rfl, by kernel_rfl⟩⟩
instance : HasFn Try.prog 18 := ⟨⟨_, Try.func18, by kernel_rfl, by kernel_rfl⟩⟩
instance : HasFn Try.prog 19 := ⟨⟨_, Try.func19, by kernel_rfl, by kernel_rfl⟩⟩
instance : HasFn Try.prog 20 := ⟨⟨_, Try.func20, by kernel_rfl, by kernel_rfl⟩⟩
instance : HasFn Try.prog 21 := ⟨⟨_, Try.func21, by kernel_rfl, by kernel_rfl⟩⟩
instance : HasFn Try.prog 22 := ⟨⟨_, Try.func22, by kernel_rfl, by kernel_rfl⟩⟩
instance : HasFn Try.prog 23 := ⟨⟨_, Try.func23, by kernel_rfl, by kernel_rfl⟩⟩
instance : HasFn Try.prog 24 := ⟨⟨_, Try.func24, by kernel_rfl, by kernel_rfl⟩⟩
instance : HasFn Try.prog 25 := ⟨⟨_, Try.func25, by kernel_rfl, by kernel_rfl⟩⟩
instance : HasFn Try.prog 26 := ⟨⟨_, Try.func26, by kernel_rfl, by kernel_rfl⟩⟩
instance : HasFn Try.prog 27 := ⟨⟨_, Try.func27, by kernel_rfl, by kernel_rfl⟩⟩
instance : HasFn Try.prog 28 := ⟨⟨_, Try.func28, by kernel_rfl, by kernel_rfl⟩⟩
instance : HasFn Try.prog 29 := ⟨⟨_, Try.func29, by kernel_rfl, by kernel_rfl⟩⟩
instance : HasFn Try.prog 30 := ⟨⟨_, Try.func30, by kernel_rfl, by kernel_rfl⟩⟩
instance : HasFn Try.prog 31 := ⟨⟨_, Try.func31, by kernel_rfl, by kernel_rfl⟩⟩
instance : HasFn Try.prog 32 := ⟨⟨_, Try.func32, by kernel_rfl, by kernel_rfl⟩⟩
instance : HasFn Try.prog 33 := ⟨⟨_, Try.func33, by kernel_rfl, by kernel_rfl⟩⟩
instance : HasFn Try.prog 34 := ⟨⟨_, Try.func34, by kernel_rfl, by kernel_rfl⟩⟩
instance : HasFn Try.prog 35 := ⟨⟨_, Try.func35, by kernel_rfl, by kernel_rfl⟩⟩
instance : HasFn Try.prog 36 := ⟨⟨_, Try.func36, by kernel_rfl, by kernel_rfl⟩⟩
instance : HasFn Try.prog 37 := ⟨⟨_, Try.func37, by kernel_rfl, by kernel_rfl⟩⟩
instance : HasFn Try.prog 38 := ⟨⟨_, Try.func38, by kernel_rfl, by kernel_rfl⟩⟩
instance : HasFn Try.prog 39 := ⟨⟨_, Try.func39, by kernel_rfl, by kernel_rfl⟩⟩
instance : HasFn Try.prog 40 := ⟨⟨_, Try.func40, by kernel_rfl, by kernel_rfl⟩⟩
instance : HasFn Try.prog 41 := ⟨⟨_, Try.func41, by kernel_rfl, by kernel_rfl⟩⟩
instance : HasFn Try.prog 42 := ⟨⟨_, Try.func42, by kernel_rfl, by kernel_rfl⟩⟩
instance : HasFn Try.prog 43 := ⟨⟨_, Try.func43, by kernel_rfl, by kernel_rfl⟩⟩
instance : HasFn Try.prog 44 := ⟨⟨_, Try.func44, by kernel_rfl, by kernel_rfl⟩⟩
instance : HasFn Try.prog 45 := ⟨⟨_, Try.func45, by kernel_rfl, by kernel_rfl⟩⟩
instance : HasFn Try.prog 46 := ⟨⟨_, Try.func46, by kernel_rfl, by kernel_rfl⟩⟩
instance : HasFn Try.prog 47 := ⟨⟨_, Try.func47, by kernel_rfl, by kernel_rfl⟩⟩
instance : HasFn Try.prog 51 := ⟨⟨_, Try.func51, by kernel_rfl, by kernel_rfl⟩⟩
instance : HasFn Try.prog 52 := ⟨⟨_, Try.func52, by kernel_rfl, by kernel_rfl⟩⟩
instance : HasFn Try.prog 53 := ⟨⟨_, Try.func53, by kernel_rfl, by kernel_rfl⟩⟩
instance : HasFn Try.prog 54 := ⟨⟨_, Try.func54, by kernel_rfl, by kernel_rfl⟩⟩

end Go.Proofs.Ytbljcgdehihlgaa
