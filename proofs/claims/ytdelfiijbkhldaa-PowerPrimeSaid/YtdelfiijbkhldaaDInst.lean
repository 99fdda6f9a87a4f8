/- The rows of this program's types and functions, as instances. No conditions. -/
import Derived.Test.YtdelfiijbkhldaaDOp2
import Derived.Test.YtdelfiijbkhldaaDK2
namespace Go.Proofs.Ytdelfiijbkhldaa
open Go.RowKit
set_option linter.unusedVariables false
set_option maxRecDepth 100000
theorem mixed : Try.prog.follows .mixedOrders = true := by kernel_rfl
instance : HasTy Try.prog 2 ⟨false, 1, [.int .i64 0]⟩ := ⟨⟨_, Try.underlying2, rfl⟩, by kernel_rfl, ⟨.int .i64 0, [.int .i64 0], by kernel_rfl, rfl, ⟨rfl, trivial⟩⟩⟩
instance : HasBy Try.prog 2 8 := ⟨by kernel_rfl⟩
instance : HasInt Try.prog 2 .i64 := ⟨Try.underlying2⟩
theorem eqd2 : EqD Try.prog 1 2 false [.int .i64] := eqd_int Try.underlying2
instance : HasTy Try.prog 3 ⟨false, 1, [.int .i64 0]⟩ := ⟨⟨_, Try.underlying3, rfl⟩, by kernel_rfl, ⟨.int .i64 0, [.int .i64 0], by kernel_rfl, rfl, ⟨rfl, trivial⟩⟩⟩
instance : HasBy Try.prog 3 8 := ⟨by kernel_rfl⟩
instance : HasInt Try.prog 3 .i64 := ⟨Try.underlying3⟩
theorem eqd3 : EqD Try.prog 1 3 false [.int .i64] := eqd_int Try.underlying3
instance : HasTy Try.prog 4 ⟨false, 1, [.bool false]⟩ := ⟨⟨_, Try.underlying4, rfl⟩, by kernel_rfl, ⟨.bool false, [.bool false], by kernel_rfl, rfl, ⟨rfl, trivial⟩⟩⟩
instance : HasBy Try.prog 4 1 := ⟨by kernel_rfl⟩
theorem eqd4 : EqD Try.prog 1 4 false [.bool] := eqd_bool Try.underlying4
instance : HasTy Try.prog 12 ⟨false, 1, [.int .u64 0]⟩ := ⟨⟨_, Try.underlying12, rfl⟩, by kernel_rfl, ⟨.int .u64 0, [.int .u64 0], by kernel_rfl, rfl, ⟨rfl, trivial⟩⟩⟩
instance : HasBy Try.prog 12 8 := ⟨by kernel_rfl⟩
instance : HasInt Try.prog 12 .u64 := ⟨Try.underlying12⟩
theorem eqd12 : EqD Try.prog 1 12 false [.int .u64] := eqd_int Try.underlying12
instance : HasTy Try.prog 15 ⟨false, 1, [.raw (.pointer none)]⟩ := ⟨⟨_, Try.underlying15, rfl⟩, by kernel_rfl, ⟨.pointer none, [.pointer none], by kernel_rfl, rfl, ⟨rfl, trivial⟩⟩⟩
instance : HasBy Try.prog 15 8 := ⟨by kernel_rfl⟩
instance : HasPtr Try.prog 15 70 := ⟨Try.underlying15⟩
instance : HasTy Try.prog 16 ⟨false, 1, [.raw (.pointer none)]⟩ := ⟨⟨_, Try.underlying16, rfl⟩, by kernel_rfl, ⟨.pointer none, [.pointer none], by kernel_rfl, rfl, ⟨rfl, trivial⟩⟩⟩
instance : HasBy Try.prog 16 8 := ⟨by kernel_rfl⟩
instance : HasPtr Try.prog 16 73 := ⟨Try.underlying16⟩
instance : HasTy Try.prog 17 ⟨false, 1, [.raw (.pointer none)]⟩ := ⟨⟨_, Try.underlying17, rfl⟩, by kernel_rfl, ⟨.pointer none, [.pointer none], by kernel_rfl, rfl, ⟨rfl, trivial⟩⟩⟩
instance : HasBy Try.prog 17 8 := ⟨by kernel_rfl⟩
instance : HasPtr Try.prog 17 83 := ⟨Try.underlying17⟩
instance : HasTy Try.prog 22 ⟨true, 4, [.int .i64 0, .int .i64 0, .int .i64 0, .str ⟨#[]⟩]⟩ := ⟨⟨_, Try.underlying22, rfl⟩, by kernel_rfl, ⟨.agg #[.int .i64 0, .int .i64 0, .int .i64 0, .string ⟨#[]⟩], [.int .i64 0, .int .i64 0, .int .i64 0, .string ⟨#[]⟩], by kernel_rfl, rfl, ⟨rfl, rfl, rfl, rfl, trivial⟩⟩⟩
instance : HasBy Try.prog 22 40 := ⟨by kernel_rfl⟩
instance : HasTy Try.prog 23 ⟨true, 4, [.int .i64 0, .int .i64 0, .int .i64 0, .str ⟨#[]⟩]⟩ := ⟨⟨_, Try.underlying23, rfl⟩, by kernel_rfl, ⟨.agg #[.int .i64 0, .int .i64 0, .int .i64 0, .string ⟨#[]⟩], [.int .i64 0, .int .i64 0, .int .i64 0, .string ⟨#[]⟩], by kernel_rfl, rfl, ⟨rfl, rfl, rfl, rfl, trivial⟩⟩⟩
instance : HasBy Try.prog 23 40 := ⟨by kernel_rfl⟩
instance : HasTy Try.prog 24 ⟨false, 1, [.int .u64 0]⟩ := ⟨⟨_, Try.underlying24, rfl⟩, by kernel_rfl, ⟨.int .u64 0, [.int .u64 0], by kernel_rfl, rfl, ⟨rfl, trivial⟩⟩⟩
instance : HasBy Try.prog 24 8 := ⟨by kernel_rfl⟩
instance : HasInt Try.prog 24 .u64 := ⟨Try.underlying24⟩
theorem eqd24 : EqD Try.prog 1 24 false [.int .u64] := eqd_int Try.underlying24
instance : HasTy Try.prog 25 ⟨true, 4, [.int .u64 0, .int .u64 0, .int .u64 0, .int .u64 0]⟩ := ⟨⟨_, Try.underlying25, rfl⟩, by kernel_rfl, ⟨.agg #[.int .u64 0, .int .u64 0, .int .u64 0, .int .u64 0], [.int .u64 0, .int .u64 0, .int .u64 0, .int .u64 0], by kernel_rfl, rfl, ⟨rfl, rfl, rfl, rfl, trivial⟩⟩⟩
instance : HasBy Try.prog 25 32 := ⟨by kernel_rfl⟩
instance : HasTy Try.prog 26 ⟨true, 4, [.int .u64 0, .int .u64 0, .int .u64 0, .int .u64 0]⟩ := ⟨⟨_, Try.underlying26, rfl⟩, by kernel_rfl, ⟨.agg #[.int .u64 0, .int .u64 0, .int .u64 0, .int .u64 0], [.int .u64 0, .int .u64 0, .int .u64 0, .int .u64 0], by kernel_rfl, rfl, ⟨rfl, rfl, rfl, rfl, trivial⟩⟩⟩
instance : HasBy Try.prog 26 32 := ⟨by kernel_rfl⟩
instance : HasTy Try.prog 27 ⟨false, 1, [.slice .nil 0 []]⟩ := ⟨⟨_, Try.underlying27, rfl⟩, by kernel_rfl, ⟨.slice none 0 0, [.slice none 0 0], by kernel_rfl, rfl, ⟨rfl, trivial⟩⟩⟩
instance : HasBy Try.prog 27 24 := ⟨by kernel_rfl⟩
instance : HasSl Try.prog 27 26 := ⟨Try.underlying27⟩
instance : HasTy Try.prog 30 ⟨false, 1, [.int .i64 0]⟩ := ⟨⟨_, Try.underlying30, rfl⟩, by kernel_rfl, ⟨.int .i64 0, [.int .i64 0], by kernel_rfl, rfl, ⟨rfl, trivial⟩⟩⟩
instance : HasBy Try.prog 30 8 := ⟨by kernel_rfl⟩
instance : HasInt Try.prog 30 .i64 := ⟨Try.underlying30⟩
theorem eqd30 : EqD Try.prog 1 30 false [.int .i64] := eqd_int Try.underlying30
instance : HasTy Try.prog 38 ⟨false, 1, [.int .u64 0]⟩ := ⟨⟨_, Try.underlying38, rfl⟩, by kernel_rfl, ⟨.int .u64 0, [.int .u64 0], by kernel_rfl, rfl, ⟨rfl, trivial⟩⟩⟩
instance : HasBy Try.prog 38 8 := ⟨by kernel_rfl⟩
instance : HasInt Try.prog 38 .u64 := ⟨Try.underlying38⟩
theorem eqd38 : EqD Try.prog 1 38 false [.int .u64] := eqd_int Try.underlying38
instance : HasTy Try.prog 48 ⟨true, 9, [.int .u64 0, .int .u64 0, .int .u64 0, .int .u64 0, .int .u64 0, .int .u64 0, .int .u64 0, .int .u64 0, .bool false]⟩ := ⟨⟨_, Try.underlying48, rfl⟩, by kernel_rfl, ⟨.agg #[.int .u64 0, .int .u64 0, .int .u64 0, .int .u64 0, .int .u64 0, .int .u64 0, .int .u64 0, .int .u64 0, .bool false], [.int .u64 0, .int .u64 0, .int .u64 0, .int .u64 0, .int .u64 0, .int .u64 0, .int .u64 0, .int .u64 0, .bool false], by kernel_rfl, rfl, ⟨rfl, rfl, rfl, rfl, rfl, rfl, rfl, rfl, rfl, trivial⟩⟩⟩
instance : HasBy Try.prog 48 72 := ⟨by kernel_rfl⟩
instance : HasTy Try.prog 49 ⟨true, 9, [.int .u64 0, .int .u64 0, .int .u64 0, .int .u64 0, .int .u64 0, .int .u64 0, .int .u64 0, .int .u64 0, .bool false]⟩ := ⟨⟨_, Try.underlying49, rfl⟩, by kernel_rfl, ⟨.agg #[.int .u64 0, .int .u64 0, .int .u64 0, .int .u64 0, .int .u64 0, .int .u64 0, .int .u64 0, .int .u64 0, .bool false], [.int .u64 0, .int .u64 0, .int .u64 0, .int .u64 0, .int .u64 0, .int .u64 0, .int .u64 0, .int .u64 0, .bool false], by kernel_rfl, rfl, ⟨rfl, rfl, rfl, rfl, rfl, rfl, rfl, rfl, rfl, trivial⟩⟩⟩
instance : HasBy Try.prog 49 72 := ⟨by kernel_rfl⟩
instance : HasTy Try.prog 50 ⟨true, 25, [.int .u64 0, .int .u64 0, .int .u64 0, .int .u64 0, .int .u64 0, .int .u64 0, .int .u64 0, .int .u64 0, .int .u64 0, .int .u64 0, .int .u64 0, .int .u64 0, .int .u64 0, .int .u64 0, .int .u64 0, .int .u64 0, .int .u64 0, .int .u64 0, .int .u64 0, .int .u64 0, .int .u64 0, .int .u64 0, .int .u64 0, .int .u64 0, .bool false]⟩ := ⟨⟨_, Try.underlying50, rfl⟩, by kernel_rfl, ⟨.agg #[.int .u64 0, .int .u64 0, .int .u64 0, .int .u64 0, .int .u64 0, .int .u64 0, .int .u64 0, .int .u64 0, .int .u64 0, .int .u64 0, .int .u64 0, .int .u64 0, .int .u64 0, .int .u64 0, .int .u64 0, .int .u64 0, .int .u64 0, .int .u64 0, .int .u64 0, .int .u64 0, .int .u64 0, .int .u64 0, .int .u64 0, .int .u64 0, .bool false], [.int .u64 0, .int .u64 0, .int .u64 0, .int .u64 0, .int .u64 0, .int .u64 0, .int .u64 0, .int .u64 0, .int .u64 0, .int .u64 0, .int .u64 0, .int .u64 0, .int .u64 0, .int .u64 0, .int .u64 0, .int .u64 0, .int .u64 0, .int .u64 0, .int .u64 0, .int .u64 0, .int .u64 0, .int .u64 0, .int .u64 0, .int .u64 0, .bool false], by kernel_rfl, rfl, ⟨rfl, rfl, rfl, rfl, rfl, rfl, rfl, rfl, rfl, rfl, rfl, rfl, rfl, rfl, rfl, rfl, rfl, rfl, rfl, rfl, rfl, rfl, rfl, rfl, rfl, trivial⟩⟩⟩
instance : HasBy Try.prog 50 200 := ⟨by kernel_rfl⟩
instance : HasTy Try.prog 51 ⟨true, 25, [.int .u64 0, .int .u64 0, .int .u64 0, .int .u64 0, .int .u64 0, .int .u64 0, .int .u64 0, .int .u64 0, .int .u64 0, .int .u64 0, .int .u64 0, .int .u64 0, .int .u64 0, .int .u64 0, .int .u64 0, .int .u64 0, .int .u64 0, .int .u64 0, .int .u64 0, .int .u64 0, .int .u64 0, .int .u64 0, .int .u64 0, .int .u64 0, .bool false]⟩ := ⟨⟨_, Try.underlying51, rfl⟩, by kernel_rfl, ⟨.agg #[.int .u64 0, .int .u64 0, .int .u64 0, .int .u64 0, .int .u64 0, .int .u64 0, .int .u64 0, .int .u64 0, .int .u64 0, .int .u64 0, .int .u64 0, .int .u64 0, .int .u64 0, .int .u64 0, .int .u64 0, .int .u64 0, .int .u64 0, .int .u64 0, .int .u64 0, .int .u64 0, .int .u64 0, .int .u64 0, .int .u64 0, .int .u64 0, .bool false], [.int .u64 0, .int .u64 0, .int .u64 0, .int .u64 0, .int .u64 0, .int .u64 0, .int .u64 0, .int .u64 0, .int .u64 0, .int .u64 0, .int .u64 0, .int .u64 0, .int .u64 0, .int .u64 0, .int .u64 0, .int .u64 0, .int .u64 0, .int .u64 0, .int .u64 0, .int .u64 0, .int .u64 0, .int .u64 0, .int .u64 0, .int .u64 0, .bool false], by kernel_rfl, rfl, ⟨rfl, rfl, rfl, rfl, rfl, rfl, rfl, rfl, rfl, rfl, rfl, rfl, rfl, rfl, rfl, rfl, rfl, rfl, rfl, rfl, rfl, rfl, rfl, rfl, rfl, trivial⟩⟩⟩
instance : HasBy Try.prog 51 200 := ⟨by kernel_rfl⟩
instance : HasTy Try.prog 54 ⟨false, 1, [.slice .nil 0 []]⟩ := ⟨⟨_, Try.underlying54, rfl⟩, by kernel_rfl, ⟨.slice none 0 0, [.slice none 0 0], by kernel_rfl, rfl, ⟨rfl, trivial⟩⟩⟩
instance : HasBy Try.prog 54 24 := ⟨by kernel_rfl⟩
instance : HasSl Try.prog 54 23 := ⟨Try.underlying54⟩
instance : HasTy Try.prog 66 ⟨true, 200, [.int .u64 0, .int .u64 0, .int .u64 0, .int .u64 0, .int .u64 0, .int .u64 0, .int .u64 0, .int .u64 0, .int .u64 0, .int .u64 0, .int .u64 0, .int .u64 0, .int .u64 0, .int .u64 0, .int .u64 0, .int .u64 0, .int .u64 0, .int .u64 0, .int .u64 0, .int .u64 0, .int .u64 0, .int .u64 0, .int .u64 0, .int .u64 0, .bool false, .int .u64 0, .int .u64 0, .int .u64 0, .int .u64 0, .int .u64 0, .int .u64 0, .int .u64 0, .int .u64 0, .int .u64 0, .int .u64 0, .int .u64 0, .int .u64 0, .int .u64 0, .int .u64 0, .int .u64 0, .int .u64 0, .int .u64 0, .int .u64 0, .int .u64 0, .int .u64 0, .int .u64 0, .int .u64 0, .int .u64 0, .int .u64 0, .bool false, .int .u64 0, .int .u64 0, .int .u64 0, .int .u64 0, .int .u64 0, .int .u64 0, .int .u64 0, .int .u64 0, .int .u64 0, .int .u64 0, .int .u64 0, .int .u64 0, .int .u64 0, .int .u64 0, .int .u64 0, .int .u64 0, .int .u64 0, .int .u64 0, .int .u64 0, .int .u64 0, .int .u64 0, .int .u64 0, .int .u64 0, .int .u64 0, .bool false, .int .u64 0, .int .u64 0, .int .u64 0, .int .u64 0, .int .u64 0, .int .u64 0, .int .u64 0, .int .u64 0, .int .u64 0, .int .u64 0, .int .u64 0, .int .u64 0, .int .u64 0, .int .u64 0, .int .u64 0, .int .u64 0, .int .u64 0, .int .u64 0, .int .u64 0, .int .u64 0, .int .u64 0, .int .u64 0, .int .u64 0, .int .u64 0, .bool false, .int .u64 0, .int .u64 0, .int .u64 0, .int .u64 0, .int .u64 0, .int .u64 0, .int .u64 0, .int .u64 0, .int .u64 0, .int .u64 0, .int .u64 0, .int .u64 0, .int .u64 0, .int .u64 0, .int .u64 0, .int .u64 0, .int .u64 0, .int .u64 0, .int .u64 0, .int .u64 0, .int .u64 0, .int .u64 0, .int .u64 0, .int .u64 0, .bool false, .int .u64 0, .int .u64 0, .int .u64 0, .int .u64 0, .int .u64 0, .int .u64 0, .int .u64 0, .int .u64 0, .int .u64 0, .int .u64 0, .int .u64 0, .int .u64 0, .int .u64 0, .int .u64 0, .int .u64 0, .int .u64 0, .int .u64 0, .int .u64 0, .int .u64 0, .int .u64 0, .int .u64 0, .int .u64 0, .int .u64 0, .int .u64 0, .bool false, .int .u64 0, .int .u64 0, .int .u64 0, .int .u64 0, .int .u64 0, .int .u64 0, .int .u64 0, .int .u64 0, .int .u64 0, .int .u64 0, .int .u64 0, .int .u64 0, .int .u64 0, .int .u64 0, .int .u64 0, .int .u64 0, .int .u64 0, .int .u64 0, .int .u64 0, .int .u64 0, .int .u64 0, .int .u64 0, .int .u64 0, .int .u64 0, .bool false, .int .u64 0, .int .u64 0, .int .u64 0, .int .u64 0, .int .u64 0, .int .u64 0, .int .u64 0, .int .u64 0, .int .u64 0, .int .u64 0, .int .u64 0, .int .u64 0, .int .u64 0, .int .u64 0, .int .u64 0, .int .u64 0, .int .u64 0, .int .u64 0, .int .u64 0, .int .u64 0, .int .u64 0, .int .u64 0, .int .u64 0, .int .u64 0, .bool false]⟩ := ⟨⟨_, Try.underlying66, rfl⟩, by kernel_rfl, ⟨.agg #[.int .u64 0, .int .u64 0, .int .u64 0, .int .u64 0, .int .u64 0, .int .u64 0, .int .u64 0, .int .u64 0, .int .u64 0, .int .u64 0, .int .u64 0, .int .u64 0, .int .u64 0, .int .u64 0, .int .u64 0, .int .u64 0, .int .u64 0, .int .u64 0, .int .u64 0, .int .u64 0, .int .u64 0, .int .u64 0, .int .u64 0, .int .u64 0, .bool false, .int .u64 0, .int .u64 0, .int .u64 0, .int .u64 0, .int .u64 0, .int .u64 0, .int .u64 0, .int .u64 0, .int .u64 0, .int .u64 0, .int .u64 0, .int .u64 0, .int .u64 0, .int .u64 0, .int .u64 0, .int .u64 0, .int .u64 0, .int .u64 0, .int .u64 0, .int .u64 0, .int .u64 0, .int .u64 0, .int .u64 0, .int .u64 0, .bool false, .int .u64 0, .int .u64 0, .int .u64 0, .int .u64 0, .int .u64 0, .int .u64 0, .int .u64 0, .int .u64 0, .int .u64 0, .int .u64 0, .int .u64 0, .int .u64 0, .int .u64 0, .int .u64 0, .int .u64 0, .int .u64 0, .int .u64 0, .int .u64 0, .int .u64 0, .int .u64 0, .int .u64 0, .int .u64 0, .int .u64 0, .int .u64 0, .bool false, .int .u64 0, .int .u64 0, .int .u64 0, .int .u64 0, .int .u64 0, .int .u64 0, .int .u64 0, .int .u64 0, .int .u64 0, .int .u64 0, .int .u64 0, .int .u64 0, .int .u64 0, .int .u64 0, .int .u64 0, .int .u64 0, .int .u64 0, .int .u64 0, .int .u64 0, .int .u64 0, .int .u64 0, .int .u64 0, .int .u64 0, .int .u64 0, .bool false, .int .u64 0, .int .u64 0, .int .u64 0, .int .u64 0, .int .u64 0, .int .u64 0, .int .u64 0, .int .u64 0, .int .u64 0, .int .u64 0, .int .u64 0, .int .u64 0, .int .u64 0, .int .u64 0, .int .u64 0, .int .u64 0, .int .u64 0, .int .u64 0, .int .u64 0, .int .u64 0, .int .u64 0, .int .u64 0, .int .u64 0, .int .u64 0, .bool false, .int .u64 0, .int .u64 0, .int .u64 0, .int .u64 0, .int .u64 0, .int .u64 0, .int .u64 0, .int .u64 0, .int .u64 0, .int .u64 0, .int .u64 0, .int .u64 0, .int .u64 0, .int .u64 0, .int .u64 0, .int .u64 0, .int .u64 0, .int .u64 0, .int .u64 0, .int .u64 0, .int .u64 0, .int .u64 0, .int .u64 0, .int .u64 0, .bool false, .int .u64 0, .int .u64 0, .int .u64 0, .int .u64 0, .int .u64 0, .int .u64 0, .int .u64 0, .int .u64 0, .int .u64 0, .int .u64 0, .int .u64 0, .int .u64 0, .int .u64 0, .int .u64 0, .int .u64 0, .int .u64 0, .int .u64 0, .int .u64 0, .int .u64 0, .int .u64 0, .int .u64 0, .int .u64 0, .int .u64 0, .int .u64 0, .bool false, .int .u64 0, .int .u64 0, .int .u64 0, .int .u64 0, .int .u64 0, .int .u64 0, .int .u64 0, .int .u64 0, .int .u64 0, .int .u64 0, .int .u64 0, .int .u64 0, .int .u64 0, .int .u64 0, .int .u64 0, .int .u64 0, .int .u64 0, .int .u64 0, .int .u64 0, .int .u64 0, .int .u64 0, .int .u64 0, .int .u64 0, .int .u64 0, .bool false], [.int .u64 0, .int .u64 0, .int .u64 0, .int .u64 0, .int .u64 0, .int .u64 0, .int .u64 0, .int .u64 0, .int .u64 0, .int .u64 0, .int .u64 0, .int .u64 0, .int .u64 0, .int .u64 0, .int .u64 0, .int .u64 0, .int .u64 0, .int .u64 0, .int .u64 0, .int .u64 0, .int .u64 0, .int .u64 0, .int .u64 0, .int .u64 0, .bool false, .int .u64 0, .int .u64 0, .int .u64 0, .int .u64 0, .int .u64 0, .int .u64 0, .int .u64 0, .int .u64 0, .int .u64 0, .int .u64 0, .int .u64 0, .int .u64 0, .int .u64 0, .int .u64 0, .int .u64 0, .int .u64 0, .int .u64 0, .int .u64 0, .int .u64 0, .int .u64 0, .int .u64 0, .int .u64 0, .int .u64 0, .int .u64 0, .bool false, .int .u64 0, .int .u64 0, .int .u64 0, .int .u64 0, .int .u64 0, .int .u64 0, .int .u64 0, .int .u64 0, .int .u64 0, .int .u64 0, .int .u64 0, .int .u64 0, .int .u64 0, .int .u64 0, .int .u64 0, .int .u64 0, .int .u64 0, .int .u64 0, .int .u64 0, .int .u64 0, .int .u64 0, .int .u64 0, .int .u64 0, .int .u64 0, .bool false, .int .u64 0, .int .u64 0, .int .u64 0, .int .u64 0, .int .u64 0, .int .u64 0, .int .u64 0, .int .u64 0, .int .u64 0, .int .u64 0, .int .u64 0, .int .u64 0, .int .u64 0, .int .u64 0, .int .u64 0, .int .u64 0, .int .u64 0, .int .u64 0, .int .u64 0, .int .u64 0, .int .u64 0, .int .u64 0, .int .u64 0, .int .u64 0, .bool false, .int .u64 0, .int .u64 0, .int .u64 0, .int .u64 0, .int .u64 0, .int .u64 0, .int .u64 0, .int .u64 0, .int .u64 0, .int .u64 0, .int .u64 0, .int .u64 0, .int .u64 0, .int .u64 0, .int .u64 0, .int .u64 0, .int .u64 0, .int .u64 0, .int .u64 0, .int .u64 0, .int .u64 0, .int .u64 0, .int .u64 0, .int .u64 0, .bool false, .int .u64 0, .int .u64 0, .int .u64 0, .int .u64 0, .int .u64 0, .int .u64 0, .int .u64 0, .int .u64 0, .int .u64 0, .int .u64 0, .int .u64 0, .int .u64 0, .int .u64 0, .int .u64 0, .int .u64 0, .int .u64 0, .int .u64 0, .int .u64 0, .int .u64 0, .int .u64 0, .int .u64 0, .int .u64 0, .int .u64 0, .int .u64 0, .bool false, .int .u64 0, .int .u64 0, .int .u64 0, .int .u64 0, .int .u64 0, .int .u64 0, .int .u64 0, .int .u64 0, .int .u64 0, .int .u64 0, .int .u64 0, .int .u64 0, .int .u64 0, .int .u64 0, .int .u64 0, .int .u64 0, .int .u64 0, .int .u64 0, .int .u64 0, .int .u64 0, .int .u64 0, .int .u64 0, .int .u64 0, .int .u64 0, .bool false, .int .u64 0, .int .u64 0, .int .u64 0, .int .u64 0, .int .u64 0, .int .u64 0, .int .u64 0, .int .u64 0, .int .u64 0, .int .u64 0, .int .u64 0, .int .u64 0, .int .u64 0, .int .u64 0, .int .u64 0, .int .u64 0, .int .u64 0, .int .u64 0, .int .u64 0, .int .u64 0, .int .u64 0, .int .u64 0, .int .u64 0, .int .u64 0, .bool false], by kernel_rfl, rfl, ⟨rfl, rfl, rfl, rfl, rfl, rfl, rfl, rfl, rfl, rfl, rfl, rfl, rfl, rfl, rfl, rfl, rfl, rfl, rfl, rfl, rfl, rfl, rfl, rfl, rfl, rfl, rfl, rfl, rfl, rfl, rfl, rfl, rfl, rfl, rfl, rfl, rfl, rfl, rfl, rfl, rfl, rfl, rfl, rfl, rfl, rfl, rfl, rfl, rfl, rfl, rfl, rfl, rfl, rfl, rfl, rfl, rfl, rfl, rfl, rfl, rfl, rfl, rfl, rfl, rfl, rfl, rfl, rfl, rfl, rfl, rfl, rfl, rfl, rfl, rfl, rfl, rfl, rfl, rfl, rfl, rfl, rfl, rfl, rfl, rfl, rfl, rfl, rfl, rfl, rfl, rfl, rfl, rfl, rfl, rfl, rfl, rfl, rfl, rfl, rfl, rfl, rfl, rfl, rfl, rfl, rfl, rfl, rfl, rfl, rfl, rfl, rfl, rfl, rfl, rfl, rfl, rfl, rfl, rfl, rfl, rfl, rfl, rfl, rfl, rfl, rfl, rfl, rfl, rfl, rfl, rfl, rfl, rfl, rfl, rfl, rfl, rfl, rfl, rfl, rfl, rfl, rfl, rfl, rfl, rfl, rfl, rfl, rfl, rfl, rfl, rfl, rfl, rfl, rfl, rfl, rfl, rfl, rfl, rfl, rfl, rfl, rfl, rfl, rfl, rfl, rfl, rfl, rfl, rfl, rfl, rfl, rfl, rfl, rfl, rfl, rfl, rfl, rfl, rfl, rfl, rfl, rfl, rfl, rfl, rfl, rfl, rfl, rfl, rfl, rfl, rfl, rfl, rfl, rfl, rfl, rfl, rfl, rfl, rfl, rfl, trivial⟩⟩⟩
instance : HasBy Try.prog 66 1600 := ⟨by kernel_rfl⟩
instance : HasTy Try.prog 71 ⟨true, 0, []⟩ := ⟨⟨_, Try.underlying71, rfl⟩, by kernel_rfl, ⟨.agg #[], [], by kernel_rfl, rfl, trivial⟩⟩
instance : HasBy Try.prog 71 0 := ⟨by kernel_rfl⟩
instance : HasTy Try.prog 75 ⟨false, 1, [.int .u32 0]⟩ := ⟨⟨_, Try.underlying75, rfl⟩, by kernel_rfl, ⟨.int .u32 0, [.int .u32 0], by kernel_rfl, rfl, ⟨rfl, trivial⟩⟩⟩
instance : HasBy Try.prog 75 4 := ⟨by kernel_rfl⟩
instance : HasInt Try.prog 75 .u32 := ⟨Try.underlying75⟩
theorem eqd75 : EqD Try.prog 1 75 false [.int .u32] := eqd_int Try.underlying75
instance : HasTy Try.prog 79 ⟨false, 1, [.raw (.pointer none)]⟩ := ⟨⟨_, Try.underlying79, rfl⟩, by kernel_rfl, ⟨.pointer none, [.pointer none], by kernel_rfl, rfl, ⟨rfl, trivial⟩⟩⟩
instance : HasBy Try.prog 79 8 := ⟨by kernel_rfl⟩
instance : HasPtr Try.prog 79 5 := ⟨Try.underlying79⟩
instance : HasFld Try.prog 22 0 0 3 := ⟨⟨_, _, Try.underlying22, rfl, rfl, rfl⟩⟩
instance : HasFld Try.prog 22 1 1 3 := ⟨⟨_, _, Try.underlying22, rfl, rfl, rfl⟩⟩
instance : HasFld Try.prog 22 2 2 3 := ⟨⟨_, _, Try.underlying22, rfl, rfl, rfl⟩⟩
instance : HasFld Try.prog 22 3 3 9 := ⟨⟨_, _, Try.underlying22, rfl, rfl, rfl⟩⟩
instance : HasPlaces Try.prog 22 [(0, 1), (1, 1), (2, 1), (3, 1)] := ⟨.inl ⟨_, Try.underlying22, fun w => by kernel_rfl⟩⟩
instance : HasFld Try.prog 23 0 0 3 := ⟨⟨_, _, Try.underlying23, rfl, rfl, rfl⟩⟩
instance : HasFld Try.prog 23 1 1 3 := ⟨⟨_, _, Try.underlying23, rfl, rfl, rfl⟩⟩
instance : HasFld Try.prog 23 2 2 3 := ⟨⟨_, _, Try.underlying23, rfl, rfl, rfl⟩⟩
instance : HasFld Try.prog 23 3 3 9 := ⟨⟨_, _, Try.underlying23, rfl, rfl, rfl⟩⟩
instance : HasPlaces Try.prog 23 [(0, 1), (1, 1), (2, 1), (3, 1)] := ⟨.inl ⟨_, Try.underlying23, fun w => by kernel_rfl⟩⟩
instance : HasArr Try.prog 25 4 24 := ⟨Try.underlying25⟩
instance : HasPlaces Try.prog 25 [(0, 1), (1, 1), (2, 1), (3, 1)] := ⟨.inr ⟨_, _, _, Try.underlying25, (show _ = some 1 by kernel_rfl), rfl⟩⟩
instance : HasArr Try.prog 26 4 24 := ⟨Try.underlying26⟩
instance : HasPlaces Try.prog 26 [(0, 1), (1, 1), (2, 1), (3, 1)] := ⟨.inr ⟨_, _, _, Try.underlying26, (show _ = some 1 by kernel_rfl), rfl⟩⟩
instance : HasFld Try.prog 48 0 0 26 := ⟨⟨_, _, Try.underlying48, rfl, rfl, rfl⟩⟩
instance : HasFld Try.prog 48 1 4 26 := ⟨⟨_, _, Try.underlying48, rfl, rfl, rfl⟩⟩
instance : HasFld Try.prog 48 2 8 4 := ⟨⟨_, _, Try.underlying48, rfl, rfl, rfl⟩⟩
instance : HasPlaces Try.prog 48 [(0, 4), (4, 4), (8, 1)] := ⟨.inl ⟨_, Try.underlying48, fun w => by kernel_rfl⟩⟩
instance : HasFld Try.prog 49 0 0 26 := ⟨⟨_, _, Try.underlying49, rfl, rfl, rfl⟩⟩
instance : HasFld Try.prog 49 1 4 26 := ⟨⟨_, _, Try.underlying49, rfl, rfl, rfl⟩⟩
instance : HasFld Try.prog 49 2 8 4 := ⟨⟨_, _, Try.underlying49, rfl, rfl, rfl⟩⟩
instance : HasPlaces Try.prog 49 [(0, 4), (4, 4), (8, 1)] := ⟨.inl ⟨_, Try.underlying49, fun w => by kernel_rfl⟩⟩
instance : HasFld Try.prog 50 0 0 26 := ⟨⟨_, _, Try.underlying50, rfl, rfl, rfl⟩⟩
instance : HasFld Try.prog 50 1 4 26 := ⟨⟨_, _, Try.underlying50, rfl, rfl, rfl⟩⟩
instance : HasFld Try.prog 50 2 8 26 := ⟨⟨_, _, Try.underlying50, rfl, rfl, rfl⟩⟩
instance : HasFld Try.prog 50 3 12 26 := ⟨⟨_, _, Try.underlying50, rfl, rfl, rfl⟩⟩
instance : HasFld Try.prog 50 4 16 49 := ⟨⟨_, _, Try.underlying50, rfl, rfl, rfl⟩⟩
instance : HasPlaces Try.prog 50 [(0, 4), (4, 4), (8, 4), (12, 4), (16, 9)] := ⟨.inl ⟨_, Try.underlying50, fun w => by kernel_rfl⟩⟩
instance : HasFld Try.prog 51 0 0 26 := ⟨⟨_, _, Try.underlying51, rfl, rfl, rfl⟩⟩
instance : HasFld Try.prog 51 1 4 26 := ⟨⟨_, _, Try.underlying51, rfl, rfl, rfl⟩⟩
instance : HasFld Try.prog 51 2 8 26 := ⟨⟨_, _, Try.underlying51, rfl, rfl, rfl⟩⟩
instance : HasFld Try.prog 51 3 12 26 := ⟨⟨_, _, Try.underlying51, rfl, rfl, rfl⟩⟩
instance : HasFld Try.prog 51 4 16 49 := ⟨⟨_, _, Try.underlying51, rfl, rfl, rfl⟩⟩
instance : HasPlaces Try.prog 51 [(0, 4), (4, 4), (8, 4), (12, 4), (16, 9)] := ⟨.inl ⟨_, Try.underlying51, fun w => by kernel_rfl⟩⟩
instance : HasArr Try.prog 66 8 51 := ⟨Try.underlying66⟩
instance : HasPlaces Try.prog 66 [(0, 25), (25, 25), (50, 25), (75, 25), (100, 25), (125, 25), (150, 25), (175, 25)] := ⟨.inr ⟨_, _, _, Try.underlying66, (show _ = some 25 by kernel_rfl), rfl⟩⟩
instance : HasArr Try.prog 71 0 16 := ⟨Try.underlying71⟩
instance : HasPlaces Try.prog 71 [] := ⟨.inr ⟨_, _, _, Try.underlying71, (show _ = some 1 by kernel_rfl), rfl⟩⟩
theorem eqd25 : EqD Try.prog 2 25 true [.int .u64, .int .u64, .int .u64, .int .u64] := eqd_arr (ks := [.int .u64]) Try.underlying25 eqd24 rfl (fun _ => rfl)
instance : EqT Try.prog 25 true [.int .u64, .int .u64, .int .u64, .int .u64] := ⟨⟨_, by decide, eqd25⟩, by kernel_rfl⟩
theorem eqd26 : EqD Try.prog 2 26 true [.int .u64, .int .u64, .int .u64, .int .u64] := eqd_arr (ks := [.int .u64]) Try.underlying26 eqd24 rfl (fun _ => rfl)
instance : EqT Try.prog 26 true [.int .u64, .int .u64, .int .u64, .int .u64] := ⟨⟨_, by decide, eqd26⟩, by kernel_rfl⟩
theorem eqd48 : EqD Try.prog 3 48 true ([.int .u64, .int .u64, .int .u64, .int .u64] ++ ([.int .u64, .int .u64, .int .u64, .int .u64] ++ ([.bool] ++ []))) := by
  refine eqd_struct Try.underlying48 (by kernel_rfl) ?_
  refine EqF.cons _ _ 26 _ _ _ _ rfl ?_ rfl inferInstance (fun dp hdp => eqd26 dp ?_) rfl ?_ ?_
  · decide
  · omega
  · exact fun h => by cases h
  refine EqF.cons _ _ 26 _ _ _ _ rfl ?_ rfl inferInstance (fun dp hdp => eqd26 dp ?_) rfl ?_ ?_
  · decide
  · omega
  · exact fun h => by cases h
  refine EqF.cons _ _ 4 _ _ _ _ rfl ?_ rfl inferInstance (fun dp hdp => eqd4 dp ?_) rfl ?_ ?_
  · decide
  · omega
  · exact fun _ => rfl
  exact EqF.nil _
instance : EqT Try.prog 48 true [.int .u64, .int .u64, .int .u64, .int .u64, .int .u64, .int .u64, .int .u64, .int .u64, .bool] := ⟨⟨_, by decide, eqd48⟩, by kernel_rfl⟩
theorem eqd49 : EqD Try.prog 3 49 true ([.int .u64, .int .u64, .int .u64, .int .u64] ++ ([.int .u64, .int .u64, .int .u64, .int .u64] ++ ([.bool] ++ []))) := by
  refine eqd_struct Try.underlying49 (by kernel_rfl) ?_
  refine EqF.cons _ _ 26 _ _ _ _ rfl ?_ rfl inferInstance (fun dp hdp => eqd26 dp ?_) rfl ?_ ?_
  · decide
  · omega
  · exact fun h => by cases h
  refine EqF.cons _ _ 26 _ _ _ _ rfl ?_ rfl inferInstance (fun dp hdp => eqd26 dp ?_) rfl ?_ ?_
  · decide
  · omega
  · exact fun h => by cases h
  refine EqF.cons _ _ 4 _ _ _ _ rfl ?_ rfl inferInstance (fun dp hdp => eqd4 dp ?_) rfl ?_ ?_
  · decide
  · omega
  · exact fun _ => rfl
  exact EqF.nil _
instance : EqT Try.prog 49 true [.int .u64, .int .u64, .int .u64, .int .u64, .int .u64, .int .u64, .int .u64, .int .u64, .bool] := ⟨⟨_, by decide, eqd49⟩, by kernel_rfl⟩
theorem eqd50 : EqD Try.prog 4 50 true ([.int .u64, .int .u64, .int .u64, .int .u64] ++ ([.int .u64, .int .u64, .int .u64, .int .u64] ++ ([.int .u64, .int .u64, .int .u64, .int .u64] ++ ([.int .u64, .int .u64, .int .u64, .int .u64] ++ ([.int .u64, .int .u64, .int .u64, .int .u64, .int .u64, .int .u64, .int .u64, .int .u64, .bool] ++ []))))) := by
  refine eqd_struct Try.underlying50 (by kernel_rfl) ?_
  refine EqF.cons _ _ 26 _ _ _ _ rfl ?_ rfl inferInstance (fun dp hdp => eqd26 dp ?_) rfl ?_ ?_
  · decide
  · omega
  · exact fun h => by cases h
  refine EqF.cons _ _ 26 _ _ _ _ rfl ?_ rfl inferInstance (fun dp hdp => eqd26 dp ?_) rfl ?_ ?_
  · decide
  · omega
  · exact fun h => by cases h
  refine EqF.cons _ _ 26 _ _ _ _ rfl ?_ rfl inferInstance (fun dp hdp => eqd26 dp ?_) rfl ?_ ?_
  · decide
  · omega
  · exact fun h => by cases h
  refine EqF.cons _ _ 26 _ _ _ _ rfl ?_ rfl inferInstance (fun dp hdp => eqd26 dp ?_) rfl ?_ ?_
  · decide
  · omega
  · exact fun h => by cases h
  refine EqF.cons _ _ 49 _ _ _ _ rfl ?_ rfl inferInstance (fun dp hdp => eqd49 dp ?_) rfl ?_ ?_
  · decide
  · omega
  · exact fun h => by cases h
  exact EqF.nil _
instance : EqT Try.prog 50 true [.int .u64, .int .u64, .int .u64, .int .u64, .int .u64, .int .u64, .int .u64, .int .u64, .int .u64, .int .u64, .int .u64, .int .u64, .int .u64, .int .u64, .int .u64, .int .u64, .int .u64, .int .u64, .int .u64, .int .u64, .int .u64, .int .u64, .int .u64, .int .u64, .bool] := ⟨⟨_, by decide, eqd50⟩, by kernel_rfl⟩
theorem eqd51 : EqD Try.prog 4 51 true ([.int .u64, .int .u64, .int .u64, .int .u64] ++ ([.int .u64, .int .u64, .int .u64, .int .u64] ++ ([.int .u64, .int .u64, .int .u64, .int .u64] ++ ([.int .u64, .int .u64, .int .u64, .int .u64] ++ ([.int .u64, .int .u64, .int .u64, .int .u64, .int .u64, .int .u64, .int .u64, .int .u64, .bool] ++ []))))) := by
  refine eqd_struct Try.underlying51 (by kernel_rfl) ?_
  refine EqF.cons _ _ 26 _ _ _ _ rfl ?_ rfl inferInstance (fun dp hdp => eqd26 dp ?_) rfl ?_ ?_
  · decide
  · omega
  · exact fun h => by cases h
  refine EqF.cons _ _ 26 _ _ _ _ rfl ?_ rfl inferInstance (fun dp hdp => eqd26 dp ?_) rfl ?_ ?_
  · decide
  · omega
  · exact fun h => by cases h
  refine EqF.cons _ _ 26 _ _ _ _ rfl ?_ rfl inferInstance (fun dp hdp => eqd26 dp ?_) rfl ?_ ?_
  · decide
  · omega
  · exact fun h => by cases h
  refine EqF.cons _ _ 26 _ _ _ _ rfl ?_ rfl inferInstance (fun dp hdp => eqd26 dp ?_) rfl ?_ ?_
  · decide
  · omega
  · exact fun h => by cases h
  refine EqF.cons _ _ 49 _ _ _ _ rfl ?_ rfl inferInstance (fun dp hdp => eqd49 dp ?_) rfl ?_ ?_
  · decide
  · omega
  · exact fun h => by cases h
  exact EqF.nil _
instance : EqT Try.prog 51 true [.int .u64, .int .u64, .int .u64, .int .u64, .int .u64, .int .u64, .int .u64, .int .u64, .int .u64, .int .u64, .int .u64, .int .u64, .int .u64, .int .u64, .int .u64, .int .u64, .int .u64, .int .u64, .int .u64, .int .u64, .int .u64, .int .u64, .int .u64, .int .u64, .bool] := ⟨⟨_, by decide, eqd51⟩, by kernel_rfl⟩
instance : HasFn Try.prog 3 := ⟨⟨_, Try.func3, by kernel_rfl, by kernel_rfl⟩⟩
instance : HasFn Try.prog 4 := ⟨⟨_, Try.func4, by kernel_rfl, by kernel_rfl⟩⟩
instance : HasFn Try.prog 5 := ⟨⟨_, Try.func5, by kernel_rfl, by kernel_rfl⟩⟩
instance : HasFn Try.prog 6 := ⟨⟨_, Try.func6, by kernel_rfl, by kernel_rfl⟩⟩
instance : HasFn Try.prog 7 := ⟨⟨_, Try.func7, by kernel_rfl, by kernel_rfl⟩⟩
instance : HasFn Try.prog 8 := ⟨⟨_, Try.func8, by kernel_rfl, by kernel_rfl⟩⟩
instance : HasFn Try.prog 9 := ⟨⟨_, Try.func9, by kernel_rfl, by kernel_rfl⟩⟩
instance : HasFn Try.prog 10 := ⟨⟨_, Try.func10, by kernel_rfl, by kernel_rfl⟩⟩
instance : HasFn Try.prog 11 := ⟨⟨_, Try.func11, by kernel_rfl, by kernel_rfl⟩⟩
instance : HasFn Try.prog 12 := ⟨⟨_, Try.func12, by kernel_rfl, by kernel_rfl⟩⟩
instance : HasFn Try.prog 13 := ⟨⟨_, Try.func13, by kernel_rfl, by kernel_rfl⟩⟩
instance : HasFn Try.prog 14 := ⟨⟨_, Try.func14, by kernel_rfl, by kernel_rfl⟩⟩
instance : HasFn Try.prog 15 := ⟨⟨_, Try.func15, by kernel_rfl, by kernel_rfl⟩⟩
instance : HasFn Try.prog 16 := ⟨⟨_, Try.func16, by kernel_rfl, by kernel_rfl⟩⟩
instance : HasFn Try.prog 17 := ⟨⟨_, Try.func17, by kernel_rfl, by kernel_rfl⟩⟩
instance : HasFn Try.prog 18 := ⟨⟨_, Try.func18, by kernel_rfl, by kernel_rfl⟩⟩
instance : HasFn Try.prog 19 := ⟨⟨_, Try.func19, by kernel_rfl, by kernel_rfl⟩⟩
instance : HasFn Try.prog 20 := ⟨⟨_, Try.func20, by kernel_rfl, by kernel_rfl⟩⟩
instance : HasFn Try.prog 21 := ⟨⟨_, Try.func21, by kernel_rfl, by kernel_rfl⟩⟩
instance : HasFn Try.prog 22 := ⟨⟨_, Try.func22, by kernel_rfl, by kernel_rfl⟩⟩
instance : HasFn Try.prog 23 := ⟨⟨_, Try.func23, by kernel_rfl, by kernel_rfl⟩⟩
instance : HasFn Try.prog 24 := ⟨⟨_, Try.func24, by kernel_rfl, by kernel_rfl⟩⟩
instance : HasFn Try.prog 25 := ⟨⟨_, Try.func25, by kernel_rfl, by kernel_rfl⟩⟩
instance : HasFn Try.prog 26 := ⟨⟨_, Try.func26, by kernel_rfl, by kernel_rfl⟩⟩
instance : HasFn Try.prog 27 := ⟨⟨_, Try.func27, by kernel_rfl, by kernel_rfl⟩⟩
instance : HasFn Try.prog 29 := ⟨⟨_, Try.func29, by kernel_rfl, by kernel_rfl⟩⟩
instance : HasFn Try.prog 30 := ⟨⟨_, Try.func30, by kernel_rfl, by kernel_rfl⟩⟩
instance : HasFn Try.prog 31 := ⟨⟨_, Try.func31, by kernel_rfl, by kernel_rfl⟩⟩
instance : HasFn Try.prog 32 := ⟨⟨_, Try.func32, by kernel_rfl, by kernel_rfl⟩⟩
instance : HasFn Try.prog 33 := ⟨⟨_, Try.func33, by kernel_rfl, by kernel_rfl⟩⟩
instance : HasFn Try.prog 34 := ⟨⟨_, Try.func34, by kernel_rfl, by kernel_rfl⟩⟩
instance : HasFn Try.prog 35 := ⟨⟨_, Try.func35, by kernel_rfl, by kernel_rfl⟩⟩
instance : HasFn Try.prog 36 := ⟨⟨_, Try.func36, by kernel_rfl, by kernel_rfl⟩⟩

end Go.Proofs.Ytdelfiijbkhldaa
