/- The rows of this program's types and functions, as instances. No conditions. -/
import Derived.Test.YtpdhbddkcnffbaaDoorDOp2
import Derived.Test.YtpdhbddkcnffbaaDoorDK2
namespace Go.Proofs.YtpdhbddkcnffbaaDoor
open Go.RowKit
set_option linter.unusedVariables false
set_option linter.unusedVariables false
set_option maxRecDepth 100000
theorem mixed : Tryd.prog.follows .mixedOrders = true := by kernel_rfl
instance : HasTy Tryd.prog 2 ⟨false, 1, [.int .i64 0]⟩ := ⟨⟨_, Tryd.underlying2, rfl⟩, by kernel_rfl, ⟨.int .i64 0, [.int .i64 0], by kernel_rfl, rfl, ⟨rfl, trivial⟩⟩⟩
instance : HasBy Tryd.prog 2 8 := ⟨by kernel_rfl⟩
instance : HasInt Tryd.prog 2 .i64 := ⟨Tryd.underlying2⟩
instance : HasTy Tryd.prog 3 ⟨false, 1, [.int .i64 0]⟩ := ⟨⟨_, Tryd.underlying3, rfl⟩, by kernel_rfl, ⟨.int .i64 0, [.int .i64 0], by kernel_rfl, rfl, ⟨rfl, trivial⟩⟩⟩
instance : HasBy Tryd.prog 3 8 := ⟨by kernel_rfl⟩
instance : HasInt Tryd.prog 3 .i64 := ⟨Tryd.underlying3⟩
theorem eqd3 : EqD Tryd.prog 1 3 false [.int .i64] := eqd_int Tryd.underlying3
instance : HasTy Tryd.prog 4 ⟨false, 1, [.bool false]⟩ := ⟨⟨_, Tryd.underlying4, rfl⟩, by kernel_rfl, ⟨.bool false, [.bool false], by kernel_rfl, rfl, ⟨rfl, trivial⟩⟩⟩
instance : HasBy Tryd.prog 4 1 := ⟨by kernel_rfl⟩
theorem eqd4 : EqD Tryd.prog 1 4 false [.bool] := eqd_bool Tryd.underlying4
instance : HasTy Tryd.prog 5 ⟨false, 1, [.int .u8 0]⟩ := ⟨⟨_, Tryd.underlying5, rfl⟩, by kernel_rfl, ⟨.int .u8 0, [.int .u8 0], by kernel_rfl, rfl, ⟨rfl, trivial⟩⟩⟩
instance : HasBy Tryd.prog 5 1 := ⟨by kernel_rfl⟩
instance : HasInt Tryd.prog 5 .u8 := ⟨Tryd.underlying5⟩
theorem eqd5 : EqD Tryd.prog 1 5 false [.int .u8] := eqd_int Tryd.underlying5
instance : HasTy Tryd.prog 9 ⟨false, 1, [.str ⟨#[]⟩]⟩ := ⟨⟨_, Tryd.underlying9, rfl⟩, by kernel_rfl, ⟨.string ⟨#[]⟩, [.string ⟨#[]⟩], by kernel_rfl, rfl, ⟨rfl, trivial⟩⟩⟩
instance : HasBy Tryd.prog 9 16 := ⟨by kernel_rfl⟩
theorem eqd9 : EqD Tryd.prog 1 9 false [.str] := eqd_str Tryd.underlying9
instance : HasTy Tryd.prog 12 ⟨false, 1, [.int .u64 0]⟩ := ⟨⟨_, Tryd.underlying12, rfl⟩, by kernel_rfl, ⟨.int .u64 0, [.int .u64 0], by kernel_rfl, rfl, ⟨rfl, trivial⟩⟩⟩
instance : HasBy Tryd.prog 12 8 := ⟨by kernel_rfl⟩
instance : HasInt Tryd.prog 12 .u64 := ⟨Tryd.underlying12⟩
instance : HasTy Tryd.prog 15 ⟨false, 1, [.raw (.pointer none)]⟩ := ⟨⟨_, Tryd.underlying15, rfl⟩, by kernel_rfl, ⟨.pointer none, [.pointer none], by kernel_rfl, rfl, ⟨rfl, trivial⟩⟩⟩
instance : HasBy Tryd.prog 15 8 := ⟨by kernel_rfl⟩
instance : HasPtr Tryd.prog 15 137 := ⟨Tryd.underlying15⟩
instance : HasTy Tryd.prog 16 ⟨false, 1, [.raw (.pointer none)]⟩ := ⟨⟨_, Tryd.underlying16, rfl⟩, by kernel_rfl, ⟨.pointer none, [.pointer none], by kernel_rfl, rfl, ⟨rfl, trivial⟩⟩⟩
instance : HasBy Tryd.prog 16 8 := ⟨by kernel_rfl⟩
instance : HasPtr Tryd.prog 16 140 := ⟨Tryd.underlying16⟩
instance : HasTy Tryd.prog 17 ⟨false, 1, [.raw (.pointer none)]⟩ := ⟨⟨_, Tryd.underlying17, rfl⟩, by kernel_rfl, ⟨.pointer none, [.pointer none], by kernel_rfl, rfl, ⟨rfl, trivial⟩⟩⟩
instance : HasBy Tryd.prog 17 8 := ⟨by kernel_rfl⟩
instance : HasPtr Tryd.prog 17 150 := ⟨Tryd.underlying17⟩
instance : HasTy Tryd.prog 21 ⟨false, 1, [.int .i32 0]⟩ := ⟨⟨_, Tryd.underlying21, rfl⟩, by kernel_rfl, ⟨.int .i32 0, [.int .i32 0], by kernel_rfl, rfl, ⟨rfl, trivial⟩⟩⟩
instance : HasBy Tryd.prog 21 4 := ⟨by kernel_rfl⟩
instance : HasInt Tryd.prog 21 .i32 := ⟨Tryd.underlying21⟩
instance : HasTy Tryd.prog 22 ⟨false, 1, [.int .u64 0]⟩ := ⟨⟨_, Tryd.underlying22, rfl⟩, by kernel_rfl, ⟨.int .u64 0, [.int .u64 0], by kernel_rfl, rfl, ⟨rfl, trivial⟩⟩⟩
instance : HasBy Tryd.prog 22 8 := ⟨by kernel_rfl⟩
instance : HasInt Tryd.prog 22 .u64 := ⟨Tryd.underlying22⟩
theorem eqd22 : EqD Tryd.prog 1 22 false [.int .u64] := eqd_int Tryd.underlying22
instance : HasTy Tryd.prog 23 ⟨true, 4, [.int .u64 0, .int .u64 0, .int .u64 0, .int .u64 0]⟩ := ⟨⟨_, Tryd.underlying23, rfl⟩, by kernel_rfl, ⟨.agg #[.int .u64 0, .int .u64 0, .int .u64 0, .int .u64 0], [.int .u64 0, .int .u64 0, .int .u64 0, .int .u64 0], by kernel_rfl, rfl, ⟨rfl, rfl, rfl, rfl, trivial⟩⟩⟩
instance : HasBy Tryd.prog 23 32 := ⟨by kernel_rfl⟩
instance : HasTy Tryd.prog 24 ⟨true, 4, [.int .u64 0, .int .u64 0, .int .u64 0, .int .u64 0]⟩ := ⟨⟨_, Tryd.underlying24, rfl⟩, by kernel_rfl, ⟨.agg #[.int .u64 0, .int .u64 0, .int .u64 0, .int .u64 0], [.int .u64 0, .int .u64 0, .int .u64 0, .int .u64 0], by kernel_rfl, rfl, ⟨rfl, rfl, rfl, rfl, trivial⟩⟩⟩
instance : HasBy Tryd.prog 24 32 := ⟨by kernel_rfl⟩
instance : HasTy Tryd.prog 25 ⟨true, 9, [.int .u64 0, .int .u64 0, .int .u64 0, .int .u64 0, .int .u64 0, .int .u64 0, .int .u64 0, .int .u64 0, .bool false]⟩ := ⟨⟨_, Tryd.underlying25, rfl⟩, by kernel_rfl, ⟨.agg #[.int .u64 0, .int .u64 0, .int .u64 0, .int .u64 0, .int .u64 0, .int .u64 0, .int .u64 0, .int .u64 0, .bool false], [.int .u64 0, .int .u64 0, .int .u64 0, .int .u64 0, .int .u64 0, .int .u64 0, .int .u64 0, .int .u64 0, .bool false], by kernel_rfl, rfl, ⟨rfl, rfl, rfl, rfl, rfl, rfl, rfl, rfl, rfl, trivial⟩⟩⟩
instance : HasBy Tryd.prog 25 72 := ⟨by kernel_rfl⟩
instance : HasTy Tryd.prog 26 ⟨true, 9, [.int .u64 0, .int .u64 0, .int .u64 0, .int .u64 0, .int .u64 0, .int .u64 0, .int .u64 0, .int .u64 0, .bool false]⟩ := ⟨⟨_, Tryd.underlying26, rfl⟩, by kernel_rfl, ⟨.agg #[.int .u64 0, .int .u64 0, .int .u64 0, .int .u64 0, .int .u64 0, .int .u64 0, .int .u64 0, .int .u64 0, .bool false], [.int .u64 0, .int .u64 0, .int .u64 0, .int .u64 0, .int .u64 0, .int .u64 0, .int .u64 0, .int .u64 0, .bool false], by kernel_rfl, rfl, ⟨rfl, rfl, rfl, rfl, rfl, rfl, rfl, rfl, rfl, trivial⟩⟩⟩
instance : HasBy Tryd.prog 26 72 := ⟨by kernel_rfl⟩
instance : HasTy Tryd.prog 27 ⟨true, 25, [.int .u64 0, .int .u64 0, .int .u64 0, .int .u64 0, .int .u64 0, .int .u64 0, .int .u64 0, .int .u64 0, .int .u64 0, .int .u64 0, .int .u64 0, .int .u64 0, .int .u64 0, .int .u64 0, .int .u64 0, .int .u64 0, .int .u64 0, .int .u64 0, .int .u64 0, .int .u64 0, .int .u64 0, .int .u64 0, .int .u64 0, .int .u64 0, .bool false]⟩ := ⟨⟨_, Tryd.underlying27, rfl⟩, by kernel_rfl, ⟨.agg #[.int .u64 0, .int .u64 0, .int .u64 0, .int .u64 0, .int .u64 0, .int .u64 0, .int .u64 0, .int .u64 0, .int .u64 0, .int .u64 0, .int .u64 0, .int .u64 0, .int .u64 0, .int .u64 0, .int .u64 0, .int .u64 0, .int .u64 0, .int .u64 0, .int .u64 0, .int .u64 0, .int .u64 0, .int .u64 0, .int .u64 0, .int .u64 0, .bool false], [.int .u64 0, .int .u64 0, .int .u64 0, .int .u64 0, .int .u64 0, .int .u64 0, .int .u64 0, .int .u64 0, .int .u64 0, .int .u64 0, .int .u64 0, .int .u64 0, .int .u64 0, .int .u64 0, .int .u64 0, .int .u64 0, .int .u64 0, .int .u64 0, .int .u64 0, .int .u64 0, .int .u64 0, .int .u64 0, .int .u64 0, .int .u64 0, .bool false], by kernel_rfl, rfl, ⟨rfl, rfl, rfl, rfl, rfl, rfl, rfl, rfl, rfl, rfl, rfl, rfl, rfl, rfl, rfl, rfl, rfl, rfl, rfl, rfl, rfl, rfl, rfl, rfl, rfl, trivial⟩⟩⟩
instance : HasBy Tryd.prog 27 200 := ⟨by kernel_rfl⟩
instance : HasTy Tryd.prog 28 ⟨true, 25, [.int .u64 0, .int .u64 0, .int .u64 0, .int .u64 0, .int .u64 0, .int .u64 0, .int .u64 0, .int .u64 0, .int .u64 0, .int .u64 0, .int .u64 0, .int .u64 0, .int .u64 0, .int .u64 0, .int .u64 0, .int .u64 0, .int .u64 0, .int .u64 0, .int .u64 0, .int .u64 0, .int .u64 0, .int .u64 0, .int .u64 0, .int .u64 0, .bool false]⟩ := ⟨⟨_, Tryd.underlying28, rfl⟩, by kernel_rfl, ⟨.agg #[.int .u64 0, .int .u64 0, .int .u64 0, .int .u64 0, .int .u64 0, .int .u64 0, .int .u64 0, .int .u64 0, .int .u64 0, .int .u64 0, .int .u64 0, .int .u64 0, .int .u64 0, .int .u64 0, .int .u64 0, .int .u64 0, .int .u64 0, .int .u64 0, .int .u64 0, .int .u64 0, .int .u64 0, .int .u64 0, .int .u64 0, .int .u64 0, .bool false], [.int .u64 0, .int .u64 0, .int .u64 0, .int .u64 0, .int .u64 0, .int .u64 0, .int .u64 0, .int .u64 0, .int .u64 0, .int .u64 0, .int .u64 0, .int .u64 0, .int .u64 0, .int .u64 0, .int .u64 0, .int .u64 0, .int .u64 0, .int .u64 0, .int .u64 0, .int .u64 0, .int .u64 0, .int .u64 0, .int .u64 0, .int .u64 0, .bool false], by kernel_rfl, rfl, ⟨rfl, rfl, rfl, rfl, rfl, rfl, rfl, rfl, rfl, rfl, rfl, rfl, rfl, rfl, rfl, rfl, rfl, rfl, rfl, rfl, rfl, rfl, rfl, rfl, rfl, trivial⟩⟩⟩
instance : HasBy Tryd.prog 28 200 := ⟨by kernel_rfl⟩
instance : HasTy Tryd.prog 31 ⟨false, 1, [.int .i64 0]⟩ := ⟨⟨_, Tryd.underlying31, rfl⟩, by kernel_rfl, ⟨.int .i64 0, [.int .i64 0], by kernel_rfl, rfl, ⟨rfl, trivial⟩⟩⟩
instance : HasBy Tryd.prog 31 8 := ⟨by kernel_rfl⟩
instance : HasInt Tryd.prog 31 .i64 := ⟨Tryd.underlying31⟩
instance : HasTy Tryd.prog 34 ⟨true, 20, [.int .u8 0, .int .u8 0, .int .u8 0, .int .u8 0, .int .u8 0, .int .u8 0, .int .u8 0, .int .u8 0, .int .u8 0, .int .u8 0, .int .u8 0, .int .u8 0, .int .u8 0, .int .u8 0, .int .u8 0, .int .u8 0, .int .u8 0, .int .u8 0, .int .u8 0, .int .u8 0]⟩ := ⟨⟨_, Tryd.underlying34, rfl⟩, by kernel_rfl, ⟨.agg #[.int .u8 0, .int .u8 0, .int .u8 0, .int .u8 0, .int .u8 0, .int .u8 0, .int .u8 0, .int .u8 0, .int .u8 0, .int .u8 0, .int .u8 0, .int .u8 0, .int .u8 0, .int .u8 0, .int .u8 0, .int .u8 0, .int .u8 0, .int .u8 0, .int .u8 0, .int .u8 0], [.int .u8 0, .int .u8 0, .int .u8 0, .int .u8 0, .int .u8 0, .int .u8 0, .int .u8 0, .int .u8 0, .int .u8 0, .int .u8 0, .int .u8 0, .int .u8 0, .int .u8 0, .int .u8 0, .int .u8 0, .int .u8 0, .int .u8 0, .int .u8 0, .int .u8 0, .int .u8 0], by kernel_rfl, rfl, ⟨rfl, rfl, rfl, rfl, rfl, rfl, rfl, rfl, rfl, rfl, rfl, rfl, rfl, rfl, rfl, rfl, rfl, rfl, rfl, rfl, trivial⟩⟩⟩
instance : HasBy Tryd.prog 34 20 := ⟨by kernel_rfl⟩
instance : HasTy Tryd.prog 35 ⟨true, 20, [.int .u8 0, .int .u8 0, .int .u8 0, .int .u8 0, .int .u8 0, .int .u8 0, .int .u8 0, .int .u8 0, .int .u8 0, .int .u8 0, .int .u8 0, .int .u8 0, .int .u8 0, .int .u8 0, .int .u8 0, .int .u8 0, .int .u8 0, .int .u8 0, .int .u8 0, .int .u8 0]⟩ := ⟨⟨_, Tryd.underlying35, rfl⟩, by kernel_rfl, ⟨.agg #[.int .u8 0, .int .u8 0, .int .u8 0, .int .u8 0, .int .u8 0, .int .u8 0, .int .u8 0, .int .u8 0, .int .u8 0, .int .u8 0, .int .u8 0, .int .u8 0, .int .u8 0, .int .u8 0, .int .u8 0, .int .u8 0, .int .u8 0, .int .u8 0, .int .u8 0, .int .u8 0], [.int .u8 0, .int .u8 0, .int .u8 0, .int .u8 0, .int .u8 0, .int .u8 0, .int .u8 0, .int .u8 0, .int .u8 0, .int .u8 0, .int .u8 0, .int .u8 0, .int .u8 0, .int .u8 0, .int .u8 0, .int .u8 0, .int .u8 0, .int .u8 0, .int .u8 0, .int .u8 0], by kernel_rfl, rfl, ⟨rfl, rfl, rfl, rfl, rfl, rfl, rfl, rfl, rfl, rfl, rfl, rfl, rfl, rfl, rfl, rfl, rfl, rfl, rfl, rfl, trivial⟩⟩⟩
instance : HasBy Tryd.prog 35 20 := ⟨by kernel_rfl⟩
instance : HasTy Tryd.prog 37 ⟨false, 1, [.slice .nil 0 []]⟩ := ⟨⟨_, Tryd.underlying37, rfl⟩, by kernel_rfl, ⟨.slice none 0 0, [.slice none 0 0], by kernel_rfl, rfl, ⟨rfl, trivial⟩⟩⟩
instance : HasBy Tryd.prog 37 24 := ⟨by kernel_rfl⟩
instance : HasSl Tryd.prog 37 5 := ⟨Tryd.underlying37⟩
instance : HasTy Tryd.prog 38 ⟨false, 1, [.slice .nil 0 []]⟩ := ⟨⟨_, Tryd.underlying38, rfl⟩, by kernel_rfl, ⟨.slice none 0 0, [.slice none 0 0], by kernel_rfl, rfl, ⟨rfl, trivial⟩⟩⟩
instance : HasBy Tryd.prog 38 24 := ⟨by kernel_rfl⟩
instance : HasSl Tryd.prog 38 9 := ⟨Tryd.underlying38⟩
instance : HasTy Tryd.prog 40 ⟨true, 4, [.int .i64 0, .int .i64 0, .int .i64 0, .str ⟨#[]⟩]⟩ := ⟨⟨_, Tryd.underlying40, rfl⟩, by kernel_rfl, ⟨.agg #[.int .i64 0, .int .i64 0, .int .i64 0, .string ⟨#[]⟩], [.int .i64 0, .int .i64 0, .int .i64 0, .string ⟨#[]⟩], by kernel_rfl, rfl, ⟨rfl, rfl, rfl, rfl, trivial⟩⟩⟩
instance : HasBy Tryd.prog 40 40 := ⟨by kernel_rfl⟩
instance : HasTy Tryd.prog 41 ⟨true, 4, [.int .i64 0, .int .i64 0, .int .i64 0, .str ⟨#[]⟩]⟩ := ⟨⟨_, Tryd.underlying41, rfl⟩, by kernel_rfl, ⟨.agg #[.int .i64 0, .int .i64 0, .int .i64 0, .string ⟨#[]⟩], [.int .i64 0, .int .i64 0, .int .i64 0, .string ⟨#[]⟩], by kernel_rfl, rfl, ⟨rfl, rfl, rfl, rfl, trivial⟩⟩⟩
instance : HasBy Tryd.prog 41 40 := ⟨by kernel_rfl⟩
instance : HasTy Tryd.prog 44 ⟨true, 9, [.int .u64 0, .int .u64 0, .int .u64 0, .int .u64 0, .int .u64 0, .int .u64 0, .int .u64 0, .int .u64 0, .int .i64 0]⟩ := ⟨⟨_, Tryd.underlying44, rfl⟩, by kernel_rfl, ⟨.agg #[.int .u64 0, .int .u64 0, .int .u64 0, .int .u64 0, .int .u64 0, .int .u64 0, .int .u64 0, .int .u64 0, .int .i64 0], [.int .u64 0, .int .u64 0, .int .u64 0, .int .u64 0, .int .u64 0, .int .u64 0, .int .u64 0, .int .u64 0, .int .i64 0], by kernel_rfl, rfl, ⟨rfl, rfl, rfl, rfl, rfl, rfl, rfl, rfl, rfl, trivial⟩⟩⟩
instance : HasBy Tryd.prog 44 72 := ⟨by kernel_rfl⟩
instance : HasTy Tryd.prog 45 ⟨true, 9, [.int .u64 0, .int .u64 0, .int .u64 0, .int .u64 0, .int .u64 0, .int .u64 0, .int .u64 0, .int .u64 0, .int .i64 0]⟩ := ⟨⟨_, Tryd.underlying45, rfl⟩, by kernel_rfl, ⟨.agg #[.int .u64 0, .int .u64 0, .int .u64 0, .int .u64 0, .int .u64 0, .int .u64 0, .int .u64 0, .int .u64 0, .int .i64 0], [.int .u64 0, .int .u64 0, .int .u64 0, .int .u64 0, .int .u64 0, .int .u64 0, .int .u64 0, .int .u64 0, .int .i64 0], by kernel_rfl, rfl, ⟨rfl, rfl, rfl, rfl, rfl, rfl, rfl, rfl, rfl, trivial⟩⟩⟩
instance : HasBy Tryd.prog 45 72 := ⟨by kernel_rfl⟩
instance : HasTy Tryd.prog 48 ⟨true, 32, [.int .u8 0, .int .u8 0, .int .u8 0, .int .u8 0, .int .u8 0, .int .u8 0, .int .u8 0, .int .u8 0, .int .u8 0, .int .u8 0, .int .u8 0, .int .u8 0, .int .u8 0, .int .u8 0, .int .u8 0, .int .u8 0, .int .u8 0, .int .u8 0, .int .u8 0, .int .u8 0, .int .u8 0, .int .u8 0, .int .u8 0, .int .u8 0, .int .u8 0, .int .u8 0, .int .u8 0, .int .u8 0, .int .u8 0, .int .u8 0, .int .u8 0, .int .u8 0]⟩ := ⟨⟨_, Tryd.underlying48, rfl⟩, by kernel_rfl, ⟨.agg #[.int .u8 0, .int .u8 0, .int .u8 0, .int .u8 0, .int .u8 0, .int .u8 0, .int .u8 0, .int .u8 0, .int .u8 0, .int .u8 0, .int .u8 0, .int .u8 0, .int .u8 0, .int .u8 0, .int .u8 0, .int .u8 0, .int .u8 0, .int .u8 0, .int .u8 0, .int .u8 0, .int .u8 0, .int .u8 0, .int .u8 0, .int .u8 0, .int .u8 0, .int .u8 0, .int .u8 0, .int .u8 0, .int .u8 0, .int .u8 0, .int .u8 0, .int .u8 0], [.int .u8 0, .int .u8 0, .int .u8 0, .int .u8 0, .int .u8 0, .int .u8 0, .int .u8 0, .int .u8 0, .int .u8 0, .int .u8 0, .int .u8 0, .int .u8 0, .int .u8 0, .int .u8 0, .int .u8 0, .int .u8 0, .int .u8 0, .int .u8 0, .int .u8 0, .int .u8 0, .int .u8 0, .int .u8 0, .int .u8 0, .int .u8 0, .int .u8 0, .int .u8 0, .int .u8 0, .int .u8 0, .int .u8 0, .int .u8 0, .int .u8 0, .int .u8 0], by kernel_rfl, rfl, ⟨rfl, rfl, rfl, rfl, rfl, rfl, rfl, rfl, rfl, rfl, rfl, rfl, rfl, rfl, rfl, rfl, rfl, rfl, rfl, rfl, rfl, rfl, rfl, rfl, rfl, rfl, rfl, rfl, rfl, rfl, rfl, rfl, trivial⟩⟩⟩
instance : HasBy Tryd.prog 48 32 := ⟨by kernel_rfl⟩
instance : HasTy Tryd.prog 61 ⟨false, 1, [.slice .nil 0 []]⟩ := ⟨⟨_, Tryd.underlying61, rfl⟩, by kernel_rfl, ⟨.slice none 0 0, [.slice none 0 0], by kernel_rfl, rfl, ⟨rfl, trivial⟩⟩⟩
instance : HasBy Tryd.prog 61 24 := ⟨by kernel_rfl⟩
instance : HasSl Tryd.prog 61 35 := ⟨Tryd.underlying61⟩
instance : HasTy Tryd.prog 62 ⟨true, 3, [.int .i64 0, .slice .nil 0 [], .int .i64 0]⟩ := ⟨⟨_, Tryd.underlying62, rfl⟩, by kernel_rfl, ⟨.agg #[.int .i64 0, .slice none 0 0, .int .i64 0], [.int .i64 0, .slice none 0 0, .int .i64 0], by kernel_rfl, rfl, ⟨rfl, rfl, rfl, trivial⟩⟩⟩
instance : HasBy Tryd.prog 62 40 := ⟨by kernel_rfl⟩
instance : HasTy Tryd.prog 63 ⟨true, 3, [.int .i64 0, .slice .nil 0 [], .int .i64 0]⟩ := ⟨⟨_, Tryd.underlying63, rfl⟩, by kernel_rfl, ⟨.agg #[.int .i64 0, .slice none 0 0, .int .i64 0], [.int .i64 0, .slice none 0 0, .int .i64 0], by kernel_rfl, rfl, ⟨rfl, rfl, rfl, trivial⟩⟩⟩
instance : HasBy Tryd.prog 63 40 := ⟨by kernel_rfl⟩
instance : HasTy Tryd.prog 64 ⟨false, 1, [.slice .nil 0 []]⟩ := ⟨⟨_, Tryd.underlying64, rfl⟩, by kernel_rfl, ⟨.slice none 0 0, [.slice none 0 0], by kernel_rfl, rfl, ⟨rfl, trivial⟩⟩⟩
instance : HasBy Tryd.prog 64 24 := ⟨by kernel_rfl⟩
instance : HasSl Tryd.prog 64 24 := ⟨Tryd.underlying64⟩
instance : HasTy Tryd.prog 67 ⟨false, 1, [.slice .nil 0 []]⟩ := ⟨⟨_, Tryd.underlying67, rfl⟩, by kernel_rfl, ⟨.slice none 0 0, [.slice none 0 0], by kernel_rfl, rfl, ⟨rfl, trivial⟩⟩⟩
instance : HasBy Tryd.prog 67 24 := ⟨by kernel_rfl⟩
instance : HasSl Tryd.prog 67 73 := ⟨Tryd.underlying67⟩
instance : HasTy Tryd.prog 72 ⟨true, 10, [.int .i64 0, .int .u64 0, .int .u64 0, .int .u64 0, .int .u64 0, .int .u64 0, .int .u64 0, .int .u64 0, .int .u64 0, .int .i64 0]⟩ := ⟨⟨_, Tryd.underlying72, rfl⟩, by kernel_rfl, ⟨.agg #[.int .i64 0, .int .u64 0, .int .u64 0, .int .u64 0, .int .u64 0, .int .u64 0, .int .u64 0, .int .u64 0, .int .u64 0, .int .i64 0], [.int .i64 0, .int .u64 0, .int .u64 0, .int .u64 0, .int .u64 0, .int .u64 0, .int .u64 0, .int .u64 0, .int .u64 0, .int .i64 0], by kernel_rfl, rfl, ⟨rfl, rfl, rfl, rfl, rfl, rfl, rfl, rfl, rfl, rfl, trivial⟩⟩⟩
instance : HasBy Tryd.prog 72 80 := ⟨by kernel_rfl⟩
instance : HasTy Tryd.prog 73 ⟨true, 10, [.int .i64 0, .int .u64 0, .int .u64 0, .int .u64 0, .int .u64 0, .int .u64 0, .int .u64 0, .int .u64 0, .int .u64 0, .int .i64 0]⟩ := ⟨⟨_, Tryd.underlying73, rfl⟩, by kernel_rfl, ⟨.agg #[.int .i64 0, .int .u64 0, .int .u64 0, .int .u64 0, .int .u64 0, .int .u64 0, .int .u64 0, .int .u64 0, .int .u64 0, .int .i64 0], [.int .i64 0, .int .u64 0, .int .u64 0, .int .u64 0, .int .u64 0, .int .u64 0, .int .u64 0, .int .u64 0, .int .u64 0, .int .i64 0], by kernel_rfl, rfl, ⟨rfl, rfl, rfl, rfl, rfl, rfl, rfl, rfl, rfl, rfl, trivial⟩⟩⟩
instance : HasBy Tryd.prog 73 80 := ⟨by kernel_rfl⟩
instance : HasTy Tryd.prog 82 ⟨true, 200, [.int .u64 0, .int .u64 0, .int .u64 0, .int .u64 0, .int .u64 0, .int .u64 0, .int .u64 0, .int .u64 0, .int .u64 0, .int .u64 0, .int .u64 0, .int .u64 0, .int .u64 0, .int .u64 0, .int .u64 0, .int .u64 0, .int .u64 0, .int .u64 0, .int .u64 0, .int .u64 0, .int .u64 0, .int .u64 0, .int .u64 0, .int .u64 0, .bool false, .int .u64 0, .int .u64 0, .int .u64 0, .int .u64 0, .int .u64 0, .int .u64 0, .int .u64 0, .int .u64 0, .int .u64 0, .int .u64 0, .int .u64 0, .int .u64 0, .int .u64 0, .int .u64 0, .int .u64 0, .int .u64 0, .int .u64 0, .int .u64 0, .int .u64 0, .int .u64 0, .int .u64 0, .int .u64 0, .int .u64 0, .int .u64 0, .bool false, .int .u64 0, .int .u64 0, .int .u64 0, .int .u64 0, .int .u64 0, .int .u64 0, .int .u64 0, .int .u64 0, .int .u64 0, .int .u64 0, .int .u64 0, .int .u64 0, .int .u64 0, .int .u64 0, .int .u64 0, .int .u64 0, .int .u64 0, .int .u64 0, .int .u64 0, .int .u64 0, .int .u64 0, .int .u64 0, .int .u64 0, .int .u64 0, .bool false, .int .u64 0, .int .u64 0, .int .u64 0, .int .u64 0, .int .u64 0, .int .u64 0, .int .u64 0, .int .u64 0, .int .u64 0, .int .u64 0, .int .u64 0, .int .u64 0, .int .u64 0, .int .u64 0, .int .u64 0, .int .u64 0, .int .u64 0, .int .u64 0, .int .u64 0, .int .u64 0, .int .u64 0, .int .u64 0, .int .u64 0, .int .u64 0, .bool false, .int .u64 0, .int .u64 0, .int .u64 0, .int .u64 0, .int .u64 0, .int .u64 0, .int .u64 0, .int .u64 0, .int .u64 0, .int .u64 0, .int .u64 0, .int .u64 0, .int .u64 0, .int .u64 0, .int .u64 0, .int .u64 0, .int .u64 0, .int .u64 0, .int .u64 0, .int .u64 0, .int .u64 0, .int .u64 0, .int .u64 0, .int .u64 0, .bool false, .int .u64 0, .int .u64 0, .int .u64 0, .int .u64 0, .int .u64 0, .int .u64 0, .int .u64 0, .int .u64 0, .int .u64 0, .int .u64 0, .int .u64 0, .int .u64 0, .int .u64 0, .int .u64 0, .int .u64 0, .int .u64 0, .int .u64 0, .int .u64 0, .int .u64 0, .int .u64 0, .int .u64 0, .int .u64 0, .int .u64 0, .int .u64 0, .bool false, .int .u64 0, .int .u64 0, .int .u64 0, .int .u64 0, .int .u64 0, .int .u64 0, .int .u64 0, .int .u64 0, .int .u64 0, .int .u64 0, .int .u64 0, .int .u64 0, .int .u64 0, .int .u64 0, .int .u64 0, .int .u64 0, .int .u64 0, .int .u64 0, .int .u64 0, .int .u64 0, .int .u64 0, .int .u64 0, .int .u64 0, .int .u64 0, .bool false, .int .u64 0, .int .u64 0, .int .u64 0, .int .u64 0, .int .u64 0, .int .u64 0, .int .u64 0, .int .u64 0, .int .u64 0, .int .u64 0, .int .u64 0, .int .u64 0, .int .u64 0, .int .u64 0, .int .u64 0, .int .u64 0, .int .u64 0, .int .u64 0, .int .u64 0, .int .u64 0, .int .u64 0, .int .u64 0, .int .u64 0, .int .u64 0, .bool false]⟩ := ⟨⟨_, Tryd.underlying82, rfl⟩, by kernel_rfl, ⟨.agg #[.int .u64 0, .int .u64 0, .int .u64 0, .int .u64 0, .int .u64 0, .int .u64 0, .int .u64 0, .int .u64 0, .int .u64 0, .int .u64 0, .int .u64 0, .int .u64 0, .int .u64 0, .int .u64 0, .int .u64 0, .int .u64 0, .int .u64 0, .int .u64 0, .int .u64 0, .int .u64 0, .int .u64 0, .int .u64 0, .int .u64 0, .int .u64 0, .bool false, .int .u64 0, .int .u64 0, .int .u64 0, .int .u64 0, .int .u64 0, .int .u64 0, .int .u64 0, .int .u64 0, .int .u64 0, .int .u64 0, .int .u64 0, .int .u64 0, .int .u64 0, .int .u64 0, .int .u64 0, .int .u64 0, .int .u64 0, .int .u64 0, .int .u64 0, .int .u64 0, .int .u64 0, .int .u64 0, .int .u64 0, .int .u64 0, .bool false, .int .u64 0, .int .u64 0, .int .u64 0, .int .u64 0, .int .u64 0, .int .u64 0, .int .u64 0, .int .u64 0, .int .u64 0, .int .u64 0, .int .u64 0, .int .u64 0, .int .u64 0, .int .u64 0, .int .u64 0, .int .u64 0, .int .u64 0, .int .u64 0, .int .u64 0, .int .u64 0, .int .u64 0, .int .u64 0, .int .u64 0, .int .u64 0, .bool false, .int .u64 0, .int .u64 0, .int .u64 0, .int .u64 0, .int .u64 0, .int .u64 0, .int .u64 0, .int .u64 0, .int .u64 0, .int .u64 0, .int .u64 0, .int .u64 0, .int .u64 0, .int .u64 0, .int .u64 0, .int .u64 0, .int .u64 0, .int .u64 0, .int .u64 0, .int .u64 0, .int .u64 0, .int .u64 0, .int .u64 0, .int .u64 0, .bool false, .int .u64 0, .int .u64 0, .int .u64 0, .int .u64 0, .int .u64 0, .int .u64 0, .int .u64 0, .int .u64 0, .int .u64 0, .int .u64 0, .int .u64 0, .int .u64 0, .int .u64 0, .int .u64 0, .int .u64 0, .int .u64 0, .int .u64 0, .int .u64 0, .int .u64 0, .int .u64 0, .int .u64 0, .int .u64 0, .int .u64 0, .int .u64 0, .bool false, .int .u64 0, .int .u64 0, .int .u64 0, .int .u64 0, .int .u64 0, .int .u64 0, .int .u64 0, .int .u64 0, .int .u64 0, .int .u64 0, .int .u64 0, .int .u64 0, .int .u64 0, .int .u64 0, .int .u64 0, .int .u64 0, .int .u64 0, .int .u64 0, .int .u64 0, .int .u64 0, .int .u64 0, .int .u64 0, .int .u64 0, .int .u64 0, .bool false, .int .u64 0, .int .u64 0, .int .u64 0, .int .u64 0, .int .u64 0, .int .u64 0, .int .u64 0, .int .u64 0, .int .u64 0, .int .u64 0, .int .u64 0, .int .u64 0, .int .u64 0, .int .u64 0, .int .u64 0, .int .u64 0, .int .u64 0, .int .u64 0, .int .u64 0, .int .u64 0, .int .u64 0, .int .u64 0, .int .u64 0, .int .u64 0, .bool false, .int .u64 0, .int .u64 0, .int .u64 0, .int .u64 0, .int .u64 0, .int .u64 0, .int .u64 0, .int .u64 0, .int .u64 0, .int .u64 0, .int .u64 0, .int .u64 0, .int .u64 0, .int .u64 0, .int .u64 0, .int .u64 0, .int .u64 0, .int .u64 0, .int .u64 0, .int .u64 0, .int .u64 0, .int .u64 0, .int .u64 0, .int .u64 0, .bool false], [.int .u64 0, .int .u64 0, .int .u64 0, .int .u64 0, .int .u64 0, .int .u64 0, .int .u64 0, .int .u64 0, .int .u64 0, .int .u64 0, .int .u64 0, .int .u64 0, .int .u64 0, .int .u64 0, .int .u64 0, .int .u64 0, .int .u64 0, .int .u64 0, .int .u64 0, .int .u64 0, .int .u64 0, .int .u64 0, .int .u64 0, .int .u64 0, .bool false, .int .u64 0, .int .u64 0, .int .u64 0, .int .u64 0, .int .u64 0, .int .u64 0, .int .u64 0, .int .u64 0, .int .u64 0, .int .u64 0, .int .u64 0, .int .u64 0, .int .u64 0, .int .u64 0, .int .u64 0, .int .u64 0, .int .u64 0, .int .u64 0, .int .u64 0, .int .u64 0, .int .u64 0, .int .u64 0, .int .u64 0, .int .u64 0, .bool false, .int .u64 0, .int .u64 0, .int .u64 0, .int .u64 0, .int .u64 0, .int .u64 0, .int .u64 0, .int .u64 0, .int .u64 0, .int .u64 0, .int .u64 0, .int .u64 0, .int .u64 0, .int .u64 0, .int .u64 0, .int .u64 0, .int .u64 0, .int .u64 0, .int .u64 0, .int .u64 0, .int .u64 0, .int .u64 0, .int .u64 0, .int .u64 0, .bool false, .int .u64 0, .int .u64 0, .int .u64 0, .int .u64 0, .int .u64 0, .int .u64 0, .int .u64 0, .int .u64 0, .int .u64 0, .int .u64 0, .int .u64 0, .int .u64 0, .int .u64 0, .int .u64 0, .int .u64 0, .int .u64 0, .int .u64 0, .int .u64 0, .int .u64 0, .int .u64 0, .int .u64 0, .int .u64 0, .int .u64 0, .int .u64 0, .bool false, .int .u64 0, .int .u64 0, .int .u64 0, .int .u64 0, .int .u64 0, .int .u64 0, .int .u64 0, .int .u64 0, .int .u64 0, .int .u64 0, .int .u64 0, .int .u64 0, .int .u64 0, .int .u64 0, .int .u64 0, .int .u64 0, .int .u64 0, .int .u64 0, .int .u64 0, .int .u64 0, .int .u64 0, .int .u64 0, .int .u64 0, .int .u64 0, .bool false, .int .u64 0, .int .u64 0, .int .u64 0, .int .u64 0, .int .u64 0, .int .u64 0, .int .u64 0, .int .u64 0, .int .u64 0, .int .u64 0, .int .u64 0, .int .u64 0, .int .u64 0, .int .u64 0, .int .u64 0, .int .u64 0, .int .u64 0, .int .u64 0, .int .u64 0, .int .u64 0, .int .u64 0, .int .u64 0, .int .u64 0, .int .u64 0, .bool false, .int .u64 0, .int .u64 0, .int .u64 0, .int .u64 0, .int .u64 0, .int .u64 0, .int .u64 0, .int .u64 0, .int .u64 0, .int .u64 0, .int .u64 0, .int .u64 0, .int .u64 0, .int .u64 0, .int .u64 0, .int .u64 0, .int .u64 0, .int .u64 0, .int .u64 0, .int .u64 0, .int .u64 0, .int .u64 0, .int .u64 0, .int .u64 0, .bool false, .int .u64 0, .int .u64 0, .int .u64 0, .int .u64 0, .int .u64 0, .int .u64 0, .int .u64 0, .int .u64 0, .int .u64 0, .int .u64 0, .int .u64 0, .int .u64 0, .int .u64 0, .int .u64 0, .int .u64 0, .int .u64 0, .int .u64 0, .int .u64 0, .int .u64 0, .int .u64 0, .int .u64 0, .int .u64 0, .int .u64 0, .int .u64 0, .bool false], by kernel_rfl, rfl, ⟨rfl, rfl, rfl, rfl, rfl, rfl, rfl, rfl, rfl, rfl, rfl, rfl, rfl, rfl, rfl, rfl, rfl, rfl, rfl, rfl, rfl, rfl, rfl, rfl, rfl, rfl, rfl, rfl, rfl, rfl, rfl, rfl, rfl, rfl, rfl, rfl, rfl, rfl, rfl, rfl, rfl, rfl, rfl, rfl, rfl, rfl, rfl, rfl, rfl, rfl, rfl, rfl, rfl, rfl, rfl, rfl, rfl, rfl, rfl, rfl, rfl, rfl, rfl, rfl, rfl, rfl, rfl, rfl, rfl, rfl, rfl, rfl, rfl, rfl, rfl, rfl, rfl, rfl, rfl, rfl, rfl, rfl, rfl, rfl, rfl, rfl, rfl, rfl, rfl, rfl, rfl, rfl, rfl, rfl, rfl, rfl, rfl, rfl, rfl, rfl, rfl, rfl, rfl, rfl, rfl, rfl, rfl, rfl, rfl, rfl, rfl, rfl, rfl, rfl, rfl, rfl, rfl, rfl, rfl, rfl, rfl, rfl, rfl, rfl, rfl, rfl, rfl, rfl, rfl, rfl, rfl, rfl, rfl, rfl, rfl, rfl, rfl, rfl, rfl, rfl, rfl, rfl, rfl, rfl, rfl, rfl, rfl, rfl, rfl, rfl, rfl, rfl, rfl, rfl, rfl, rfl, rfl, rfl, rfl, rfl, rfl, rfl, rfl, rfl, rfl, rfl, rfl, rfl, rfl, rfl, rfl, rfl, rfl, rfl, rfl, rfl, rfl, rfl, rfl, rfl, rfl, rfl, rfl, rfl, rfl, rfl, rfl, rfl, rfl, rfl, rfl, rfl, rfl, rfl, rfl, rfl, rfl, rfl, rfl, rfl, trivial⟩⟩⟩
instance : HasBy Tryd.prog 82 1600 := ⟨by kernel_rfl⟩
instance : HasTy Tryd.prog 98 ⟨false, 1, [.raw (.pointer none)]⟩ := ⟨⟨_, Tryd.underlying98, rfl⟩, by kernel_rfl, ⟨.pointer none, [.pointer none], by kernel_rfl, rfl, ⟨rfl, trivial⟩⟩⟩
instance : HasBy Tryd.prog 98 8 := ⟨by kernel_rfl⟩
instance : HasPtr Tryd.prog 98 4 := ⟨Tryd.underlying98⟩
instance : HasTy Tryd.prog 99 ⟨true, 5, [.int .u64 0, .int .u64 0, .int .u64 0, .int .u64 0, .raw (.pointer none)]⟩ := ⟨⟨_, Tryd.underlying99, rfl⟩, by kernel_rfl, ⟨.agg #[.int .u64 0, .int .u64 0, .int .u64 0, .int .u64 0, .pointer none], [.int .u64 0, .int .u64 0, .int .u64 0, .int .u64 0, .pointer none], by kernel_rfl, rfl, ⟨rfl, rfl, rfl, rfl, rfl, trivial⟩⟩⟩
instance : HasBy Tryd.prog 99 40 := ⟨by kernel_rfl⟩
instance : HasTy Tryd.prog 100 ⟨true, 5, [.int .u64 0, .int .u64 0, .int .u64 0, .int .u64 0, .raw (.pointer none)]⟩ := ⟨⟨_, Tryd.underlying100, rfl⟩, by kernel_rfl, ⟨.agg #[.int .u64 0, .int .u64 0, .int .u64 0, .int .u64 0, .pointer none], [.int .u64 0, .int .u64 0, .int .u64 0, .int .u64 0, .pointer none], by kernel_rfl, rfl, ⟨rfl, rfl, rfl, rfl, rfl, trivial⟩⟩⟩
instance : HasBy Tryd.prog 100 40 := ⟨by kernel_rfl⟩
instance : HasTy Tryd.prog 107 ⟨true, 25, [.int .u64 0, .int .u64 0, .int .u64 0, .int .u64 0, .int .u64 0, .int .u64 0, .int .u64 0, .int .u64 0, .int .u64 0, .int .u64 0, .int .u64 0, .int .u64 0, .int .u64 0, .int .u64 0, .int .u64 0, .int .u64 0, .int .u64 0, .int .u64 0, .int .u64 0, .int .u64 0, .int .u64 0, .int .u64 0, .int .u64 0, .int .u64 0, .int .u64 0]⟩ := ⟨⟨_, Tryd.underlying107, rfl⟩, by kernel_rfl, ⟨.agg #[.int .u64 0, .int .u64 0, .int .u64 0, .int .u64 0, .int .u64 0, .int .u64 0, .int .u64 0, .int .u64 0, .int .u64 0, .int .u64 0, .int .u64 0, .int .u64 0, .int .u64 0, .int .u64 0, .int .u64 0, .int .u64 0, .int .u64 0, .int .u64 0, .int .u64 0, .int .u64 0, .int .u64 0, .int .u64 0, .int .u64 0, .int .u64 0, .int .u64 0], [.int .u64 0, .int .u64 0, .int .u64 0, .int .u64 0, .int .u64 0, .int .u64 0, .int .u64 0, .int .u64 0, .int .u64 0, .int .u64 0, .int .u64 0, .int .u64 0, .int .u64 0, .int .u64 0, .int .u64 0, .int .u64 0, .int .u64 0, .int .u64 0, .int .u64 0, .int .u64 0, .int .u64 0, .int .u64 0, .int .u64 0, .int .u64 0, .int .u64 0], by kernel_rfl, rfl, ⟨rfl, rfl, rfl, rfl, rfl, rfl, rfl, rfl, rfl, rfl, rfl, rfl, rfl, rfl, rfl, rfl, rfl, rfl, rfl, rfl, rfl, rfl, rfl, rfl, rfl, trivial⟩⟩⟩
instance : HasBy Tryd.prog 107 200 := ⟨by kernel_rfl⟩
instance : HasTy Tryd.prog 108 ⟨true, 136, [.int .u8 0, .int .u8 0, .int .u8 0, .int .u8 0, .int .u8 0, .int .u8 0, .int .u8 0, .int .u8 0, .int .u8 0, .int .u8 0, .int .u8 0, .int .u8 0, .int .u8 0, .int .u8 0, .int .u8 0, .int .u8 0, .int .u8 0, .int .u8 0, .int .u8 0, .int .u8 0, .int .u8 0, .int .u8 0, .int .u8 0, .int .u8 0, .int .u8 0, .int .u8 0, .int .u8 0, .int .u8 0, .int .u8 0, .int .u8 0, .int .u8 0, .int .u8 0, .int .u8 0, .int .u8 0, .int .u8 0, .int .u8 0, .int .u8 0, .int .u8 0, .int .u8 0, .int .u8 0, .int .u8 0, .int .u8 0, .int .u8 0, .int .u8 0, .int .u8 0, .int .u8 0, .int .u8 0, .int .u8 0, .int .u8 0, .int .u8 0, .int .u8 0, .int .u8 0, .int .u8 0, .int .u8 0, .int .u8 0, .int .u8 0, .int .u8 0, .int .u8 0, .int .u8 0, .int .u8 0, .int .u8 0, .int .u8 0, .int .u8 0, .int .u8 0, .int .u8 0, .int .u8 0, .int .u8 0, .int .u8 0, .int .u8 0, .int .u8 0, .int .u8 0, .int .u8 0, .int .u8 0, .int .u8 0, .int .u8 0, .int .u8 0, .int .u8 0, .int .u8 0, .int .u8 0, .int .u8 0, .int .u8 0, .int .u8 0, .int .u8 0, .int .u8 0, .int .u8 0, .int .u8 0, .int .u8 0, .int .u8 0, .int .u8 0, .int .u8 0, .int .u8 0, .int .u8 0, .int .u8 0, .int .u8 0, .int .u8 0, .int .u8 0, .int .u8 0, .int .u8 0, .int .u8 0, .int .u8 0, .int .u8 0, .int .u8 0, .int .u8 0, .int .u8 0, .int .u8 0, .int .u8 0, .int .u8 0, .int .u8 0, .int .u8 0, .int .u8 0, .int .u8 0, .int .u8 0, .int .u8 0, .int .u8 0, .int .u8 0, .int .u8 0, .int .u8 0, .int .u8 0, .int .u8 0, .int .u8 0, .int .u8 0, .int .u8 0, .int .u8 0, .int .u8 0, .int .u8 0, .int .u8 0, .int .u8 0, .int .u8 0, .int .u8 0, .int .u8 0, .int .u8 0, .int .u8 0, .int .u8 0, .int .u8 0, .int .u8 0, .int .u8 0]⟩ := ⟨⟨_, Tryd.underlying108, rfl⟩, by kernel_rfl, ⟨.agg #[.int .u8 0, .int .u8 0, .int .u8 0, .int .u8 0, .int .u8 0, .int .u8 0, .int .u8 0, .int .u8 0, .int .u8 0, .int .u8 0, .int .u8 0, .int .u8 0, .int .u8 0, .int .u8 0, .int .u8 0, .int .u8 0, .int .u8 0, .int .u8 0, .int .u8 0, .int .u8 0, .int .u8 0, .int .u8 0, .int .u8 0, .int .u8 0, .int .u8 0, .int .u8 0, .int .u8 0, .int .u8 0, .int .u8 0, .int .u8 0, .int .u8 0, .int .u8 0, .int .u8 0, .int .u8 0, .int .u8 0, .int .u8 0, .int .u8 0, .int .u8 0, .int .u8 0, .int .u8 0, .int .u8 0, .int .u8 0, .int .u8 0, .int .u8 0, .int .u8 0, .int .u8 0, .int .u8 0, .int .u8 0, .int .u8 0, .int .u8 0, .int .u8 0, .int .u8 0, .int .u8 0, .int .u8 0, .int .u8 0, .int .u8 0, .int .u8 0, .int .u8 0, .int .u8 0, .int .u8 0, .int .u8 0, .int .u8 0, .int .u8 0, .int .u8 0, .int .u8 0, .int .u8 0, .int .u8 0, .int .u8 0, .int .u8 0, .int .u8 0, .int .u8 0, .int .u8 0, .int .u8 0, .int .u8 0, .int .u8 0, .int .u8 0, .int .u8 0, .int .u8 0, .int .u8 0, .int .u8 0, .int .u8 0, .int .u8 0, .int .u8 0, .int .u8 0, .int .u8 0, .int .u8 0, .int .u8 0, .int .u8 0, .int .u8 0, .int .u8 0, .int .u8 0, .int .u8 0, .int .u8 0, .int .u8 0, .int .u8 0, .int .u8 0, .int .u8 0, .int .u8 0, .int .u8 0, .int .u8 0, .int .u8 0, .int .u8 0, .int .u8 0, .int .u8 0, .int .u8 0, .int .u8 0, .int .u8 0, .int .u8 0, .int .u8 0, .int .u8 0, .int .u8 0, .int .u8 0, .int .u8 0, .int .u8 0, .int .u8 0, .int .u8 0, .int .u8 0, .int .u8 0, .int .u8 0, .int .u8 0, .int .u8 0, .int .u8 0, .int .u8 0, .int .u8 0, .int .u8 0, .int .u8 0, .int .u8 0, .int .u8 0, .int .u8 0, .int .u8 0, .int .u8 0, .int .u8 0, .int .u8 0, .int .u8 0, .int .u8 0, .int .u8 0], [.int .u8 0, .int .u8 0, .int .u8 0, .int .u8 0, .int .u8 0, .int .u8 0, .int .u8 0, .int .u8 0, .int .u8 0, .int .u8 0, .int .u8 0, .int .u8 0, .int .u8 0, .int .u8 0, .int .u8 0, .int .u8 0, .int .u8 0, .int .u8 0, .int .u8 0, .int .u8 0, .int .u8 0, .int .u8 0, .int .u8 0, .int .u8 0, .int .u8 0, .int .u8 0, .int .u8 0, .int .u8 0, .int .u8 0, .int .u8 0, .int .u8 0, .int .u8 0, .int .u8 0, .int .u8 0, .int .u8 0, .int .u8 0, .int .u8 0, .int .u8 0, .int .u8 0, .int .u8 0, .int .u8 0, .int .u8 0, .int .u8 0, .int .u8 0, .int .u8 0, .int .u8 0, .int .u8 0, .int .u8 0, .int .u8 0, .int .u8 0, .int .u8 0, .int .u8 0, .int .u8 0, .int .u8 0, .int .u8 0, .int .u8 0, .int .u8 0, .int .u8 0, .int .u8 0, .int .u8 0, .int .u8 0, .int .u8 0, .int .u8 0, .int .u8 0, .int .u8 0, .int .u8 0, .int .u8 0, .int .u8 0, .int .u8 0, .int .u8 0, .int .u8 0, .int .u8 0, .int .u8 0, .int .u8 0, .int .u8 0, .int .u8 0, .int .u8 0, .int .u8 0, .int .u8 0, .int .u8 0, .int .u8 0, .int .u8 0, .int .u8 0, .int .u8 0, .int .u8 0, .int .u8 0, .int .u8 0, .int .u8 0, .int .u8 0, .int .u8 0, .int .u8 0, .int .u8 0, .int .u8 0, .int .u8 0, .int .u8 0, .int .u8 0, .int .u8 0, .int .u8 0, .int .u8 0, .int .u8 0, .int .u8 0, .int .u8 0, .int .u8 0, .int .u8 0, .int .u8 0, .int .u8 0, .int .u8 0, .int .u8 0, .int .u8 0, .int .u8 0, .int .u8 0, .int .u8 0, .int .u8 0, .int .u8 0, .int .u8 0, .int .u8 0, .int .u8 0, .int .u8 0, .int .u8 0, .int .u8 0, .int .u8 0, .int .u8 0, .int .u8 0, .int .u8 0, .int .u8 0, .int .u8 0, .int .u8 0, .int .u8 0, .int .u8 0, .int .u8 0, .int .u8 0, .int .u8 0, .int .u8 0, .int .u8 0, .int .u8 0, .int .u8 0], by kernel_rfl, rfl, ⟨rfl, rfl, rfl, rfl, rfl, rfl, rfl, rfl, rfl, rfl, rfl, rfl, rfl, rfl, rfl, rfl, rfl, rfl, rfl, rfl, rfl, rfl, rfl, rfl, rfl, rfl, rfl, rfl, rfl, rfl, rfl, rfl, rfl, rfl, rfl, rfl, rfl, rfl, rfl, rfl, rfl, rfl, rfl, rfl, rfl, rfl, rfl, rfl, rfl, rfl, rfl, rfl, rfl, rfl, rfl, rfl, rfl, rfl, rfl, rfl, rfl, rfl, rfl, rfl, rfl, rfl, rfl, rfl, rfl, rfl, rfl, rfl, rfl, rfl, rfl, rfl, rfl, rfl, rfl, rfl, rfl, rfl, rfl, rfl, rfl, rfl, rfl, rfl, rfl, rfl, rfl, rfl, rfl, rfl, rfl, rfl, rfl, rfl, rfl, rfl, rfl, rfl, rfl, rfl, rfl, rfl, rfl, rfl, rfl, rfl, rfl, rfl, rfl, rfl, rfl, rfl, rfl, rfl, rfl, rfl, rfl, rfl, rfl, rfl, rfl, rfl, rfl, rfl, rfl, rfl, rfl, rfl, rfl, rfl, rfl, rfl, trivial⟩⟩⟩
instance : HasBy Tryd.prog 108 136 := ⟨by kernel_rfl⟩
instance : HasTy Tryd.prog 109 ⟨true, 162, [.int .u64 0, .int .u64 0, .int .u64 0, .int .u64 0, .int .u64 0, .int .u64 0, .int .u64 0, .int .u64 0, .int .u64 0, .int .u64 0, .int .u64 0, .int .u64 0, .int .u64 0, .int .u64 0, .int .u64 0, .int .u64 0, .int .u64 0, .int .u64 0, .int .u64 0, .int .u64 0, .int .u64 0, .int .u64 0, .int .u64 0, .int .u64 0, .int .u64 0, .int .u8 0, .int .u8 0, .int .u8 0, .int .u8 0, .int .u8 0, .int .u8 0, .int .u8 0, .int .u8 0, .int .u8 0, .int .u8 0, .int .u8 0, .int .u8 0, .int .u8 0, .int .u8 0, .int .u8 0, .int .u8 0, .int .u8 0, .int .u8 0, .int .u8 0, .int .u8 0, .int .u8 0, .int .u8 0, .int .u8 0, .int .u8 0, .int .u8 0, .int .u8 0, .int .u8 0, .int .u8 0, .int .u8 0, .int .u8 0, .int .u8 0, .int .u8 0, .int .u8 0, .int .u8 0, .int .u8 0, .int .u8 0, .int .u8 0, .int .u8 0, .int .u8 0, .int .u8 0, .int .u8 0, .int .u8 0, .int .u8 0, .int .u8 0, .int .u8 0, .int .u8 0, .int .u8 0, .int .u8 0, .int .u8 0, .int .u8 0, .int .u8 0, .int .u8 0, .int .u8 0, .int .u8 0, .int .u8 0, .int .u8 0, .int .u8 0, .int .u8 0, .int .u8 0, .int .u8 0, .int .u8 0, .int .u8 0, .int .u8 0, .int .u8 0, .int .u8 0, .int .u8 0, .int .u8 0, .int .u8 0, .int .u8 0, .int .u8 0, .int .u8 0, .int .u8 0, .int .u8 0, .int .u8 0, .int .u8 0, .int .u8 0, .int .u8 0, .int .u8 0, .int .u8 0, .int .u8 0, .int .u8 0, .int .u8 0, .int .u8 0, .int .u8 0, .int .u8 0, .int .u8 0, .int .u8 0, .int .u8 0, .int .u8 0, .int .u8 0, .int .u8 0, .int .u8 0, .int .u8 0, .int .u8 0, .int .u8 0, .int .u8 0, .int .u8 0, .int .u8 0, .int .u8 0, .int .u8 0, .int .u8 0, .int .u8 0, .int .u8 0, .int .u8 0, .int .u8 0, .int .u8 0, .int .u8 0, .int .u8 0, .int .u8 0, .int .u8 0, .int .u8 0, .int .u8 0, .int .u8 0, .int .u8 0, .int .u8 0, .int .u8 0, .int .u8 0, .int .u8 0, .int .u8 0, .int .u8 0, .int .u8 0, .int .u8 0, .int .u8 0, .int .u8 0, .int .u8 0, .int .u8 0, .int .u8 0, .int .u8 0, .int .u8 0, .int .u8 0, .int .u8 0, .int .u8 0, .int .u8 0, .int .u8 0, .int .u8 0, .int .u8 0, .int .i64 0]⟩ := ⟨⟨_, Tryd.underlying109, rfl⟩, by kernel_rfl, ⟨.agg #[.int .u64 0, .int .u64 0, .int .u64 0, .int .u64 0, .int .u64 0, .int .u64 0, .int .u64 0, .int .u64 0, .int .u64 0, .int .u64 0, .int .u64 0, .int .u64 0, .int .u64 0, .int .u64 0, .int .u64 0, .int .u64 0, .int .u64 0, .int .u64 0, .int .u64 0, .int .u64 0, .int .u64 0, .int .u64 0, .int .u64 0, .int .u64 0, .int .u64 0, .int .u8 0, .int .u8 0, .int .u8 0, .int .u8 0, .int .u8 0, .int .u8 0, .int .u8 0, .int .u8 0, .int .u8 0, .int .u8 0, .int .u8 0, .int .u8 0, .int .u8 0, .int .u8 0, .int .u8 0, .int .u8 0, .int .u8 0, .int .u8 0, .int .u8 0, .int .u8 0, .int .u8 0, .int .u8 0, .int .u8 0, .int .u8 0, .int .u8 0, .int .u8 0, .int .u8 0, .int .u8 0, .int .u8 0, .int .u8 0, .int .u8 0, .int .u8 0, .int .u8 0, .int .u8 0, .int .u8 0, .int .u8 0, .int .u8 0, .int .u8 0, .int .u8 0, .int .u8 0, .int .u8 0, .int .u8 0, .int .u8 0, .int .u8 0, .int .u8 0, .int .u8 0, .int .u8 0, .int .u8 0, .int .u8 0, .int .u8 0, .int .u8 0, .int .u8 0, .int .u8 0, .int .u8 0, .int .u8 0, .int .u8 0, .int .u8 0, .int .u8 0, .int .u8 0, .int .u8 0, .int .u8 0, .int .u8 0, .int .u8 0, .int .u8 0, .int .u8 0, .int .u8 0, .int .u8 0, .int .u8 0, .int .u8 0, .int .u8 0, .int .u8 0, .int .u8 0, .int .u8 0, .int .u8 0, .int .u8 0, .int .u8 0, .int .u8 0, .int .u8 0, .int .u8 0, .int .u8 0, .int .u8 0, .int .u8 0, .int .u8 0, .int .u8 0, .int .u8 0, .int .u8 0, .int .u8 0, .int .u8 0, .int .u8 0, .int .u8 0, .int .u8 0, .int .u8 0, .int .u8 0, .int .u8 0, .int .u8 0, .int .u8 0, .int .u8 0, .int .u8 0, .int .u8 0, .int .u8 0, .int .u8 0, .int .u8 0, .int .u8 0, .int .u8 0, .int .u8 0, .int .u8 0, .int .u8 0, .int .u8 0, .int .u8 0, .int .u8 0, .int .u8 0, .int .u8 0, .int .u8 0, .int .u8 0, .int .u8 0, .int .u8 0, .int .u8 0, .int .u8 0, .int .u8 0, .int .u8 0, .int .u8 0, .int .u8 0, .int .u8 0, .int .u8 0, .int .u8 0, .int .u8 0, .int .u8 0, .int .u8 0, .int .u8 0, .int .u8 0, .int .u8 0, .int .u8 0, .int .u8 0, .int .u8 0, .int .u8 0, .int .u8 0, .int .i64 0], [.int .u64 0, .int .u64 0, .int .u64 0, .int .u64 0, .int .u64 0, .int .u64 0, .int .u64 0, .int .u64 0, .int .u64 0, .int .u64 0, .int .u64 0, .int .u64 0, .int .u64 0, .int .u64 0, .int .u64 0, .int .u64 0, .int .u64 0, .int .u64 0, .int .u64 0, .int .u64 0, .int .u64 0, .int .u64 0, .int .u64 0, .int .u64 0, .int .u64 0, .int .u8 0, .int .u8 0, .int .u8 0, .int .u8 0, .int .u8 0, .int .u8 0, .int .u8 0, .int .u8 0, .int .u8 0, .int .u8 0, .int .u8 0, .int .u8 0, .int .u8 0, .int .u8 0, .int .u8 0, .int .u8 0, .int .u8 0, .int .u8 0, .int .u8 0, .int .u8 0, .int .u8 0, .int .u8 0, .int .u8 0, .int .u8 0, .int .u8 0, .int .u8 0, .int .u8 0, .int .u8 0, .int .u8 0, .int .u8 0, .int .u8 0, .int .u8 0, .int .u8 0, .int .u8 0, .int .u8 0, .int .u8 0, .int .u8 0, .int .u8 0, .int .u8 0, .int .u8 0, .int .u8 0, .int .u8 0, .int .u8 0, .int .u8 0, .int .u8 0, .int .u8 0, .int .u8 0, .int .u8 0, .int .u8 0, .int .u8 0, .int .u8 0, .int .u8 0, .int .u8 0, .int .u8 0, .int .u8 0, .int .u8 0, .int .u8 0, .int .u8 0, .int .u8 0, .int .u8 0, .int .u8 0, .int .u8 0, .int .u8 0, .int .u8 0, .int .u8 0, .int .u8 0, .int .u8 0, .int .u8 0, .int .u8 0, .int .u8 0, .int .u8 0, .int .u8 0, .int .u8 0, .int .u8 0, .int .u8 0, .int .u8 0, .int .u8 0, .int .u8 0, .int .u8 0, .int .u8 0, .int .u8 0, .int .u8 0, .int .u8 0, .int .u8 0, .int .u8 0, .int .u8 0, .int .u8 0, .int .u8 0, .int .u8 0, .int .u8 0, .int .u8 0, .int .u8 0, .int .u8 0, .int .u8 0, .int .u8 0, .int .u8 0, .int .u8 0, .int .u8 0, .int .u8 0, .int .u8 0, .int .u8 0, .int .u8 0, .int .u8 0, .int .u8 0, .int .u8 0, .int .u8 0, .int .u8 0, .int .u8 0, .int .u8 0, .int .u8 0, .int .u8 0, .int .u8 0, .int .u8 0, .int .u8 0, .int .u8 0, .int .u8 0, .int .u8 0, .int .u8 0, .int .u8 0, .int .u8 0, .int .u8 0, .int .u8 0, .int .u8 0, .int .u8 0, .int .u8 0, .int .u8 0, .int .u8 0, .int .u8 0, .int .u8 0, .int .u8 0, .int .u8 0, .int .u8 0, .int .u8 0, .int .u8 0, .int .u8 0, .int .u8 0, .int .i64 0], by kernel_rfl, rfl, ⟨rfl, rfl, rfl, rfl, rfl, rfl, rfl, rfl, rfl, rfl, rfl, rfl, rfl, rfl, rfl, rfl, rfl, rfl, rfl, rfl, rfl, rfl, rfl, rfl, rfl, rfl, rfl, rfl, rfl, rfl, rfl, rfl, rfl, rfl, rfl, rfl, rfl, rfl, rfl, rfl, rfl, rfl, rfl, rfl, rfl, rfl, rfl, rfl, rfl, rfl, rfl, rfl, rfl, rfl, rfl, rfl, rfl, rfl, rfl, rfl, rfl, rfl, rfl, rfl, rfl, rfl, rfl, rfl, rfl, rfl, rfl, rfl, rfl, rfl, rfl, rfl, rfl, rfl, rfl, rfl, rfl, rfl, rfl, rfl, rfl, rfl, rfl, rfl, rfl, rfl, rfl, rfl, rfl, rfl, rfl, rfl, rfl, rfl, rfl, rfl, rfl, rfl, rfl, rfl, rfl, rfl, rfl, rfl, rfl, rfl, rfl, rfl, rfl, rfl, rfl, rfl, rfl, rfl, rfl, rfl, rfl, rfl, rfl, rfl, rfl, rfl, rfl, rfl, rfl, rfl, rfl, rfl, rfl, rfl, rfl, rfl, rfl, rfl, rfl, rfl, rfl, rfl, rfl, rfl, rfl, rfl, rfl, rfl, rfl, rfl, rfl, rfl, rfl, rfl, rfl, rfl, rfl, rfl, rfl, rfl, rfl, rfl, trivial⟩⟩⟩
instance : HasBy Tryd.prog 109 344 := ⟨by kernel_rfl⟩
instance : HasTy Tryd.prog 110 ⟨true, 162, [.int .u64 0, .int .u64 0, .int .u64 0, .int .u64 0, .int .u64 0, .int .u64 0, .int .u64 0, .int .u64 0, .int .u64 0, .int .u64 0, .int .u64 0, .int .u64 0, .int .u64 0, .int .u64 0, .int .u64 0, .int .u64 0, .int .u64 0, .int .u64 0, .int .u64 0, .int .u64 0, .int .u64 0, .int .u64 0, .int .u64 0, .int .u64 0, .int .u64 0, .int .u8 0, .int .u8 0, .int .u8 0, .int .u8 0, .int .u8 0, .int .u8 0, .int .u8 0, .int .u8 0, .int .u8 0, .int .u8 0, .int .u8 0, .int .u8 0, .int .u8 0, .int .u8 0, .int .u8 0, .int .u8 0, .int .u8 0, .int .u8 0, .int .u8 0, .int .u8 0, .int .u8 0, .int .u8 0, .int .u8 0, .int .u8 0, .int .u8 0, .int .u8 0, .int .u8 0, .int .u8 0, .int .u8 0, .int .u8 0, .int .u8 0, .int .u8 0, .int .u8 0, .int .u8 0, .int .u8 0, .int .u8 0, .int .u8 0, .int .u8 0, .int .u8 0, .int .u8 0, .int .u8 0, .int .u8 0, .int .u8 0, .int .u8 0, .int .u8 0, .int .u8 0, .int .u8 0, .int .u8 0, .int .u8 0, .int .u8 0, .int .u8 0, .int .u8 0, .int .u8 0, .int .u8 0, .int .u8 0, .int .u8 0, .int .u8 0, .int .u8 0, .int .u8 0, .int .u8 0, .int .u8 0, .int .u8 0, .int .u8 0, .int .u8 0, .int .u8 0, .int .u8 0, .int .u8 0, .int .u8 0, .int .u8 0, .int .u8 0, .int .u8 0, .int .u8 0, .int .u8 0, .int .u8 0, .int .u8 0, .int .u8 0, .int .u8 0, .int .u8 0, .int .u8 0, .int .u8 0, .int .u8 0, .int .u8 0, .int .u8 0, .int .u8 0, .int .u8 0, .int .u8 0, .int .u8 0, .int .u8 0, .int .u8 0, .int .u8 0, .int .u8 0, .int .u8 0, .int .u8 0, .int .u8 0, .int .u8 0, .int .u8 0, .int .u8 0, .int .u8 0, .int .u8 0, .int .u8 0, .int .u8 0, .int .u8 0, .int .u8 0, .int .u8 0, .int .u8 0, .int .u8 0, .int .u8 0, .int .u8 0, .int .u8 0, .int .u8 0, .int .u8 0, .int .u8 0, .int .u8 0, .int .u8 0, .int .u8 0, .int .u8 0, .int .u8 0, .int .u8 0, .int .u8 0, .int .u8 0, .int .u8 0, .int .u8 0, .int .u8 0, .int .u8 0, .int .u8 0, .int .u8 0, .int .u8 0, .int .u8 0, .int .u8 0, .int .u8 0, .int .u8 0, .int .u8 0, .int .u8 0, .int .u8 0, .int .u8 0, .int .u8 0, .int .i64 0]⟩ := ⟨⟨_, Tryd.underlying110, rfl⟩, by kernel_rfl, ⟨.agg #[.int .u64 0, .int .u64 0, .int .u64 0, .int .u64 0, .int .u64 0, .int .u64 0, .int .u64 0, .int .u64 0, .int .u64 0, .int .u64 0, .int .u64 0, .int .u64 0, .int .u64 0, .int .u64 0, .int .u64 0, .int .u64 0, .int .u64 0, .int .u64 0, .int .u64 0, .int .u64 0, .int .u64 0, .int .u64 0, .int .u64 0, .int .u64 0, .int .u64 0, .int .u8 0, .int .u8 0, .int .u8 0, .int .u8 0, .int .u8 0, .int .u8 0, .int .u8 0, .int .u8 0, .int .u8 0, .int .u8 0, .int .u8 0, .int .u8 0, .int .u8 0, .int .u8 0, .int .u8 0, .int .u8 0, .int .u8 0, .int .u8 0, .int .u8 0, .int .u8 0, .int .u8 0, .int .u8 0, .int .u8 0, .int .u8 0, .int .u8 0, .int .u8 0, .int .u8 0, .int .u8 0, .int .u8 0, .int .u8 0, .int .u8 0, .int .u8 0, .int .u8 0, .int .u8 0, .int .u8 0, .int .u8 0, .int .u8 0, .int .u8 0, .int .u8 0, .int .u8 0, .int .u8 0, .int .u8 0, .int .u8 0, .int .u8 0, .int .u8 0, .int .u8 0, .int .u8 0, .int .u8 0, .int .u8 0, .int .u8 0, .int .u8 0, .int .u8 0, .int .u8 0, .int .u8 0, .int .u8 0, .int .u8 0, .int .u8 0, .int .u8 0, .int .u8 0, .int .u8 0, .int .u8 0, .int .u8 0, .int .u8 0, .int .u8 0, .int .u8 0, .int .u8 0, .int .u8 0, .int .u8 0, .int .u8 0, .int .u8 0, .int .u8 0, .int .u8 0, .int .u8 0, .int .u8 0, .int .u8 0, .int .u8 0, .int .u8 0, .int .u8 0, .int .u8 0, .int .u8 0, .int .u8 0, .int .u8 0, .int .u8 0, .int .u8 0, .int .u8 0, .int .u8 0, .int .u8 0, .int .u8 0, .int .u8 0, .int .u8 0, .int .u8 0, .int .u8 0, .int .u8 0, .int .u8 0, .int .u8 0, .int .u8 0, .int .u8 0, .int .u8 0, .int .u8 0, .int .u8 0, .int .u8 0, .int .u8 0, .int .u8 0, .int .u8 0, .int .u8 0, .int .u8 0, .int .u8 0, .int .u8 0, .int .u8 0, .int .u8 0, .int .u8 0, .int .u8 0, .int .u8 0, .int .u8 0, .int .u8 0, .int .u8 0, .int .u8 0, .int .u8 0, .int .u8 0, .int .u8 0, .int .u8 0, .int .u8 0, .int .u8 0, .int .u8 0, .int .u8 0, .int .u8 0, .int .u8 0, .int .u8 0, .int .u8 0, .int .u8 0, .int .u8 0, .int .u8 0, .int .u8 0, .int .u8 0, .int .u8 0, .int .u8 0, .int .i64 0], [.int .u64 0, .int .u64 0, .int .u64 0, .int .u64 0, .int .u64 0, .int .u64 0, .int .u64 0, .int .u64 0, .int .u64 0, .int .u64 0, .int .u64 0, .int .u64 0, .int .u64 0, .int .u64 0, .int .u64 0, .int .u64 0, .int .u64 0, .int .u64 0, .int .u64 0, .int .u64 0, .int .u64 0, .int .u64 0, .int .u64 0, .int .u64 0, .int .u64 0, .int .u8 0, .int .u8 0, .int .u8 0, .int .u8 0, .int .u8 0, .int .u8 0, .int .u8 0, .int .u8 0, .int .u8 0, .int .u8 0, .int .u8 0, .int .u8 0, .int .u8 0, .int .u8 0, .int .u8 0, .int .u8 0, .int .u8 0, .int .u8 0, .int .u8 0, .int .u8 0, .int .u8 0, .int .u8 0, .int .u8 0, .int .u8 0, .int .u8 0, .int .u8 0, .int .u8 0, .int .u8 0, .int .u8 0, .int .u8 0, .int .u8 0, .int .u8 0, .int .u8 0, .int .u8 0, .int .u8 0, .int .u8 0, .int .u8 0, .int .u8 0, .int .u8 0, .int .u8 0, .int .u8 0, .int .u8 0, .int .u8 0, .int .u8 0, .int .u8 0, .int .u8 0, .int .u8 0, .int .u8 0, .int .u8 0, .int .u8 0, .int .u8 0, .int .u8 0, .int .u8 0, .int .u8 0, .int .u8 0, .int .u8 0, .int .u8 0, .int .u8 0, .int .u8 0, .int .u8 0, .int .u8 0, .int .u8 0, .int .u8 0, .int .u8 0, .int .u8 0, .int .u8 0, .int .u8 0, .int .u8 0, .int .u8 0, .int .u8 0, .int .u8 0, .int .u8 0, .int .u8 0, .int .u8 0, .int .u8 0, .int .u8 0, .int .u8 0, .int .u8 0, .int .u8 0, .int .u8 0, .int .u8 0, .int .u8 0, .int .u8 0, .int .u8 0, .int .u8 0, .int .u8 0, .int .u8 0, .int .u8 0, .int .u8 0, .int .u8 0, .int .u8 0, .int .u8 0, .int .u8 0, .int .u8 0, .int .u8 0, .int .u8 0, .int .u8 0, .int .u8 0, .int .u8 0, .int .u8 0, .int .u8 0, .int .u8 0, .int .u8 0, .int .u8 0, .int .u8 0, .int .u8 0, .int .u8 0, .int .u8 0, .int .u8 0, .int .u8 0, .int .u8 0, .int .u8 0, .int .u8 0, .int .u8 0, .int .u8 0, .int .u8 0, .int .u8 0, .int .u8 0, .int .u8 0, .int .u8 0, .int .u8 0, .int .u8 0, .int .u8 0, .int .u8 0, .int .u8 0, .int .u8 0, .int .u8 0, .int .u8 0, .int .u8 0, .int .u8 0, .int .u8 0, .int .u8 0, .int .u8 0, .int .u8 0, .int .u8 0, .int .u8 0, .int .i64 0], by kernel_rfl, rfl, ⟨rfl, rfl, rfl, rfl, rfl, rfl, rfl, rfl, rfl, rfl, rfl, rfl, rfl, rfl, rfl, rfl, rfl, rfl, rfl, rfl, rfl, rfl, rfl, rfl, rfl, rfl, rfl, rfl, rfl, rfl, rfl, rfl, rfl, rfl, rfl, rfl, rfl, rfl, rfl, rfl, rfl, rfl, rfl, rfl, rfl, rfl, rfl, rfl, rfl, rfl, rfl, rfl, rfl, rfl, rfl, rfl, rfl, rfl, rfl, rfl, rfl, rfl, rfl, rfl, rfl, rfl, rfl, rfl, rfl, rfl, rfl, rfl, rfl, rfl, rfl, rfl, rfl, rfl, rfl, rfl, rfl, rfl, rfl, rfl, rfl, rfl, rfl, rfl, rfl, rfl, rfl, rfl, rfl, rfl, rfl, rfl, rfl, rfl, rfl, rfl, rfl, rfl, rfl, rfl, rfl, rfl, rfl, rfl, rfl, rfl, rfl, rfl, rfl, rfl, rfl, rfl, rfl, rfl, rfl, rfl, rfl, rfl, rfl, rfl, rfl, rfl, rfl, rfl, rfl, rfl, rfl, rfl, rfl, rfl, rfl, rfl, rfl, rfl, rfl, rfl, rfl, rfl, rfl, rfl, rfl, rfl, rfl, rfl, rfl, rfl, rfl, rfl, rfl, rfl, rfl, rfl, rfl, rfl, rfl, rfl, rfl, rfl, trivial⟩⟩⟩
instance : HasBy Tryd.prog 110 344 := ⟨by kernel_rfl⟩
instance : HasTy Tryd.prog 123 ⟨false, 1, [.slice .nil 0 []]⟩ := ⟨⟨_, Tryd.underlying123, rfl⟩, by kernel_rfl, ⟨.slice none 0 0, [.slice none 0 0], by kernel_rfl, rfl, ⟨rfl, trivial⟩⟩⟩
instance : HasBy Tryd.prog 123 24 := ⟨by kernel_rfl⟩
instance : HasSl Tryd.prog 123 26 := ⟨Tryd.underlying123⟩
instance : HasTy Tryd.prog 127 ⟨false, 1, [.int .u64 0]⟩ := ⟨⟨_, Tryd.underlying127, rfl⟩, by kernel_rfl, ⟨.int .u64 0, [.int .u64 0], by kernel_rfl, rfl, ⟨rfl, trivial⟩⟩⟩
instance : HasBy Tryd.prog 127 8 := ⟨by kernel_rfl⟩
instance : HasInt Tryd.prog 127 .u64 := ⟨Tryd.underlying127⟩
instance : HasTy Tryd.prog 131 ⟨true, 24, [.int .u64 0, .int .u64 0, .int .u64 0, .int .u64 0, .int .u64 0, .int .u64 0, .int .u64 0, .int .u64 0, .int .u64 0, .int .u64 0, .int .u64 0, .int .u64 0, .int .u64 0, .int .u64 0, .int .u64 0, .int .u64 0, .int .u64 0, .int .u64 0, .int .u64 0, .int .u64 0, .int .u64 0, .int .u64 0, .int .u64 0, .int .u64 0]⟩ := ⟨⟨_, Tryd.underlying131, rfl⟩, by kernel_rfl, ⟨.agg #[.int .u64 0, .int .u64 0, .int .u64 0, .int .u64 0, .int .u64 0, .int .u64 0, .int .u64 0, .int .u64 0, .int .u64 0, .int .u64 0, .int .u64 0, .int .u64 0, .int .u64 0, .int .u64 0, .int .u64 0, .int .u64 0, .int .u64 0, .int .u64 0, .int .u64 0, .int .u64 0, .int .u64 0, .int .u64 0, .int .u64 0, .int .u64 0], [.int .u64 0, .int .u64 0, .int .u64 0, .int .u64 0, .int .u64 0, .int .u64 0, .int .u64 0, .int .u64 0, .int .u64 0, .int .u64 0, .int .u64 0, .int .u64 0, .int .u64 0, .int .u64 0, .int .u64 0, .int .u64 0, .int .u64 0, .int .u64 0, .int .u64 0, .int .u64 0, .int .u64 0, .int .u64 0, .int .u64 0, .int .u64 0], by kernel_rfl, rfl, ⟨rfl, rfl, rfl, rfl, rfl, rfl, rfl, rfl, rfl, rfl, rfl, rfl, rfl, rfl, rfl, rfl, rfl, rfl, rfl, rfl, rfl, rfl, rfl, rfl, trivial⟩⟩⟩
instance : HasBy Tryd.prog 131 192 := ⟨by kernel_rfl⟩
instance : HasTy Tryd.prog 132 ⟨true, 5, [.int .u64 0, .int .u64 0, .int .u64 0, .int .u64 0, .int .u64 0]⟩ := ⟨⟨_, Tryd.underlying132, rfl⟩, by kernel_rfl, ⟨.agg #[.int .u64 0, .int .u64 0, .int .u64 0, .int .u64 0, .int .u64 0], [.int .u64 0, .int .u64 0, .int .u64 0, .int .u64 0, .int .u64 0], by kernel_rfl, rfl, ⟨rfl, rfl, rfl, rfl, rfl, trivial⟩⟩⟩
instance : HasBy Tryd.prog 132 40 := ⟨by kernel_rfl⟩
instance : HasTy Tryd.prog 134 ⟨true, 25, [.int .i64 0, .int .i64 0, .int .i64 0, .int .i64 0, .int .i64 0, .int .i64 0, .int .i64 0, .int .i64 0, .int .i64 0, .int .i64 0, .int .i64 0, .int .i64 0, .int .i64 0, .int .i64 0, .int .i64 0, .int .i64 0, .int .i64 0, .int .i64 0, .int .i64 0, .int .i64 0, .int .i64 0, .int .i64 0, .int .i64 0, .int .i64 0, .int .i64 0]⟩ := ⟨⟨_, Tryd.underlying134, rfl⟩, by kernel_rfl, ⟨.agg #[.int .i64 0, .int .i64 0, .int .i64 0, .int .i64 0, .int .i64 0, .int .i64 0, .int .i64 0, .int .i64 0, .int .i64 0, .int .i64 0, .int .i64 0, .int .i64 0, .int .i64 0, .int .i64 0, .int .i64 0, .int .i64 0, .int .i64 0, .int .i64 0, .int .i64 0, .int .i64 0, .int .i64 0, .int .i64 0, .int .i64 0, .int .i64 0, .int .i64 0], [.int .i64 0, .int .i64 0, .int .i64 0, .int .i64 0, .int .i64 0, .int .i64 0, .int .i64 0, .int .i64 0, .int .i64 0, .int .i64 0, .int .i64 0, .int .i64 0, .int .i64 0, .int .i64 0, .int .i64 0, .int .i64 0, .int .i64 0, .int .i64 0, .int .i64 0, .int .i64 0, .int .i64 0, .int .i64 0, .int .i64 0, .int .i64 0, .int .i64 0], by kernel_rfl, rfl, ⟨rfl, rfl, rfl, rfl, rfl, rfl, rfl, rfl, rfl, rfl, rfl, rfl, rfl, rfl, rfl, rfl, rfl, rfl, rfl, rfl, rfl, rfl, rfl, rfl, rfl, trivial⟩⟩⟩
instance : HasBy Tryd.prog 134 200 := ⟨by kernel_rfl⟩
instance : HasTy Tryd.prog 138 ⟨true, 0, []⟩ := ⟨⟨_, Tryd.underlying138, rfl⟩, by kernel_rfl, ⟨.agg #[], [], by kernel_rfl, rfl, trivial⟩⟩
instance : HasBy Tryd.prog 138 0 := ⟨by kernel_rfl⟩
instance : HasTy Tryd.prog 142 ⟨false, 1, [.int .u32 0]⟩ := ⟨⟨_, Tryd.underlying142, rfl⟩, by kernel_rfl, ⟨.int .u32 0, [.int .u32 0], by kernel_rfl, rfl, ⟨rfl, trivial⟩⟩⟩
instance : HasBy Tryd.prog 142 4 := ⟨by kernel_rfl⟩
instance : HasInt Tryd.prog 142 .u32 := ⟨Tryd.underlying142⟩
instance : HasTy Tryd.prog 146 ⟨false, 1, [.raw (.pointer none)]⟩ := ⟨⟨_, Tryd.underlying146, rfl⟩, by kernel_rfl, ⟨.pointer none, [.pointer none], by kernel_rfl, rfl, ⟨rfl, trivial⟩⟩⟩
instance : HasBy Tryd.prog 146 8 := ⟨by kernel_rfl⟩
instance : HasPtr Tryd.prog 146 5 := ⟨Tryd.underlying146⟩
instance : HasArr Tryd.prog 23 4 22 := ⟨Tryd.underlying23⟩
instance : HasPlaces Tryd.prog 23 [(0, 1), (1, 1), (2, 1), (3, 1)] := ⟨.inr ⟨_, _, _, Tryd.underlying23, (show _ = some 1 by kernel_rfl), rfl⟩⟩
instance : HasArr Tryd.prog 24 4 22 := ⟨Tryd.underlying24⟩
instance : HasPlaces Tryd.prog 24 [(0, 1), (1, 1), (2, 1), (3, 1)] := ⟨.inr ⟨_, _, _, Tryd.underlying24, (show _ = some 1 by kernel_rfl), rfl⟩⟩
instance : HasFld Tryd.prog 25 0 0 24 := ⟨⟨_, _, Tryd.underlying25, rfl, rfl, rfl⟩⟩
instance : HasFld Tryd.prog 25 1 4 24 := ⟨⟨_, _, Tryd.underlying25, rfl, rfl, rfl⟩⟩
instance : HasFld Tryd.prog 25 2 8 4 := ⟨⟨_, _, Tryd.underlying25, rfl, rfl, rfl⟩⟩
instance : HasPlaces Tryd.prog 25 [(0, 4), (4, 4), (8, 1)] := ⟨.inl ⟨_, Tryd.underlying25, fun w => by kernel_rfl⟩⟩
instance : HasFld Tryd.prog 26 0 0 24 := ⟨⟨_, _, Tryd.underlying26, rfl, rfl, rfl⟩⟩
instance : HasFld Tryd.prog 26 1 4 24 := ⟨⟨_, _, Tryd.underlying26, rfl, rfl, rfl⟩⟩
instance : HasFld Tryd.prog 26 2 8 4 := ⟨⟨_, _, Tryd.underlying26, rfl, rfl, rfl⟩⟩
instance : HasPlaces Tryd.prog 26 [(0, 4), (4, 4), (8, 1)] := ⟨.inl ⟨_, Tryd.underlying26, fun w => by kernel_rfl⟩⟩
instance : HasFld Tryd.prog 27 0 0 24 := ⟨⟨_, _, Tryd.underlying27, rfl, rfl, rfl⟩⟩
instance : HasFld Tryd.prog 27 1 4 24 := ⟨⟨_, _, Tryd.underlying27, rfl, rfl, rfl⟩⟩
instance : HasFld Tryd.prog 27 2 8 24 := ⟨⟨_, _, Tryd.underlying27, rfl, rfl, rfl⟩⟩
instance : HasFld Tryd.prog 27 3 12 24 := ⟨⟨_, _, Tryd.underlying27, rfl, rfl, rfl⟩⟩
instance : HasFld Tryd.prog 27 4 16 26 := ⟨⟨_, _, Tryd.underlying27, rfl, rfl, rfl⟩⟩
instance : HasPlaces Tryd.prog 27 [(0, 4), (4, 4), (8, 4), (12, 4), (16, 9)] := ⟨.inl ⟨_, Tryd.underlying27, fun w => by kernel_rfl⟩⟩
instance : HasFld Tryd.prog 28 0 0 24 := ⟨⟨_, _, Tryd.underlying28, rfl, rfl, rfl⟩⟩
instance : HasFld Tryd.prog 28 1 4 24 := ⟨⟨_, _, Tryd.underlying28, rfl, rfl, rfl⟩⟩
instance : HasFld Tryd.prog 28 2 8 24 := ⟨⟨_, _, Tryd.underlying28, rfl, rfl, rfl⟩⟩
instance : HasFld Tryd.prog 28 3 12 24 := ⟨⟨_, _, Tryd.underlying28, rfl, rfl, rfl⟩⟩
instance : HasFld Tryd.prog 28 4 16 26 := ⟨⟨_, _, Tryd.underlying28, rfl, rfl, rfl⟩⟩
instance : HasPlaces Tryd.prog 28 [(0, 4), (4, 4), (8, 4), (12, 4), (16, 9)] := ⟨.inl ⟨_, Tryd.underlying28, fun w => by kernel_rfl⟩⟩
instance : HasArr Tryd.prog 34 20 5 := ⟨Tryd.underlying34⟩
instance : HasPlaces Tryd.prog 34 [(0, 1), (1, 1), (2, 1), (3, 1), (4, 1), (5, 1), (6, 1), (7, 1), (8, 1), (9, 1), (10, 1), (11, 1), (12, 1), (13, 1), (14, 1), (15, 1), (16, 1), (17, 1), (18, 1), (19, 1)] := ⟨.inr ⟨_, _, _, Tryd.underlying34, (show _ = some 1 by kernel_rfl), rfl⟩⟩
instance : HasArr Tryd.prog 35 20 5 := ⟨Tryd.underlying35⟩
instance : HasPlaces Tryd.prog 35 [(0, 1), (1, 1), (2, 1), (3, 1), (4, 1), (5, 1), (6, 1), (7, 1), (8, 1), (9, 1), (10, 1), (11, 1), (12, 1), (13, 1), (14, 1), (15, 1), (16, 1), (17, 1), (18, 1), (19, 1)] := ⟨.inr ⟨_, _, _, Tryd.underlying35, (show _ = some 1 by kernel_rfl), rfl⟩⟩
instance : HasFld Tryd.prog 40 0 0 3 := ⟨⟨_, _, Tryd.underlying40, rfl, rfl, rfl⟩⟩
instance : HasFld Tryd.prog 40 1 1 3 := ⟨⟨_, _, Tryd.underlying40, rfl, rfl, rfl⟩⟩
instance : HasFld Tryd.prog 40 2 2 3 := ⟨⟨_, _, Tryd.underlying40, rfl, rfl, rfl⟩⟩
instance : HasFld Tryd.prog 40 3 3 9 := ⟨⟨_, _, Tryd.underlying40, rfl, rfl, rfl⟩⟩
instance : HasPlaces Tryd.prog 40 [(0, 1), (1, 1), (2, 1), (3, 1)] := ⟨.inl ⟨_, Tryd.underlying40, fun w => by kernel_rfl⟩⟩
instance : HasFld Tryd.prog 41 0 0 3 := ⟨⟨_, _, Tryd.underlying41, rfl, rfl, rfl⟩⟩
instance : HasFld Tryd.prog 41 1 1 3 := ⟨⟨_, _, Tryd.underlying41, rfl, rfl, rfl⟩⟩
instance : HasFld Tryd.prog 41 2 2 3 := ⟨⟨_, _, Tryd.underlying41, rfl, rfl, rfl⟩⟩
instance : HasFld Tryd.prog 41 3 3 9 := ⟨⟨_, _, Tryd.underlying41, rfl, rfl, rfl⟩⟩
instance : HasPlaces Tryd.prog 41 [(0, 1), (1, 1), (2, 1), (3, 1)] := ⟨.inl ⟨_, Tryd.underlying41, fun w => by kernel_rfl⟩⟩
instance : HasFld Tryd.prog 44 0 0 24 := ⟨⟨_, _, Tryd.underlying44, rfl, rfl, rfl⟩⟩
instance : HasFld Tryd.prog 44 1 4 24 := ⟨⟨_, _, Tryd.underlying44, rfl, rfl, rfl⟩⟩
instance : HasFld Tryd.prog 44 2 8 3 := ⟨⟨_, _, Tryd.underlying44, rfl, rfl, rfl⟩⟩
instance : HasPlaces Tryd.prog 44 [(0, 4), (4, 4), (8, 1)] := ⟨.inl ⟨_, Tryd.underlying44, fun w => by kernel_rfl⟩⟩
instance : HasFld Tryd.prog 45 0 0 24 := ⟨⟨_, _, Tryd.underlying45, rfl, rfl, rfl⟩⟩
instance : HasFld Tryd.prog 45 1 4 24 := ⟨⟨_, _, Tryd.underlying45, rfl, rfl, rfl⟩⟩
instance : HasFld Tryd.prog 45 2 8 3 := ⟨⟨_, _, Tryd.underlying45, rfl, rfl, rfl⟩⟩
instance : HasPlaces Tryd.prog 45 [(0, 4), (4, 4), (8, 1)] := ⟨.inl ⟨_, Tryd.underlying45, fun w => by kernel_rfl⟩⟩
instance : HasArr Tryd.prog 48 32 5 := ⟨Tryd.underlying48⟩
instance : HasPlaces Tryd.prog 48 [(0, 1), (1, 1), (2, 1), (3, 1), (4, 1), (5, 1), (6, 1), (7, 1), (8, 1), (9, 1), (10, 1), (11, 1), (12, 1), (13, 1), (14, 1), (15, 1), (16, 1), (17, 1), (18, 1), (19, 1), (20, 1), (21, 1), (22, 1), (23, 1), (24, 1), (25, 1), (26, 1), (27, 1), (28, 1), (29, 1), (30, 1), (31, 1)] := ⟨.inr ⟨_, _, _, Tryd.underlying48, (show _ = some 1 by kernel_rfl), rfl⟩⟩
instance : HasFld Tryd.prog 62 0 0 3 := ⟨⟨_, _, Tryd.underlying62, rfl, rfl, rfl⟩⟩
instance : HasFld Tryd.prog 62 1 1 61 := ⟨⟨_, _, Tryd.underlying62, rfl, rfl, rfl⟩⟩
instance : HasFld Tryd.prog 62 2 2 3 := ⟨⟨_, _, Tryd.underlying62, rfl, rfl, rfl⟩⟩
instance : HasPlaces Tryd.prog 62 [(0, 1), (1, 1), (2, 1)] := ⟨.inl ⟨_, Tryd.underlying62, fun w => by kernel_rfl⟩⟩
instance : HasFld Tryd.prog 63 0 0 3 := ⟨⟨_, _, Tryd.underlying63, rfl, rfl, rfl⟩⟩
instance : HasFld Tryd.prog 63 1 1 61 := ⟨⟨_, _, Tryd.underlying63, rfl, rfl, rfl⟩⟩
instance : HasFld Tryd.prog 63 2 2 3 := ⟨⟨_, _, Tryd.underlying63, rfl, rfl, rfl⟩⟩
instance : HasPlaces Tryd.prog 63 [(0, 1), (1, 1), (2, 1)] := ⟨.inl ⟨_, Tryd.underlying63, fun w => by kernel_rfl⟩⟩
instance : HasFld Tryd.prog 72 0 0 3 := ⟨⟨_, _, Tryd.underlying72, rfl, rfl, rfl⟩⟩
instance : HasFld Tryd.prog 72 1 1 45 := ⟨⟨_, _, Tryd.underlying72, rfl, rfl, rfl⟩⟩
instance : HasPlaces Tryd.prog 72 [(0, 1), (1, 9)] := ⟨.inl ⟨_, Tryd.underlying72, fun w => by kernel_rfl⟩⟩
instance : HasFld Tryd.prog 73 0 0 3 := ⟨⟨_, _, Tryd.underlying73, rfl, rfl, rfl⟩⟩
instance : HasFld Tryd.prog 73 1 1 45 := ⟨⟨_, _, Tryd.underlying73, rfl, rfl, rfl⟩⟩
instance : HasPlaces Tryd.prog 73 [(0, 1), (1, 9)] := ⟨.inl ⟨_, Tryd.underlying73, fun w => by kernel_rfl⟩⟩
instance : HasArr Tryd.prog 82 8 28 := ⟨Tryd.underlying82⟩
instance : HasPlaces Tryd.prog 82 [(0, 25), (25, 25), (50, 25), (75, 25), (100, 25), (125, 25), (150, 25), (175, 25)] := ⟨.inr ⟨_, _, _, Tryd.underlying82, (show _ = some 25 by kernel_rfl), rfl⟩⟩
instance : HasFld Tryd.prog 99 0 0 24 := ⟨⟨_, _, Tryd.underlying99, rfl, rfl, rfl⟩⟩
instance : HasFld Tryd.prog 99 1 4 98 := ⟨⟨_, _, Tryd.underlying99, rfl, rfl, rfl⟩⟩
instance : HasPlaces Tryd.prog 99 [(0, 4), (4, 1)] := ⟨.inl ⟨_, Tryd.underlying99, fun w => by kernel_rfl⟩⟩
instance : HasFld Tryd.prog 100 0 0 24 := ⟨⟨_, _, Tryd.underlying100, rfl, rfl, rfl⟩⟩
instance : HasFld Tryd.prog 100 1 4 98 := ⟨⟨_, _, Tryd.underlying100, rfl, rfl, rfl⟩⟩
instance : HasPlaces Tryd.prog 100 [(0, 4), (4, 1)] := ⟨.inl ⟨_, Tryd.underlying100, fun w => by kernel_rfl⟩⟩
instance : HasArr Tryd.prog 107 25 22 := ⟨Tryd.underlying107⟩
instance : HasPlaces Tryd.prog 107 [(0, 1), (1, 1), (2, 1), (3, 1), (4, 1), (5, 1), (6, 1), (7, 1), (8, 1), (9, 1), (10, 1), (11, 1), (12, 1), (13, 1), (14, 1), (15, 1), (16, 1), (17, 1), (18, 1), (19, 1), (20, 1), (21, 1), (22, 1), (23, 1), (24, 1)] := ⟨.inr ⟨_, _, _, Tryd.underlying107, (show _ = some 1 by kernel_rfl), rfl⟩⟩
instance : HasArr Tryd.prog 108 136 5 := ⟨Tryd.underlying108⟩
instance : HasPlaces Tryd.prog 108 [(0, 1), (1, 1), (2, 1), (3, 1), (4, 1), (5, 1), (6, 1), (7, 1), (8, 1), (9, 1), (10, 1), (11, 1), (12, 1), (13, 1), (14, 1), (15, 1), (16, 1), (17, 1), (18, 1), (19, 1), (20, 1), (21, 1), (22, 1), (23, 1), (24, 1), (25, 1), (26, 1), (27, 1), (28, 1), (29, 1), (30, 1), (31, 1), (32, 1), (33, 1), (34, 1), (35, 1), (36, 1), (37, 1), (38, 1), (39, 1), (40, 1), (41, 1), (42, 1), (43, 1), (44, 1), (45, 1), (46, 1), (47, 1), (48, 1), (49, 1), (50, 1), (51, 1), (52, 1), (53, 1), (54, 1), (55, 1), (56, 1), (57, 1), (58, 1), (59, 1), (60, 1), (61, 1), (62, 1), (63, 1), (64, 1), (65, 1), (66, 1), (67, 1), (68, 1), (69, 1), (70, 1), (71, 1), (72, 1), (73, 1), (74, 1), (75, 1), (76, 1), (77, 1), (78, 1), (79, 1), (80, 1), (81, 1), (82, 1), (83, 1), (84, 1), (85, 1), (86, 1), (87, 1), (88, 1), (89, 1), (90, 1), (91, 1), (92, 1), (93, 1), (94, 1), (95, 1), (96, 1), (97, 1), (98, 1), (99, 1), (100, 1), (101, 1), (102, 1), (103, 1), (104, 1), (105, 1), (106, 1), (107, 1), (108, 1), (109, 1), (110, 1), (111, 1), (112, 1), (113, 1), (114, 1), (115, 1), (116, 1), (117, 1), (118, 1), (119, 1), (120, 1), (121, 1), (122, 1), (123, 1), (124, 1), (125, 1), (126, 1), (127, 1), (128, 1), (129, 1), (130, 1), (131, 1), (132, 1), (133, 1), (134, 1), (135, 1)] := ⟨.inr ⟨_, _, _, Tryd.underlying108, (show _ = some 1 by kernel_rfl), rfl⟩⟩
instance : HasFld Tryd.prog 109 0 0 107 := ⟨⟨_, _, Tryd.underlying109, rfl, rfl, rfl⟩⟩
instance : HasFld Tryd.prog 109 1 25 108 := ⟨⟨_, _, Tryd.underlying109, rfl, rfl, rfl⟩⟩
instance : HasFld Tryd.prog 109 2 161 3 := ⟨⟨_, _, Tryd.underlying109, rfl, rfl, rfl⟩⟩
instance : HasPlaces Tryd.prog 109 [(0, 25), (25, 136), (161, 1)] := ⟨.inl ⟨_, Tryd.underlying109, fun w => by kernel_rfl⟩⟩
instance : HasFld Tryd.prog 110 0 0 107 := ⟨⟨_, _, Tryd.underlying110, rfl, rfl, rfl⟩⟩
instance : HasFld Tryd.prog 110 1 25 108 := ⟨⟨_, _, Tryd.underlying110, rfl, rfl, rfl⟩⟩
instance : HasFld Tryd.prog 110 2 161 3 := ⟨⟨_, _, Tryd.underlying110, rfl, rfl, rfl⟩⟩
instance : HasPlaces Tryd.prog 110 [(0, 25), (25, 136), (161, 1)] := ⟨.inl ⟨_, Tryd.underlying110, fun w => by kernel_rfl⟩⟩
instance : HasArr Tryd.prog 131 24 22 := ⟨Tryd.underlying131⟩
instance : HasPlaces Tryd.prog 131 [(0, 1), (1, 1), (2, 1), (3, 1), (4, 1), (5, 1), (6, 1), (7, 1), (8, 1), (9, 1), (10, 1), (11, 1), (12, 1), (13, 1), (14, 1), (15, 1), (16, 1), (17, 1), (18, 1), (19, 1), (20, 1), (21, 1), (22, 1), (23, 1)] := ⟨.inr ⟨_, _, _, Tryd.underlying131, (show _ = some 1 by kernel_rfl), rfl⟩⟩
instance : HasArr Tryd.prog 132 5 22 := ⟨Tryd.underlying132⟩
instance : HasPlaces Tryd.prog 132 [(0, 1), (1, 1), (2, 1), (3, 1), (4, 1)] := ⟨.inr ⟨_, _, _, Tryd.underlying132, (show _ = some 1 by kernel_rfl), rfl⟩⟩
instance : HasArr Tryd.prog 134 25 3 := ⟨Tryd.underlying134⟩
instance : HasPlaces Tryd.prog 134 [(0, 1), (1, 1), (2, 1), (3, 1), (4, 1), (5, 1), (6, 1), (7, 1), (8, 1), (9, 1), (10, 1), (11, 1), (12, 1), (13, 1), (14, 1), (15, 1), (16, 1), (17, 1), (18, 1), (19, 1), (20, 1), (21, 1), (22, 1), (23, 1), (24, 1)] := ⟨.inr ⟨_, _, _, Tryd.underlying134, (show _ = some 1 by kernel_rfl), rfl⟩⟩
instance : HasArr Tryd.prog 138 0 16 := ⟨Tryd.underlying138⟩
instance : HasPlaces Tryd.prog 138 [] := ⟨.inr ⟨_, _, _, Tryd.underlying138, (show _ = some 1 by kernel_rfl), rfl⟩⟩
theorem eqd23 : EqD Tryd.prog 2 23 true [.int .u64, .int .u64, .int .u64, .int .u64] := eqd_arr (ks := [.int .u64]) Tryd.underlying23 eqd22 rfl (fun _ => rfl)
instance : EqT Tryd.prog 23 true [.int .u64, .int .u64, .int .u64, .int .u64] := ⟨⟨_, by decide, eqd23⟩, by kernel_rfl⟩
theorem eqd24 : EqD Tryd.prog 2 24 true [.int .u64, .int .u64, .int .u64, .int .u64] := eqd_arr (ks := [.int .u64]) Tryd.underlying24 eqd22 rfl (fun _ => rfl)
instance : EqT Tryd.prog 24 true [.int .u64, .int .u64, .int .u64, .int .u64] := ⟨⟨_, by decide, eqd24⟩, by kernel_rfl⟩
theorem eqd25 : EqD Tryd.prog 3 25 true ([.int .u64, .int .u64, .int .u64, .int .u64] ++ ([.int .u64, .int .u64, .int .u64, .int .u64] ++ ([.bool] ++ []))) := by
  refine eqd_struct Tryd.underlying25 (by kernel_rfl) ?_
  refine EqF.cons _ _ 24 _ _ _ _ rfl ?_ rfl inferInstance (fun dp hdp => eqd24 dp ?_) rfl ?_ ?_
  · decide
  · omega
  · exact fun h => by cases h
  refine EqF.cons _ _ 24 _ _ _ _ rfl ?_ rfl inferInstance (fun dp hdp => eqd24 dp ?_) rfl ?_ ?_
  · decide
  · omega
  · exact fun h => by cases h
  refine EqF.cons _ _ 4 _ _ _ _ rfl ?_ rfl inferInstance (fun dp hdp => eqd4 dp ?_) rfl ?_ ?_
  · decide
  · omega
  · exact fun _ => rfl
  exact EqF.nil _
instance : EqT Tryd.prog 25 true [.int .u64, .int .u64, .int .u64, .int .u64, .int .u64, .int .u64, .int .u64, .int .u64, .bool] := ⟨⟨_, by decide, eqd25⟩, by kernel_rfl⟩
theorem eqd26 : EqD Tryd.prog 3 26 true ([.int .u64, .int .u64, .int .u64, .int .u64] ++ ([.int .u64, .int .u64, .int .u64, .int .u64] ++ ([.bool] ++ []))) := by
  refine eqd_struct Tryd.underlying26 (by kernel_rfl) ?_
  refine EqF.cons _ _ 24 _ _ _ _ rfl ?_ rfl inferInstance (fun dp hdp => eqd24 dp ?_) rfl ?_ ?_
  · decide
  · omega
  · exact fun h => by cases h
  refine EqF.cons _ _ 24 _ _ _ _ rfl ?_ rfl inferInstance (fun dp hdp => eqd24 dp ?_) rfl ?_ ?_
  · decide
  · omega
  · exact fun h => by cases h
  refine EqF.cons _ _ 4 _ _ _ _ rfl ?_ rfl inferInstance (fun dp hdp => eqd4 dp ?_) rfl ?_ ?_
  · decide
  · omega
  · exact fun _ => rfl
  exact EqF.nil _
instance : EqT Tryd.prog 26 true [.int .u64, .int .u64, .int .u64, .int .u64, .int .u64, .int .u64, .int .u64, .int .u64, .bool] := ⟨⟨_, by decide, eqd26⟩, by kernel_rfl⟩
theorem eqd27 : EqD Tryd.prog 4 27 true ([.int .u64, .int .u64, .int .u64, .int .u64] ++ ([.int .u64, .int .u64, .int .u64, .int .u64] ++ ([.int .u64, .int .u64, .int .u64, .int .u64] ++ ([.int .u64, .int .u64, .int .u64, .int .u64] ++ ([.int .u64, .int .u64, .int .u64, .int .u64, .int .u64, .int .u64, .int .u64, .int .u64, .bool] ++ []))))) := by
  refine eqd_struct Tryd.underlying27 (by kernel_rfl) ?_
  refine EqF.cons _ _ 24 _ _ _ _ rfl ?_ rfl inferInstance (fun dp hdp => eqd24 dp ?_) rfl ?_ ?_
  · decide
  · omega
  · exact fun h => by cases h
  refine EqF.cons _ _ 24 _ _ _ _ rfl ?_ rfl inferInstance (fun dp hdp => eqd24 dp ?_) rfl ?_ ?_
  · decide
  · omega
  · exact fun h => by cases h
  refine EqF.cons _ _ 24 _ _ _ _ rfl ?_ rfl inferInstance (fun dp hdp => eqd24 dp ?_) rfl ?_ ?_
  · decide
  · omega
  · exact fun h => by cases h
  refine EqF.cons _ _ 24 _ _ _ _ rfl ?_ rfl inferInstance (fun dp hdp => eqd24 dp ?_) rfl ?_ ?_
  · decide
  · omega
  · exact fun h => by cases h
  refine EqF.cons _ _ 26 _ _ _ _ rfl ?_ rfl inferInstance (fun dp hdp => eqd26 dp ?_) rfl ?_ ?_
  · decide
  · omega
  · exact fun h => by cases h
  exact EqF.nil _
instance : EqT Tryd.prog 27 true [.int .u64, .int .u64, .int .u64, .int .u64, .int .u64, .int .u64, .int .u64, .int .u64, .int .u64, .int .u64, .int .u64, .int .u64, .int .u64, .int .u64, .int .u64, .int .u64, .int .u64, .int .u64, .int .u64, .int .u64, .int .u64, .int .u64, .int .u64, .int .u64, .bool] := ⟨⟨_, by decide, eqd27⟩, by kernel_rfl⟩
theorem eqd28 : EqD Tryd.prog 4 28 true ([.int .u64, .int .u64, .int .u64, .int .u64] ++ ([.int .u64, .int .u64, .int .u64, .int .u64] ++ ([.int .u64, .int .u64, .int .u64, .int .u64] ++ ([.int .u64, .int .u64, .int .u64, .int .u64] ++ ([.int .u64, .int .u64, .int .u64, .int .u64, .int .u64, .int .u64, .int .u64, .int .u64, .bool] ++ []))))) := by
  refine eqd_struct Tryd.underlying28 (by kernel_rfl) ?_
  refine EqF.cons _ _ 24 _ _ _ _ rfl ?_ rfl inferInstance (fun dp hdp => eqd24 dp ?_) rfl ?_ ?_
  · decide
  · omega
  · exact fun h => by cases h
  refine EqF.cons _ _ 24 _ _ _ _ rfl ?_ rfl inferInstance (fun dp hdp => eqd24 dp ?_) rfl ?_ ?_
  · decide
  · omega
  · exact fun h => by cases h
  refine EqF.cons _ _ 24 _ _ _ _ rfl ?_ rfl inferInstance (fun dp hdp => eqd24 dp ?_) rfl ?_ ?_
  · decide
  · omega
  · exact fun h => by cases h
  refine EqF.cons _ _ 24 _ _ _ _ rfl ?_ rfl inferInstance (fun dp hdp => eqd24 dp ?_) rfl ?_ ?_
  · decide
  · omega
  · exact fun h => by cases h
  refine EqF.cons _ _ 26 _ _ _ _ rfl ?_ rfl inferInstance (fun dp hdp => eqd26 dp ?_) rfl ?_ ?_
  · decide
  · omega
  · exact fun h => by cases h
  exact EqF.nil _
instance : EqT Tryd.prog 28 true [.int .u64, .int .u64, .int .u64, .int .u64, .int .u64, .int .u64, .int .u64, .int .u64, .int .u64, .int .u64, .int .u64, .int .u64, .int .u64, .int .u64, .int .u64, .int .u64, .int .u64, .int .u64, .int .u64, .int .u64, .int .u64, .int .u64, .int .u64, .int .u64, .bool] := ⟨⟨_, by decide, eqd28⟩, by kernel_rfl⟩
theorem eqd34 : EqD Tryd.prog 2 34 true [.int .u8, .int .u8, .int .u8, .int .u8, .int .u8, .int .u8, .int .u8, .int .u8, .int .u8, .int .u8, .int .u8, .int .u8, .int .u8, .int .u8, .int .u8, .int .u8, .int .u8, .int .u8, .int .u8, .int .u8] := eqd_arr (ks := [.int .u8]) Tryd.underlying34 eqd5 rfl (fun _ => rfl)
instance : EqT Tryd.prog 34 true [.int .u8, .int .u8, .int .u8, .int .u8, .int .u8, .int .u8, .int .u8, .int .u8, .int .u8, .int .u8, .int .u8, .int .u8, .int .u8, .int .u8, .int .u8, .int .u8, .int .u8, .int .u8, .int .u8, .int .u8] := ⟨⟨_, by decide, eqd34⟩, by kernel_rfl⟩
theorem eqd35 : EqD Tryd.prog 2 35 true [.int .u8, .int .u8, .int .u8, .int .u8, .int .u8, .int .u8, .int .u8, .int .u8, .int .u8, .int .u8, .int .u8, .int .u8, .int .u8, .int .u8, .int .u8, .int .u8, .int .u8, .int .u8, .int .u8, .int .u8] := eqd_arr (ks := [.int .u8]) Tryd.underlying35 eqd5 rfl (fun _ => rfl)
instance : EqT Tryd.prog 35 true [.int .u8, .int .u8, .int .u8, .int .u8, .int .u8, .int .u8, .int .u8, .int .u8, .int .u8, .int .u8, .int .u8, .int .u8, .int .u8, .int .u8, .int .u8, .int .u8, .int .u8, .int .u8, .int .u8, .int .u8] := ⟨⟨_, by decide, eqd35⟩, by kernel_rfl⟩
theorem eqd40 : EqD Tryd.prog 2 40 true ([.int .i64] ++ ([.int .i64] ++ ([.int .i64] ++ ([.str] ++ [])))) := by
  refine eqd_struct Tryd.underlying40 (by kernel_rfl) ?_
  refine EqF.cons _ _ 3 _ _ _ _ rfl ?_ rfl inferInstance (fun dp hdp => eqd3 dp ?_) rfl ?_ ?_
  · decide
  · omega
  · exact fun _ => rfl
  refine EqF.cons _ _ 3 _ _ _ _ rfl ?_ rfl inferInstance (fun dp hdp => eqd3 dp ?_) rfl ?_ ?_
  · decide
  · omega
  · exact fun _ => rfl
  refine EqF.cons _ _ 3 _ _ _ _ rfl ?_ rfl inferInstance (fun dp hdp => eqd3 dp ?_) rfl ?_ ?_
  · decide
  · omega
  · exact fun _ => rfl
  refine EqF.cons _ _ 9 _ _ _ _ rfl ?_ rfl inferInstance (fun dp hdp => eqd9 dp ?_) rfl ?_ ?_
  · decide
  · omega
  · exact fun _ => rfl
  exact EqF.nil _
instance : EqT Tryd.prog 40 true [.int .i64, .int .i64, .int .i64, .str] := ⟨⟨_, by decide, eqd40⟩, by kernel_rfl⟩
theorem eqd41 : EqD Tryd.prog 2 41 true ([.int .i64] ++ ([.int .i64] ++ ([.int .i64] ++ ([.str] ++ [])))) := by
  refine eqd_struct Tryd.underlying41 (by kernel_rfl) ?_
  refine EqF.cons _ _ 3 _ _ _ _ rfl ?_ rfl inferInstance (fun dp hdp => eqd3 dp ?_) rfl ?_ ?_
  · decide
  · omega
  · exact fun _ => rfl
  refine EqF.cons _ _ 3 _ _ _ _ rfl ?_ rfl inferInstance (fun dp hdp => eqd3 dp ?_) rfl ?_ ?_
  · decide
  · omega
  · exact fun _ => rfl
  refine EqF.cons _ _ 3 _ _ _ _ rfl ?_ rfl inferInstance (fun dp hdp => eqd3 dp ?_) rfl ?_ ?_
  · decide
  · omega
  · exact fun _ => rfl
  refine EqF.cons _ _ 9 _ _ _ _ rfl ?_ rfl inferInstance (fun dp hdp => eqd9 dp ?_) rfl ?_ ?_
  · decide
  · omega
  · exact fun _ => rfl
  exact EqF.nil _
instance : EqT Tryd.prog 41 true [.int .i64, .int .i64, .int .i64, .str] := ⟨⟨_, by decide, eqd41⟩, by kernel_rfl⟩
theorem eqd44 : EqD Tryd.prog 3 44 true ([.int .u64, .int .u64, .int .u64, .int .u64] ++ ([.int .u64, .int .u64, .int .u64, .int .u64] ++ ([.int .i64] ++ []))) := by
  refine eqd_struct Tryd.underlying44 (by kernel_rfl) ?_
  refine EqF.cons _ _ 24 _ _ _ _ rfl ?_ rfl inferInstance (fun dp hdp => eqd24 dp ?_) rfl ?_ ?_
  · decide
  · omega
  · exact fun h => by cases h
  refine EqF.cons _ _ 24 _ _ _ _ rfl ?_ rfl inferInstance (fun dp hdp => eqd24 dp ?_) rfl ?_ ?_
  · decide
  · omega
  · exact fun h => by cases h
  refine EqF.cons _ _ 3 _ _ _ _ rfl ?_ rfl inferInstance (fun dp hdp => eqd3 dp ?_) rfl ?_ ?_
  · decide
  · omega
  · exact fun _ => rfl
  exact EqF.nil _
instance : EqT Tryd.prog 44 true [.int .u64, .int .u64, .int .u64, .int .u64, .int .u64, .int .u64, .int .u64, .int .u64, .int .i64] := ⟨⟨_, by decide, eqd44⟩, by kernel_rfl⟩
theorem eqd45 : EqD Tryd.prog 3 45 true ([.int .u64, .int .u64, .int .u64, .int .u64] ++ ([.int .u64, .int .u64, .int .u64, .int .u64] ++ ([.int .i64] ++ []))) := by
  refine eqd_struct Tryd.underlying45 (by kernel_rfl) ?_
  refine EqF.cons _ _ 24 _ _ _ _ rfl ?_ rfl inferInstance (fun dp hdp => eqd24 dp ?_) rfl ?_ ?_
  · decide
  · omega
  · exact fun h => by cases h
  refine EqF.cons _ _ 24 _ _ _ _ rfl ?_ rfl inferInstance (fun dp hdp => eqd24 dp ?_) rfl ?_ ?_
  · decide
  · omega
  · exact fun h => by cases h
  refine EqF.cons _ _ 3 _ _ _ _ rfl ?_ rfl inferInstance (fun dp hdp => eqd3 dp ?_) rfl ?_ ?_
  · decide
  · omega
  · exact fun _ => rfl
  exact EqF.nil _
instance : EqT Tryd.prog 45 true [.int .u64, .int .u64, .int .u64, .int .u64, .int .u64, .int .u64, .int .u64, .int .u64, .int .i64] := ⟨⟨_, by decide, eqd45⟩, by kernel_rfl⟩
theorem eqd48 : EqD Tryd.prog 2 48 true [.int .u8, .int .u8, .int .u8, .int .u8, .int .u8, .int .u8, .int .u8, .int .u8, .int .u8, .int .u8, .int .u8, .int .u8, .int .u8, .int .u8, .int .u8, .int .u8, .int .u8, .int .u8, .int .u8, .int .u8, .int .u8, .int .u8, .int .u8, .int .u8, .int .u8, .int .u8, .int .u8, .int .u8, .int .u8, .int .u8, .int .u8, .int .u8] := eqd_arr (ks := [.int .u8]) Tryd.underlying48 eqd5 rfl (fun _ => rfl)
instance : EqT Tryd.prog 48 true [.int .u8, .int .u8, .int .u8, .int .u8, .int .u8, .int .u8, .int .u8, .int .u8, .int .u8, .int .u8, .int .u8, .int .u8, .int .u8, .int .u8, .int .u8, .int .u8, .int .u8, .int .u8, .int .u8, .int .u8, .int .u8, .int .u8, .int .u8, .int .u8, .int .u8, .int .u8, .int .u8, .int .u8, .int .u8, .int .u8, .int .u8, .int .u8] := ⟨⟨_, by decide, eqd48⟩, by kernel_rfl⟩
theorem eqd72 : EqD Tryd.prog 4 72 true ([.int .i64] ++ ([.int .u64, .int .u64, .int .u64, .int .u64, .int .u64, .int .u64, .int .u64, .int .u64, .int .i64] ++ [])) := by
  refine eqd_struct Tryd.underlying72 (by kernel_rfl) ?_
  refine EqF.cons _ _ 3 _ _ _ _ rfl ?_ rfl inferInstance (fun dp hdp => eqd3 dp ?_) rfl ?_ ?_
  · decide
  · omega
  · exact fun _ => rfl
  refine EqF.cons _ _ 45 _ _ _ _ rfl ?_ rfl inferInstance (fun dp hdp => eqd45 dp ?_) rfl ?_ ?_
  · decide
  · omega
  · exact fun h => by cases h
  exact EqF.nil _
instance : EqT Tryd.prog 72 true [.int .i64, .int .u64, .int .u64, .int .u64, .int .u64, .int .u64, .int .u64, .int .u64, .int .u64, .int .i64] := ⟨⟨_, by decide, eqd72⟩, by kernel_rfl⟩
theorem eqd73 : EqD Tryd.prog 4 73 true ([.int .i64] ++ ([.int .u64, .int .u64, .int .u64, .int .u64, .int .u64, .int .u64, .int .u64, .int .u64, .int .i64] ++ [])) := by
  refine eqd_struct Tryd.underlying73 (by kernel_rfl) ?_
  refine EqF.cons _ _ 3 _ _ _ _ rfl ?_ rfl inferInstance (fun dp hdp => eqd3 dp ?_) rfl ?_ ?_
  · decide
  · omega
  · exact fun _ => rfl
  refine EqF.cons _ _ 45 _ _ _ _ rfl ?_ rfl inferInstance (fun dp hdp => eqd45 dp ?_) rfl ?_ ?_
  · decide
  · omega
  · exact fun h => by cases h
  exact EqF.nil _
instance : EqT Tryd.prog 73 true [.int .i64, .int .u64, .int .u64, .int .u64, .int .u64, .int .u64, .int .u64, .int .u64, .int .u64, .int .i64] := ⟨⟨_, by decide, eqd73⟩, by kernel_rfl⟩
theorem eqd107 : EqD Tryd.prog 2 107 true [.int .u64, .int .u64, .int .u64, .int .u64, .int .u64, .int .u64, .int .u64, .int .u64, .int .u64, .int .u64, .int .u64, .int .u64, .int .u64, .int .u64, .int .u64, .int .u64, .int .u64, .int .u64, .int .u64, .int .u64, .int .u64, .int .u64, .int .u64, .int .u64, .int .u64] := eqd_arr (ks := [.int .u64]) Tryd.underlying107 eqd22 rfl (fun _ => rfl)
instance : EqT Tryd.prog 107 true [.int .u64, .int .u64, .int .u64, .int .u64, .int .u64, .int .u64, .int .u64, .int .u64, .int .u64, .int .u64, .int .u64, .int .u64, .int .u64, .int .u64, .int .u64, .int .u64, .int .u64, .int .u64, .int .u64, .int .u64, .int .u64, .int .u64, .int .u64, .int .u64, .int .u64] := ⟨⟨_, by decide, eqd107⟩, by kernel_rfl⟩
theorem eqd131 : EqD Tryd.prog 2 131 true [.int .u64, .int .u64, .int .u64, .int .u64, .int .u64, .int .u64, .int .u64, .int .u64, .int .u64, .int .u64, .int .u64, .int .u64, .int .u64, .int .u64, .int .u64, .int .u64, .int .u64, .int .u64, .int .u64, .int .u64, .int .u64, .int .u64, .int .u64, .int .u64] := eqd_arr (ks := [.int .u64]) Tryd.underlying131 eqd22 rfl (fun _ => rfl)
instance : EqT Tryd.prog 131 true [.int .u64, .int .u64, .int .u64, .int .u64, .int .u64, .int .u64, .int .u64, .int .u64, .int .u64, .int .u64, .int .u64, .int .u64, .int .u64, .int .u64, .int .u64, .int .u64, .int .u64, .int .u64, .int .u64, .int .u64, .int .u64, .int .u64, .int .u64, .int .u64] := ⟨⟨_, by decide, eqd131⟩, by kernel_rfl⟩
theorem eqd132 : EqD Tryd.prog 2 132 true [.int .u64, .int .u64, .int .u64, .int .u64, .int .u64] := eqd_arr (ks := [.int .u64]) Tryd.underlying132 eqd22 rfl (fun _ => rfl)
instance : EqT Tryd.prog 132 true [.int .u64, .int .u64, .int .u64, .int .u64, .int .u64] := ⟨⟨_, by decide, eqd132⟩, by kernel_rfl⟩
theorem eqd134 : EqD Tryd.prog 2 134 true [.int .i64, .int .i64, .int .i64, .int .i64, .int .i64, .int .i64, .int .i64, .int .i64, .int .i64, .int .i64, .int .i64, .int .i64, .int .i64, .int .i64, .int .i64, .int .i64, .int .i64, .int .i64, .int .i64, .int .i64, .int .i64, .int .i64, .int .i64, .int .i64, .int .i64] := eqd_arr (ks := [.int .i64]) Tryd.underlying134 eqd3 rfl (fun _ => rfl)
instance : EqT Tryd.prog 134 true [.int .i64, .int .i64, .int .i64, .int .i64, .int .i64, .int .i64, .int .i64, .int .i64, .int .i64, .int .i64, .int .i64, .int .i64, .int .i64, .int .i64, .int .i64, .int .i64, .int .i64, .int .i64, .int .i64, .int .i64, .int .i64, .int .i64, .int .i64, .int .i64, .int .i64] := ⟨⟨_, by decide, eqd134⟩, by kernel_rfl⟩
instance : HasFn Tryd.prog 3 := ⟨⟨_, Tryd.func3, by kernel_rfl, by kernel_rfl⟩⟩
instance : HasFn Tryd.prog 4 := ⟨⟨_, Tryd.func4, by kernel_rfl, by kernel_rfl⟩⟩
instance : HasFn Tryd.prog 5 := ⟨⟨_, Tryd.func5, by kernel_rfl, by kernel_rfl⟩⟩
instance : HasFn Tryd.prog 6 := ⟨⟨_, Tryd.func6, by kernel_rfl, by kernel_rfl⟩⟩
instance : HasFn Tryd.prog 7 := ⟨⟨_, Tryd.func7, by kernel_rfl, by kernel_rfl⟩⟩
instance : HasFn Tryd.prog 8 := ⟨⟨_, Tryd.func8, by kernel_rfl, by kernel_rfl⟩⟩
instance : HasFn Tryd.prog 9 := ⟨⟨_, Tryd.func9, by kernel_rfl, by kernel_rfl⟩⟩
instance : HasFn Tryd.prog 10 := ⟨⟨_, Tryd.func10, by kernel_rfl, by kernel_rfl⟩⟩
instance : HasFn Tryd.prog 11 := ⟨⟨_, Tryd.func11, by kernel_rfl, by kernel_rfl⟩⟩
instance : HasFn Tryd.prog 12 := ⟨⟨_, Tryd.func12, by kernel_rfl, by kernel_rfl⟩⟩
instance : HasFn Tryd.prog 13 := ⟨⟨_, Tryd.func13, by kernel_rfl, by kernel_rfl⟩⟩
instance : HasFn Tryd.prog 14 := ⟨⟨_, Tryd.func14, by kernel_rfl, by kernel_rfl⟩⟩
instance : HasFn Tryd.prog 15 := ⟨⟨_, Tryd.func15, by kernel_rfl, by kernel_rfl⟩⟩
instance : HasFn Tryd.prog 16 := ⟨⟨_, Tryd.func16, by kernel_rfl, by kernel_rfl⟩⟩
instance : HasFn Tryd.prog 17 := ⟨⟨_, Tryd.func17, by kernel_rfl, by kernel_rfl⟩⟩
instance : HasFn Tryd.prog 18 := ⟨⟨_, Tryd.func18, by kernel_rfl, by kernel_rfl⟩⟩
instance : HasFn Tryd.prog 19 := ⟨⟨_, Tryd.func19, by kernel_rfl, by kernel_rfl⟩⟩
instance : HasFn Tryd.prog 20 := ⟨⟨_, Tryd.func20, by kernel_rfl, by kernel_rfl⟩⟩
instance : HasFn Tryd.prog 21 := ⟨⟨_, Tryd.func21, by kernel_rfl, by kernel_rfl⟩⟩
instance : HasFn Tryd.prog 22 := ⟨⟨_, Tryd.func22, by kernel_rfl, by kernel_rfl⟩⟩
instance : HasFn Tryd.prog 23 := ⟨⟨_, Tryd.func23, by kernel_rfl, by kernel_rfl⟩⟩
instance : HasFn Tryd.prog 24 := ⟨⟨_, Tryd.func24, by kernel_rfl, by kernel_rfl⟩⟩
instance : HasFn Tryd.prog 25 := ⟨⟨_, Tryd.func25, by kernel_rfl, by kernel_rfl⟩⟩
instance : HasFn Tryd.prog 26 := ⟨⟨_, Tryd.func26, by kernel_rfl, by kernel_rfl⟩⟩
instance : HasFn Tryd.prog 27 := ⟨⟨_, Tryd.func27, by kernel_rfl, by kernel_rfl⟩⟩
instance : HasFn Tryd.prog 28 := ⟨⟨_, Tryd.func28, by kernel_rfl, by kernel_rfl⟩⟩
instance : HasFn Tryd.prog 29 := ⟨⟨_, Tryd.func29, by kernel_rfl, by kernel_rfl⟩⟩
instance : HasFn Tryd.prog 30 := ⟨⟨_, Tryd.func30, by kernel_rfl, by kernel_rfl⟩⟩
instance : HasFn Tryd.prog 31 := ⟨⟨_, Tryd.func31, by kernel_rfl, by kernel_rfl⟩⟩
instance : HasFn Tryd.prog 32 := ⟨⟨_, Tryd.func32, by kernel_rfl, by kernel_rfl⟩⟩
instance : HasFn Tryd.prog 33 := ⟨⟨_, Tryd.func33, by kernel_rfl, by kernel_rfl⟩⟩
instance : HasFn Tryd.prog 34 := ⟨⟨_, Tryd.func34, by kernel_rfl, by kernel_rfl⟩⟩
instance : HasFn Tryd.prog 35 := ⟨⟨_, Tryd.func35, by kernel_rfl, by kernel_rfl⟩⟩
instance : HasFn Tryd.prog 36 := ⟨⟨_, Tryd.func36, by kernel_rfl, by kernel_rfl⟩⟩
instance : HasFn Tryd.prog 37 := ⟨⟨_, Tryd.func37, by kernel_rfl, by kernel_rfl⟩⟩
instance : HasFn Tryd.prog 38 := ⟨⟨_, Tryd.func38, by kernel_rfl, by kernel_rfl⟩⟩
instance : HasFn Tryd.prog 39 := ⟨⟨_, Tryd.func39, by kernel_rfl, by kernel_rfl⟩⟩
instance : HasFn Tryd.prog 40 := ⟨⟨_, Tryd.func40, by kernel_rfl, by kernel_rfl⟩⟩
instance : HasFn Tryd.prog 41 := ⟨⟨_, Tryd.func41, by kernel_rfl, by kernel_rfl⟩⟩
instance : HasFn Tryd.prog 42 := ⟨⟨_, Tryd.func42, by kernel_rfl, by kernel_rfl⟩⟩
instance : HasFn Tryd.prog 43 := ⟨⟨_, Tryd.func43, by kernel_rfl, by kernel_rfl⟩⟩
instance : HasFn Tryd.prog 44 := ⟨⟨_, Tryd.func44, by kernel_rfl, by kernel_rfl⟩⟩
instance : HasFn Tryd.prog 45 := ⟨⟨_, Tryd.func45, by kernel_rfl, by kernel_rfl⟩⟩
instance : HasFn Tryd.prog 46 := ⟨⟨_, Tryd.func46, by kernel_rfl, by kernel_rfl⟩⟩
instance : HasFn Tryd.prog 47 := ⟨⟨_, Tryd.func47, by kernel_rfl, by kernel_rfl⟩⟩
instance : HasFn Tryd.prog 49 := ⟨⟨_, Tryd.func49, by kernel_rfl, by kernel_rfl⟩⟩
instance : HasFn Tryd.prog 50 := ⟨⟨_, Tryd.func50, by kernel_rfl, by kernel_rfl⟩⟩
instance : HasFn Tryd.prog 51 := ⟨⟨_, Tryd.func51, by kernel_rfl, by kernel_rfl⟩⟩
instance : HasFn Tryd.prog 52 := ⟨⟨_, Tryd.func52, by kernel_rfl, by kernel_rfl⟩⟩
instance : HasFn Tryd.prog 53 := ⟨⟨_, Tryd.func53, by kernel_rfl, by kernel_rfl⟩⟩
instance : HasFn Tryd.prog 54 := ⟨⟨_, Tryd.func54, by kernel_rfl, by kernel_rfl⟩⟩
instance : HasFn Tryd.prog 55 := ⟨⟨_, Tryd.func55, by kernel_rfl, by kernel_rfl⟩⟩
instance : HasFn Tryd.prog 56 := ⟨⟨_, Tryd.func56, by kernel_rfl, by kernel_rfl⟩⟩
instance : HasFn Tryd.prog 57 := ⟨⟨_, Tryd.func57, by kernel_rfl, by kernel_rfl⟩⟩
instance : HasFn Tryd.prog 58 := ⟨⟨_, Tryd.func58, by kernel_rfl, by kernel_rfl⟩⟩
instance : HasFn Tryd.prog 59 := ⟨⟨_, Tryd.func59, by kernel_rfl, by kernel_rfl⟩⟩
instance : HasFn Tryd.prog 60 := ⟨⟨_, Tryd.func60, by kernel_rfl, by kernel_rfl⟩⟩
instance : HasFn Tryd.prog 63 := ⟨⟨_, Tryd.func63, by kernel_rfl, by kernel_rfl⟩⟩
instance : HasFn Tryd.prog 64 := ⟨⟨_, Tryd.func64, by kernel_rfl, by kernel_rfl⟩⟩
instance : HasFn Tryd.prog 65 := ⟨⟨_, Tryd.func65, by kernel_rfl, by kernel_rfl⟩⟩
instance : HasFn Tryd.prog 66 := ⟨⟨_, Tryd.func66, by kernel_rfl, by kernel_rfl⟩⟩
instance : HasFn Tryd.prog 67 := ⟨⟨_, Tryd.func67, by kernel_rfl, by kernel_rfl⟩⟩
instance : HasFn Tryd.prog 68 := ⟨⟨_, Tryd.func68, by kernel_rfl, by kernel_rfl⟩⟩
instance : HasFn Tryd.prog 69 := ⟨⟨_, Tryd.func69, by kernel_rfl, by kernel_rfl⟩⟩
instance : HasFn Tryd.prog 70 := ⟨⟨_, Tryd.func70, by kernel_rfl, by kernel_rfl⟩⟩
instance : HasFn Tryd.prog 71 := ⟨⟨_, Tryd.func71, by kernel_rfl, by kernel_rfl⟩⟩
instance : HasFn Tryd.prog 72 := ⟨⟨_, Tryd.func72, by kernel_rfl, by kernel_rfl⟩⟩
instance : HasFn Tryd.prog 73 := ⟨⟨_, Tryd.func73, by kernel_rfl, by kernel_rfl⟩⟩
instance : HasFn Tryd.prog 74 := ⟨⟨_, Tryd.func74, by kernel_rfl, by kernel_rfl⟩⟩
instance : HasFn Tryd.prog 75 := ⟨⟨_, Tryd.func75, by kernel_rfl, by kernel_rfl⟩⟩
instance : HasFn Tryd.prog 76 := ⟨⟨_, Tryd.func76, by kernel_rfl, by kernel_rfl⟩⟩
instance : HasFn Tryd.prog 77 := ⟨⟨_, Tryd.func77, by kernel_rfl, by kernel_rfl⟩⟩
instance : HasFn Tryd.prog 78 := ⟨⟨_, Tryd.func78, by kernel_rfl, by kernel_rfl⟩⟩
instance : HasFn Tryd.prog 79 := ⟨⟨_, Tryd.func79, by kernel_rfl, by kernel_rfl⟩⟩
instance : HasFn Tryd.prog 80 := ⟨⟨_, Tryd.func80, by kernel_rfl, by kernel_rfl⟩⟩

end Go.Proofs.YtpdhbddkcnffbaaDoor
