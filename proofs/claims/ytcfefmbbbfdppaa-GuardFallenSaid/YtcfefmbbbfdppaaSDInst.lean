/- The rows of this program's types and functions, as instances. No conditions. -/
import Derived.Test.YtcfefmbbbfdppaaSDOp2
import Derived.Test.YtcfefmbbbfdppaaSDK2
namespace Go.Proofs.Ytcfefmbbbfdppaa
open Go.RowKit
set_option linter.unusedVariables false
set_option maxRecDepth 100000
theorem mixed : Try.prog.follows .mixedOrders = true := by kernel_rfl
instance : HasTy Try.prog 3 ⟨false, 1, [.int .i64 0]⟩ := ⟨⟨_, Try.underlying3, rfl⟩, by kernel_rfl, ⟨.int .i64 0, [.int .i64 0], by kernel_rfl, rfl, ⟨rfl, trivial⟩⟩⟩
instance : HasBy Try.prog 3 8 := ⟨by kernel_rfl⟩
instance : HasInt Try.prog 3 .i64 := ⟨Try.underlying3⟩
theorem eqd3 : EqD Try.prog 1 3 false [.int .i64] := eqd_int Try.underlying3
instance : HasTy Try.prog 4 ⟨false, 1, [.bool false]⟩ := ⟨⟨_, Try.underlying4, rfl⟩, by kernel_rfl, ⟨.bool false, [.bool false], by kernel_rfl, rfl, ⟨rfl, trivial⟩⟩⟩
instance : HasTy Try.prog 5 ⟨false, 1, [.int .u8 0]⟩ := ⟨⟨_, Try.underlying5, rfl⟩, by kernel_rfl, ⟨.int .u8 0, [.int .u8 0], by kernel_rfl, rfl, ⟨rfl, trivial⟩⟩⟩
instance : HasBy Try.prog 5 1 := ⟨by kernel_rfl⟩
instance : HasInt Try.prog 5 .u8 := ⟨Try.underlying5⟩
theorem eqd5 : EqD Try.prog 1 5 false [.int .u8] := eqd_int Try.underlying5
instance : HasTy Try.prog 9 ⟨false, 1, [.str ⟨#[]⟩]⟩ := ⟨⟨_, Try.underlying9, rfl⟩, by kernel_rfl, ⟨.string ⟨#[]⟩, [.string ⟨#[]⟩], by kernel_rfl, rfl, ⟨rfl, trivial⟩⟩⟩
instance : HasTy Try.prog 23 ⟨true, 4, [.int .i64 0, .int .i64 0, .int .i64 0, .str ⟨#[]⟩]⟩ := ⟨⟨_, Try.underlying23, rfl⟩, by kernel_rfl, ⟨.agg #[.int .i64 0, .int .i64 0, .int .i64 0, .string ⟨#[]⟩], [.int .i64 0, .int .i64 0, .int .i64 0, .string ⟨#[]⟩], by kernel_rfl, rfl, ⟨rfl, rfl, rfl, rfl, trivial⟩⟩⟩
instance : HasSl Try.prog 24 23 := ⟨Try.underlying24⟩
instance : HasTy Try.prog 25 ⟨false, 1, [.int .u64 0]⟩ := ⟨⟨_, Try.underlying25, rfl⟩, by kernel_rfl, ⟨.int .u64 0, [.int .u64 0], by kernel_rfl, rfl, ⟨rfl, trivial⟩⟩⟩
instance : HasInt Try.prog 25 .u64 := ⟨Try.underlying25⟩
theorem eqd25 : EqD Try.prog 1 25 false [.int .u64] := eqd_int Try.underlying25
instance : HasTy Try.prog 27 ⟨true, 4, [.int .u64 0, .int .u64 0, .int .u64 0, .int .u64 0]⟩ := ⟨⟨_, Try.underlying27, rfl⟩, by kernel_rfl, ⟨.agg #[.int .u64 0, .int .u64 0, .int .u64 0, .int .u64 0], [.int .u64 0, .int .u64 0, .int .u64 0, .int .u64 0], by kernel_rfl, rfl, ⟨rfl, rfl, rfl, rfl, trivial⟩⟩⟩
instance : HasTy Try.prog 28 ⟨true, 3, [.int .i64 0, .int .i64 0, .int .i64 0]⟩ := ⟨⟨_, Try.underlying28, rfl⟩, by kernel_rfl, ⟨.agg #[.int .i64 0, .int .i64 0, .int .i64 0], [.int .i64 0, .int .i64 0, .int .i64 0], by kernel_rfl, rfl, ⟨rfl, rfl, rfl, trivial⟩⟩⟩
instance : HasTy Try.prog 29 ⟨false, 1, [.slice .nil 0 []]⟩ := ⟨⟨_, Try.underlying29, rfl⟩, by kernel_rfl, ⟨.slice none 0 0, [.slice none 0 0], by kernel_rfl, rfl, ⟨rfl, trivial⟩⟩⟩
instance : HasSl Try.prog 29 113 := ⟨Try.underlying29⟩
instance : HasTy Try.prog 31 ⟨true, 9, [.int .i64 0, .int .i64 0, .int .i64 0, .int .i64 0, .int .i64 0, .int .i64 0, .int .i64 0, .slice .nil 0 [], .slice .nil 0 []]⟩ := ⟨⟨_, Try.underlying31, rfl⟩, by kernel_rfl, ⟨.agg #[.int .i64 0, .int .i64 0, .int .i64 0, .int .i64 0, .int .i64 0, .int .i64 0, .int .i64 0, .slice none 0 0, .slice none 0 0], [.int .i64 0, .int .i64 0, .int .i64 0, .int .i64 0, .int .i64 0, .int .i64 0, .int .i64 0, .slice none 0 0, .slice none 0 0], by kernel_rfl, rfl, ⟨rfl, rfl, rfl, rfl, rfl, rfl, rfl, rfl, rfl, trivial⟩⟩⟩
instance : HasTy Try.prog 32 ⟨false, 1, [.slice .nil 0 []]⟩ := ⟨⟨_, Try.underlying32, rfl⟩, by kernel_rfl, ⟨.slice none 0 0, [.slice none 0 0], by kernel_rfl, rfl, ⟨rfl, trivial⟩⟩⟩
instance : HasBy Try.prog 32 24 := ⟨by kernel_rfl⟩
instance : HasSl Try.prog 32 5 := ⟨Try.underlying32⟩
instance : HasTy Try.prog 34 ⟨true, 2, [.slice .nil 0 [], .slice .nil 0 []]⟩ := ⟨⟨_, Try.underlying34, rfl⟩, by kernel_rfl, ⟨.agg #[.slice none 0 0, .slice none 0 0], [.slice none 0 0, .slice none 0 0], by kernel_rfl, rfl, ⟨rfl, rfl, trivial⟩⟩⟩
instance : HasTy Try.prog 35 ⟨false, 1, [.slice .nil 0 []]⟩ := ⟨⟨_, Try.underlying35, rfl⟩, by kernel_rfl, ⟨.slice none 0 0, [.slice none 0 0], by kernel_rfl, rfl, ⟨rfl, trivial⟩⟩⟩
instance : HasSl Try.prog 35 52 := ⟨Try.underlying35⟩
instance : HasTy Try.prog 37 ⟨true, 26, [.int .u64 0, .int .u64 0, .int .u64 0, .int .u64 0, .int .i64 0, .int .i64 0, .int .i64 0, .int .i64 0, .int .i64 0, .int .i64 0, .int .i64 0, .slice .nil 0 [], .slice .nil 0 [], .int .i64 0, .int .i64 0, .int .i64 0, .int .i64 0, .int .i64 0, .int .i64 0, .int .i64 0, .slice .nil 0 [], .slice .nil 0 [], .slice .nil 0 [], .slice .nil 0 [], .slice .nil 0 [], .slice .nil 0 []]⟩ := ⟨⟨_, Try.underlying37, rfl⟩, by kernel_rfl, ⟨.agg #[.int .u64 0, .int .u64 0, .int .u64 0, .int .u64 0, .int .i64 0, .int .i64 0, .int .i64 0, .int .i64 0, .int .i64 0, .int .i64 0, .int .i64 0, .slice none 0 0, .slice none 0 0, .int .i64 0, .int .i64 0, .int .i64 0, .int .i64 0, .int .i64 0, .int .i64 0, .int .i64 0, .slice none 0 0, .slice none 0 0, .slice none 0 0, .slice none 0 0, .slice none 0 0, .slice none 0 0], [.int .u64 0, .int .u64 0, .int .u64 0, .int .u64 0, .int .i64 0, .int .i64 0, .int .i64 0, .int .i64 0, .int .i64 0, .int .i64 0, .int .i64 0, .slice none 0 0, .slice none 0 0, .int .i64 0, .int .i64 0, .int .i64 0, .int .i64 0, .int .i64 0, .int .i64 0, .int .i64 0, .slice none 0 0, .slice none 0 0, .slice none 0 0, .slice none 0 0, .slice none 0 0, .slice none 0 0], by kernel_rfl, rfl, ⟨rfl, rfl, rfl, rfl, rfl, rfl, rfl, rfl, rfl, rfl, rfl, rfl, rfl, rfl, rfl, rfl, rfl, rfl, rfl, rfl, rfl, rfl, rfl, rfl, rfl, rfl, trivial⟩⟩⟩
instance : HasTy Try.prog 50 ⟨true, 32, [.int .u8 0, .int .u8 0, .int .u8 0, .int .u8 0, .int .u8 0, .int .u8 0, .int .u8 0, .int .u8 0, .int .u8 0, .int .u8 0, .int .u8 0, .int .u8 0, .int .u8 0, .int .u8 0, .int .u8 0, .int .u8 0, .int .u8 0, .int .u8 0, .int .u8 0, .int .u8 0, .int .u8 0, .int .u8 0, .int .u8 0, .int .u8 0, .int .u8 0, .int .u8 0, .int .u8 0, .int .u8 0, .int .u8 0, .int .u8 0, .int .u8 0, .int .u8 0]⟩ := ⟨⟨_, Try.underlying50, rfl⟩, by kernel_rfl, ⟨.agg #[.int .u8 0, .int .u8 0, .int .u8 0, .int .u8 0, .int .u8 0, .int .u8 0, .int .u8 0, .int .u8 0, .int .u8 0, .int .u8 0, .int .u8 0, .int .u8 0, .int .u8 0, .int .u8 0, .int .u8 0, .int .u8 0, .int .u8 0, .int .u8 0, .int .u8 0, .int .u8 0, .int .u8 0, .int .u8 0, .int .u8 0, .int .u8 0, .int .u8 0, .int .u8 0, .int .u8 0, .int .u8 0, .int .u8 0, .int .u8 0, .int .u8 0, .int .u8 0], [.int .u8 0, .int .u8 0, .int .u8 0, .int .u8 0, .int .u8 0, .int .u8 0, .int .u8 0, .int .u8 0, .int .u8 0, .int .u8 0, .int .u8 0, .int .u8 0, .int .u8 0, .int .u8 0, .int .u8 0, .int .u8 0, .int .u8 0, .int .u8 0, .int .u8 0, .int .u8 0, .int .u8 0, .int .u8 0, .int .u8 0, .int .u8 0, .int .u8 0, .int .u8 0, .int .u8 0, .int .u8 0, .int .u8 0, .int .u8 0, .int .u8 0, .int .u8 0], by kernel_rfl, rfl, ⟨rfl, rfl, rfl, rfl, rfl, rfl, rfl, rfl, rfl, rfl, rfl, rfl, rfl, rfl, rfl, rfl, rfl, rfl, rfl, rfl, rfl, rfl, rfl, rfl, rfl, rfl, rfl, rfl, rfl, rfl, rfl, rfl, trivial⟩⟩⟩
instance : HasTy Try.prog 52 ⟨true, 38, [.int .i64 0, .int .i64 0, .int .i64 0, .int .u8 0, .int .u8 0, .int .u8 0, .int .u8 0, .int .u8 0, .int .u8 0, .int .u8 0, .int .u8 0, .int .u8 0, .int .u8 0, .int .u8 0, .int .u8 0, .int .u8 0, .int .u8 0, .int .u8 0, .int .u8 0, .int .u8 0, .int .u8 0, .int .u8 0, .int .u8 0, .int .u8 0, .int .u8 0, .int .u8 0, .int .u8 0, .int .u8 0, .int .u8 0, .int .u8 0, .int .u8 0, .int .u8 0, .int .u8 0, .int .u8 0, .int .u8 0, .int .i64 0, .int .i64 0, .slice .nil 0 []]⟩ := ⟨⟨_, Try.underlying52, rfl⟩, by kernel_rfl, ⟨.agg #[.int .i64 0, .int .i64 0, .int .i64 0, .int .u8 0, .int .u8 0, .int .u8 0, .int .u8 0, .int .u8 0, .int .u8 0, .int .u8 0, .int .u8 0, .int .u8 0, .int .u8 0, .int .u8 0, .int .u8 0, .int .u8 0, .int .u8 0, .int .u8 0, .int .u8 0, .int .u8 0, .int .u8 0, .int .u8 0, .int .u8 0, .int .u8 0, .int .u8 0, .int .u8 0, .int .u8 0, .int .u8 0, .int .u8 0, .int .u8 0, .int .u8 0, .int .u8 0, .int .u8 0, .int .u8 0, .int .u8 0, .int .i64 0, .int .i64 0, .slice none 0 0], [.int .i64 0, .int .i64 0, .int .i64 0, .int .u8 0, .int .u8 0, .int .u8 0, .int .u8 0, .int .u8 0, .int .u8 0, .int .u8 0, .int .u8 0, .int .u8 0, .int .u8 0, .int .u8 0, .int .u8 0, .int .u8 0, .int .u8 0, .int .u8 0, .int .u8 0, .int .u8 0, .int .u8 0, .int .u8 0, .int .u8 0, .int .u8 0, .int .u8 0, .int .u8 0, .int .u8 0, .int .u8 0, .int .u8 0, .int .u8 0, .int .u8 0, .int .u8 0, .int .u8 0, .int .u8 0, .int .u8 0, .int .i64 0, .int .i64 0, .slice none 0 0], by kernel_rfl, rfl, ⟨rfl, rfl, rfl, rfl, rfl, rfl, rfl, rfl, rfl, rfl, rfl, rfl, rfl, rfl, rfl, rfl, rfl, rfl, rfl, rfl, rfl, rfl, rfl, rfl, rfl, rfl, rfl, rfl, rfl, rfl, rfl, rfl, rfl, rfl, rfl, rfl, rfl, rfl, trivial⟩⟩⟩
instance : HasBy Try.prog 52 96 := ⟨by kernel_rfl⟩
instance : HasSl Try.prog 64 32 := ⟨Try.underlying64⟩
instance : HasTy Try.prog 68 ⟨false, 1, [.slice .nil 0 []]⟩ := ⟨⟨_, Try.underlying68, rfl⟩, by kernel_rfl, ⟨.slice none 0 0, [.slice none 0 0], by kernel_rfl, rfl, ⟨rfl, trivial⟩⟩⟩
instance : HasSl Try.prog 68 103 := ⟨Try.underlying68⟩
instance : HasTy Try.prog 70 ⟨true, 40, [.int .i64 0, .slice .nil 0 [], .int .i64 0, .int .i64 0, .int .i64 0, .int .u8 0, .int .u8 0, .int .u8 0, .int .u8 0, .int .u8 0, .int .u8 0, .int .u8 0, .int .u8 0, .int .u8 0, .int .u8 0, .int .u8 0, .int .u8 0, .int .u8 0, .int .u8 0, .int .u8 0, .int .u8 0, .int .u8 0, .int .u8 0, .int .u8 0, .int .u8 0, .int .u8 0, .int .u8 0, .int .u8 0, .int .u8 0, .int .u8 0, .int .u8 0, .int .u8 0, .int .u8 0, .int .u8 0, .int .u8 0, .int .u8 0, .int .u8 0, .int .i64 0, .int .i64 0, .slice .nil 0 []]⟩ := ⟨⟨_, Try.underlying70, rfl⟩, by kernel_rfl, ⟨.agg #[.int .i64 0, .slice none 0 0, .int .i64 0, .int .i64 0, .int .i64 0, .int .u8 0, .int .u8 0, .int .u8 0, .int .u8 0, .int .u8 0, .int .u8 0, .int .u8 0, .int .u8 0, .int .u8 0, .int .u8 0, .int .u8 0, .int .u8 0, .int .u8 0, .int .u8 0, .int .u8 0, .int .u8 0, .int .u8 0, .int .u8 0, .int .u8 0, .int .u8 0, .int .u8 0, .int .u8 0, .int .u8 0, .int .u8 0, .int .u8 0, .int .u8 0, .int .u8 0, .int .u8 0, .int .u8 0, .int .u8 0, .int .u8 0, .int .u8 0, .int .i64 0, .int .i64 0, .slice none 0 0], [.int .i64 0, .slice none 0 0, .int .i64 0, .int .i64 0, .int .i64 0, .int .u8 0, .int .u8 0, .int .u8 0, .int .u8 0, .int .u8 0, .int .u8 0, .int .u8 0, .int .u8 0, .int .u8 0, .int .u8 0, .int .u8 0, .int .u8 0, .int .u8 0, .int .u8 0, .int .u8 0, .int .u8 0, .int .u8 0, .int .u8 0, .int .u8 0, .int .u8 0, .int .u8 0, .int .u8 0, .int .u8 0, .int .u8 0, .int .u8 0, .int .u8 0, .int .u8 0, .int .u8 0, .int .u8 0, .int .u8 0, .int .u8 0, .int .u8 0, .int .i64 0, .int .i64 0, .slice none 0 0], by kernel_rfl, rfl, ⟨rfl, rfl, rfl, rfl, rfl, rfl, rfl, rfl, rfl, rfl, rfl, rfl, rfl, rfl, rfl, rfl, rfl, rfl, rfl, rfl, rfl, rfl, rfl, rfl, rfl, rfl, rfl, rfl, rfl, rfl, rfl, rfl, rfl, rfl, rfl, rfl, rfl, rfl, rfl, rfl, trivial⟩⟩⟩
instance : HasTy Try.prog 81 ⟨false, 1, [.slice .nil 0 []]⟩ := ⟨⟨_, Try.underlying81, rfl⟩, by kernel_rfl, ⟨.slice none 0 0, [.slice none 0 0], by kernel_rfl, rfl, ⟨rfl, trivial⟩⟩⟩
instance : HasSl Try.prog 81 161 := ⟨Try.underlying81⟩
instance : HasTy Try.prog 83 ⟨true, 80, [.int .i64 0, .int .u64 0, .int .u64 0, .int .u64 0, .int .u64 0, .int .u64 0, .int .u64 0, .int .u64 0, .int .u64 0, .int .u8 0, .int .u8 0, .int .u8 0, .int .u8 0, .int .u8 0, .int .u8 0, .int .u8 0, .int .u8 0, .int .u8 0, .int .u8 0, .int .u8 0, .int .u8 0, .int .u8 0, .int .u8 0, .int .u8 0, .int .u8 0, .int .u8 0, .int .u8 0, .int .u8 0, .int .u8 0, .int .u8 0, .int .u8 0, .int .u8 0, .int .u8 0, .int .u8 0, .int .u8 0, .int .u8 0, .int .u8 0, .int .u8 0, .int .u8 0, .int .u8 0, .int .u8 0, .int .i64 0, .int .u8 0, .int .u8 0, .int .u8 0, .int .u8 0, .int .u8 0, .int .u8 0, .int .u8 0, .int .u8 0, .int .u8 0, .int .u8 0, .int .u8 0, .int .u8 0, .int .u8 0, .int .u8 0, .int .u8 0, .int .u8 0, .int .u8 0, .int .u8 0, .int .u8 0, .int .u8 0, .int .u8 0, .int .u8 0, .int .u8 0, .int .u8 0, .int .u8 0, .int .u8 0, .int .u8 0, .int .u8 0, .int .u8 0, .int .u8 0, .int .u8 0, .int .u8 0, .int .i64 0, .int .i64 0, .str ⟨#[]⟩, .slice .nil 0 [], .int .i64 0, .slice .nil 0 []]⟩ := ⟨⟨_, Try.underlying83, rfl⟩, by kernel_rfl, ⟨.agg #[.int .i64 0, .int .u64 0, .int .u64 0, .int .u64 0, .int .u64 0, .int .u64 0, .int .u64 0, .int .u64 0, .int .u64 0, .int .u8 0, .int .u8 0, .int .u8 0, .int .u8 0, .int .u8 0, .int .u8 0, .int .u8 0, .int .u8 0, .int .u8 0, .int .u8 0, .int .u8 0, .int .u8 0, .int .u8 0, .int .u8 0, .int .u8 0, .int .u8 0, .int .u8 0, .int .u8 0, .int .u8 0, .int .u8 0, .int .u8 0, .int .u8 0, .int .u8 0, .int .u8 0, .int .u8 0, .int .u8 0, .int .u8 0, .int .u8 0, .int .u8 0, .int .u8 0, .int .u8 0, .int .u8 0, .int .i64 0, .int .u8 0, .int .u8 0, .int .u8 0, .int .u8 0, .int .u8 0, .int .u8 0, .int .u8 0, .int .u8 0, .int .u8 0, .int .u8 0, .int .u8 0, .int .u8 0, .int .u8 0, .int .u8 0, .int .u8 0, .int .u8 0, .int .u8 0, .int .u8 0, .int .u8 0, .int .u8 0, .int .u8 0, .int .u8 0, .int .u8 0, .int .u8 0, .int .u8 0, .int .u8 0, .int .u8 0, .int .u8 0, .int .u8 0, .int .u8 0, .int .u8 0, .int .u8 0, .int .i64 0, .int .i64 0, .string ⟨#[]⟩, .slice none 0 0, .int .i64 0, .slice none 0 0], [.int .i64 0, .int .u64 0, .int .u64 0, .int .u64 0, .int .u64 0, .int .u64 0, .int .u64 0, .int .u64 0, .int .u64 0, .int .u8 0, .int .u8 0, .int .u8 0, .int .u8 0, .int .u8 0, .int .u8 0, .int .u8 0, .int .u8 0, .int .u8 0, .int .u8 0, .int .u8 0, .int .u8 0, .int .u8 0, .int .u8 0, .int .u8 0, .int .u8 0, .int .u8 0, .int .u8 0, .int .u8 0, .int .u8 0, .int .u8 0, .int .u8 0, .int .u8 0, .int .u8 0, .int .u8 0, .int .u8 0, .int .u8 0, .int .u8 0, .int .u8 0, .int .u8 0, .int .u8 0, .int .u8 0, .int .i64 0, .int .u8 0, .int .u8 0, .int .u8 0, .int .u8 0, .int .u8 0, .int .u8 0, .int .u8 0, .int .u8 0, .int .u8 0, .int .u8 0, .int .u8 0, .int .u8 0, .int .u8 0, .int .u8 0, .int .u8 0, .int .u8 0, .int .u8 0, .int .u8 0, .int .u8 0, .int .u8 0, .int .u8 0, .int .u8 0, .int .u8 0, .int .u8 0, .int .u8 0, .int .u8 0, .int .u8 0, .int .u8 0, .int .u8 0, .int .u8 0, .int .u8 0, .int .u8 0, .int .i64 0, .int .i64 0, .string ⟨#[]⟩, .slice none 0 0, .int .i64 0, .slice none 0 0], by kernel_rfl, rfl, ⟨rfl, rfl, rfl, rfl, rfl, rfl, rfl, rfl, rfl, rfl, rfl, rfl, rfl, rfl, rfl, rfl, rfl, rfl, rfl, rfl, rfl, rfl, rfl, rfl, rfl, rfl, rfl, rfl, rfl, rfl, rfl, rfl, rfl, rfl, rfl, rfl, rfl, rfl, rfl, rfl, rfl, rfl, rfl, rfl, rfl, rfl, rfl, rfl, rfl, rfl, rfl, rfl, rfl, rfl, rfl, rfl, rfl, rfl, rfl, rfl, rfl, rfl, rfl, rfl, rfl, rfl, rfl, rfl, rfl, rfl, rfl, rfl, rfl, rfl, rfl, rfl, rfl, rfl, rfl, rfl, trivial⟩⟩⟩
instance : HasSl Try.prog 89 3 := ⟨Try.underlying89⟩
instance : HasTy Try.prog 98 ⟨true, 2, [.slice .nil 0 [], .bool false]⟩ := ⟨⟨_, Try.underlying98, rfl⟩, by kernel_rfl, ⟨.agg #[.slice none 0 0, .bool false], [.slice none 0 0, .bool false], by kernel_rfl, rfl, ⟨rfl, rfl, trivial⟩⟩⟩
instance : HasTy Try.prog 101 ⟨true, 9, [.int .u64 0, .int .u64 0, .int .u64 0, .int .u64 0, .int .u64 0, .int .u64 0, .int .u64 0, .int .u64 0, .int .i64 0]⟩ := ⟨⟨_, Try.underlying101, rfl⟩, by kernel_rfl, ⟨.agg #[.int .u64 0, .int .u64 0, .int .u64 0, .int .u64 0, .int .u64 0, .int .u64 0, .int .u64 0, .int .u64 0, .int .i64 0], [.int .u64 0, .int .u64 0, .int .u64 0, .int .u64 0, .int .u64 0, .int .u64 0, .int .u64 0, .int .u64 0, .int .i64 0], by kernel_rfl, rfl, ⟨rfl, rfl, rfl, rfl, rfl, rfl, rfl, rfl, rfl, trivial⟩⟩⟩
instance : HasTy Try.prog 103 ⟨true, 10, [.int .i64 0, .int .u64 0, .int .u64 0, .int .u64 0, .int .u64 0, .int .u64 0, .int .u64 0, .int .u64 0, .int .u64 0, .int .i64 0]⟩ := ⟨⟨_, Try.underlying103, rfl⟩, by kernel_rfl, ⟨.agg #[.int .i64 0, .int .u64 0, .int .u64 0, .int .u64 0, .int .u64 0, .int .u64 0, .int .u64 0, .int .u64 0, .int .u64 0, .int .i64 0], [.int .i64 0, .int .u64 0, .int .u64 0, .int .u64 0, .int .u64 0, .int .u64 0, .int .u64 0, .int .u64 0, .int .u64 0, .int .i64 0], by kernel_rfl, rfl, ⟨rfl, rfl, rfl, rfl, rfl, rfl, rfl, rfl, rfl, rfl, trivial⟩⟩⟩
instance : HasBy Try.prog 103 80 := ⟨by kernel_rfl⟩
instance : HasTy Try.prog 108 ⟨true, 2, [.slice .nil 0 [], .slice .nil 0 []]⟩ := ⟨⟨_, Try.underlying108, rfl⟩, by kernel_rfl, ⟨.agg #[.slice none 0 0, .slice none 0 0], [.slice none 0 0, .slice none 0 0], by kernel_rfl, rfl, ⟨rfl, rfl, trivial⟩⟩⟩
instance : HasTy Try.prog 113 ⟨true, 4, [.int .i64 0, .int .i64 0, .int .i64 0, .int .i64 0]⟩ := ⟨⟨_, Try.underlying113, rfl⟩, by kernel_rfl, ⟨.agg #[.int .i64 0, .int .i64 0, .int .i64 0, .int .i64 0], [.int .i64 0, .int .i64 0, .int .i64 0, .int .i64 0], by kernel_rfl, rfl, ⟨rfl, rfl, rfl, rfl, trivial⟩⟩⟩
instance : HasBy Try.prog 113 32 := ⟨by kernel_rfl⟩
instance : HasTy Try.prog 124 ⟨true, 2, [.slice .nil 0 [], .slice .nil 0 []]⟩ := ⟨⟨_, Try.underlying124, rfl⟩, by kernel_rfl, ⟨.agg #[.slice none 0 0, .slice none 0 0], [.slice none 0 0, .slice none 0 0], by kernel_rfl, rfl, ⟨rfl, rfl, trivial⟩⟩⟩
instance : HasTy Try.prog 132 ⟨true, 1, [.bool false]⟩ := ⟨⟨_, Try.underlying132, rfl⟩, by kernel_rfl, ⟨.agg #[.bool false], [.bool false], by kernel_rfl, rfl, ⟨rfl, trivial⟩⟩⟩
instance : HasTy Try.prog 138 ⟨true, 1, [.slice .nil 0 []]⟩ := ⟨⟨_, Try.underlying138, rfl⟩, by kernel_rfl, ⟨.agg #[.slice none 0 0], [.slice none 0 0], by kernel_rfl, rfl, ⟨rfl, trivial⟩⟩⟩
instance : HasFld Try.prog 23 0 0 3 := ⟨⟨_, _, Try.underlying23, rfl, rfl, rfl⟩⟩
instance : HasFld Try.prog 23 1 1 3 := ⟨⟨_, _, Try.underlying23, rfl, rfl, rfl⟩⟩
instance : HasFld Try.prog 23 2 2 3 := ⟨⟨_, _, Try.underlying23, rfl, rfl, rfl⟩⟩
instance : HasPlaces Try.prog 23 [(0, 1), (1, 1), (2, 1), (3, 1)] := ⟨.inl ⟨_, Try.underlying23, fun w => by kernel_rfl⟩⟩
instance : HasArr Try.prog 27 4 25 := ⟨Try.underlying27⟩
instance : HasPlaces Try.prog 27 [(0, 1), (1, 1), (2, 1), (3, 1)] := ⟨.inr ⟨_, _, _, Try.underlying27, (show _ = some 1 by kernel_rfl), rfl⟩⟩
instance : HasArr Try.prog 28 3 3 := ⟨Try.underlying28⟩
instance : HasFld Try.prog 31 0 0 28 := ⟨⟨_, _, Try.underlying31, rfl, rfl, rfl⟩⟩
instance : HasFld Try.prog 31 1 3 28 := ⟨⟨_, _, Try.underlying31, rfl, rfl, rfl⟩⟩
instance : HasFld Try.prog 31 2 6 3 := ⟨⟨_, _, Try.underlying31, rfl, rfl, rfl⟩⟩
instance : HasFld Try.prog 31 3 7 29 := ⟨⟨_, _, Try.underlying31, rfl, rfl, rfl⟩⟩
instance : HasFld Try.prog 31 4 8 29 := ⟨⟨_, _, Try.underlying31, rfl, rfl, rfl⟩⟩
instance : HasPlaces Try.prog 31 [(0, 3), (3, 3), (6, 1), (7, 1), (8, 1)] := ⟨.inl ⟨_, Try.underlying31, fun w => by kernel_rfl⟩⟩
instance : HasFld Try.prog 34 0 0 32 := ⟨⟨_, _, Try.underlying34, rfl, rfl, rfl⟩⟩
instance : HasFld Try.prog 34 1 1 32 := ⟨⟨_, _, Try.underlying34, rfl, rfl, rfl⟩⟩
instance : HasPlaces Try.prog 34 [(0, 1), (1, 1)] := ⟨.inl ⟨_, Try.underlying34, fun w => by kernel_rfl⟩⟩
instance : HasFld Try.prog 37 0 0 27 := ⟨⟨_, _, Try.underlying37, rfl, rfl, rfl⟩⟩
instance : HasFld Try.prog 37 1 4 31 := ⟨⟨_, _, Try.underlying37, rfl, rfl, rfl⟩⟩
instance : HasFld Try.prog 37 2 13 31 := ⟨⟨_, _, Try.underlying37, rfl, rfl, rfl⟩⟩
instance : HasFld Try.prog 37 3 22 34 := ⟨⟨_, _, Try.underlying37, rfl, rfl, rfl⟩⟩
instance : HasFld Try.prog 37 4 24 35 := ⟨⟨_, _, Try.underlying37, rfl, rfl, rfl⟩⟩
instance : HasFld Try.prog 37 5 25 35 := ⟨⟨_, _, Try.underlying37, rfl, rfl, rfl⟩⟩
instance : HasPlaces Try.prog 37 [(0, 4), (4, 9), (13, 9), (22, 2), (24, 1), (25, 1)] := ⟨.inl ⟨_, Try.underlying37, fun w => by kernel_rfl⟩⟩
instance : HasArr Try.prog 50 32 5 := ⟨Try.underlying50⟩
instance : HasFld Try.prog 52 0 0 3 := ⟨⟨_, _, Try.underlying52, rfl, rfl, rfl⟩⟩
instance : HasFld Try.prog 52 1 1 3 := ⟨⟨_, _, Try.underlying52, rfl, rfl, rfl⟩⟩
instance : HasFld Try.prog 52 2 2 3 := ⟨⟨_, _, Try.underlying52, rfl, rfl, rfl⟩⟩
instance : HasFld Try.prog 52 3 3 50 := ⟨⟨_, _, Try.underlying52, rfl, rfl, rfl⟩⟩
instance : HasFld Try.prog 52 4 35 3 := ⟨⟨_, _, Try.underlying52, rfl, rfl, rfl⟩⟩
instance : HasFld Try.prog 52 5 36 3 := ⟨⟨_, _, Try.underlying52, rfl, rfl, rfl⟩⟩
instance : HasFld Try.prog 52 6 37 32 := ⟨⟨_, _, Try.underlying52, rfl, rfl, rfl⟩⟩
instance : HasPlaces Try.prog 52 [(0, 1), (1, 1), (2, 1), (3, 32), (35, 1), (36, 1), (37, 1)] := ⟨.inl ⟨_, Try.underlying52, fun w => by kernel_rfl⟩⟩
instance : HasFld Try.prog 70 0 0 3 := ⟨⟨_, _, Try.underlying70, rfl, rfl, rfl⟩⟩
instance : HasFld Try.prog 70 1 1 68 := ⟨⟨_, _, Try.underlying70, rfl, rfl, rfl⟩⟩
instance : HasFld Try.prog 70 2 2 52 := ⟨⟨_, _, Try.underlying70, rfl, rfl, rfl⟩⟩
instance : HasPlaces Try.prog 70 [(0, 1), (1, 1), (2, 38)] := ⟨.inl ⟨_, Try.underlying70, fun w => by kernel_rfl⟩⟩
instance : HasFld Try.prog 83 0 0 3 := ⟨⟨_, _, Try.underlying83, rfl, rfl, rfl⟩⟩
instance : HasFld Try.prog 83 1 1 27 := ⟨⟨_, _, Try.underlying83, rfl, rfl, rfl⟩⟩
instance : HasFld Try.prog 83 2 5 27 := ⟨⟨_, _, Try.underlying83, rfl, rfl, rfl⟩⟩
instance : HasFld Try.prog 83 3 9 50 := ⟨⟨_, _, Try.underlying83, rfl, rfl, rfl⟩⟩
instance : HasFld Try.prog 83 4 41 3 := ⟨⟨_, _, Try.underlying83, rfl, rfl, rfl⟩⟩
instance : HasFld Try.prog 83 5 42 50 := ⟨⟨_, _, Try.underlying83, rfl, rfl, rfl⟩⟩
instance : HasFld Try.prog 83 6 74 3 := ⟨⟨_, _, Try.underlying83, rfl, rfl, rfl⟩⟩
instance : HasFld Try.prog 83 7 75 3 := ⟨⟨_, _, Try.underlying83, rfl, rfl, rfl⟩⟩
instance : HasFld Try.prog 83 8 76 9 := ⟨⟨_, _, Try.underlying83, rfl, rfl, rfl⟩⟩
instance : HasFld Try.prog 83 9 77 32 := ⟨⟨_, _, Try.underlying83, rfl, rfl, rfl⟩⟩
instance : HasFld Try.prog 83 10 78 3 := ⟨⟨_, _, Try.underlying83, rfl, rfl, rfl⟩⟩
instance : HasFld Try.prog 83 11 79 81 := ⟨⟨_, _, Try.underlying83, rfl, rfl, rfl⟩⟩
instance : HasPlaces Try.prog 83 [(0, 1), (1, 4), (5, 4), (9, 32), (41, 1), (42, 32), (74, 1), (75, 1), (76, 1), (77, 1), (78, 1), (79, 1)] := ⟨.inl ⟨_, Try.underlying83, fun w => by kernel_rfl⟩⟩
instance : HasFld Try.prog 98 0 0 32 := ⟨⟨_, _, Try.underlying98, rfl, rfl, rfl⟩⟩
instance : HasFld Try.prog 98 1 1 4 := ⟨⟨_, _, Try.underlying98, rfl, rfl, rfl⟩⟩
instance : HasPlaces Try.prog 98 [(0, 1), (1, 1)] := ⟨.inl ⟨_, Try.underlying98, fun w => by kernel_rfl⟩⟩
instance : HasFld Try.prog 101 0 0 27 := ⟨⟨_, _, Try.underlying101, rfl, rfl, rfl⟩⟩
instance : HasFld Try.prog 101 1 4 27 := ⟨⟨_, _, Try.underlying101, rfl, rfl, rfl⟩⟩
instance : HasFld Try.prog 101 2 8 3 := ⟨⟨_, _, Try.underlying101, rfl, rfl, rfl⟩⟩
instance : HasFld Try.prog 103 0 0 3 := ⟨⟨_, _, Try.underlying103, rfl, rfl, rfl⟩⟩
instance : HasFld Try.prog 103 1 1 101 := ⟨⟨_, _, Try.underlying103, rfl, rfl, rfl⟩⟩
instance : HasArr Try.prog 108 2 35 := ⟨Try.underlying108⟩
instance : HasPlaces Try.prog 108 [(0, 1), (1, 1)] := ⟨.inr ⟨_, _, _, Try.underlying108, (show _ = some 1 by kernel_rfl), rfl⟩⟩
instance : HasFld Try.prog 113 0 0 3 := ⟨⟨_, _, Try.underlying113, rfl, rfl, rfl⟩⟩
instance : HasFld Try.prog 113 1 1 3 := ⟨⟨_, _, Try.underlying113, rfl, rfl, rfl⟩⟩
instance : HasFld Try.prog 113 2 2 3 := ⟨⟨_, _, Try.underlying113, rfl, rfl, rfl⟩⟩
instance : HasFld Try.prog 113 3 3 3 := ⟨⟨_, _, Try.underlying113, rfl, rfl, rfl⟩⟩
instance : HasPlaces Try.prog 113 [(0, 1), (1, 1), (2, 1), (3, 1)] := ⟨.inl ⟨_, Try.underlying113, fun w => by kernel_rfl⟩⟩
instance : HasArr Try.prog 124 2 29 := ⟨Try.underlying124⟩
instance : HasPlaces Try.prog 124 [(0, 1), (1, 1)] := ⟨.inr ⟨_, _, _, Try.underlying124, (show _ = some 1 by kernel_rfl), rfl⟩⟩
instance : HasFld Try.prog 132 0 0 4 := ⟨⟨_, _, Try.underlying132, rfl, rfl, rfl⟩⟩
instance : HasPlaces Try.prog 132 [(0, 1)] := ⟨.inl ⟨_, Try.underlying132, fun w => by kernel_rfl⟩⟩
instance : HasFld Try.prog 138 0 0 32 := ⟨⟨_, _, Try.underlying138, rfl, rfl, rfl⟩⟩
instance : HasPlaces Try.prog 138 [(0, 1)] := ⟨.inl ⟨_, Try.underlying138, fun w => by kernel_rfl⟩⟩
theorem eqd27 : EqD Try.prog 2 27 true [.int .u64, .int .u64, .int .u64, .int .u64] := eqd_arr (ks := [.int .u64]) Try.underlying27 eqd25 rfl (fun _ => rfl)
instance : EqT Try.prog 27 true [.int .u64, .int .u64, .int .u64, .int .u64] := ⟨⟨_, by decide, eqd27⟩, by kernel_rfl⟩
theorem eqd50 : EqD Try.prog 2 50 true [.int .u8, .int .u8, .int .u8, .int .u8, .int .u8, .int .u8, .int .u8, .int .u8, .int .u8, .int .u8, .int .u8, .int .u8, .int .u8, .int .u8, .int .u8, .int .u8, .int .u8, .int .u8, .int .u8, .int .u8, .int .u8, .int .u8, .int .u8, .int .u8, .int .u8, .int .u8, .int .u8, .int .u8, .int .u8, .int .u8, .int .u8, .int .u8] := eqd_arr (ks := [.int .u8]) Try.underlying50 eqd5 rfl (fun _ => rfl)
instance : EqT Try.prog 50 true [.int .u8, .int .u8, .int .u8, .int .u8, .int .u8, .int .u8, .int .u8, .int .u8, .int .u8, .int .u8, .int .u8, .int .u8, .int .u8, .int .u8, .int .u8, .int .u8, .int .u8, .int .u8, .int .u8, .int .u8, .int .u8, .int .u8, .int .u8, .int .u8, .int .u8, .int .u8, .int .u8, .int .u8, .int .u8, .int .u8, .int .u8, .int .u8] := ⟨⟨_, by decide, eqd50⟩, by kernel_rfl⟩
theorem eqd113 : EqD Try.prog 2 113 true ([.int .i64] ++ ([.int .i64] ++ ([.int .i64] ++ ([.int .i64] ++ [])))) := by
  refine eqd_struct Try.underlying113 (by kernel_rfl) ?_
  refine EqF.cons _ _ 3 _ _ _ _ rfl ?_ rfl inferInstance (fun dp hdp => eqd3 dp ?_) rfl ?_ ?_
  · decide
  · omega
  · exact fun _ => rfl
  refine EqF.cons _ _ 3 _ _ _ _ rfl ?_ rfl inferInstance (fun dp hdp => eqd3 dp ?_) rfl ?_ ?_
  · decide
  · omega
  · exact fun _ => rfl
  refine EqF.cons _ _ 3 _ _ _ _ rfl ?_ rfl inferInstance (fun dp hdp => eqd3 dp ?_) rfl ?_ ?_
  · decide
  · omega
  · exact fun _ => rfl
  refine EqF.cons _ _ 3 _ _ _ _ rfl ?_ rfl inferInstance (fun dp hdp => eqd3 dp ?_) rfl ?_ ?_
  · decide
  · omega
  · exact fun _ => rfl
  exact EqF.nil _
instance : EqT Try.prog 113 true [.int .i64, .int .i64, .int .i64, .int .i64] := ⟨⟨_, by decide, eqd113⟩, by kernel_rfl⟩
instance : HasFn Try.prog 6 := ⟨⟨_, Try.func6, by kernel_rfl, by kernel_rfl⟩⟩
instance : HasFn Try.prog 7 := ⟨⟨_, Try.func7, by kernel_rfl, by kernel_rfl⟩⟩
instance : HasFn Try.prog 8 := ⟨⟨_, Try.func8, by kernel_rfl, by kernel_rfl⟩⟩
instance : HasFn Try.prog 9 := ⟨⟨_, Try.func9, by kernel_rfl, by kernel_rfl⟩⟩
instance : HasFn Try.prog 10 := ⟨⟨_, Try.func10, by kernel_rfl, by kernel_rfl⟩⟩
instance : HasFn Try.prog 11 := ⟨⟨_, Try.func11, by kernel_rfl, by kernel_rfl⟩⟩
instance : HasFn Try.prog 12 := ⟨⟨_, Try.func12, by kernel_rfl, by kernel_rfl⟩⟩
instance : HasFn Try.prog 13 := ⟨⟨_, Try.func13, by kernel_rfl, by kernel_rfl⟩⟩
instance : HasFn Try.prog 14 := ⟨⟨_, Try.func14, by kernel_rfl, by kernel_rfl⟩⟩
instance : HasFn Try.prog 15 := ⟨⟨_, Try.func15, by kernel_rfl, by kernel_rfl⟩⟩
instance : HasFn Try.prog 16 := ⟨⟨_, Try.func16, by kernel_rfl, by kernel_rfl⟩⟩
instance : HasFn Try.prog 17 := ⟨⟨_, Try.func17, by kernel_rfl, by kernel_rfl⟩⟩
instance : HasFn Try.prog 18 := ⟨⟨_, Try.func18, by kernel_rfl, by kernel_rfl⟩⟩
instance : HasFn Try.prog 19 := ⟨⟨_, Try.func19, by kernel_rfl, by kernel_rfl⟩⟩
instance : HasFn Try.prog 20 := ⟨⟨_, Try.func20, by kernel_rfl, by kernel_rfl⟩⟩
instance : HasFn Try.prog 21 := ⟨⟨_, Try.func21, by kernel_rfl, by kernel_rfl⟩⟩
instance : HasFn Try.prog 22 := ⟨⟨_, Try.func22, by kernel_rfl, by kernel_rfl⟩⟩
instance : HasFn Try.prog 23 := ⟨⟨_, Try.func23, by kernel_rfl, by kernel_rfl⟩⟩
instance : HasFn Try.prog 24 := ⟨⟨_, Try.func24, by kernel_rfl, by kernel_rfl⟩⟩
instance : HasFn Try.prog 25 := ⟨⟨_, Try.func25, by kernel_rfl, by kernel_rfl⟩⟩
instance : HasFn Try.prog 26 := ⟨⟨_, Try.func26, by kernel_rfl, by kernel_rfl⟩⟩
instance : HasFn Try.prog 27 := ⟨⟨_, Try.func27, by kernel_rfl, by kernel_rfl⟩⟩
instance : HasFn Try.prog 28 := ⟨⟨_, Try.func28, by kernel_rfl, by kernel_rfl⟩⟩
instance : HasFn Try.prog 29 := ⟨⟨_, Try.func29, by kernel_rfl, by kernel_rfl⟩⟩
instance : HasFn Try.prog 30 := ⟨⟨_, Try.func30, by kernel_rfl, by kernel_rfl⟩⟩
instance : HasFn Try.prog 31 := ⟨⟨_, Try.func31, by kernel_rfl, by kernel_rfl⟩⟩
instance : HasFn Try.prog 32 := ⟨⟨_, Try.func32, by kernel_rfl, by kernel_rfl⟩⟩
instance : HasFn Try.prog 33 := ⟨⟨_, Try.func33, by kernel_rfl, by kernel_rfl⟩⟩
instance : HasFn Try.prog 34 := ⟨⟨_, Try.func34, by kernel_rfl, by kernel_rfl⟩⟩
instance : HasFn Try.prog 35 := ⟨⟨_, Try.func35, by kernel_rfl, by kernel_rfl⟩⟩
instance : HasFn Try.prog 36 := ⟨⟨_, Try.func36, by kernel_rfl, by kernel_rfl⟩⟩
instance : HasFn Try.prog 37 := ⟨⟨_, Try.func37, by kernel_rfl, by kernel_rfl⟩⟩
instance : HasFn Try.prog 38 := ⟨⟨_, Try.func38, by kernel_rfl, by kernel_rfl⟩⟩
instance : HasFn Try.prog 39 := ⟨⟨_, Try.func39, by kernel_rfl, by kernel_rfl⟩⟩
instance : HasFn Try.prog 40 := ⟨⟨_, Try.func40, by kernel_rfl, by kernel_rfl⟩⟩
instance : HasFn Try.prog 41 := ⟨⟨_, Try.func41, by kernel_rfl, by kernel_rfl⟩⟩
instance : HasFn Try.prog 42 := ⟨⟨_, Try.func42, by kernel_rfl, by kernel_rfl⟩⟩
instance : HasFn Try.prog 43 := ⟨⟨_, Try.func43, by kernel_rfl, by kernel_rfl⟩⟩
instance : HasFn Try.prog 44 := ⟨⟨_, Try.func44, by kernel_rfl, by kernel_rfl⟩⟩
instance : HasFn Try.prog 45 := ⟨⟨_, Try.func45, by kernel_rfl, by kernel_rfl⟩⟩
instance : HasFn Try.prog 46 := ⟨⟨_, Try.func46, by kernel_rfl, by kernel_rfl⟩⟩
instance : HasFn Try.prog 47 := ⟨⟨_, Try.func47, by kernel_rfl, by kernel_rfl⟩⟩
instance : HasFn Try.prog 48 := ⟨⟨_, Try.func48, by kernel_rfl, by kernel_rfl⟩⟩
instance : HasFn Try.prog 49 := ⟨⟨_, Try.func49, by kernel_rfl, by kernel_rfl⟩⟩
instance : HasFn Try.prog 50 := ⟨⟨_, Try.func50, by kernel_rfl, by kernel_rfl⟩⟩
instance : HasFn Try.prog 51 := ⟨⟨_, Try.func51, by kernel_rfl, by kernel_rfl⟩⟩
instance : HasFn Try.prog 52 := ⟨⟨_, Try.func52, by kernel_rfl, by kernel_rfl⟩⟩
instance : HasFn Try.prog 53 := ⟨⟨_, Try.func53, by kernel_rfl, by kernel_rfl⟩⟩
instance : HasFn Try.prog 54 := ⟨⟨_, Try.func54, by kernel_rfl, by kernel_rfl⟩⟩
instance : HasFn Try.prog 55 := ⟨⟨_, Try.func55, by kernel_rfl, by kernel_rfl⟩⟩
instance : HasFn Try.prog 56 := ⟨⟨_, Try.func56, by kernel_rfl, by kernel_rfl⟩⟩
instance : HasFn Try.prog 57 := ⟨⟨_, Try.func57, by kernel_rfl, by kernel_rfl⟩⟩
instance : HasFn Try.prog 58 := ⟨⟨_, Try.func58, by kernel_rfl, by kernel_rfl⟩⟩
instance : HasFn Try.prog 59 := ⟨⟨_, Try.func59, by kernel_rfl, by kernel_rfl⟩⟩
instance : HasFn Try.prog 60 := ⟨⟨_, Try.func60, by kernel_rfl, by kernel_rfl⟩⟩
instance : HasFn Try.prog 61 := ⟨⟨_, Try.func61, by kernel_rfl, by kernel_rfl⟩⟩
instance : HasFn Try.prog 62 := ⟨⟨_, Try.func62, by kernel_rfl, by kernel_rfl⟩⟩
instance : HasFn Try.prog 63 := ⟨⟨_, Try.func63, by kernel_rfl, by kernel_rfl⟩⟩
instance : HasFn Try.prog 64 := ⟨⟨_, Try.func64, by kernel_rfl, by kernel_rfl⟩⟩
instance : HasFn Try.prog 65 := ⟨⟨_, Try.func65, by kernel_rfl, by kernel_rfl⟩⟩
instance : HasFn Try.prog 66 := ⟨⟨_, Try.func66, by kernel_rfl, by kernel_rfl⟩⟩
instance : HasFn Try.prog 67 := ⟨⟨_, Try.func67, by kernel_rfl, by kernel_rfl⟩⟩
instance : HasFn Try.prog 84 := ⟨⟨_, Try.func84, by kernel_rfl, by kernel_rfl⟩⟩
instance : HasFn Try.prog 85 := ⟨⟨_, Try.func85, by kernel_rfl, by kernel_rfl⟩⟩
instance : HasFn Try.prog 86 := ⟨⟨_, Try.func86, by kernel_rfl, by kernel_rfl⟩⟩
instance : HasFn Try.prog 87 := ⟨⟨_, Try.func87, by kernel_rfl, by kernel_rfl⟩⟩
instance : HasFn Try.prog 88 := ⟨⟨_, Try.func88, by kernel_rfl, by kernel_rfl⟩⟩
instance : HasFn Try.prog 89 := ⟨⟨_, Try.func89, by kernel_rfl, by kernel_rfl⟩⟩
instance : HasFn Try.prog 90 := ⟨⟨_, Try.func90, by kernel_rfl, by kernel_rfl⟩⟩
instance : HasFn Try.prog 91 := ⟨⟨_, Try.func91, by kernel_rfl, by kernel_rfl⟩⟩
instance : HasFn Try.prog 92 := ⟨⟨_, Try.func92, by kernel_rfl, by kernel_rfl⟩⟩
instance : HasFn Try.prog 93 := ⟨⟨_, Try.func93, by kernel_rfl, by kernel_rfl⟩⟩
end Go.Proofs.Ytcfefmbbbfdppaa
