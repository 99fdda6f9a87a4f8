/- The rows of this program's types and functions, as instances. No conditions. -/
import Derived.Test.YthbkfohdphfgaaaDOp2
import Derived.Test.YthbkfohdphfgaaaDK2
namespace Go.Proofs.Ythbkfohdphfgaaa
open Go.RowKit
set_option linter.unusedVariables false
set_option maxRecDepth 100000
theorem mixed : Try.prog.follows .mixedOrders = true := by kernel_rfl
instance : HasTy Try.prog 2 ⟨false, 1, [.int .i64 0]⟩ := ⟨⟨_, Try.underlying2, rfl⟩, by kernel_rfl, ⟨.int .i64 0, [.int .i64 0], by kernel_rfl, rfl, ⟨rfl, trivial⟩⟩⟩
instance : HasBy Try.prog 2 8 := ⟨by kernel_rfl⟩
instance : HasInt Try.prog 2 .i64 := ⟨Try.underlying2⟩
theorem eqd2 : EqD Try.prog 1 2 false [.int .i64] := eqd_int Try.underlying2
instance : HasTy Try.prog 3 ⟨false, 1, [.int .i64 0]⟩ := ⟨⟨_, Try.underlying3, rfl⟩, by kernel_rfl, ⟨.int .i64 0, [.int .i64 0], by kernel_rfl, rfl, ⟨rfl, trivial⟩⟩⟩
instance : HasBy Try.prog 3 8 := ⟨by kernel_rfl⟩
instance : HasInt Try.prog 3 .i64 := ⟨Try.underlying3⟩
theorem eqd3 : EqD Try.prog 1 3 false [.int .i64] := eqd_int Try.underlying3
instance : HasTy Try.prog 4 ⟨false, 1, [.bool false]⟩ := ⟨⟨_, Try.underlying4, rfl⟩, by kernel_rfl, ⟨.bool false, [.bool false], by kernel_rfl, rfl, ⟨rfl, trivial⟩⟩⟩
instance : HasBy Try.prog 4 1 := ⟨by kernel_rfl⟩
theorem eqd4 : EqD Try.prog 1 4 false [.bool] := eqd_bool Try.underlying4
instance : HasTy Try.prog 5 ⟨false, 1, [.int .u8 0]⟩ := ⟨⟨_, Try.underlying5, rfl⟩, by kernel_rfl, ⟨.int .u8 0, [.int .u8 0], by kernel_rfl, rfl, ⟨rfl, trivial⟩⟩⟩
instance : HasBy Try.prog 5 1 := ⟨by kernel_rfl⟩
instance : HasInt Try.prog 5 .u8 := ⟨Try.underlying5⟩
theorem eqd5 : EqD Try.prog 1 5 false [.int .u8] := eqd_int Try.underlying5
instance : HasTy Try.prog 9 ⟨false, 1, [.str ⟨#[]⟩]⟩ := ⟨⟨_, Try.underlying9, rfl⟩, by kernel_rfl, ⟨.string ⟨#[]⟩, [.string ⟨#[]⟩], by kernel_rfl, rfl, ⟨rfl, trivial⟩⟩⟩
instance : HasBy Try.prog 9 16 := ⟨by kernel_rfl⟩
theorem eqd9 : EqD Try.prog 1 9 false [.str] := eqd_str Try.underlying9
instance : HasTy Try.prog 12 ⟨false, 1, [.int .u64 0]⟩ := ⟨⟨_, Try.underlying12, rfl⟩, by kernel_rfl, ⟨.int .u64 0, [.int .u64 0], by kernel_rfl, rfl, ⟨rfl, trivial⟩⟩⟩
instance : HasBy Try.prog 12 8 := ⟨by kernel_rfl⟩
instance : HasInt Try.prog 12 .u64 := ⟨Try.underlying12⟩
theorem eqd12 : EqD Try.prog 1 12 false [.int .u64] := eqd_int Try.underlying12
instance : HasTy Try.prog 15 ⟨false, 1, [.raw (.pointer none)]⟩ := ⟨⟨_, Try.underlying15, rfl⟩, by kernel_rfl, ⟨.pointer none, [.pointer none], by kernel_rfl, rfl, ⟨rfl, trivial⟩⟩⟩
instance : HasBy Try.prog 15 8 := ⟨by kernel_rfl⟩
instance : HasPtr Try.prog 15 65 := ⟨Try.underlying15⟩
instance : HasTy Try.prog 16 ⟨false, 1, [.raw (.pointer none)]⟩ := ⟨⟨_, Try.underlying16, rfl⟩, by kernel_rfl, ⟨.pointer none, [.pointer none], by kernel_rfl, rfl, ⟨rfl, trivial⟩⟩⟩
instance : HasBy Try.prog 16 8 := ⟨by kernel_rfl⟩
instance : HasPtr Try.prog 16 68 := ⟨Try.underlying16⟩
instance : HasTy Try.prog 17 ⟨false, 1, [.raw (.pointer none)]⟩ := ⟨⟨_, Try.underlying17, rfl⟩, by kernel_rfl, ⟨.pointer none, [.pointer none], by kernel_rfl, rfl, ⟨rfl, trivial⟩⟩⟩
instance : HasBy Try.prog 17 8 := ⟨by kernel_rfl⟩
instance : HasPtr Try.prog 17 78 := ⟨Try.underlying17⟩
instance : HasTy Try.prog 21 ⟨false, 1, [.int .i32 0]⟩ := ⟨⟨_, Try.underlying21, rfl⟩, by kernel_rfl, ⟨.int .i32 0, [.int .i32 0], by kernel_rfl, rfl, ⟨rfl, trivial⟩⟩⟩
instance : HasBy Try.prog 21 4 := ⟨by kernel_rfl⟩
instance : HasInt Try.prog 21 .i32 := ⟨Try.underlying21⟩
theorem eqd21 : EqD Try.prog 1 21 false [.int .i32] := eqd_int Try.underlying21
instance : HasTy Try.prog 22 ⟨false, 1, [.slice .nil 0 []]⟩ := ⟨⟨_, Try.underlying22, rfl⟩, by kernel_rfl, ⟨.slice none 0 0, [.slice none 0 0], by kernel_rfl, rfl, ⟨rfl, trivial⟩⟩⟩
instance : HasBy Try.prog 22 24 := ⟨by kernel_rfl⟩
instance : HasSl Try.prog 22 42 := ⟨Try.underlying22⟩
instance : HasTy Try.prog 23 ⟨false, 1, [.int .u64 0]⟩ := ⟨⟨_, Try.underlying23, rfl⟩, by kernel_rfl, ⟨.int .u64 0, [.int .u64 0], by kernel_rfl, rfl, ⟨rfl, trivial⟩⟩⟩
instance : HasBy Try.prog 23 8 := ⟨by kernel_rfl⟩
instance : HasInt Try.prog 23 .u64 := ⟨Try.underlying23⟩
theorem eqd23 : EqD Try.prog 1 23 false [.int .u64] := eqd_int Try.underlying23
instance : HasTy Try.prog 24 ⟨true, 4, [.int .u64 0, .int .u64 0, .int .u64 0, .int .u64 0]⟩ := ⟨⟨_, Try.underlying24, rfl⟩, by kernel_rfl, ⟨.agg #[.int .u64 0, .int .u64 0, .int .u64 0, .int .u64 0], [.int .u64 0, .int .u64 0, .int .u64 0, .int .u64 0], by kernel_rfl, rfl, ⟨rfl, rfl, rfl, rfl, trivial⟩⟩⟩
instance : HasBy Try.prog 24 32 := ⟨by kernel_rfl⟩
instance : HasTy Try.prog 25 ⟨true, 4, [.int .u64 0, .int .u64 0, .int .u64 0, .int .u64 0]⟩ := ⟨⟨_, Try.underlying25, rfl⟩, by kernel_rfl, ⟨.agg #[.int .u64 0, .int .u64 0, .int .u64 0, .int .u64 0], [.int .u64 0, .int .u64 0, .int .u64 0, .int .u64 0], by kernel_rfl, rfl, ⟨rfl, rfl, rfl, rfl, trivial⟩⟩⟩
instance : HasBy Try.prog 25 32 := ⟨by kernel_rfl⟩
instance : HasTy Try.prog 26 ⟨false, 1, [.slice .nil 0 []]⟩ := ⟨⟨_, Try.underlying26, rfl⟩, by kernel_rfl, ⟨.slice none 0 0, [.slice none 0 0], by kernel_rfl, rfl, ⟨rfl, trivial⟩⟩⟩
instance : HasBy Try.prog 26 24 := ⟨by kernel_rfl⟩
instance : HasSl Try.prog 26 47 := ⟨Try.underlying26⟩
instance : HasTy Try.prog 27 ⟨true, 5, [.int .u64 0, .int .u64 0, .int .u64 0, .int .u64 0, .slice .nil 0 []]⟩ := ⟨⟨_, Try.underlying27, rfl⟩, by kernel_rfl, ⟨.agg #[.int .u64 0, .int .u64 0, .int .u64 0, .int .u64 0, .slice none 0 0], [.int .u64 0, .int .u64 0, .int .u64 0, .int .u64 0, .slice none 0 0], by kernel_rfl, rfl, ⟨rfl, rfl, rfl, rfl, rfl, trivial⟩⟩⟩
instance : HasBy Try.prog 27 56 := ⟨by kernel_rfl⟩
instance : HasTy Try.prog 28 ⟨true, 5, [.int .u64 0, .int .u64 0, .int .u64 0, .int .u64 0, .slice .nil 0 []]⟩ := ⟨⟨_, Try.underlying28, rfl⟩, by kernel_rfl, ⟨.agg #[.int .u64 0, .int .u64 0, .int .u64 0, .int .u64 0, .slice none 0 0], [.int .u64 0, .int .u64 0, .int .u64 0, .int .u64 0, .slice none 0 0], by kernel_rfl, rfl, ⟨rfl, rfl, rfl, rfl, rfl, trivial⟩⟩⟩
instance : HasBy Try.prog 28 56 := ⟨by kernel_rfl⟩
instance : HasTy Try.prog 31 ⟨false, 1, [.int .i64 0]⟩ := ⟨⟨_, Try.underlying31, rfl⟩, by kernel_rfl, ⟨.int .i64 0, [.int .i64 0], by kernel_rfl, rfl, ⟨rfl, trivial⟩⟩⟩
instance : HasBy Try.prog 31 8 := ⟨by kernel_rfl⟩
instance : HasInt Try.prog 31 .i64 := ⟨Try.underlying31⟩
theorem eqd31 : EqD Try.prog 1 31 false [.int .i64] := eqd_int Try.underlying31
instance : HasTy Try.prog 34 ⟨true, 32, [.int .u8 0, .int .u8 0, .int .u8 0, .int .u8 0, .int .u8 0, .int .u8 0, .int .u8 0, .int .u8 0, .int .u8 0, .int .u8 0, .int .u8 0, .int .u8 0, .int .u8 0, .int .u8 0, .int .u8 0, .int .u8 0, .int .u8 0, .int .u8 0, .int .u8 0, .int .u8 0, .int .u8 0, .int .u8 0, .int .u8 0, .int .u8 0, .int .u8 0, .int .u8 0, .int .u8 0, .int .u8 0, .int .u8 0, .int .u8 0, .int .u8 0, .int .u8 0]⟩ := ⟨⟨_, Try.underlying34, rfl⟩, by kernel_rfl, ⟨.agg #[.int .u8 0, .int .u8 0, .int .u8 0, .int .u8 0, .int .u8 0, .int .u8 0, .int .u8 0, .int .u8 0, .int .u8 0, .int .u8 0, .int .u8 0, .int .u8 0, .int .u8 0, .int .u8 0, .int .u8 0, .int .u8 0, .int .u8 0, .int .u8 0, .int .u8 0, .int .u8 0, .int .u8 0, .int .u8 0, .int .u8 0, .int .u8 0, .int .u8 0, .int .u8 0, .int .u8 0, .int .u8 0, .int .u8 0, .int .u8 0, .int .u8 0, .int .u8 0], [.int .u8 0, .int .u8 0, .int .u8 0, .int .u8 0, .int .u8 0, .int .u8 0, .int .u8 0, .int .u8 0, .int .u8 0, .int .u8 0, .int .u8 0, .int .u8 0, .int .u8 0, .int .u8 0, .int .u8 0, .int .u8 0, .int .u8 0, .int .u8 0, .int .u8 0, .int .u8 0, .int .u8 0, .int .u8 0, .int .u8 0, .int .u8 0, .int .u8 0, .int .u8 0, .int .u8 0, .int .u8 0, .int .u8 0, .int .u8 0, .int .u8 0, .int .u8 0], by kernel_rfl, rfl, ⟨rfl, rfl, rfl, rfl, rfl, rfl, rfl, rfl, rfl, rfl, rfl, rfl, rfl, rfl, rfl, rfl, rfl, rfl, rfl, rfl, rfl, rfl, rfl, rfl, rfl, rfl, rfl, rfl, rfl, rfl, rfl, rfl, trivial⟩⟩⟩
instance : HasBy Try.prog 34 32 := ⟨by kernel_rfl⟩
instance : HasTy Try.prog 41 ⟨true, 4, [.int .i64 0, .int .i64 0, .int .i64 0, .str ⟨#[]⟩]⟩ := ⟨⟨_, Try.underlying41, rfl⟩, by kernel_rfl, ⟨.agg #[.int .i64 0, .int .i64 0, .int .i64 0, .string ⟨#[]⟩], [.int .i64 0, .int .i64 0, .int .i64 0, .string ⟨#[]⟩], by kernel_rfl, rfl, ⟨rfl, rfl, rfl, rfl, trivial⟩⟩⟩
instance : HasBy Try.prog 41 40 := ⟨by kernel_rfl⟩
instance : HasTy Try.prog 42 ⟨true, 4, [.int .i64 0, .int .i64 0, .int .i64 0, .str ⟨#[]⟩]⟩ := ⟨⟨_, Try.underlying42, rfl⟩, by kernel_rfl, ⟨.agg #[.int .i64 0, .int .i64 0, .int .i64 0, .string ⟨#[]⟩], [.int .i64 0, .int .i64 0, .int .i64 0, .string ⟨#[]⟩], by kernel_rfl, rfl, ⟨rfl, rfl, rfl, rfl, trivial⟩⟩⟩
instance : HasBy Try.prog 42 40 := ⟨by kernel_rfl⟩
instance : HasTy Try.prog 46 ⟨true, 36, [.int .u8 0, .int .u8 0, .int .u8 0, .int .u8 0, .int .u8 0, .int .u8 0, .int .u8 0, .int .u8 0, .int .u8 0, .int .u8 0, .int .u8 0, .int .u8 0, .int .u8 0, .int .u8 0, .int .u8 0, .int .u8 0, .int .u8 0, .int .u8 0, .int .u8 0, .int .u8 0, .int .u8 0, .int .u8 0, .int .u8 0, .int .u8 0, .int .u8 0, .int .u8 0, .int .u8 0, .int .u8 0, .int .u8 0, .int .u8 0, .int .u8 0, .int .u8 0, .int .u64 0, .int .u64 0, .int .u64 0, .int .u64 0]⟩ := ⟨⟨_, Try.underlying46, rfl⟩, by kernel_rfl, ⟨.agg #[.int .u8 0, .int .u8 0, .int .u8 0, .int .u8 0, .int .u8 0, .int .u8 0, .int .u8 0, .int .u8 0, .int .u8 0, .int .u8 0, .int .u8 0, .int .u8 0, .int .u8 0, .int .u8 0, .int .u8 0, .int .u8 0, .int .u8 0, .int .u8 0, .int .u8 0, .int .u8 0, .int .u8 0, .int .u8 0, .int .u8 0, .int .u8 0, .int .u8 0, .int .u8 0, .int .u8 0, .int .u8 0, .int .u8 0, .int .u8 0, .int .u8 0, .int .u8 0, .int .u64 0, .int .u64 0, .int .u64 0, .int .u64 0], [.int .u8 0, .int .u8 0, .int .u8 0, .int .u8 0, .int .u8 0, .int .u8 0, .int .u8 0, .int .u8 0, .int .u8 0, .int .u8 0, .int .u8 0, .int .u8 0, .int .u8 0, .int .u8 0, .int .u8 0, .int .u8 0, .int .u8 0, .int .u8 0, .int .u8 0, .int .u8 0, .int .u8 0, .int .u8 0, .int .u8 0, .int .u8 0, .int .u8 0, .int .u8 0, .int .u8 0, .int .u8 0, .int .u8 0, .int .u8 0, .int .u8 0, .int .u8 0, .int .u64 0, .int .u64 0, .int .u64 0, .int .u64 0], by kernel_rfl, rfl, ⟨rfl, rfl, rfl, rfl, rfl, rfl, rfl, rfl, rfl, rfl, rfl, rfl, rfl, rfl, rfl, rfl, rfl, rfl, rfl, rfl, rfl, rfl, rfl, rfl, rfl, rfl, rfl, rfl, rfl, rfl, rfl, rfl, rfl, rfl, rfl, rfl, trivial⟩⟩⟩
instance : HasBy Try.prog 46 64 := ⟨by kernel_rfl⟩
instance : HasTy Try.prog 47 ⟨true, 36, [.int .u8 0, .int .u8 0, .int .u8 0, .int .u8 0, .int .u8 0, .int .u8 0, .int .u8 0, .int .u8 0, .int .u8 0, .int .u8 0, .int .u8 0, .int .u8 0, .int .u8 0, .int .u8 0, .int .u8 0, .int .u8 0, .int .u8 0, .int .u8 0, .int .u8 0, .int .u8 0, .int .u8 0, .int .u8 0, .int .u8 0, .int .u8 0, .int .u8 0, .int .u8 0, .int .u8 0, .int .u8 0, .int .u8 0, .int .u8 0, .int .u8 0, .int .u8 0, .int .u64 0, .int .u64 0, .int .u64 0, .int .u64 0]⟩ := ⟨⟨_, Try.underlying47, rfl⟩, by kernel_rfl, ⟨.agg #[.int .u8 0, .int .u8 0, .int .u8 0, .int .u8 0, .int .u8 0, .int .u8 0, .int .u8 0, .int .u8 0, .int .u8 0, .int .u8 0, .int .u8 0, .int .u8 0, .int .u8 0, .int .u8 0, .int .u8 0, .int .u8 0, .int .u8 0, .int .u8 0, .int .u8 0, .int .u8 0, .int .u8 0, .int .u8 0, .int .u8 0, .int .u8 0, .int .u8 0, .int .u8 0, .int .u8 0, .int .u8 0, .int .u8 0, .int .u8 0, .int .u8 0, .int .u8 0, .int .u64 0, .int .u64 0, .int .u64 0, .int .u64 0], [.int .u8 0, .int .u8 0, .int .u8 0, .int .u8 0, .int .u8 0, .int .u8 0, .int .u8 0, .int .u8 0, .int .u8 0, .int .u8 0, .int .u8 0, .int .u8 0, .int .u8 0, .int .u8 0, .int .u8 0, .int .u8 0, .int .u8 0, .int .u8 0, .int .u8 0, .int .u8 0, .int .u8 0, .int .u8 0, .int .u8 0, .int .u8 0, .int .u8 0, .int .u8 0, .int .u8 0, .int .u8 0, .int .u8 0, .int .u8 0, .int .u8 0, .int .u8 0, .int .u64 0, .int .u64 0, .int .u64 0, .int .u64 0], by kernel_rfl, rfl, ⟨rfl, rfl, rfl, rfl, rfl, rfl, rfl, rfl, rfl, rfl, rfl, rfl, rfl, rfl, rfl, rfl, rfl, rfl, rfl, rfl, rfl, rfl, rfl, rfl, rfl, rfl, rfl, rfl, rfl, rfl, rfl, rfl, rfl, rfl, rfl, rfl, trivial⟩⟩⟩
instance : HasBy Try.prog 47 64 := ⟨by kernel_rfl⟩
instance : HasTy Try.prog 58 ⟨false, 1, [.slice .nil 0 []]⟩ := ⟨⟨_, Try.underlying58, rfl⟩, by kernel_rfl, ⟨.slice none 0 0, [.slice none 0 0], by kernel_rfl, rfl, ⟨rfl, trivial⟩⟩⟩
instance : HasBy Try.prog 58 24 := ⟨by kernel_rfl⟩
instance : HasSl Try.prog 58 5 := ⟨Try.underlying58⟩
instance : HasTy Try.prog 66 ⟨true, 0, []⟩ := ⟨⟨_, Try.underlying66, rfl⟩, by kernel_rfl, ⟨.agg #[], [], by kernel_rfl, rfl, trivial⟩⟩
instance : HasBy Try.prog 66 0 := ⟨by kernel_rfl⟩
instance : HasTy Try.prog 70 ⟨false, 1, [.int .u32 0]⟩ := ⟨⟨_, Try.underlying70, rfl⟩, by kernel_rfl, ⟨.int .u32 0, [.int .u32 0], by kernel_rfl, rfl, ⟨rfl, trivial⟩⟩⟩
instance : HasBy Try.prog 70 4 := ⟨by kernel_rfl⟩
instance : HasInt Try.prog 70 .u32 := ⟨Try.underlying70⟩
theorem eqd70 : EqD Try.prog 1 70 false [.int .u32] := eqd_int Try.underlying70
instance : HasTy Try.prog 74 ⟨false, 1, [.raw (.pointer none)]⟩ := ⟨⟨_, Try.underlying74, rfl⟩, by kernel_rfl, ⟨.pointer none, [.pointer none], by kernel_rfl, rfl, ⟨rfl, trivial⟩⟩⟩
instance : HasBy Try.prog 74 8 := ⟨by kernel_rfl⟩
instance : HasPtr Try.prog 74 5 := ⟨Try.underlying74⟩
instance : HasArr Try.prog 24 4 23 := ⟨Try.underlying24⟩
instance : HasPlaces Try.prog 24 [(0, 1), (1, 1), (2, 1), (3, 1)] := ⟨.inr ⟨_, _, _, Try.underlying24, (show _ = some 1 by kernel_rfl), rfl⟩⟩
instance : HasArr Try.prog 25 4 23 := ⟨Try.underlying25⟩
instance : HasPlaces Try.prog 25 [(0, 1), (1, 1), (2, 1), (3, 1)] := ⟨.inr ⟨_, _, _, Try.underlying25, (show _ = some 1 by kernel_rfl), rfl⟩⟩
instance : HasFld Try.prog 27 0 0 25 := ⟨⟨_, _, Try.underlying27, rfl, rfl, rfl⟩⟩
instance : HasFld Try.prog 27 1 4 26 := ⟨⟨_, _, Try.underlying27, rfl, rfl, rfl⟩⟩
instance : HasPlaces Try.prog 27 [(0, 4), (4, 1)] := ⟨.inl ⟨_, Try.underlying27, fun w => by kernel_rfl⟩⟩
instance : HasFld Try.prog 28 0 0 25 := ⟨⟨_, _, Try.underlying28, rfl, rfl, rfl⟩⟩
instance : HasFld Try.prog 28 1 4 26 := ⟨⟨_, _, Try.underlying28, rfl, rfl, rfl⟩⟩
instance : HasPlaces Try.prog 28 [(0, 4), (4, 1)] := ⟨.inl ⟨_, Try.underlying28, fun w => by kernel_rfl⟩⟩
instance : HasArr Try.prog 34 32 5 := ⟨Try.underlying34⟩
instance : HasPlaces Try.prog 34 [(0, 1), (1, 1), (2, 1), (3, 1), (4, 1), (5, 1), (6, 1), (7, 1), (8, 1), (9, 1), (10, 1), (11, 1), (12, 1), (13, 1), (14, 1), (15, 1), (16, 1), (17, 1), (18, 1), (19, 1), (20, 1), (21, 1), (22, 1), (23, 1), (24, 1), (25, 1), (26, 1), (27, 1), (28, 1), (29, 1), (30, 1), (31, 1)] := ⟨.inr ⟨_, _, _, Try.underlying34, (show _ = some 1 by kernel_rfl), rfl⟩⟩
instance : HasFld Try.prog 41 0 0 3 := ⟨⟨_, _, Try.underlying41, rfl, rfl, rfl⟩⟩
instance : HasFld Try.prog 41 1 1 3 := ⟨⟨_, _, Try.underlying41, rfl, rfl, rfl⟩⟩
instance : HasFld Try.prog 41 2 2 3 := ⟨⟨_, _, Try.underlying41, rfl, rfl, rfl⟩⟩
instance : HasFld Try.prog 41 3 3 9 := ⟨⟨_, _, Try.underlying41, rfl, rfl, rfl⟩⟩
instance : HasPlaces Try.prog 41 [(0, 1), (1, 1), (2, 1), (3, 1)] := ⟨.inl ⟨_, Try.underlying41, fun w => by kernel_rfl⟩⟩
instance : HasFld Try.prog 42 0 0 3 := ⟨⟨_, _, Try.underlying42, rfl, rfl, rfl⟩⟩
instance : HasFld Try.prog 42 1 1 3 := ⟨⟨_, _, Try.underlying42, rfl, rfl, rfl⟩⟩
instance : HasFld Try.prog 42 2 2 3 := ⟨⟨_, _, Try.underlying42, rfl, rfl, rfl⟩⟩
instance : HasFld Try.prog 42 3 3 9 := ⟨⟨_, _, Try.underlying42, rfl, rfl, rfl⟩⟩
instance : HasPlaces Try.prog 42 [(0, 1), (1, 1), (2, 1), (3, 1)] := ⟨.inl ⟨_, Try.underlying42, fun w => by kernel_rfl⟩⟩
instance : HasFld Try.prog 46 0 0 34 := ⟨⟨_, _, Try.underlying46, rfl, rfl, rfl⟩⟩
instance : HasFld Try.prog 46 1 32 25 := ⟨⟨_, _, Try.underlying46, rfl, rfl, rfl⟩⟩
instance : HasPlaces Try.prog 46 [(0, 32), (32, 4)] := ⟨.inl ⟨_, Try.underlying46, fun w => by kernel_rfl⟩⟩
instance : HasFld Try.prog 47 0 0 34 := ⟨⟨_, _, Try.underlying47, rfl, rfl, rfl⟩⟩
instance : HasFld Try.prog 47 1 32 25 := ⟨⟨_, _, Try.underlying47, rfl, rfl, rfl⟩⟩
instance : HasPlaces Try.prog 47 [(0, 32), (32, 4)] := ⟨.inl ⟨_, Try.underlying47, fun w => by kernel_rfl⟩⟩
instance : HasArr Try.prog 66 0 16 := ⟨Try.underlying66⟩
instance : HasPlaces Try.prog 66 [] := ⟨.inr ⟨_, _, _, Try.underlying66, (show _ = some 1 by kernel_rfl), rfl⟩⟩
theorem eqd24 : EqD Try.prog 2 24 true [.int .u64, .int .u64, .int .u64, .int .u64] := eqd_arr (ks := [.int .u64]) Try.underlying24 eqd23 rfl (fun _ => rfl)
instance : EqT Try.prog 24 true [.int .u64, .int .u64, .int .u64, .int .u64] := ⟨⟨_, by decide, eqd24⟩, by kernel_rfl⟩
theorem eqd25 : EqD Try.prog 2 25 true [.int .u64, .int .u64, .int .u64, .int .u64] := eqd_arr (ks := [.int .u64]) Try.underlying25 eqd23 rfl (fun _ => rfl)
instance : EqT Try.prog 25 true [.int .u64, .int .u64, .int .u64, .int .u64] := ⟨⟨_, by decide, eqd25⟩, by kernel_rfl⟩
theorem eqd34 : EqD Try.prog 2 34 true [.int .u8, .int .u8, .int .u8, .int .u8, .int .u8, .int .u8, .int .u8, .int .u8, .int .u8, .int .u8, .int .u8, .int .u8, .int .u8, .int .u8, .int .u8, .int .u8, .int .u8, .int .u8, .int .u8, .int .u8, .int .u8, .int .u8, .int .u8, .int .u8, .int .u8, .int .u8, .int .u8, .int .u8, .int .u8, .int .u8, .int .u8, .int .u8] := eqd_arr (ks := [.int .u8]) Try.underlying34 eqd5 rfl (fun _ => rfl)
instance : EqT Try.prog 34 true [.int .u8, .int .u8, .int .u8, .int .u8, .int .u8, .int .u8, .int .u8, .int .u8, .int .u8, .int .u8, .int .u8, .int .u8, .int .u8, .int .u8, .int .u8, .int .u8, .int .u8, .int .u8, .int .u8, .int .u8, .int .u8, .int .u8, .int .u8, .int .u8, .int .u8, .int .u8, .int .u8, .int .u8, .int .u8, .int .u8, .int .u8, .int .u8] := ⟨⟨_, by decide, eqd34⟩, by kernel_rfl⟩
theorem eqd41 : EqD Try.prog 2 41 true ([.int .i64] ++ ([.int .i64] ++ ([.int .i64] ++ ([.str] ++ [])))) := by
  refine eqd_struct Try.underlying41 (by kernel_rfl) ?_
  refine EqF.cons _ _ 3 _ _ _ _ rfl ?_ rfl inferInstance (fun dp hdp => eqd3 dp ?_) rfl ?_ ?_
  · decide
  · omega
  · exact fun _ => rfl
  refine EqF.cons _ _ 3 _ _ _ _ rfl ?_ rfl inferInstance (fun dp hdp => eqd3 dp ?_) rfl ?_ ?_
  · decide
  · omega
  · exact fun _ => rfl
  refine EqF.cons _ _ 3 _ _ _ _ rfl ?_ rfl inferInstance (fun dp hdp => eqd3 dp ?_) rfl ?_ ?_
  · decide
  · omega
  · exact fun _ => rfl
  refine EqF.cons _ _ 9 _ _ _ _ rfl ?_ rfl inferInstance (fun dp hdp => eqd9 dp ?_) rfl ?_ ?_
  · decide
  · omega
  · exact fun _ => rfl
  exact EqF.nil _
instance : EqT Try.prog 41 true [.int .i64, .int .i64, .int .i64, .str] := ⟨⟨_, by decide, eqd41⟩, by kernel_rfl⟩
theorem eqd42 : EqD Try.prog 2 42 true ([.int .i64] ++ ([.int .i64] ++ ([.int .i64] ++ ([.str] ++ [])))) := by
  refine eqd_struct Try.underlying42 (by kernel_rfl) ?_
  refine EqF.cons _ _ 3 _ _ _ _ rfl ?_ rfl inferInstance (fun dp hdp => eqd3 dp ?_) rfl ?_ ?_
  · decide
  · omega
  · exact fun _ => rfl
  refine EqF.cons _ _ 3 _ _ _ _ rfl ?_ rfl inferInstance (fun dp hdp => eqd3 dp ?_) rfl ?_ ?_
  · decide
  · omega
  · exact fun _ => rfl
  refine EqF.cons _ _ 3 _ _ _ _ rfl ?_ rfl inferInstance (fun dp hdp => eqd3 dp ?_) rfl ?_ ?_
  · decide
  · omega
  · exact fun _ => rfl
  refine EqF.cons _ _ 9 _ _ _ _ rfl ?_ rfl inferInstance (fun dp hdp => eqd9 dp ?_) rfl ?_ ?_
  · decide
  · omega
  · exact fun _ => rfl
  exact EqF.nil _
instance : EqT Try.prog 42 true [.int .i64, .int .i64, .int .i64, .str] := ⟨⟨_, by decide, eqd42⟩, by kernel_rfl⟩
theorem eqd46 : EqD Try.prog 3 46 true ([.int .u8, .int .u8, .int .u8, .int .u8, .int .u8, .int .u8, .int .u8, .int .u8, .int .u8, .int .u8, .int .u8, .int .u8, .int .u8, .int .u8, .int .u8, .int .u8, .int .u8, .int .u8, .int .u8, .int .u8, .int .u8, .int .u8, .int .u8, .int .u8, .int .u8, .int .u8, .int .u8, .int .u8, .int .u8, .int .u8, .int .u8, .int .u8] ++ ([.int .u64, .int .u64, .int .u64, .int .u64] ++ [])) := by
  refine eqd_struct Try.underlying46 (by kernel_rfl) ?_
  refine EqF.cons _ _ 34 _ _ _ _ rfl ?_ rfl inferInstance (fun dp hdp => eqd34 dp ?_) rfl ?_ ?_
  · decide
  · omega
  · exact fun h => by cases h
  refine EqF.cons _ _ 25 _ _ _ _ rfl ?_ rfl inferInstance (fun dp hdp => eqd25 dp ?_) rfl ?_ ?_
  · decide
  · omega
  · exact fun h => by cases h
  exact EqF.nil _
instance : EqT Try.prog 46 true [.int .u8, .int .u8, .int .u8, .int .u8, .int .u8, .int .u8, .int .u8, .int .u8, .int .u8, .int .u8, .int .u8, .int .u8, .int .u8, .int .u8, .int .u8, .int .u8, .int .u8, .int .u8, .int .u8, .int .u8, .int .u8, .int .u8, .int .u8, .int .u8, .int .u8, .int .u8, .int .u8, .int .u8, .int .u8, .int .u8, .int .u8, .int .u8, .int .u64, .int .u64, .int .u64, .int .u64] := ⟨⟨_, by decide, eqd46⟩, by kernel_rfl⟩
theorem eqd47 : EqD Try.prog 3 47 true ([.int .u8, .int .u8, .int .u8, .int .u8, .int .u8, .int .u8, .int .u8, .int .u8, .int .u8, .int .u8, .int .u8, .int .u8, .int .u8, .int .u8, .int .u8, .int .u8, .int .u8, .int .u8, .int .u8, .int .u8, .int .u8, .int .u8, .int .u8, .int .u8, .int .u8, .int .u8, .int .u8, .int .u8, .int .u8, .int .u8, .int .u8, .int .u8] ++ ([.int .u64, .int .u64, .int .u64, .int .u64] ++ [])) := by
  refine eqd_struct Try.underlying47 (by kernel_rfl) ?_
  refine EqF.cons _ _ 34 _ _ _ _ rfl ?_ rfl inferInstance (fun dp hdp => eqd34 dp ?_) rfl ?_ ?_
  · decide
  · omega
  · exact fun h => by cases h
  refine EqF.cons _ _ 25 _ _ _ _ rfl ?_ rfl inferInstance (fun dp hdp => eqd25 dp ?_) rfl ?_ ?_
  · decide
  · omega
  · exact fun h => by cases h
  exact EqF.nil _
instance : EqT Try.prog 47 true [.int .u8, .int .u8, .int .u8, .int .u8, .int .u8, .int .u8, .int .u8, .int .u8, .int .u8, .int .u8, .int .u8, .int .u8, .int .u8, .int .u8, .int .u8, .int .u8, .int .u8, .int .u8, .int .u8, .int .u8, .int .u8, .int .u8, .int .u8, .int .u8, .int .u8, .int .u8, .int .u8, .int .u8, .int .u8, .int .u8, .int .u8, .int .u8, .int .u64, .int .u64, .int .u64, .int .u64] := ⟨⟨_, by decide, eqd47⟩, by kernel_rfl⟩
instance : HasFn Try.prog 3 := ⟨⟨_, Try.func3, by kernel_rfl, by kernel_rfl⟩⟩
instance : HasFn Try.prog 4 := ⟨⟨_, Try.func4, by kernel_rfl, by kernel_rfl⟩⟩
instance : HasFn Try.prog 5 := ⟨⟨_, Try.func5, by kernel_rfl, by kernel_rfl⟩⟩
instance : HasFn Try.prog 6 := ⟨⟨_, Try.func6, by kernel_rfl, by kernel_rfl⟩⟩
instance : HasFn Try.prog 7 := ⟨⟨_, Try.func7, by kernel_rfl, by kernel_rfl⟩⟩
instance : HasFn Try.prog 8 := ⟨⟨_, Try.func8, by kernel_rfl, by kernel_rfl⟩⟩
instance : HasFn Try.prog 9 := ⟨⟨_, Try.func9, by kernel_rfl, by kernel_rfl⟩⟩
instance : HasFn Try.prog 10 := ⟨⟨_, Try.func10, by kernel_rfl, by kernel_rfl⟩⟩
instance : HasFn Try.prog 11 := ⟨⟨_, Try.func11, by kernel_rfl, by kernel_rfl⟩⟩
instance : HasFn Try.prog 12 := ⟨⟨_, Try.func12, by kernel_rfl, by kernel_rfl⟩⟩
instance : HasFn Try.prog 13 := ⟨⟨_, Try.func13, by kernel_rfl, by kernel_rfl⟩⟩
instance : HasFn Try.prog 14 := ⟨⟨_, Try.func14, by kernel_rfl, by kernel_rfl⟩⟩
instance : HasFn Try.prog 15 := ⟨⟨_, Try.func15, by kernel_rfl, by kernel_rfl⟩⟩
instance : HasFn Try.prog 16 := ⟨⟨_, Try.func16, by kernel_rfl, by kernel_rfl⟩⟩
instance : HasFn Try.prog 17 := ⟨⟨_, Try.func17, by kernel_rfl, by kernel_rfl⟩⟩
instance : HasFn Try.prog 18 := ⟨⟨_, Try.func18, by kernel_rfl, by kernel_rfl⟩⟩
instance : HasFn Try.prog 19 := ⟨⟨_, Try.func19, by kernel_rfl, by kernel_rfl⟩⟩
instance : HasFn Try.prog 20 := ⟨⟨_, Try.func20, by kernel_rfl, by kernel_rfl⟩⟩
instance : HasFn Try.prog 22 := ⟨⟨_, Try.func22, by kernel_rfl, by kernel_rfl⟩⟩
instance : HasFn Try.prog 23 := ⟨⟨_, Try.func23, by kernel_rfl, by kernel_rfl⟩⟩
instance : HasFn Try.prog 24 := ⟨⟨_, Try.func24, by kernel_rfl, by kernel_rfl⟩⟩
instance : HasFn Try.prog 26 := ⟨⟨_, Try.func26, by kernel_rfl, by kernel_rfl⟩⟩

end Go.Proofs.Ythbkfohdphfgaaa
