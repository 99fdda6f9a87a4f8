/- The rows of this program's types and functions, as instances. No conditions. -/
import Derived.Test.YtokijcdanegooaaDOp2
import Derived.Test.YtokijcdanegooaaDK2
namespace Go.Proofs.Ytokijcdanegooaa
open Go.RowKit
set_option linter.unusedVariables false
set_option maxRecDepth 100000
theorem mixed : Try.prog.follows .mixedOrders = true := by kernel_rfl
instance : HasTy Try.prog 2 ⟨false, 1, [.int .i64 0]⟩ := ⟨⟨_, Try.underlying2, rfl⟩, by kernel_rfl, ⟨.int .i64 0, [.int .i64 0], by kernel_rfl, rfl, ⟨rfl, trivial⟩⟩⟩
instance : HasBy Try.prog 2 8 := ⟨by kernel_rfl⟩
instance : HasInt Try.prog 2 .i64 := ⟨Try.underlying2⟩
theorem eqd2 : EqD Try.prog 1 2 false [.int .i64] := eqd_int Try.underlying2
instance : HasTy Try.prog 3 ⟨false, 1, [.int .i64 0]⟩ := ⟨⟨_, Try.underlying3, rfl⟩, by kernel_rfl, ⟨.int .i64 0, [.int .i64 0], by kernel_rfl, rfl, ⟨rfl, trivial⟩⟩⟩
instance : HasBy Try.prog 3 8 := ⟨by kernel_rfl⟩
instance : HasInt Try.prog 3 .i64 := ⟨Try.underlying3⟩
theorem eqd3 : EqD Try.prog 1 3 false [.int .i64] := eqd_int Try.underlying3
instance : HasTy Try.prog 4 ⟨false, 1, [.bool false]⟩ := ⟨⟨_, Try.underlying4, rfl⟩, by kernel_rfl, ⟨.bool false, [.bool false], by kernel_rfl, rfl, ⟨rfl, trivial⟩⟩⟩
instance : HasBy Try.prog 4 1 := ⟨by kernel_rfl⟩
theorem eqd4 : EqD Try.prog 1 4 false [.bool] := eqd_bool Try.underlying4
instance : HasTy Try.prog 5 ⟨false, 1, [.int .u8 0]⟩ := ⟨⟨_, Try.underlying5, rfl⟩, by kernel_rfl, ⟨.int .u8 0, [.int .u8 0], by kernel_rfl, rfl, ⟨rfl, trivial⟩⟩⟩
instance : HasBy Try.prog 5 1 := ⟨by kernel_rfl⟩
instance : HasInt Try.prog 5 .u8 := ⟨Try.underlying5⟩
theorem eqd5 : EqD Try.prog 1 5 false [.int .u8] := eqd_int Try.underlying5
instance : HasTy Try.prog 9 ⟨false, 1, [.str ⟨#[]⟩]⟩ := ⟨⟨_, Try.underlying9, rfl⟩, by kernel_rfl, ⟨.string ⟨#[]⟩, [.string ⟨#[]⟩], by kernel_rfl, rfl, ⟨rfl, trivial⟩⟩⟩
instance : HasBy Try.prog 9 16 := ⟨by kernel_rfl⟩
theorem eqd9 : EqD Try.prog 1 9 false [.str] := eqd_str Try.underlying9
instance : HasTy Try.prog 12 ⟨false, 1, [.int .u64 0]⟩ := ⟨⟨_, Try.underlying12, rfl⟩, by kernel_rfl, ⟨.int .u64 0, [.int .u64 0], by kernel_rfl, rfl, ⟨rfl, trivial⟩⟩⟩
instance : HasBy Try.prog 12 8 := ⟨by kernel_rfl⟩
instance : HasInt Try.prog 12 .u64 := ⟨Try.underlying12⟩
theorem eqd12 : EqD Try.prog 1 12 false [.int .u64] := eqd_int Try.underlying12
instance : HasTy Try.prog 15 ⟨false, 1, [.raw (.pointer none)]⟩ := ⟨⟨_, Try.underlying15, rfl⟩, by kernel_rfl, ⟨.pointer none, [.pointer none], by kernel_rfl, rfl, ⟨rfl, trivial⟩⟩⟩
instance : HasBy Try.prog 15 8 := ⟨by kernel_rfl⟩
instance : HasPtr Try.prog 15 81 := ⟨Try.underlying15⟩
instance : HasTy Try.prog 16 ⟨false, 1, [.raw (.pointer none)]⟩ := ⟨⟨_, Try.underlying16, rfl⟩, by kernel_rfl, ⟨.pointer none, [.pointer none], by kernel_rfl, rfl, ⟨rfl, trivial⟩⟩⟩
instance : HasBy Try.prog 16 8 := ⟨by kernel_rfl⟩
instance : HasPtr Try.prog 16 84 := ⟨Try.underlying16⟩
instance : HasTy Try.prog 17 ⟨false, 1, [.raw (.pointer none)]⟩ := ⟨⟨_, Try.underlying17, rfl⟩, by kernel_rfl, ⟨.pointer none, [.pointer none], by kernel_rfl, rfl, ⟨rfl, trivial⟩⟩⟩
instance : HasBy Try.prog 17 8 := ⟨by kernel_rfl⟩
instance : HasPtr Try.prog 17 94 := ⟨Try.underlying17⟩
instance : HasTy Try.prog 21 ⟨false, 1, [.int .i32 0]⟩ := ⟨⟨_, Try.underlying21, rfl⟩, by kernel_rfl, ⟨.int .i32 0, [.int .i32 0], by kernel_rfl, rfl, ⟨rfl, trivial⟩⟩⟩
instance : HasBy Try.prog 21 4 := ⟨by kernel_rfl⟩
instance : HasInt Try.prog 21 .i32 := ⟨Try.underlying21⟩
theorem eqd21 : EqD Try.prog 1 21 false [.int .i32] := eqd_int Try.underlying21
instance : HasTy Try.prog 23 ⟨false, 1, [.int .i64 0]⟩ := ⟨⟨_, Try.underlying23, rfl⟩, by kernel_rfl, ⟨.int .i64 0, [.int .i64 0], by kernel_rfl, rfl, ⟨rfl, trivial⟩⟩⟩
instance : HasBy Try.prog 23 8 := ⟨by kernel_rfl⟩
instance : HasInt Try.prog 23 .i64 := ⟨Try.underlying23⟩
theorem eqd23 : EqD Try.prog 1 23 false [.int .i64] := eqd_int Try.underlying23
instance : HasTy Try.prog 28 ⟨false, 1, [.int .u64 0]⟩ := ⟨⟨_, Try.underlying28, rfl⟩, by kernel_rfl, ⟨.int .u64 0, [.int .u64 0], by kernel_rfl, rfl, ⟨rfl, trivial⟩⟩⟩
instance : HasBy Try.prog 28 8 := ⟨by kernel_rfl⟩
instance : HasInt Try.prog 28 .u64 := ⟨Try.underlying28⟩
theorem eqd28 : EqD Try.prog 1 28 false [.int .u64] := eqd_int Try.underlying28
instance : HasTy Try.prog 29 ⟨true, 4, [.int .u64 0, .int .u64 0, .int .u64 0, .int .u64 0]⟩ := ⟨⟨_, Try.underlying29, rfl⟩, by kernel_rfl, ⟨.agg #[.int .u64 0, .int .u64 0, .int .u64 0, .int .u64 0], [.int .u64 0, .int .u64 0, .int .u64 0, .int .u64 0], by kernel_rfl, rfl, ⟨rfl, rfl, rfl, rfl, trivial⟩⟩⟩
instance : HasBy Try.prog 29 32 := ⟨by kernel_rfl⟩
instance : HasTy Try.prog 32 ⟨true, 4, [.int .u64 0, .int .u64 0, .int .u64 0, .int .u64 0]⟩ := ⟨⟨_, Try.underlying32, rfl⟩, by kernel_rfl, ⟨.agg #[.int .u64 0, .int .u64 0, .int .u64 0, .int .u64 0], [.int .u64 0, .int .u64 0, .int .u64 0, .int .u64 0], by kernel_rfl, rfl, ⟨rfl, rfl, rfl, rfl, trivial⟩⟩⟩
instance : HasBy Try.prog 32 32 := ⟨by kernel_rfl⟩
instance : HasTy Try.prog 36 ⟨false, 1, [.slice .nil 0 []]⟩ := ⟨⟨_, Try.underlying36, rfl⟩, by kernel_rfl, ⟨.slice none 0 0, [.slice none 0 0], by kernel_rfl, rfl, ⟨rfl, trivial⟩⟩⟩
instance : HasBy Try.prog 36 24 := ⟨by kernel_rfl⟩
instance : HasSl Try.prog 36 72 := ⟨Try.underlying36⟩
instance : HasTy Try.prog 37 ⟨false, 1, [.slice .nil 0 []]⟩ := ⟨⟨_, Try.underlying37, rfl⟩, by kernel_rfl, ⟨.slice none 0 0, [.slice none 0 0], by kernel_rfl, rfl, ⟨rfl, trivial⟩⟩⟩
instance : HasBy Try.prog 37 24 := ⟨by kernel_rfl⟩
instance : HasSl Try.prog 37 43 := ⟨Try.underlying37⟩
instance : HasTy Try.prog 38 ⟨false, 1, [.slice .nil 0 []]⟩ := ⟨⟨_, Try.underlying38, rfl⟩, by kernel_rfl, ⟨.slice none 0 0, [.slice none 0 0], by kernel_rfl, rfl, ⟨rfl, trivial⟩⟩⟩
instance : HasBy Try.prog 38 24 := ⟨by kernel_rfl⟩
instance : HasSl Try.prog 38 3 := ⟨Try.underlying38⟩
instance : HasTy Try.prog 41 ⟨false, 1, [.slice .nil 0 []]⟩ := ⟨⟨_, Try.underlying41, rfl⟩, by kernel_rfl, ⟨.slice none 0 0, [.slice none 0 0], by kernel_rfl, rfl, ⟨rfl, trivial⟩⟩⟩
instance : HasBy Try.prog 41 24 := ⟨by kernel_rfl⟩
instance : HasSl Try.prog 41 48 := ⟨Try.underlying41⟩
instance : HasTy Try.prog 42 ⟨true, 3, [.int .i64 0, .slice .nil 0 [], .int .i64 0]⟩ := ⟨⟨_, Try.underlying42, rfl⟩, by kernel_rfl, ⟨.agg #[.int .i64 0, .slice none 0 0, .int .i64 0], [.int .i64 0, .slice none 0 0, .int .i64 0], by kernel_rfl, rfl, ⟨rfl, rfl, rfl, trivial⟩⟩⟩
instance : HasBy Try.prog 42 40 := ⟨by kernel_rfl⟩
instance : HasTy Try.prog 43 ⟨true, 3, [.int .i64 0, .slice .nil 0 [], .int .i64 0]⟩ := ⟨⟨_, Try.underlying43, rfl⟩, by kernel_rfl, ⟨.agg #[.int .i64 0, .slice none 0 0, .int .i64 0], [.int .i64 0, .slice none 0 0, .int .i64 0], by kernel_rfl, rfl, ⟨rfl, rfl, rfl, trivial⟩⟩⟩
instance : HasBy Try.prog 43 40 := ⟨by kernel_rfl⟩
instance : HasTy Try.prog 47 ⟨true, 20, [.int .u8 0, .int .u8 0, .int .u8 0, .int .u8 0, .int .u8 0, .int .u8 0, .int .u8 0, .int .u8 0, .int .u8 0, .int .u8 0, .int .u8 0, .int .u8 0, .int .u8 0, .int .u8 0, .int .u8 0, .int .u8 0, .int .u8 0, .int .u8 0, .int .u8 0, .int .u8 0]⟩ := ⟨⟨_, Try.underlying47, rfl⟩, by kernel_rfl, ⟨.agg #[.int .u8 0, .int .u8 0, .int .u8 0, .int .u8 0, .int .u8 0, .int .u8 0, .int .u8 0, .int .u8 0, .int .u8 0, .int .u8 0, .int .u8 0, .int .u8 0, .int .u8 0, .int .u8 0, .int .u8 0, .int .u8 0, .int .u8 0, .int .u8 0, .int .u8 0, .int .u8 0], [.int .u8 0, .int .u8 0, .int .u8 0, .int .u8 0, .int .u8 0, .int .u8 0, .int .u8 0, .int .u8 0, .int .u8 0, .int .u8 0, .int .u8 0, .int .u8 0, .int .u8 0, .int .u8 0, .int .u8 0, .int .u8 0, .int .u8 0, .int .u8 0, .int .u8 0, .int .u8 0], by kernel_rfl, rfl, ⟨rfl, rfl, rfl, rfl, rfl, rfl, rfl, rfl, rfl, rfl, rfl, rfl, rfl, rfl, rfl, rfl, rfl, rfl, rfl, rfl, trivial⟩⟩⟩
instance : HasBy Try.prog 47 20 := ⟨by kernel_rfl⟩
instance : HasTy Try.prog 48 ⟨true, 20, [.int .u8 0, .int .u8 0, .int .u8 0, .int .u8 0, .int .u8 0, .int .u8 0, .int .u8 0, .int .u8 0, .int .u8 0, .int .u8 0, .int .u8 0, .int .u8 0, .int .u8 0, .int .u8 0, .int .u8 0, .int .u8 0, .int .u8 0, .int .u8 0, .int .u8 0, .int .u8 0]⟩ := ⟨⟨_, Try.underlying48, rfl⟩, by kernel_rfl, ⟨.agg #[.int .u8 0, .int .u8 0, .int .u8 0, .int .u8 0, .int .u8 0, .int .u8 0, .int .u8 0, .int .u8 0, .int .u8 0, .int .u8 0, .int .u8 0, .int .u8 0, .int .u8 0, .int .u8 0, .int .u8 0, .int .u8 0, .int .u8 0, .int .u8 0, .int .u8 0, .int .u8 0], [.int .u8 0, .int .u8 0, .int .u8 0, .int .u8 0, .int .u8 0, .int .u8 0, .int .u8 0, .int .u8 0, .int .u8 0, .int .u8 0, .int .u8 0, .int .u8 0, .int .u8 0, .int .u8 0, .int .u8 0, .int .u8 0, .int .u8 0, .int .u8 0, .int .u8 0, .int .u8 0], by kernel_rfl, rfl, ⟨rfl, rfl, rfl, rfl, rfl, rfl, rfl, rfl, rfl, rfl, rfl, rfl, rfl, rfl, rfl, rfl, rfl, rfl, rfl, rfl, trivial⟩⟩⟩
instance : HasBy Try.prog 48 20 := ⟨by kernel_rfl⟩
instance : HasTy Try.prog 50 ⟨false, 1, [.slice .nil 0 []]⟩ := ⟨⟨_, Try.underlying50, rfl⟩, by kernel_rfl, ⟨.slice none 0 0, [.slice none 0 0], by kernel_rfl, rfl, ⟨rfl, trivial⟩⟩⟩
instance : HasBy Try.prog 50 24 := ⟨by kernel_rfl⟩
instance : HasSl Try.prog 50 5 := ⟨Try.underlying50⟩
instance : HasTy Try.prog 51 ⟨true, 2, [.slice .nil 0 [], .slice .nil 0 []]⟩ := ⟨⟨_, Try.underlying51, rfl⟩, by kernel_rfl, ⟨.agg #[.slice none 0 0, .slice none 0 0], [.slice none 0 0, .slice none 0 0], by kernel_rfl, rfl, ⟨rfl, rfl, trivial⟩⟩⟩
instance : HasBy Try.prog 51 48 := ⟨by kernel_rfl⟩
instance : HasTy Try.prog 52 ⟨true, 2, [.slice .nil 0 [], .slice .nil 0 []]⟩ := ⟨⟨_, Try.underlying52, rfl⟩, by kernel_rfl, ⟨.agg #[.slice none 0 0, .slice none 0 0], [.slice none 0 0, .slice none 0 0], by kernel_rfl, rfl, ⟨rfl, rfl, trivial⟩⟩⟩
instance : HasBy Try.prog 52 48 := ⟨by kernel_rfl⟩
instance : HasTy Try.prog 53 ⟨false, 1, [.slice .nil 0 []]⟩ := ⟨⟨_, Try.underlying53, rfl⟩, by kernel_rfl, ⟨.slice none 0 0, [.slice none 0 0], by kernel_rfl, rfl, ⟨rfl, trivial⟩⟩⟩
instance : HasBy Try.prog 53 24 := ⟨by kernel_rfl⟩
instance : HasSl Try.prog 53 50 := ⟨Try.underlying53⟩
instance : HasTy Try.prog 71 ⟨true, 4, [.int .i64 0, .int .i64 0, .int .i64 0, .str ⟨#[]⟩]⟩ := ⟨⟨_, Try.underlying71, rfl⟩, by kernel_rfl, ⟨.agg #[.int .i64 0, .int .i64 0, .int .i64 0, .string ⟨#[]⟩], [.int .i64 0, .int .i64 0, .int .i64 0, .string ⟨#[]⟩], by kernel_rfl, rfl, ⟨rfl, rfl, rfl, rfl, trivial⟩⟩⟩
instance : HasBy Try.prog 71 40 := ⟨by kernel_rfl⟩
instance : HasTy Try.prog 72 ⟨true, 4, [.int .i64 0, .int .i64 0, .int .i64 0, .str ⟨#[]⟩]⟩ := ⟨⟨_, Try.underlying72, rfl⟩, by kernel_rfl, ⟨.agg #[.int .i64 0, .int .i64 0, .int .i64 0, .string ⟨#[]⟩], [.int .i64 0, .int .i64 0, .int .i64 0, .string ⟨#[]⟩], by kernel_rfl, rfl, ⟨rfl, rfl, rfl, rfl, trivial⟩⟩⟩
instance : HasBy Try.prog 72 40 := ⟨by kernel_rfl⟩
instance : HasTy Try.prog 77 ⟨false, 1, [.int .u64 0]⟩ := ⟨⟨_, Try.underlying77, rfl⟩, by kernel_rfl, ⟨.int .u64 0, [.int .u64 0], by kernel_rfl, rfl, ⟨rfl, trivial⟩⟩⟩
instance : HasBy Try.prog 77 8 := ⟨by kernel_rfl⟩
instance : HasInt Try.prog 77 .u64 := ⟨Try.underlying77⟩
theorem eqd77 : EqD Try.prog 1 77 false [.int .u64] := eqd_int Try.underlying77
instance : HasTy Try.prog 82 ⟨true, 0, []⟩ := ⟨⟨_, Try.underlying82, rfl⟩, by kernel_rfl, ⟨.agg #[], [], by kernel_rfl, rfl, trivial⟩⟩
instance : HasBy Try.prog 82 0 := ⟨by kernel_rfl⟩
instance : HasTy Try.prog 86 ⟨false, 1, [.int .u32 0]⟩ := ⟨⟨_, Try.underlying86, rfl⟩, by kernel_rfl, ⟨.int .u32 0, [.int .u32 0], by kernel_rfl, rfl, ⟨rfl, trivial⟩⟩⟩
instance : HasBy Try.prog 86 4 := ⟨by kernel_rfl⟩
instance : HasInt Try.prog 86 .u32 := ⟨Try.underlying86⟩
theorem eqd86 : EqD Try.prog 1 86 false [.int .u32] := eqd_int Try.underlying86
instance : HasTy Try.prog 90 ⟨false, 1, [.raw (.pointer none)]⟩ := ⟨⟨_, Try.underlying90, rfl⟩, by kernel_rfl, ⟨.pointer none, [.pointer none], by kernel_rfl, rfl, ⟨rfl, trivial⟩⟩⟩
instance : HasBy Try.prog 90 8 := ⟨by kernel_rfl⟩
instance : HasPtr Try.prog 90 5 := ⟨Try.underlying90⟩
instance : HasArr Try.prog 29 4 28 := ⟨Try.underlying29⟩
instance : HasPlaces Try.prog 29 [(0, 1), (1, 1), (2, 1), (3, 1)] := ⟨.inr ⟨_, _, _, Try.underlying29, (show _ = some 1 by kernel_rfl), rfl⟩⟩
instance : HasArr Try.prog 32 4 28 := ⟨Try.underlying32⟩
instance : HasPlaces Try.prog 32 [(0, 1), (1, 1), (2, 1), (3, 1)] := ⟨.inr ⟨_, _, _, Try.underlying32, (show _ = some 1 by kernel_rfl), rfl⟩⟩
instance : HasFld Try.prog 42 0 0 3 := ⟨⟨_, _, Try.underlying42, rfl, rfl, rfl⟩⟩
instance : HasFld Try.prog 42 1 1 41 := ⟨⟨_, _, Try.underlying42, rfl, rfl, rfl⟩⟩
instance : HasFld Try.prog 42 2 2 3 := ⟨⟨_, _, Try.underlying42, rfl, rfl, rfl⟩⟩
instance : HasPlaces Try.prog 42 [(0, 1), (1, 1), (2, 1)] := ⟨.inl ⟨_, Try.underlying42, fun w => by kernel_rfl⟩⟩
instance : HasFld Try.prog 43 0 0 3 := ⟨⟨_, _, Try.underlying43, rfl, rfl, rfl⟩⟩
instance : HasFld Try.prog 43 1 1 41 := ⟨⟨_, _, Try.underlying43, rfl, rfl, rfl⟩⟩
instance : HasFld Try.prog 43 2 2 3 := ⟨⟨_, _, Try.underlying43, rfl, rfl, rfl⟩⟩
instance : HasPlaces Try.prog 43 [(0, 1), (1, 1), (2, 1)] := ⟨.inl ⟨_, Try.underlying43, fun w => by kernel_rfl⟩⟩
instance : HasArr Try.prog 47 20 5 := ⟨Try.underlying47⟩
instance : HasPlaces Try.prog 47 [(0, 1), (1, 1), (2, 1), (3, 1), (4, 1), (5, 1), (6, 1), (7, 1), (8, 1), (9, 1), (10, 1), (11, 1), (12, 1), (13, 1), (14, 1), (15, 1), (16, 1), (17, 1), (18, 1), (19, 1)] := ⟨.inr ⟨_, _, _, Try.underlying47, (show _ = some 1 by kernel_rfl), rfl⟩⟩
instance : HasArr Try.prog 48 20 5 := ⟨Try.underlying48⟩
instance : HasPlaces Try.prog 48 [(0, 1), (1, 1), (2, 1), (3, 1), (4, 1), (5, 1), (6, 1), (7, 1), (8, 1), (9, 1), (10, 1), (11, 1), (12, 1), (13, 1), (14, 1), (15, 1), (16, 1), (17, 1), (18, 1), (19, 1)] := ⟨.inr ⟨_, _, _, Try.underlying48, (show _ = some 1 by kernel_rfl), rfl⟩⟩
instance : HasFld Try.prog 51 0 0 50 := ⟨⟨_, _, Try.underlying51, rfl, rfl, rfl⟩⟩
instance : HasFld Try.prog 51 1 1 50 := ⟨⟨_, _, Try.underlying51, rfl, rfl, rfl⟩⟩
instance : HasPlaces Try.prog 51 [(0, 1), (1, 1)] := ⟨.inl ⟨_, Try.underlying51, fun w => by kernel_rfl⟩⟩
instance : HasFld Try.prog 52 0 0 50 := ⟨⟨_, _, Try.underlying52, rfl, rfl, rfl⟩⟩
instance : HasFld Try.prog 52 1 1 50 := ⟨⟨_, _, Try.underlying52, rfl, rfl, rfl⟩⟩
instance : HasPlaces Try.prog 52 [(0, 1), (1, 1)] := ⟨.inl ⟨_, Try.underlying52, fun w => by kernel_rfl⟩⟩
instance : HasFld Try.prog 71 0 0 3 := ⟨⟨_, _, Try.underlying71, rfl, rfl, rfl⟩⟩
instance : HasFld Try.prog 71 1 1 3 := ⟨⟨_, _, Try.underlying71, rfl, rfl, rfl⟩⟩
instance : HasFld Try.prog 71 2 2 3 := ⟨⟨_, _, Try.underlying71, rfl, rfl, rfl⟩⟩
instance : HasFld Try.prog 71 3 3 9 := ⟨⟨_, _, Try.underlying71, rfl, rfl, rfl⟩⟩
instance : HasPlaces Try.prog 71 [(0, 1), (1, 1), (2, 1), (3, 1)] := ⟨.inl ⟨_, Try.underlying71, fun w => by kernel_rfl⟩⟩
instance : HasFld Try.prog 72 0 0 3 := ⟨⟨_, _, Try.underlying72, rfl, rfl, rfl⟩⟩
instance : HasFld Try.prog 72 1 1 3 := ⟨⟨_, _, Try.underlying72, rfl, rfl, rfl⟩⟩
instance : HasFld Try.prog 72 2 2 3 := ⟨⟨_, _, Try.underlying72, rfl, rfl, rfl⟩⟩
instance : HasFld Try.prog 72 3 3 9 := ⟨⟨_, _, Try.underlying72, rfl, rfl, rfl⟩⟩
instance : HasPlaces Try.prog 72 [(0, 1), (1, 1), (2, 1), (3, 1)] := ⟨.inl ⟨_, Try.underlying72, fun w => by kernel_rfl⟩⟩
instance : HasArr Try.prog 82 0 16 := ⟨Try.underlying82⟩
instance : HasPlaces Try.prog 82 [] := ⟨.inr ⟨_, _, _, Try.underlying82, (show _ = some 1 by kernel_rfl), rfl⟩⟩
theorem eqd29 : EqD Try.prog 2 29 true [.int .u64, .int .u64, .int .u64, .int .u64] := eqd_arr (ks := [.int .u64]) Try.underlying29 eqd28 rfl (fun _ => rfl)
instance : EqT Try.prog 29 true [.int .u64, .int .u64, .int .u64, .int .u64] := ⟨⟨_, by decide, eqd29⟩, by kernel_rfl⟩
theorem eqd32 : EqD Try.prog 2 32 true [.int .u64, .int .u64, .int .u64, .int .u64] := eqd_arr (ks := [.int .u64]) Try.underlying32 eqd28 rfl (fun _ => rfl)
instance : EqT Try.prog 32 true [.int .u64, .int .u64, .int .u64, .int .u64] := ⟨⟨_, by decide, eqd32⟩, by kernel_rfl⟩
theorem eqd47 : EqD Try.prog 2 47 true [.int .u8, .int .u8, .int .u8, .int .u8, .int .u8, .int .u8, .int .u8, .int .u8, .int .u8, .int .u8, .int .u8, .int .u8, .int .u8, .int .u8, .int .u8, .int .u8, .int .u8, .int .u8, .int .u8, .int .u8] := eqd_arr (ks := [.int .u8]) Try.underlying47 eqd5 rfl (fun _ => rfl)
instance : EqT Try.prog 47 true [.int .u8, .int .u8, .int .u8, .int .u8, .int .u8, .int .u8, .int .u8, .int .u8, .int .u8, .int .u8, .int .u8, .int .u8, .int .u8, .int .u8, .int .u8, .int .u8, .int .u8, .int .u8, .int .u8, .int .u8] := ⟨⟨_, by decide, eqd47⟩, by kernel_rfl⟩
theorem eqd48 : EqD Try.prog 2 48 true [.int .u8, .int .u8, .int .u8, .int .u8, .int .u8, .int .u8, .int .u8, .int .u8, .int .u8, .int .u8, .int .u8, .int .u8, .int .u8, .int .u8, .int .u8, .int .u8, .int .u8, .int .u8, .int .u8, .int .u8] := eqd_arr (ks := [.int .u8]) Try.underlying48 eqd5 rfl (fun _ => rfl)
instance : EqT Try.prog 48 true [.int .u8, .int .u8, .int .u8, .int .u8, .int .u8, .int .u8, .int .u8, .int .u8, .int .u8, .int .u8, .int .u8, .int .u8, .int .u8, .int .u8, .int .u8, .int .u8, .int .u8, .int .u8, .int .u8, .int .u8] := ⟨⟨_, by decide, eqd48⟩, by kernel_rfl⟩
theorem eqd71 : EqD Try.prog 2 71 true ([.int .i64] ++ ([.int .i64] ++ ([.int .i64] ++ ([.str] ++ [])))) := by
  refine eqd_struct Try.underlying71 (by kernel_rfl) ?_
  refine EqF.cons _ _ 3 _ _ _ _ rfl ?_ rfl inferInstance (fun dp hdp => eqd3 dp ?_) rfl ?_ ?_
  · decide
  · omega
  · exact fun _ => rfl
  refine EqF.cons _ _ 3 _ _ _ _ rfl ?_ rfl inferInstance (fun dp hdp => eqd3 dp ?_) rfl ?_ ?_
  · decide
  · omega
  · exact fun _ => rfl
  refine EqF.cons _ _ 3 _ _ _ _ rfl ?_ rfl inferInstance (fun dp hdp => eqd3 dp ?_) rfl ?_ ?_
  · decide
  · omega
  · exact fun _ => rfl
  refine EqF.cons _ _ 9 _ _ _ _ rfl ?_ rfl inferInstance (fun dp hdp => eqd9 dp ?_) rfl ?_ ?_
  · decide
  · omega
  · exact fun _ => rfl
  exact EqF.nil _
instance : EqT Try.prog 71 true [.int .i64, .int .i64, .int .i64, .str] := ⟨⟨_, by decide, eqd71⟩, by kernel_rfl⟩
theorem eqd72 : EqD Try.prog 2 72 true ([.int .i64] ++ ([.int .i64] ++ ([.int .i64] ++ ([.str] ++ [])))) := by
  refine eqd_struct Try.underlying72 (by kernel_rfl) ?_
  refine EqF.cons _ _ 3 _ _ _ _ rfl ?_ rfl inferInstance (fun dp hdp => eqd3 dp ?_) rfl ?_ ?_
  · decide
  · omega
  · exact fun _ => rfl
  refine EqF.cons _ _ 3 _ _ _ _ rfl ?_ rfl inferInstance (fun dp hdp => eqd3 dp ?_) rfl ?_ ?_
  · decide
  · omega
  · exact fun _ => rfl
  refine EqF.cons _ _ 3 _ _ _ _ rfl ?_ rfl inferInstance (fun dp hdp => eqd3 dp ?_) rfl ?_ ?_
  · decide
  · omega
  · exact fun _ => rfl
  refine EqF.cons _ _ 9 _ _ _ _ rfl ?_ rfl inferInstance (fun dp hdp => eqd9 dp ?_) rfl ?_ ?_
  · decide
  · omega
  · exact fun _ => rfl
  exact EqF.nil _
instance : EqT Try.prog 72 true [.int .i64, .int .i64, .int .i64, .str] := ⟨⟨_, by decide, eqd72⟩, by kernel_rfl⟩
instance : HasFn Try.prog 3 := ⟨⟨_, Try.func3, by kernel_rfl, by kernel_rfl⟩⟩
instance : HasFn Try.prog 4 := ⟨⟨_, Try.func4, by kernel_rfl, by kernel_rfl⟩⟩
instance : HasFn Try.prog 5 := ⟨⟨_, Try.func5, by kernel_rfl, by kernel_rfl⟩⟩
instance : HasFn Try.prog 6 := ⟨⟨_, Try.func6, by kernel_rfl, by kernel_rfl⟩⟩
instance : HasFn Try.prog 7 := ⟨⟨_, Try.func7, by kernel_rfl, by kernel_rfl⟩⟩
instance : HasFn Try.prog 8 := ⟨⟨_, Try.func8, by kernel_rfl, by kernel_rfl⟩⟩
instance : HasFn Try.prog 9 := ⟨⟨_, Try.func9, by kernel_rfl, by kernel_rfl⟩⟩
instance : HasFn Try.prog 10 := ⟨⟨_, Try.func10, by kernel_rfl, by kernel_rfl⟩⟩
instance : HasFn Try.prog 11 := ⟨⟨_, Try.func11, by kernel_rfl, by kernel_rfl⟩⟩
instance : HasFn Try.prog 12 := ⟨⟨_, Try.func12, by kernel_rfl, by kernel_rfl⟩⟩
instance : HasFn Try.prog 13 := ⟨⟨_, Try.func13, by kernel_rfl, by kernel_rfl⟩⟩
instance : HasFn Try.prog 14 := ⟨⟨_, Try.func14, by kernel_rfl, by kernel_rfl⟩⟩
instance : HasFn Try.prog 15 := ⟨⟨_, Try.func15, by kernel_rfl, by kernel_rfl⟩⟩
instance : HasFn Try.prog 16 := ⟨⟨_, Try.func16, by kernel_rfl, by kernel_rfl⟩⟩
instance : HasFn Try.prog 17 := ⟨⟨_, Try.func17, by kernel_rfl, by kernel_rfl⟩⟩
instance : HasFn Try.prog 18 := ⟨⟨_, Try.func18, by kernel_rfl, by kernel_rfl⟩⟩
instance : HasFn Try.prog 19 := ⟨⟨_, Try.func19, by kernel_rfl, by kernel_rfl⟩⟩
instance : HasFn Try.prog 20 := ⟨⟨_, Try.func20, by kernel_rfl, by kernel_rfl⟩⟩
instance : HasFn Try.prog 21 := ⟨⟨_, Try.func21, by kernel_rfl, by kernel_rfl⟩⟩
instance : HasFn Try.prog 22 := ⟨⟨_, Try.func22, by kernel_rfl, by kernel_rfl⟩⟩
instance : HasFn Try.prog 23 := ⟨⟨_, Try.func23, by kernel_rfl, by kernel_rfl⟩⟩
instance : HasFn Try.prog 24 := ⟨⟨_, Try.func24, by kernel_rfl, by kernel_rfl⟩⟩
instance : HasFn Try.prog 25 := ⟨⟨_, Try.func25, by kernel_rfl, by kernel_rfl⟩⟩
instance : HasFn Try.prog 26 := ⟨⟨_, Try.func26, by kernel_rfl, by kernel_rfl⟩⟩
instance : HasFn Try.prog 27 := ⟨⟨_, Try.func27, by kernel_rfl, by kernel_rfl⟩⟩
instance : HasFn Try.prog 28 := ⟨⟨_, Try.func28, by kernel_rfl, by kernel_rfl⟩⟩
instance : HasFn Try.prog 29 := ⟨⟨_, Try.func29, by kernel_rfl, by kernel_rfl⟩⟩
instance : HasFn Try.prog 30 := ⟨⟨_, Try.func30, by kernel_rfl, by kernel_rfl⟩⟩
instance : HasFn Try.prog 31 := ⟨⟨_, Try.func31, by kernel_rfl, by kernel_rfl⟩⟩

end Go.Proofs.Ytokijcdanegooaa
