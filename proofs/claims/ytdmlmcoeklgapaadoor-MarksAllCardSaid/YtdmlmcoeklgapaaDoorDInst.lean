/- The rows of this program's types and functions, as instances. No conditions. -/
import Derived.Test.YtdmlmcoeklgapaaDoorDOp2
import Derived.Test.YtdmlmcoeklgapaaDoorDK2
namespace Go.Proofs.YtdmlmcoeklgapaaDoor
open Go.RowKit
set_option linter.unusedVariables false
set_option maxRecDepth 100000
theorem mixed : Tryd.prog.follows .mixedOrders = true := by kernel_rfl
instance : HasTy Tryd.prog 2 ⟨false, 1, [.int .i64 0]⟩ := ⟨⟨_, Tryd.underlying2, rfl⟩, by kernel_rfl, ⟨.int .i64 0, [.int .i64 0], by kernel_rfl, rfl, ⟨rfl, trivial⟩⟩⟩
instance : HasBy Tryd.prog 2 8 := ⟨by kernel_rfl⟩
instance : HasInt Tryd.prog 2 .i64 := ⟨Tryd.underlying2⟩
theorem eqd2 : EqD Tryd.prog 1 2 false [.int .i64] := eqd_int Tryd.underlying2
instance : HasTy Tryd.prog 3 ⟨false, 1, [.int .i64 0]⟩ := ⟨⟨_, Tryd.underlying3, rfl⟩, by kernel_rfl, ⟨.int .i64 0, [.int .i64 0], by kernel_rfl, rfl, ⟨rfl, trivial⟩⟩⟩
instance : HasBy Tryd.prog 3 8 := ⟨by kernel_rfl⟩
instance : HasInt Tryd.prog 3 .i64 := ⟨Tryd.underlying3⟩
theorem eqd3 : EqD Tryd.prog 1 3 false [.int .i64] := eqd_int Tryd.underlying3
instance : HasTy Tryd.prog 4 ⟨false, 1, [.bool false]⟩ := ⟨⟨_, Tryd.underlying4, rfl⟩, by kernel_rfl, ⟨.bool false, [.bool false], by kernel_rfl, rfl, ⟨rfl, trivial⟩⟩⟩
instance : HasBy Tryd.prog 4 1 := ⟨by kernel_rfl⟩
theorem eqd4 : EqD Tryd.prog 1 4 false [.bool] := eqd_bool Tryd.underlying4
instance : HasTy Tryd.prog 5 ⟨false, 1, [.int .u8 0]⟩ := ⟨⟨_, Tryd.underlying5, rfl⟩, by kernel_rfl, ⟨.int .u8 0, [.int .u8 0], by kernel_rfl, rfl, ⟨rfl, trivial⟩⟩⟩
instance : HasBy Tryd.prog 5 1 := ⟨by kernel_rfl⟩
instance : HasInt Tryd.prog 5 .u8 := ⟨Tryd.underlying5⟩
theorem eqd5 : EqD Tryd.prog 1 5 false [.int .u8] := eqd_int Tryd.underlying5
instance : HasTy Tryd.prog 9 ⟨false, 1, [.str ⟨#[]⟩]⟩ := ⟨⟨_, Tryd.underlying9, rfl⟩, by kernel_rfl, ⟨.string ⟨#[]⟩, [.string ⟨#[]⟩], by kernel_rfl, rfl, ⟨rfl, trivial⟩⟩⟩
instance : HasBy Tryd.prog 9 16 := ⟨by kernel_rfl⟩
theorem eqd9 : EqD Tryd.prog 1 9 false [.str] := eqd_str Tryd.underlying9
instance : HasTy Tryd.prog 12 ⟨false, 1, [.int .u64 0]⟩ := ⟨⟨_, Tryd.underlying12, rfl⟩, by kernel_rfl, ⟨.int .u64 0, [.int .u64 0], by kernel_rfl, rfl, ⟨rfl, trivial⟩⟩⟩
instance : HasBy Tryd.prog 12 8 := ⟨by kernel_rfl⟩
instance : HasInt Tryd.prog 12 .u64 := ⟨Tryd.underlying12⟩
theorem eqd12 : EqD Tryd.prog 1 12 false [.int .u64] := eqd_int Tryd.underlying12
instance : HasTy Tryd.prog 15 ⟨false, 1, [.raw (.pointer none)]⟩ := ⟨⟨_, Tryd.underlying15, rfl⟩, by kernel_rfl, ⟨.pointer none, [.pointer none], by kernel_rfl, rfl, ⟨rfl, trivial⟩⟩⟩
instance : HasBy Tryd.prog 15 8 := ⟨by kernel_rfl⟩
instance : HasPtr Tryd.prog 15 40 := ⟨Tryd.underlying15⟩
instance : HasTy Tryd.prog 16 ⟨false, 1, [.raw (.pointer none)]⟩ := ⟨⟨_, Tryd.underlying16, rfl⟩, by kernel_rfl, ⟨.pointer none, [.pointer none], by kernel_rfl, rfl, ⟨rfl, trivial⟩⟩⟩
instance : HasBy Tryd.prog 16 8 := ⟨by kernel_rfl⟩
instance : HasPtr Tryd.prog 16 43 := ⟨Tryd.underlying16⟩
instance : HasTy Tryd.prog 17 ⟨false, 1, [.raw (.pointer none)]⟩ := ⟨⟨_, Tryd.underlying17, rfl⟩, by kernel_rfl, ⟨.pointer none, [.pointer none], by kernel_rfl, rfl, ⟨rfl, trivial⟩⟩⟩
instance : HasBy Tryd.prog 17 8 := ⟨by kernel_rfl⟩
instance : HasPtr Tryd.prog 17 53 := ⟨Tryd.underlying17⟩
instance : HasTy Tryd.prog 21 ⟨false, 1, [.int .i32 0]⟩ := ⟨⟨_, Tryd.underlying21, rfl⟩, by kernel_rfl, ⟨.int .i32 0, [.int .i32 0], by kernel_rfl, rfl, ⟨rfl, trivial⟩⟩⟩
instance : HasBy Tryd.prog 21 4 := ⟨by kernel_rfl⟩
instance : HasInt Tryd.prog 21 .i32 := ⟨Tryd.underlying21⟩
theorem eqd21 : EqD Tryd.prog 1 21 false [.int .i32] := eqd_int Tryd.underlying21
instance : HasTy Tryd.prog 22 ⟨false, 1, [.int .u64 0]⟩ := ⟨⟨_, Tryd.underlying22, rfl⟩, by kernel_rfl, ⟨.int .u64 0, [.int .u64 0], by kernel_rfl, rfl, ⟨rfl, trivial⟩⟩⟩
instance : HasBy Tryd.prog 22 8 := ⟨by kernel_rfl⟩
instance : HasInt Tryd.prog 22 .u64 := ⟨Tryd.underlying22⟩
theorem eqd22 : EqD Tryd.prog 1 22 false [.int .u64] := eqd_int Tryd.underlying22
instance : HasTy Tryd.prog 23 ⟨true, 4, [.int .u64 0, .int .u64 0, .int .u64 0, .int .u64 0]⟩ := ⟨⟨_, Tryd.underlying23, rfl⟩, by kernel_rfl, ⟨.agg #[.int .u64 0, .int .u64 0, .int .u64 0, .int .u64 0], [.int .u64 0, .int .u64 0, .int .u64 0, .int .u64 0], by kernel_rfl, rfl, ⟨rfl, rfl, rfl, rfl, trivial⟩⟩⟩
instance : HasBy Tryd.prog 23 32 := ⟨by kernel_rfl⟩
instance : HasTy Tryd.prog 24 ⟨false, 1, [.slice .nil 0 []]⟩ := ⟨⟨_, Tryd.underlying24, rfl⟩, by kernel_rfl, ⟨.slice none 0 0, [.slice none 0 0], by kernel_rfl, rfl, ⟨rfl, trivial⟩⟩⟩
instance : HasBy Tryd.prog 24 24 := ⟨by kernel_rfl⟩
instance : HasSl Tryd.prog 24 3 := ⟨Tryd.underlying24⟩
instance : HasTy Tryd.prog 26 ⟨false, 1, [.int .i64 0]⟩ := ⟨⟨_, Tryd.underlying26, rfl⟩, by kernel_rfl, ⟨.int .i64 0, [.int .i64 0], by kernel_rfl, rfl, ⟨rfl, trivial⟩⟩⟩
instance : HasBy Tryd.prog 26 8 := ⟨by kernel_rfl⟩
instance : HasInt Tryd.prog 26 .i64 := ⟨Tryd.underlying26⟩
theorem eqd26 : EqD Tryd.prog 1 26 false [.int .i64] := eqd_int Tryd.underlying26
instance : HasTy Tryd.prog 29 ⟨true, 4, [.int .u64 0, .int .u64 0, .int .u64 0, .int .u64 0]⟩ := ⟨⟨_, Tryd.underlying29, rfl⟩, by kernel_rfl, ⟨.agg #[.int .u64 0, .int .u64 0, .int .u64 0, .int .u64 0], [.int .u64 0, .int .u64 0, .int .u64 0, .int .u64 0], by kernel_rfl, rfl, ⟨rfl, rfl, rfl, rfl, trivial⟩⟩⟩
instance : HasBy Tryd.prog 29 32 := ⟨by kernel_rfl⟩
instance : HasTy Tryd.prog 36 ⟨true, 64, [.int .u8 0, .int .u8 0, .int .u8 0, .int .u8 0, .int .u8 0, .int .u8 0, .int .u8 0, .int .u8 0, .int .u8 0, .int .u8 0, .int .u8 0, .int .u8 0, .int .u8 0, .int .u8 0, .int .u8 0, .int .u8 0, .int .u8 0, .int .u8 0, .int .u8 0, .int .u8 0, .int .u8 0, .int .u8 0, .int .u8 0, .int .u8 0, .int .u8 0, .int .u8 0, .int .u8 0, .int .u8 0, .int .u8 0, .int .u8 0, .int .u8 0, .int .u8 0, .int .u8 0, .int .u8 0, .int .u8 0, .int .u8 0, .int .u8 0, .int .u8 0, .int .u8 0, .int .u8 0, .int .u8 0, .int .u8 0, .int .u8 0, .int .u8 0, .int .u8 0, .int .u8 0, .int .u8 0, .int .u8 0, .int .u8 0, .int .u8 0, .int .u8 0, .int .u8 0, .int .u8 0, .int .u8 0, .int .u8 0, .int .u8 0, .int .u8 0, .int .u8 0, .int .u8 0, .int .u8 0, .int .u8 0, .int .u8 0, .int .u8 0, .int .u8 0]⟩ := ⟨⟨_, Tryd.underlying36, rfl⟩, by kernel_rfl, ⟨.agg #[.int .u8 0, .int .u8 0, .int .u8 0, .int .u8 0, .int .u8 0, .int .u8 0, .int .u8 0, .int .u8 0, .int .u8 0, .int .u8 0, .int .u8 0, .int .u8 0, .int .u8 0, .int .u8 0, .int .u8 0, .int .u8 0, .int .u8 0, .int .u8 0, .int .u8 0, .int .u8 0, .int .u8 0, .int .u8 0, .int .u8 0, .int .u8 0, .int .u8 0, .int .u8 0, .int .u8 0, .int .u8 0, .int .u8 0, .int .u8 0, .int .u8 0, .int .u8 0, .int .u8 0, .int .u8 0, .int .u8 0, .int .u8 0, .int .u8 0, .int .u8 0, .int .u8 0, .int .u8 0, .int .u8 0, .int .u8 0, .int .u8 0, .int .u8 0, .int .u8 0, .int .u8 0, .int .u8 0, .int .u8 0, .int .u8 0, .int .u8 0, .int .u8 0, .int .u8 0, .int .u8 0, .int .u8 0, .int .u8 0, .int .u8 0, .int .u8 0, .int .u8 0, .int .u8 0, .int .u8 0, .int .u8 0, .int .u8 0, .int .u8 0, .int .u8 0], [.int .u8 0, .int .u8 0, .int .u8 0, .int .u8 0, .int .u8 0, .int .u8 0, .int .u8 0, .int .u8 0, .int .u8 0, .int .u8 0, .int .u8 0, .int .u8 0, .int .u8 0, .int .u8 0, .int .u8 0, .int .u8 0, .int .u8 0, .int .u8 0, .int .u8 0, .int .u8 0, .int .u8 0, .int .u8 0, .int .u8 0, .int .u8 0, .int .u8 0, .int .u8 0, .int .u8 0, .int .u8 0, .int .u8 0, .int .u8 0, .int .u8 0, .int .u8 0, .int .u8 0, .int .u8 0, .int .u8 0, .int .u8 0, .int .u8 0, .int .u8 0, .int .u8 0, .int .u8 0, .int .u8 0, .int .u8 0, .int .u8 0, .int .u8 0, .int .u8 0, .int .u8 0, .int .u8 0, .int .u8 0, .int .u8 0, .int .u8 0, .int .u8 0, .int .u8 0, .int .u8 0, .int .u8 0, .int .u8 0, .int .u8 0, .int .u8 0, .int .u8 0, .int .u8 0, .int .u8 0, .int .u8 0, .int .u8 0, .int .u8 0, .int .u8 0], by kernel_rfl, rfl, ⟨rfl, rfl, rfl, rfl, rfl, rfl, rfl, rfl, rfl, rfl, rfl, rfl, rfl, rfl, rfl, rfl, rfl, rfl, rfl, rfl, rfl, rfl, rfl, rfl, rfl, rfl, rfl, rfl, rfl, rfl, rfl, rfl, rfl, rfl, rfl, rfl, rfl, rfl, rfl, rfl, rfl, rfl, rfl, rfl, rfl, rfl, rfl, rfl, rfl, rfl, rfl, rfl, rfl, rfl, rfl, rfl, rfl, rfl, rfl, rfl, rfl, rfl, rfl, rfl, trivial⟩⟩⟩
instance : HasBy Tryd.prog 36 64 := ⟨by kernel_rfl⟩
instance : HasTy Tryd.prog 37 ⟨false, 1, [.int .u64 0]⟩ := ⟨⟨_, Tryd.underlying37, rfl⟩, by kernel_rfl, ⟨.int .u64 0, [.int .u64 0], by kernel_rfl, rfl, ⟨rfl, trivial⟩⟩⟩
instance : HasBy Tryd.prog 37 8 := ⟨by kernel_rfl⟩
instance : HasInt Tryd.prog 37 .u64 := ⟨Tryd.underlying37⟩
theorem eqd37 : EqD Tryd.prog 1 37 false [.int .u64] := eqd_int Tryd.underlying37
instance : HasTy Tryd.prog 41 ⟨true, 0, []⟩ := ⟨⟨_, Tryd.underlying41, rfl⟩, by kernel_rfl, ⟨.agg #[], [], by kernel_rfl, rfl, trivial⟩⟩
instance : HasBy Tryd.prog 41 0 := ⟨by kernel_rfl⟩
instance : HasTy Tryd.prog 45 ⟨false, 1, [.int .u32 0]⟩ := ⟨⟨_, Tryd.underlying45, rfl⟩, by kernel_rfl, ⟨.int .u32 0, [.int .u32 0], by kernel_rfl, rfl, ⟨rfl, trivial⟩⟩⟩
instance : HasBy Tryd.prog 45 4 := ⟨by kernel_rfl⟩
instance : HasInt Tryd.prog 45 .u32 := ⟨Tryd.underlying45⟩
theorem eqd45 : EqD Tryd.prog 1 45 false [.int .u32] := eqd_int Tryd.underlying45
instance : HasTy Tryd.prog 49 ⟨false, 1, [.raw (.pointer none)]⟩ := ⟨⟨_, Tryd.underlying49, rfl⟩, by kernel_rfl, ⟨.pointer none, [.pointer none], by kernel_rfl, rfl, ⟨rfl, trivial⟩⟩⟩
instance : HasBy Tryd.prog 49 8 := ⟨by kernel_rfl⟩
instance : HasPtr Tryd.prog 49 5 := ⟨Tryd.underlying49⟩
instance : HasArr Tryd.prog 23 4 22 := ⟨Tryd.underlying23⟩
instance : HasPlaces Tryd.prog 23 [(0, 1), (1, 1), (2, 1), (3, 1)] := ⟨.inr ⟨_, _, _, Tryd.underlying23, (show _ = some 1 by kernel_rfl), rfl⟩⟩
instance : HasArr Tryd.prog 29 4 22 := ⟨Tryd.underlying29⟩
instance : HasPlaces Tryd.prog 29 [(0, 1), (1, 1), (2, 1), (3, 1)] := ⟨.inr ⟨_, _, _, Tryd.underlying29, (show _ = some 1 by kernel_rfl), rfl⟩⟩
instance : HasArr Tryd.prog 36 64 5 := ⟨Tryd.underlying36⟩
instance : HasPlaces Tryd.prog 36 [(0, 1), (1, 1), (2, 1), (3, 1), (4, 1), (5, 1), (6, 1), (7, 1), (8, 1), (9, 1), (10, 1), (11, 1), (12, 1), (13, 1), (14, 1), (15, 1), (16, 1), (17, 1), (18, 1), (19, 1), (20, 1), (21, 1), (22, 1), (23, 1), (24, 1), (25, 1), (26, 1), (27, 1), (28, 1), (29, 1), (30, 1), (31, 1), (32, 1), (33, 1), (34, 1), (35, 1), (36, 1), (37, 1), (38, 1), (39, 1), (40, 1), (41, 1), (42, 1), (43, 1), (44, 1), (45, 1), (46, 1), (47, 1), (48, 1), (49, 1), (50, 1), (51, 1), (52, 1), (53, 1), (54, 1), (55, 1), (56, 1), (57, 1), (58, 1), (59, 1), (60, 1), (61, 1), (62, 1), (63, 1)] := ⟨.inr ⟨_, _, _, Tryd.underlying36, (show _ = some 1 by kernel_rfl), rfl⟩⟩
instance : HasArr Tryd.prog 41 0 16 := ⟨Tryd.underlying41⟩
instance : HasPlaces Tryd.prog 41 [] := ⟨.inr ⟨_, _, _, Tryd.underlying41, (show _ = some 1 by kernel_rfl), rfl⟩⟩
theorem eqd23 : EqD Tryd.prog 2 23 true [.int .u64, .int .u64, .int .u64, .int .u64] := eqd_arr (ks := [.int .u64]) Tryd.underlying23 eqd22 rfl (fun _ => rfl)
instance : EqT Tryd.prog 23 true [.int .u64, .int .u64, .int .u64, .int .u64] := ⟨⟨_, by decide, eqd23⟩, by kernel_rfl⟩
theorem eqd29 : EqD Tryd.prog 2 29 true [.int .u64, .int .u64, .int .u64, .int .u64] := eqd_arr (ks := [.int .u64]) Tryd.underlying29 eqd22 rfl (fun _ => rfl)
instance : EqT Tryd.prog 29 true [.int .u64, .int .u64, .int .u64, .int .u64] := ⟨⟨_, by decide, eqd29⟩, by kernel_rfl⟩
theorem eqd36 : EqD Tryd.prog 2 36 true [.int .u8, .int .u8, .int .u8, .int .u8, .int .u8, .int .u8, .int .u8, .int .u8, .int .u8, .int .u8, .int .u8, .int .u8, .int .u8, .int .u8, .int .u8, .int .u8, .int .u8, .int .u8, .int .u8, .int .u8, .int .u8, .int .u8, .int .u8, .int .u8, .int .u8, .int .u8, .int .u8, .int .u8, .int .u8, .int .u8, .int .u8, .int .u8, .int .u8, .int .u8, .int .u8, .int .u8, .int .u8, .int .u8, .int .u8, .int .u8, .int .u8, .int .u8, .int .u8, .int .u8, .int .u8, .int .u8, .int .u8, .int .u8, .int .u8, .int .u8, .int .u8, .int .u8, .int .u8, .int .u8, .int .u8, .int .u8, .int .u8, .int .u8, .int .u8, .int .u8, .int .u8, .int .u8, .int .u8, .int .u8] := eqd_arr (ks := [.int .u8]) Tryd.underlying36 eqd5 rfl (fun _ => rfl)
instance : EqT Tryd.prog 36 true [.int .u8, .int .u8, .int .u8, .int .u8, .int .u8, .int .u8, .int .u8, .int .u8, .int .u8, .int .u8, .int .u8, .int .u8, .int .u8, .int .u8, .int .u8, .int .u8, .int .u8, .int .u8, .int .u8, .int .u8, .int .u8, .int .u8, .int .u8, .int .u8, .int .u8, .int .u8, .int .u8, .int .u8, .int .u8, .int .u8, .int .u8, .int .u8, .int .u8, .int .u8, .int .u8, .int .u8, .int .u8, .int .u8, .int .u8, .int .u8, .int .u8, .int .u8, .int .u8, .int .u8, .int .u8, .int .u8, .int .u8, .int .u8, .int .u8, .int .u8, .int .u8, .int .u8, .int .u8, .int .u8, .int .u8, .int .u8, .int .u8, .int .u8, .int .u8, .int .u8, .int .u8, .int .u8, .int .u8, .int .u8] := ⟨⟨_, by decide, eqd36⟩, by kernel_rfl⟩
instance : HasFn Tryd.prog 3 := ⟨⟨_, Tryd.func3, by kernel_rfl, by kernel_rfl⟩⟩
instance : HasFn Tryd.prog 4 := ⟨⟨_, Tryd.func4, by kernel_rfl, by kernel_rfl⟩⟩
instance : HasFn Tryd.prog 5 := ⟨⟨_, Tryd.func5, by kernel_rfl, by kernel_rfl⟩⟩
instance : HasFn Tryd.prog 6 := ⟨⟨_, Tryd.func6, by kernel_rfl, by kernel_rfl⟩⟩
instance : HasFn Tryd.prog 7 := ⟨⟨_, Tryd.func7, by kernel_rfl, by kernel_rfl⟩⟩
instance : HasFn Tryd.prog 8 := ⟨⟨_, Tryd.func8, by kernel_rfl, by kernel_rfl⟩⟩

end Go.Proofs.YtdmlmcoeklgapaaDoor
