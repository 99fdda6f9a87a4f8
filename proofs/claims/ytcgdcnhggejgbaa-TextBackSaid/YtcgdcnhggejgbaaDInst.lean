/- The rows of this program's types and functions, as instances. No conditions. -/
import Derived.Test.YtcgdcnhggejgbaaDOp2
import Derived.Test.YtcgdcnhggejgbaaDK2
namespace Go.Proofs.Ytcgdcnhggejgbaa
open Go.RowKit
set_option linter.unusedVariables false
set_option maxRecDepth 100000
theorem mixed : Try.prog.follows .mixedOrders = true := by kernel_rfl
instance : HasTy Try.prog 2 ⟨false, 1, [.int .i64 0]⟩ := ⟨⟨_, Try.underlying2, rfl⟩, by kernel_rfl, ⟨.int .i64 0, [.int .i64 0], by kernel_rfl, rfl, ⟨rfl, trivial⟩⟩⟩
instance : HasBy Try.prog 2 8 := ⟨by kernel_rfl⟩
instance : HasInt Try.prog 2 .i64 := ⟨Try.underlying2⟩
theorem eqd2 : EqD Try.prog 1 2 false [.int .i64] := eqd_int Try.underlying2
instance : HasTy Try.prog 3 ⟨false, 1, [.int .i64 0]⟩ := ⟨⟨_, Try.underlying3, rfl⟩, by kernel_rfl, ⟨.int .i64 0, [.int .i64 0], by kernel_rfl, rfl, ⟨rfl, trivial⟩⟩⟩
instance : HasBy Try.prog 3 8 := ⟨by kernel_rfl⟩
instance : HasInt Try.prog 3 .i64 := ⟨Try.underlying3⟩
theorem eqd3 : EqD Try.prog 1 3 false [.int .i64] := eqd_int Try.underlying3
instance : HasTy Try.prog 4 ⟨false, 1, [.bool false]⟩ := ⟨⟨_, Try.underlying4, rfl⟩, by kernel_rfl, ⟨.bool false, [.bool false], by kernel_rfl, rfl, ⟨rfl, trivial⟩⟩⟩
instance : HasBy Try.prog 4 1 := ⟨by kernel_rfl⟩
theorem eqd4 : EqD Try.prog 1 4 false [.bool] := eqd_bool Try.underlying4
instance : HasTy Try.prog 5 ⟨false, 1, [.int .u8 0]⟩ := ⟨⟨_, Try.underlying5, rfl⟩, by kernel_rfl, ⟨.int .u8 0, [.int .u8 0], by kernel_rfl, rfl, ⟨rfl, trivial⟩⟩⟩
instance : HasBy Try.prog 5 1 := ⟨by kernel_rfl⟩
instance : HasInt Try.prog 5 .u8 := ⟨Try.underlying5⟩
theorem eqd5 : EqD Try.prog 1 5 false [.int .u8] := eqd_int Try.underlying5
instance : HasTy Try.prog 9 ⟨false, 1, [.str ⟨#[]⟩]⟩ := ⟨⟨_, Try.underlying9, rfl⟩, by kernel_rfl, ⟨.string ⟨#[]⟩, [.string ⟨#[]⟩], by kernel_rfl, rfl, ⟨rfl, trivial⟩⟩⟩
instance : HasBy Try.prog 9 16 := ⟨by kernel_rfl⟩
theorem eqd9 : EqD Try.prog 1 9 false [.str] := eqd_str Try.underlying9
instance : HasTy Try.prog 12 ⟨false, 1, [.int .u64 0]⟩ := ⟨⟨_, Try.underlying12, rfl⟩, by kernel_rfl, ⟨.int .u64 0, [.int .u64 0], by kernel_rfl, rfl, ⟨rfl, trivial⟩⟩⟩
instance : HasBy Try.prog 12 8 := ⟨by kernel_rfl⟩
instance : HasInt Try.prog 12 .u64 := ⟨Try.underlying12⟩
theorem eqd12 : EqD Try.prog 1 12 false [.int .u64] := eqd_int Try.underlying12
instance : HasTy Try.prog 15 ⟨false, 1, [.raw (.pointer none)]⟩ := ⟨⟨_, Try.underlying15, rfl⟩, by kernel_rfl, ⟨.pointer none, [.pointer none], by kernel_rfl, rfl, ⟨rfl, trivial⟩⟩⟩
instance : HasBy Try.prog 15 8 := ⟨by kernel_rfl⟩
instance : HasPtr Try.prog 15 69 := ⟨Try.underlying15⟩
instance : HasTy Try.prog 16 ⟨false, 1, [.raw (.pointer none)]⟩ := ⟨⟨_, Try.underlying16, rfl⟩, by kernel_rfl, ⟨.pointer none, [.pointer none], by kernel_rfl, rfl, ⟨rfl, trivial⟩⟩⟩
instance : HasBy Try.prog 16 8 := ⟨by kernel_rfl⟩
instance : HasPtr Try.prog 16 72 := ⟨Try.underlying16⟩
instance : HasTy Try.prog 17 ⟨false, 1, [.raw (.pointer none)]⟩ := ⟨⟨_, Try.underlying17, rfl⟩, by kernel_rfl, ⟨.pointer none, [.pointer none], by kernel_rfl, rfl, ⟨rfl, trivial⟩⟩⟩
instance : HasBy Try.prog 17 8 := ⟨by kernel_rfl⟩
instance : HasPtr Try.prog 17 82 := ⟨Try.underlying17⟩
instance : HasTy Try.prog 21 ⟨false, 1, [.int .i32 0]⟩ := ⟨⟨_, Try.underlying21, rfl⟩, by kernel_rfl, ⟨.int .i32 0, [.int .i32 0], by kernel_rfl, rfl, ⟨rfl, trivial⟩⟩⟩
instance : HasBy Try.prog 21 4 := ⟨by kernel_rfl⟩
instance : HasInt Try.prog 21 .i32 := ⟨Try.underlying21⟩
theorem eqd21 : EqD Try.prog 1 21 false [.int .i32] := eqd_int Try.underlying21
instance : HasTy Try.prog 22 ⟨true, 4, [.int .i64 0, .int .i64 0, .int .i64 0, .str ⟨#[]⟩]⟩ := ⟨⟨_, Try.underlying22, rfl⟩, by kernel_rfl, ⟨.agg #[.int .i64 0, .int .i64 0, .int .i64 0, .string ⟨#[]⟩], [.int .i64 0, .int .i64 0, .int .i64 0, .string ⟨#[]⟩], by kernel_rfl, rfl, ⟨rfl, rfl, rfl, rfl, trivial⟩⟩⟩
instance : HasBy Try.prog 22 40 := ⟨by kernel_rfl⟩
instance : HasTy Try.prog 23 ⟨true, 4, [.int .i64 0, .int .i64 0, .int .i64 0, .str ⟨#[]⟩]⟩ := ⟨⟨_, Try.underlying23, rfl⟩, by kernel_rfl, ⟨.agg #[.int .i64 0, .int .i64 0, .int .i64 0, .string ⟨#[]⟩], [.int .i64 0, .int .i64 0, .int .i64 0, .string ⟨#[]⟩], by kernel_rfl, rfl, ⟨rfl, rfl, rfl, rfl, trivial⟩⟩⟩
instance : HasBy Try.prog 23 40 := ⟨by kernel_rfl⟩
instance : HasTy Try.prog 24 ⟨false, 1, [.int .u64 0]⟩ := ⟨⟨_, Try.underlying24, rfl⟩, by kernel_rfl, ⟨.int .u64 0, [.int .u64 0], by kernel_rfl, rfl, ⟨rfl, trivial⟩⟩⟩
instance : HasBy Try.prog 24 8 := ⟨by kernel_rfl⟩
instance : HasInt Try.prog 24 .u64 := ⟨Try.underlying24⟩
theorem eqd24 : EqD Try.prog 1 24 false [.int .u64] := eqd_int Try.underlying24
instance : HasTy Try.prog 25 ⟨true, 4, [.int .u64 0, .int .u64 0, .int .u64 0, .int .u64 0]⟩ := ⟨⟨_, Try.underlying25, rfl⟩, by kernel_rfl, ⟨.agg #[.int .u64 0, .int .u64 0, .int .u64 0, .int .u64 0], [.int .u64 0, .int .u64 0, .int .u64 0, .int .u64 0], by kernel_rfl, rfl, ⟨rfl, rfl, rfl, rfl, trivial⟩⟩⟩
instance : HasBy Try.prog 25 32 := ⟨by kernel_rfl⟩
instance : HasTy Try.prog 26 ⟨true, 4, [.int .u64 0, .int .u64 0, .int .u64 0, .int .u64 0]⟩ := ⟨⟨_, Try.underlying26, rfl⟩, by kernel_rfl, ⟨.agg #[.int .u64 0, .int .u64 0, .int .u64 0, .int .u64 0], [.int .u64 0, .int .u64 0, .int .u64 0, .int .u64 0], by kernel_rfl, rfl, ⟨rfl, rfl, rfl, rfl, trivial⟩⟩⟩
instance : HasBy Try.prog 26 32 := ⟨by kernel_rfl⟩
instance : HasTy Try.prog 34 ⟨true, 32, [.int .u8 0, .int .u8 0, .int .u8 0, .int .u8 0, .int .u8 0, .int .u8 0, .int .u8 0, .int .u8 0, .int .u8 0, .int .u8 0, .int .u8 0, .int .u8 0, .int .u8 0, .int .u8 0, .int .u8 0, .int .u8 0, .int .u8 0, .int .u8 0, .int .u8 0, .int .u8 0, .int .u8 0, .int .u8 0, .int .u8 0, .int .u8 0, .int .u8 0, .int .u8 0, .int .u8 0, .int .u8 0, .int .u8 0, .int .u8 0, .int .u8 0, .int .u8 0]⟩ := ⟨⟨_, Try.underlying34, rfl⟩, by kernel_rfl, ⟨.agg #[.int .u8 0, .int .u8 0, .int .u8 0, .int .u8 0, .int .u8 0, .int .u8 0, .int .u8 0, .int .u8 0, .int .u8 0, .int .u8 0, .int .u8 0, .int .u8 0, .int .u8 0, .int .u8 0, .int .u8 0, .int .u8 0, .int .u8 0, .int .u8 0, .int .u8 0, .int .u8 0, .int .u8 0, .int .u8 0, .int .u8 0, .int .u8 0, .int .u8 0, .int .u8 0, .int .u8 0, .int .u8 0, .int .u8 0, .int .u8 0, .int .u8 0, .int .u8 0], [.int .u8 0, .int .u8 0, .int .u8 0, .int .u8 0, .int .u8 0, .int .u8 0, .int .u8 0, .int .u8 0, .int .u8 0, .int .u8 0, .int .u8 0, .int .u8 0, .int .u8 0, .int .u8 0, .int .u8 0, .int .u8 0, .int .u8 0, .int .u8 0, .int .u8 0, .int .u8 0, .int .u8 0, .int .u8 0, .int .u8 0, .int .u8 0, .int .u8 0, .int .u8 0, .int .u8 0, .int .u8 0, .int .u8 0, .int .u8 0, .int .u8 0, .int .u8 0], by kernel_rfl, rfl, ⟨rfl, rfl, rfl, rfl, rfl, rfl, rfl, rfl, rfl, rfl, rfl, rfl, rfl, rfl, rfl, rfl, rfl, rfl, rfl, rfl, rfl, rfl, rfl, rfl, rfl, rfl, rfl, rfl, rfl, rfl, rfl, rfl, trivial⟩⟩⟩
instance : HasBy Try.prog 34 32 := ⟨by kernel_rfl⟩
instance : HasTy Try.prog 37 ⟨false, 1, [.slice .nil 0 []]⟩ := ⟨⟨_, Try.underlying37, rfl⟩, by kernel_rfl, ⟨.slice none 0 0, [.slice none 0 0], by kernel_rfl, rfl, ⟨rfl, trivial⟩⟩⟩
instance : HasBy Try.prog 37 24 := ⟨by kernel_rfl⟩
instance : HasSl Try.prog 37 5 := ⟨Try.underlying37⟩
instance : HasTy Try.prog 42 ⟨false, 1, [.int .i64 0]⟩ := ⟨⟨_, Try.underlying42, rfl⟩, by kernel_rfl, ⟨.int .i64 0, [.int .i64 0], by kernel_rfl, rfl, ⟨rfl, trivial⟩⟩⟩
instance : HasBy Try.prog 42 8 := ⟨by kernel_rfl⟩
instance : HasInt Try.prog 42 .i64 := ⟨Try.underlying42⟩
theorem eqd42 : EqD Try.prog 1 42 false [.int .i64] := eqd_int Try.underlying42
instance : HasTy Try.prog 58 ⟨true, 8, [.int .u64 0, .int .u64 0, .int .u64 0, .int .u64 0, .int .u64 0, .int .u64 0, .int .u64 0, .int .u64 0]⟩ := ⟨⟨_, Try.underlying58, rfl⟩, by kernel_rfl, ⟨.agg #[.int .u64 0, .int .u64 0, .int .u64 0, .int .u64 0, .int .u64 0, .int .u64 0, .int .u64 0, .int .u64 0], [.int .u64 0, .int .u64 0, .int .u64 0, .int .u64 0, .int .u64 0, .int .u64 0, .int .u64 0, .int .u64 0], by kernel_rfl, rfl, ⟨rfl, rfl, rfl, rfl, rfl, rfl, rfl, rfl, trivial⟩⟩⟩
instance : HasBy Try.prog 58 64 := ⟨by kernel_rfl⟩
instance : HasTy Try.prog 62 ⟨false, 1, [.int .u64 0]⟩ := ⟨⟨_, Try.underlying62, rfl⟩, by kernel_rfl, ⟨.int .u64 0, [.int .u64 0], by kernel_rfl, rfl, ⟨rfl, trivial⟩⟩⟩
instance : HasBy Try.prog 62 8 := ⟨by kernel_rfl⟩
instance : HasInt Try.prog 62 .u64 := ⟨Try.underlying62⟩
theorem eqd62 : EqD Try.prog 1 62 false [.int .u64] := eqd_int Try.underlying62
instance : HasTy Try.prog 66 ⟨false, 1, [.raw (.pointer none)]⟩ := ⟨⟨_, Try.underlying66, rfl⟩, by kernel_rfl, ⟨.pointer none, [.pointer none], by kernel_rfl, rfl, ⟨rfl, trivial⟩⟩⟩
instance : HasBy Try.prog 66 8 := ⟨by kernel_rfl⟩
instance : HasPtr Try.prog 66 84 := ⟨Try.underlying66⟩
instance : HasTy Try.prog 70 ⟨true, 0, []⟩ := ⟨⟨_, Try.underlying70, rfl⟩, by kernel_rfl, ⟨.agg #[], [], by kernel_rfl, rfl, trivial⟩⟩
instance : HasBy Try.prog 70 0 := ⟨by kernel_rfl⟩
instance : HasTy Try.prog 74 ⟨false, 1, [.int .u32 0]⟩ := ⟨⟨_, Try.underlying74, rfl⟩, by kernel_rfl, ⟨.int .u32 0, [.int .u32 0], by kernel_rfl, rfl, ⟨rfl, trivial⟩⟩⟩
instance : HasBy Try.prog 74 4 := ⟨by kernel_rfl⟩
instance : HasInt Try.prog 74 .u32 := ⟨Try.underlying74⟩
theorem eqd74 : EqD Try.prog 1 74 false [.int .u32] := eqd_int Try.underlying74
instance : HasTy Try.prog 78 ⟨false, 1, [.raw (.pointer none)]⟩ := ⟨⟨_, Try.underlying78, rfl⟩, by kernel_rfl, ⟨.pointer none, [.pointer none], by kernel_rfl, rfl, ⟨rfl, trivial⟩⟩⟩
instance : HasBy Try.prog 78 8 := ⟨by kernel_rfl⟩
instance : HasPtr Try.prog 78 5 := ⟨Try.underlying78⟩
instance : HasTy Try.prog 83 ⟨true, 1, [.str ⟨#[]⟩]⟩ := ⟨⟨_, Try.underlying83, rfl⟩, by kernel_rfl, ⟨.agg #[.string ⟨#[]⟩], [.string ⟨#[]⟩], by kernel_rfl, rfl, ⟨rfl, trivial⟩⟩⟩
instance : HasBy Try.prog 83 16 := ⟨by kernel_rfl⟩
instance : HasTy Try.prog 84 ⟨true, 1, [.str ⟨#[]⟩]⟩ := ⟨⟨_, Try.underlying84, rfl⟩, by kernel_rfl, ⟨.agg #[.string ⟨#[]⟩], [.string ⟨#[]⟩], by kernel_rfl, rfl, ⟨rfl, trivial⟩⟩⟩
instance : HasBy Try.prog 84 16 := ⟨by kernel_rfl⟩
instance : HasFld Try.prog 22 0 0 3 := ⟨⟨_, _, Try.underlying22, rfl, rfl, rfl⟩⟩
instance : HasFld Try.prog 22 1 1 3 := ⟨⟨_, _, Try.underlying22, rfl, rfl, rfl⟩⟩
instance : HasFld Try.prog 22 2 2 3 := ⟨⟨_, _, Try.underlying22, rfl, rfl, rfl⟩⟩
instance : HasFld Try.prog 22 3 3 9 := ⟨⟨_, _, Try.underlying22, rfl, rfl, rfl⟩⟩
instance : HasPlaces Try.prog 22 [(0, 1), (1, 1), (2, 1), (3, 1)] := ⟨.inl ⟨_, Try.underlying22, fun w => by kernel_rfl⟩⟩
instance : HasFld Try.prog 23 0 0 3 := ⟨⟨_, _, Try.underlying23, rfl, rfl, rfl⟩⟩
instance : HasFld Try.prog 23 1 1 3 := ⟨⟨_, _, Try.underlying23, rfl, rfl, rfl⟩⟩
instance : HasFld Try.prog 23 2 2 3 := ⟨⟨_, _, Try.underlying23, rfl, rfl, rfl⟩⟩
instance : HasFld Try.prog 23 3 3 9 := ⟨⟨_, _, Try.underlying23, rfl, rfl, rfl⟩⟩
instance : HasPlaces Try.prog 23 [(0, 1), (1, 1), (2, 1), (3, 1)] := ⟨.inl ⟨_, Try.underlying23, fun w => by kernel_rfl⟩⟩
instance : HasArr Try.prog 25 4 24 := ⟨Try.underlying25⟩
instance : HasPlaces Try.prog 25 [(0, 1), (1, 1), (2, 1), (3, 1)] := ⟨.inr ⟨_, _, _, Try.underlying25, (show _ = some 1 by kernel_rfl), rfl⟩⟩
instance : HasArr Try.prog 26 4 24 := ⟨Try.underlying26⟩
instance : HasPlaces Try.prog 26 [(0, 1), (1, 1), (2, 1), (3, 1)] := ⟨.inr ⟨_, _, _, Try.underlying26, (show _ = some 1 by kernel_rfl), rfl⟩⟩
instance : HasArr Try.prog 34 32 5 := ⟨Try.underlying34⟩
instance : HasPlaces Try.prog 34 [(0, 1), (1, 1), (2, 1), (3, 1), (4, 1), (5, 1), (6, 1), (7, 1), (8, 1), (9, 1), (10, 1), (11, 1), (12, 1), (13, 1), (14, 1), (15, 1), (16, 1), (17, 1), (18, 1), (19, 1), (20, 1), (21, 1), (22, 1), (23, 1), (24, 1), (25, 1), (26, 1), (27, 1), (28, 1), (29, 1), (30, 1), (31, 1)] := ⟨.inr ⟨_, _, _, Try.underlying34, (show _ = some 1 by kernel_rfl), rfl⟩⟩
instance : HasArr Try.prog 58 8 24 := ⟨Try.underlying58⟩
instance : HasPlaces Try.prog 58 [(0, 1), (1, 1), (2, 1), (3, 1), (4, 1), (5, 1), (6, 1), (7, 1)] := ⟨.inr ⟨_, _, _, Try.underlying58, (show _ = some 1 by kernel_rfl), rfl⟩⟩
instance : HasArr Try.prog 70 0 16 := ⟨Try.underlying70⟩
instance : HasPlaces Try.prog 70 [] := ⟨.inr ⟨_, _, _, Try.underlying70, (show _ = some 1 by kernel_rfl), rfl⟩⟩
instance : HasFld Try.prog 83 0 0 9 := ⟨⟨_, _, Try.underlying83, rfl, rfl, rfl⟩⟩
instance : HasPlaces Try.prog 83 [(0, 1)] := ⟨.inl ⟨_, Try.underlying83, fun w => by kernel_rfl⟩⟩
instance : HasFld Try.prog 84 0 0 9 := ⟨⟨_, _, Try.underlying84, rfl, rfl, rfl⟩⟩
instance : HasPlaces Try.prog 84 [(0, 1)] := ⟨.inl ⟨_, Try.underlying84, fun w => by kernel_rfl⟩⟩
theorem eqd22 : EqD Try.prog 2 22 true ([.int .i64] ++ ([.int .i64] ++ ([.int .i64] ++ ([.str] ++ [])))) := by
  refine eqd_struct Try.underlying22 (by kernel_rfl) ?_
  refine EqF.cons _ _ 3 _ _ _ _ rfl ?_ rfl inferInstance (fun dp hdp => eqd3 dp ?_) rfl ?_ ?_
  · decide
  · omega
  · exact fun _ => rfl
  refine EqF.cons _ _ 3 _ _ _ _ rfl ?_ rfl inferInstance (fun dp hdp => eqd3 dp ?_) rfl ?_ ?_
  · decide
  · omega
  · exact fun _ => rfl
  refine EqF.cons _ _ 3 _ _ _ _ rfl ?_ rfl inferInstance (fun dp hdp => eqd3 dp ?_) rfl ?_ ?_
  · decide
  · omega
  · exact fun _ => rfl
  refine EqF.cons _ _ 9 _ _ _ _ rfl ?_ rfl inferInstance (fun dp hdp => eqd9 dp ?_) rfl ?_ ?_
  · decide
  · omega
  · exact fun _ => rfl
  exact EqF.nil _
instance : EqT Try.prog 22 true [.int .i64, .int .i64, .int .i64, .str] := ⟨⟨_, by decide, eqd22⟩, by kernel_rfl⟩
theorem eqd23 : EqD Try.prog 2 23 true ([.int .i64] ++ ([.int .i64] ++ ([.int .i64] ++ ([.str] ++ [])))) := by
  refine eqd_struct Try.underlying23 (by kernel_rfl) ?_
  refine EqF.cons _ _ 3 _ _ _ _ rfl ?_ rfl inferInstance (fun dp hdp => eqd3 dp ?_) rfl ?_ ?_
  · decide
  · omega
  · exact fun _ => rfl
  refine EqF.cons _ _ 3 _ _ _ _ rfl ?_ rfl inferInstance (fun dp hdp => eqd3 dp ?_) rfl ?_ ?_
  · decide
  · omega
  · exact fun _ => rfl
  refine EqF.cons _ _ 3 _ _ _ _ rfl ?_ rfl inferInstance (fun dp hdp => eqd3 dp ?_) rfl ?_ ?_
  · decide
  · omega
  · exact fun _ => rfl
  refine EqF.cons _ _ 9 _ _ _ _ rfl ?_ rfl inferInstance (fun dp hdp => eqd9 dp ?_) rfl ?_ ?_
  · decide
  · omega
  · exact fun _ => rfl
  exact EqF.nil _
instance : EqT Try.prog 23 true [.int .i64, .int .i64, .int .i64, .str] := ⟨⟨_, by decide, eqd23⟩, by kernel_rfl⟩
theorem eqd25 : EqD Try.prog 2 25 true [.int .u64, .int .u64, .int .u64, .int .u64] := eqd_arr (ks := [.int .u64]) Try.underlying25 eqd24 rfl (fun _ => rfl)
instance : EqT Try.prog 25 true [.int .u64, .int .u64, .int .u64, .int .u64] := ⟨⟨_, by decide, eqd25⟩, by kernel_rfl⟩
theorem eqd26 : EqD Try.prog 2 26 true [.int .u64, .int .u64, .int .u64, .int .u64] := eqd_arr (ks := [.int .u64]) Try.underlying26 eqd24 rfl (fun _ => rfl)
instance : EqT Try.prog 26 true [.int .u64, .int .u64, .int .u64, .int .u64] := ⟨⟨_, by decide, eqd26⟩, by kernel_rfl⟩
theorem eqd34 : EqD Try.prog 2 34 true [.int .u8, .int .u8, .int .u8, .int .u8, .int .u8, .int .u8, .int .u8, .int .u8, .int .u8, .int .u8, .int .u8, .int .u8, .int .u8, .int .u8, .int .u8, .int .u8, .int .u8, .int .u8, .int .u8, .int .u8, .int .u8, .int .u8, .int .u8, .int .u8, .int .u8, .int .u8, .int .u8, .int .u8, .int .u8, .int .u8, .int .u8, .int .u8] := eqd_arr (ks := [.int .u8]) Try.underlying34 eqd5 rfl (fun _ => rfl)
instance : EqT Try.prog 34 true [.int .u8, .int .u8, .int .u8, .int .u8, .int .u8, .int .u8, .int .u8, .int .u8, .int .u8, .int .u8, .int .u8, .int .u8, .int .u8, .int .u8, .int .u8, .int .u8, .int .u8, .int .u8, .int .u8, .int .u8, .int .u8, .int .u8, .int .u8, .int .u8, .int .u8, .int .u8, .int .u8, .int .u8, .int .u8, .int .u8, .int .u8, .int .u8] := ⟨⟨_, by decide, eqd34⟩, by kernel_rfl⟩
theorem eqd58 : EqD Try.prog 2 58 true [.int .u64, .int .u64, .int .u64, .int .u64, .int .u64, .int .u64, .int .u64, .int .u64] := eqd_arr (ks := [.int .u64]) Try.underlying58 eqd24 rfl (fun _ => rfl)
instance : EqT Try.prog 58 true [.int .u64, .int .u64, .int .u64, .int .u64, .int .u64, .int .u64, .int .u64, .int .u64] := ⟨⟨_, by decide, eqd58⟩, by kernel_rfl⟩
theorem eqd83 : EqD Try.prog 2 83 true ([.str] ++ []) := by
  refine eqd_struct Try.underlying83 (by kernel_rfl) ?_
  refine EqF.cons _ _ 9 _ _ _ _ rfl ?_ rfl inferInstance (fun dp hdp => eqd9 dp ?_) rfl ?_ ?_
  · decide
  · omega
  · exact fun _ => rfl
  exact EqF.nil _
instance : EqT Try.prog 83 true [.str] := ⟨⟨_, by decide, eqd83⟩, by kernel_rfl⟩
theorem eqd84 : EqD Try.prog 2 84 true ([.str] ++ []) := by
  refine eqd_struct Try.underlying84 (by kernel_rfl) ?_
  refine EqF.cons _ _ 9 _ _ _ _ rfl ?_ rfl inferInstance (fun dp hdp => eqd9 dp ?_) rfl ?_ ?_
  · decide
  · omega
  · exact fun _ => rfl
  exact EqF.nil _
instance : EqT Try.prog 84 true [.str] := ⟨⟨_, by decide, eqd84⟩, by kernel_rfl⟩
instance : HasFn Try.prog 3 := ⟨⟨_, Try.func3, by kernel_rfl, by kernel_rfl⟩⟩
instance : HasFn Try.prog 4 := ⟨⟨_, Try.func4, by kernel_rfl, by kernel_rfl⟩⟩
instance : HasFn Try.prog 5 := ⟨⟨_, Try.func5, by kernel_rfl, by kernel_rfl⟩⟩
instance : HasFn Try.prog 6 := ⟨⟨_, Try.func6, by kernel_rfl, by kernel_rfl⟩⟩
instance : HasFn Try.prog 7 := ⟨⟨_, Try.func7, by kernel_rfl, by kernel_rfl⟩⟩
instance : HasFn Try.prog 8 := ⟨⟨_, Try.func8, by kernel_rfl, by kernel_rfl⟩⟩
instance : HasFn Try.prog 9 := ⟨⟨_, Try.func9, by kernel_rfl, by kernel_rfl⟩⟩
instance : HasFn Try.prog 10 := ⟨⟨_, Try.func10, by kernel_rfl, by kernel_rfl⟩⟩
instance : HasFn Try.prog 11 := ⟨⟨_, Try.func11, by kernel_rfl, by kernel_rfl⟩⟩
instance : HasFn Try.prog 12 := ⟨⟨_, Try.func12, by kernel_rfl, by kernel_rfl⟩⟩
instance : HasFn Try.prog 13 := ⟨⟨_, Try.func13, by kernel_rfl, by kernel_rfl⟩⟩
instance : HasFn Try.prog 14 := ⟨⟨_, Try.func14, by kernel_rfl, by kernel_rfl⟩⟩
instance : HasFn Try.prog 15 := ⟨⟨_, Try.func15, by kernel_rfl, by kernel_rfl⟩⟩
instance : HasFn Try.prog 16 := ⟨⟨_, Try.func16, by kernel_rfl, by kernel_rfl⟩⟩
instance : HasFn Try.prog 17 := ⟨⟨_, Try.func17, by kernel_rfl, by kernel_rfl⟩⟩
instance : HasFn Try.prog 18 := ⟨⟨_, Try.func18, by kernel_rfl, by kernel_rfl⟩⟩
instance : HasFn Try.prog 19 := ⟨⟨_, Try.func19, by kernel_rfl, by kernel_rfl⟩⟩
instance : HasFn Try.prog 20 := ⟨⟨_, Try.func20, by kernel_rfl, by kernel_rfl⟩⟩
instance : HasFn Try.prog 21 := ⟨⟨_, Try.func21, by kernel_rfl, by kernel_rfl⟩⟩
instance : HasFn Try.prog 22 := ⟨⟨_, Try.func22, by kernel_rfl, by kernel_rfl⟩⟩
instance : HasFn Try.prog 23 := ⟨⟨_, Try.func23, by kernel_rfl, by kernel_rfl⟩⟩
instance : HasFn Try.prog 24 := ⟨⟨_, Try.func24, by kernel_rfl, by kernel_rfl⟩⟩
instance : HasFn Try.prog 25 := ⟨⟨_, Try.func25, by kernel_rfl, by kernel_rfl⟩⟩
instance : HasFn Try.prog 26 := ⟨⟨_, Try.func26, by kernel_rfl, by kernel_rfl⟩⟩
instance : HasFn Try.prog 27 := ⟨⟨_, Try.func27, by kernel_rfl, by kernel_rfl⟩⟩
instance : HasFn Try.prog 28 := ⟨⟨_, Try.func28, by kernel_rfl, by kernel_rfl⟩⟩
instance : HasFn Try.prog 29 := ⟨⟨_, Try.func29, by kernel_rfl, by kernel_rfl⟩⟩
instance : HasFn Try.prog 30 := ⟨⟨_, Try.func30, by kernel_rfl, by kernel_rfl⟩⟩
instance : HasFn Try.prog 31 := ⟨⟨_, Try.func31, by kernel_rfl, by kernel_rfl⟩⟩
instance : HasFn Try.prog 35 := ⟨⟨_, Try.func35, by kernel_rfl, by kernel_rfl⟩⟩
instance : HasFn Try.prog 36 := ⟨⟨_, Try.func36, by kernel_rfl, by kernel_rfl⟩⟩
instance : HasFn Try.prog 38 := ⟨⟨_, Try.func38, by kernel_rfl, by kernel_rfl⟩⟩

end Go.Proofs.Ytcgdcnhggejgbaa
