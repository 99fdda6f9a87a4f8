/- 256-bit numbers as data: four cells. No conditions. -/
import Derived.Test.YtcfefmbbbfdppaaSDInst
import Derived.Test.YtcfefmbbbfdppaaSEq
namespace Go.Proofs.Ytcfefmbbbfdppaa
open Go.RowKit
set_option linter.unusedVariables false
def ud (n : Nat) : List D := [.int .u64 (lim n 0), .int .u64 (lim n 1), .int .u64 (lim n 2), .int .u64 (lim n 3)]
def U (n : Nat) : D := .agg (ud n)
theorem cells_U (n : Nat) : (U n).cells = ud n := rfl
theorem agg_ud (n : Nat) : D.agg (ud n) = U n := rfl
theorem take_ud (n : Nat) (r : List D) : List.take 4 (ud n ++ r) = ud n := rfl
theorem take_ud0 (n : Nat) : List.take 4 (ud n) = ud n := rfl
theorem take_udk (k n : Nat) (r : List D) : List.take (k + 4) (ud n ++ r) = ud n ++ List.take k r := rfl
theorem drop_ud (k n : Nat) (r : List D) : List.drop (k + 4) (ud n ++ r) = List.drop k r := rfl
theorem dropS (k : Nat) (a : D) (l : List D) : List.drop (k + 1) (a :: l) = List.drop k l := rfl
theorem takeS (k : Nat) (a : D) (l : List D) : List.take (k + 1) (a :: l) = a :: List.take k l := rfl
theorem take0 (l : List D) : List.take 0 l = [] := rfl
theorem ud_nil (n : Nat) : ud n ++ [] = ud n := rfl
theorem drop0 (l : List D) : List.drop 0 l = l := rfl
theorem drop_ud0 (n : Nat) : List.drop 4 (ud n) = [] := rfl
theorem slots_ud (n : Nat) : (ud n).length = 4 := rfl
theorem deqs_ud (a b : Nat) (ha : a < M256) (hb : b < M256) : deqs (ud a) (ud b) = decide (a = b) := by
  have := same_iff a b ha hb
  simp only [ud, deqs, deq1]
  rw [← this, Bool.and_true]
end Go.Proofs.Ytcfefmbbbfdppaa
