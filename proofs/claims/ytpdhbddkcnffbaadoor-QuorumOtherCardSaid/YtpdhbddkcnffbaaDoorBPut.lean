/- Bytes as data: one of them, read or laid. No conditions. -/
import Derived.Test.YtpdhbddkcnffbaaDoorGd
namespace Go.Proofs.YtpdhbddkcnffbaaDoor
open Go.RowKit Go.Lib Go.IntWalk
set_option linter.unusedVariables false
set_option linter.unusedVariables false
set_option maxRecDepth 100000

theorem u8_of (x : Int) : ∃ c : UInt8, IntKind.u8.wrap x = ((c.toNat : Nat) : Int) := by
  have h : 0 ≤ IntKind.u8.wrap x ∧ IntKind.u8.wrap x < 256 := by rw [IntKind.wrap_u8]; omega
  refine ⟨UInt8.ofNat (IntKind.u8.wrap x).toNat, ?_⟩
  rw [UInt8.toNat_ofNat']; omega
/-- 32 bytes, one by one -/
theorem list32 (l : List UInt8) (h : l.length = 32) : ∃ (i : List UInt8) (a b : UInt8), i.length = 30 ∧ l = i ++ [a, b] := by
  refine ⟨l.take 30, l[30], l[31], by rw [List.length_take]; omega, ?_⟩
  conv => lhs; rw [← List.take_append_drop 30 l]
  congr 1
  rw [List.drop_eq_getElem_cons (by omega), List.drop_eq_getElem_cons (by omega), List.drop_of_length_le (by omega)]
theorem u8_xor (x y : Int) : ∃ c : UInt8, bitw .xor .u8 x y = ((c.toNat : Nat) : Int) := u8_of _
theorem bs_put (l : List UInt8) (k : Nat) (c : UInt8) (h : k < l.length) : splice (0 + ((k : Nat) : Int).toNat * 1) [D.int .u8 (c.toNat : Int)] (bs l) = some (bs (l.set k c)) := by
  unfold splice
  rw [Nat.ble_eq_true_of_le (by rw [bs_len]; simp; omega), cond_true]
  congr 1
  rw [Int.toNat_natCast, Nat.zero_add, Nat.mul_one]
  unfold bs
  rw [← List.map_take, ← List.map_drop, List.set_eq_take_append_cons_drop, if_pos h]
  simp
theorem bs_ix (l : List UInt8) (k : Nat) (h : k < l.length) : cut ⟨false, 1, [.int .u8 0]⟩ (0 + ((k : Nat) : Int).toNat * 1) (bs l) = some (.int .u8 ((l.getD k 0).toNat : Int)) := by
  unfold cut
  rw [Int.toNat_natCast, Nat.zero_add, Nat.mul_one, cond_false]
  refine bs_get l k _ ?_
  rw [List.getD_eq_getElem?_getD, List.getElem?_eq_getElem h]; rfl
end Go.Proofs.YtpdhbddkcnffbaaDoor
