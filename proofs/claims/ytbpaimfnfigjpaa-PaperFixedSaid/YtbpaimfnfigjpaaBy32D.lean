/- Arrays of 32 bytes that are one datum: loaded, stored, handed on, given back. No conditions. -/
import Derived.Test.YtbpaimfnfigjpaaBStr
import Derived.Test.YtbpaimfnfigjpaaDCopy
namespace Go.Proofs.Ytbpaimfnfigjpaa
open Go.RowKit Go.Lib
set_option linter.unusedVariables false

theorem b_len {z : List UInt8} (h : z.length = 32) : (D.agg (bs z)).cells.length = 32 := by show (bs z).length = 32; rw [bs_len, h]
theorem b_fits (z : List UInt8) : (D.agg (bs z)).fits = true := rfl
theorem b_put {z : List UInt8} (h : z.length = 32) (cs : List D) (hc : cs.length = 32) : splice 0 (bs z) cs = some (bs z) := by
  unfold splice
  rw [Nat.ble_eq_true_of_le (by rw [bs_len, h, hc]; exact Nat.le_refl _), cond_true, Nat.zero_add, List.drop_of_length_le (by rw [bs_len, h, hc]; exact Nat.le_refl _)]
  simp
theorem b_cut {z : List UInt8} (h : z.length = 32) (ze : List D) : cut ⟨true, 32, ze⟩ 0 (bs z) = some (.agg (bs z)) := by
  unfold cut
  simp only [cond_true, Nat.zero_add, List.drop_zero]
  rw [Nat.ble_eq_true_of_le (by rw [bs_len, h]; exact Nat.le_refl _), cond_true, List.take_of_length_le (by rw [bs_len, h]; exact Nat.le_refl _)]
theorem bs_fzs : ∀ (l : List UInt8), D.fzs (bs l) = bs l
  | [] => rfl
  | a :: l => by
    show (D.int .u8 (a.toNat : Int)).fz :: D.fzs (bs l) = _
    rw [bs_fzs l]; rfl
theorem b_fz (z : List UInt8) : (D.agg (bs z)).fz = .agg (bs z) := by
  show D.agg (D.fzs (bs z)) = _
  rw [bs_fzs]
theorem b_fz1 (z : List UInt8) : D.fzs [D.agg (bs z)] = [D.agg (bs z)] := by
  show [(D.agg (bs z)).fz] = _
  rw [b_fz]
theorem b_cl1 (z : List UInt8) : D.cls [D.agg (bs z)] = true := by
  show (D.cls (bs z) && true) = true
  rw [bs_cl]; rfl
theorem b_eq (x : List UInt8) : deqs (bs x) (bs x) = true := by
  induction x with
  | nil => rfl
  | cons a x ih =>
    show (deq1 (.int .u8 (a.toNat : Int)) (.int .u8 (a.toNat : Int)) && deqs (bs x) (bs x)) = true
    rw [ih]; simp [deq1]
theorem b_ms {z : List UInt8} (h : z.length = 32) (off n : Nat) (ho : off = 0) (hn : n = 32) : ((bs z).drop off).take n = bs z := by
  subst ho; subst hn
  exact List.take_of_length_le (by rw [List.drop_zero, bs_len, h]; exact Nat.le_refl _)
end Go.Proofs.Ytbpaimfnfigjpaa
