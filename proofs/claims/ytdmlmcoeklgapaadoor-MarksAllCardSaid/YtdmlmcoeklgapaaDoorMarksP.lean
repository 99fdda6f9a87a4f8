/- The marks of a page as a list: what each word's lowest bit, and what is left without it, make of them. Plain. No conditions. -/
import Derived.Lib.TrailingZeros
import Derived.Test.YtdmlmcoeklgapaaDoorProg
namespace Go.Proofs.YtdmlmcoeklgapaaDoor

theorem tb_pow (t m i : Nat) : (2 ^ t * m).testBit i = (decide (t ≤ i) && m.testBit (i - t)) := by
  rw [Nat.mul_comm, Nat.testBit_mul_two_pow]
theorem tb_odd (m i : Nat) : (2 * m + 1).testBit i = if i = 0 then true else m.testBit (i - 1) := by
  cases i with
  | zero => simp [Nat.testBit_zero]
  | succ i => rw [Nat.testBit_succ]; have : (2 * m + 1) / 2 = m := by omega
              simp [this]
/-- the lowest bit goes -/
theorem low_off (t m : Nat) : (2 ^ t * (2 * m + 1)) &&& (2 ^ t * (2 * m + 1) - 1) = 2 ^ (t + 1) * m := by
  have hp : 0 < 2 ^ t := Nat.pow_pos (by decide)
  have e : 2 ^ t * (2 * m + 1) - 1 = 2 ^ t * (2 * m) + (2 ^ t - 1) := by rw [Nat.mul_add, Nat.mul_one]; omega
  apply Nat.eq_of_testBit_eq
  intro i
  rw [Nat.testBit_and, e, tb_pow, tb_odd, Nat.pow_succ, Nat.mul_assoc, tb_pow]
  rw [Nat.testBit_two_pow_mul_add (2 * m) (show 2 ^ t - 1 < 2 ^ t by omega)]
  by_cases h : t ≤ i
  · have h2 : ¬ i < t := by omega
    simp only [h, h2, decide_true, Bool.true_and, if_false]
    by_cases h0 : i - t = 0
    · simp [h0]
    · rw [if_neg h0]
      obtain ⟨j, hj⟩ : ∃ j, i - t = j + 1 := ⟨i - t - 1, by omega⟩
      have e2 : (2 * m) / 2 = m := by omega
      rw [hj, Nat.testBit_succ, e2]
      simp
  · simp [h]

/-- the bits of a word, from the lowest one on -/
def bitsL (w : Nat) : List Nat := (List.range 64).filter fun i => w.testBit i
theorem bitsL_0 : bitsL 0 = [] := by unfold bitsL; rw [List.filter_eq_nil_iff]; intro a _; simp
theorem bitsL_step (t m : Nat) (ht : t < 64) : bitsL (2 ^ t * (2 * m + 1)) = t :: bitsL (2 ^ (t + 1) * m) := by
  unfold bitsL
  obtain ⟨d, hd⟩ : ∃ d, 64 = t + (1 + d) := ⟨63 - t, by omega⟩
  rw [hd, List.range_add, List.filter_append, List.filter_append]
  have n1 : (List.range t).filter (fun i => (2 ^ t * (2 * m + 1)).testBit i) = [] := by
    rw [List.filter_eq_nil_iff]; intro a ha; have := List.mem_range.1 ha; rw [tb_pow]; simp; omega
  have n2 : (List.range t).filter (fun i => (2 ^ (t + 1) * m).testBit i) = [] := by
    rw [List.filter_eq_nil_iff]; intro a ha; have := List.mem_range.1 ha; rw [tb_pow]; simp; omega
  rw [n1, n2, List.nil_append, List.nil_append, List.range_add, List.map_append, List.filter_append, List.filter_append]
  have o1 : ((List.range 1).map (t + ·)).filter (fun i => (2 ^ t * (2 * m + 1)).testBit i) = [t] := by
    simp [tb_pow, tb_odd]
  have o2 : ((List.range 1).map (t + ·)).filter (fun i => (2 ^ (t + 1) * m).testBit i) = [] := by
    simp [tb_pow]
    omega
  rw [o1, o2, List.nil_append]
  show t :: _ = t :: _
  congr 1
  apply List.filter_congr
  intro x hx
  rw [List.mem_map] at hx
  obtain ⟨y, hy, rfl⟩ := hx
  rw [List.mem_map] at hy
  obtain ⟨z, _, rfl⟩ := hy
  have h1 : t ≤ t + (1 + z) := by omega
  have h2 : t + 1 ≤ t + (1 + z) := by omega
  have h3 : t + (1 + z) - t = z + 1 := by omega
  have h4 : t + (1 + z) - (t + 1) = z := by omega
  rw [tb_pow, tb_pow, h3, h4, tb_odd]
  simp [h1, h2]
/-- all marks of the words from the i-th on -/
def pageL : Nat → List Nat → List Nat
  | _, [] => []
  | i, w :: ws => (bitsL w).map (64 * i + ·) ++ pageL (i + 1) ws
def bitq (X : Nat → Nat) (n : Nat) : Bool := (X (n / 64)).testBit (n % 64)
theorem part_of (X : Nat → Nat) (i : Nat) : ((List.range 64).map (64 * i + ·)).filter (bitq X) = (bitsL (X i)).map (64 * i + ·) := by
  unfold bitsL
  rw [List.filter_map]
  congr 1
  apply List.filter_congr
  intro x hx
  have := List.mem_range.1 hx
  show (X ((64 * i + x) / 64)).testBit ((64 * i + x) % 64) = (X i).testBit x
  have h1 : (64 * i + x) / 64 = i := by omega
  have h2 : (64 * i + x) % 64 = x := by omega
  rw [h1, h2]
theorem pageL_all (X : Nat → Nat) : pageL 0 [X 0, X 1, X 2, X 3] = (List.range 256).filter (bitq X) := by
  have e : List.range 256 = (List.range 64).map (64 * 0 + ·) ++ ((List.range 64).map (64 * 1 + ·) ++ ((List.range 64).map (64 * 2 + ·) ++ (List.range 64).map (64 * 3 + ·))) := by decide +kernel
  rw [e, List.filter_append, List.filter_append, List.filter_append, part_of, part_of, part_of, part_of]
  simp [pageL]
/-- so many marks stand ahead of n -/
def cntq (X : Nat → Nat) (n : Nat) : Nat := ((List.range n).filter (bitq X)).length
def allq (X : Nat → Nat) : List Nat := (List.range 256).filter (bitq X)
theorem cntq_0 (X : Nat → Nat) : cntq X 0 = 0 := rfl
theorem cntq_y (X : Nat → Nat) (n : Nat) (h : bitq X n = true) : cntq X (n + 1) = cntq X n + 1 := by
  unfold cntq; rw [List.range_succ, List.filter_append]; simp [h]
theorem cntq_n (X : Nat → Nat) (n : Nat) (h : bitq X n = false) : cntq X (n + 1) = cntq X n := by
  unfold cntq; rw [List.range_succ, List.filter_append]; simp [h]
theorem allq_at (X : Nat → Nat) (n : Nat) (hn : n < 256) (h : bitq X n = true) : (allq X)[cntq X n]? = some n := by
  obtain ⟨d, hd⟩ : ∃ d, 256 = n + (1 + d) := ⟨255 - n, by omega⟩
  unfold allq cntq
  rw [hd, List.range_add, List.filter_append, List.getElem?_append_right (Nat.le_refl _), Nat.sub_self, List.range_add, List.map_append, List.filter_append]
  simp [h]
theorem allq_len (X : Nat → Nat) : (allq X).length = cntq X 256 := rfl
theorem cntq_le (X : Nat → Nat) (n : Nat) : cntq X n ≤ n := by
  unfold cntq; exact Nat.le_trans (List.length_filter_le _ _) (by simp)
theorem cntq_mono (X : Nat → Nat) (n : Nat) (hn : n < 256) (h : bitq X n = true) : cntq X n < cntq X 256 := by
  have := allq_at X n hn h
  rw [List.getElem?_eq_some_iff] at this
  obtain ⟨h1, _⟩ := this
  exact h1
theorem one_page : allq (fun k => if k = 0 then 2 else 0) = [1] := by decide +kernel
end Go.Proofs.YtdmlmcoeklgapaaDoor
