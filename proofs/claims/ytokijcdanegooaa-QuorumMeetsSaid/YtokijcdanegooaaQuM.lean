/- Bits of two numbers: any two who are enough have more than a third in common. Plain Lean. No conditions. -/
namespace Go.Proofs.Ytokijcdanegooaa.QM
/-- how many of the first j bits are ones -/
def S (x : Nat) : Nat → Nat
  | 0 => 0
  | j + 1 => S x j + x / 2 ^ j % 2
/-- how many of the first j bits are ones in both -/
def B (x y : Nat) : Nat → Nat
  | 0 => 0
  | j + 1 => B x y j + if x / 2 ^ j % 2 = 1 ∧ y / 2 ^ j % 2 = 1 then 1 else 0
theorem S_le (x j : Nat) : S x j ≤ j := by
  induction j with
  | zero => simp [S]
  | succ j ih => have := Nat.mod_lt (x / 2 ^ j) (by decide : 0 < 2); unfold S; omega
theorem B_le (x y j : Nat) : B x y j ≤ j := by
  induction j with
  | zero => simp [B]
  | succ j ih => unfold B; split <;> omega
theorem S_stay (x j d : Nat) (h : x / 2 ^ j = 0) : S x (j + d) = S x j := by
  induction d with
  | zero => rfl
  | succ d ih =>
    rw [← Nat.add_assoc, S, ih, Nat.pow_add, ← Nat.div_div_eq_div_mul, h]; simp
theorem S_end (x j k : Nat) (h : x / 2 ^ j = 0) (hk : x / 2 ^ k = 0) : S x j = S x k := by
  rcases Nat.le_total j k with hl | hl
  · have := S_stay x j (k - j) h; rw [← this]; congr 1; omega
  · have := S_stay x k (j - k) hk; rw [← this]; congr 1; omega
theorem meet (x y k : Nat) : S x k + S y k ≤ k + B x y k := by
  induction k with
  | zero => simp [S, B]
  | succ k ih =>
    have h1 := Nat.mod_lt (x / 2 ^ k) (by decide : 0 < 2); have h2 := Nat.mod_lt (y / 2 ^ k) (by decide : 0 < 2)
    unfold S B; split <;> omega
theorem third (x y k : Nat) (hx : 2 * k / 3 + 1 ≤ S x k) (hy : 2 * k / 3 + 1 ≤ S y k) : k < 3 * B x y k := by
  have := meet x y k; omega
end Go.Proofs.Ytokijcdanegooaa.QM
