/- Numbers and their bytes, the highest one first. Plain. No conditions. -/
import Derived.Test.YtbpaimfnfigjpaaDConv
import Derived.Test.YtbpaimfnfigjpaaDInst
namespace Go.Proofs.Ytbpaimfnfigjpaa
open Go.RowKit Go.Lib
set_option linter.unusedVariables false

def nm (l : List UInt8) : Nat := l.foldl (fun a c => a * 256 + c.toNat) 0
def toB : Nat → Nat → List UInt8
  | 0, _ => []
  | k + 1, n => toB k (n / 256) ++ [UInt8.ofNat n]
theorem toB_len : ∀ (k n : Nat), (toB k n).length = k
  | 0, _ => rfl
  | k + 1, n => by simp [toB, toB_len k]
theorem nm_snoc (l : List UInt8) (c : UInt8) : nm (l ++ [c]) = nm l * 256 + c.toNat := by simp [nm, List.foldl_append]
theorem nm_toB : ∀ (k n : Nat), nm (toB k n) = n % 256 ^ k
  | 0, n => by simp [toB, nm, Nat.mod_one]
  | k + 1, n => by
    have e : (256 : Nat) ^ (k + 1) = 256 * 256 ^ k := by rw [Nat.pow_succ, Nat.mul_comm]
    rw [toB, nm_snoc, nm_toB k, UInt8.toNat_ofNat', e, Nat.mod_mul]
    omega
theorem toB_nm : ∀ (k : Nat) (l : List UInt8), l.length = k → toB k (nm l) = l
  | 0, l, h => by
    have : l = [] := List.eq_nil_of_length_eq_zero h
    subst this; rfl
  | k + 1, l, h => by
    have hne : l ≠ [] := fun e => by rw [e] at h; cases h
    obtain ⟨i, c, rfl⟩ : ∃ i c, l = i ++ [c] := ⟨l.dropLast, l.getLast hne, (List.dropLast_concat_getLast hne).symm⟩
    have hi : i.length = k := by simp at h; exact h
    have hc := c.toNat_lt
    rw [nm_snoc, toB, show (nm i * 256 + c.toNat) / 256 = nm i from by omega, toB_nm k i hi]
    have : UInt8.ofNat (nm i * 256 + c.toNat) = c := by
      apply UInt8.toNat_inj.1
      rw [UInt8.toNat_ofNat']; omega
    rw [this]
theorem nm_lt (l : List UInt8) : nm l < 256 ^ l.length := by
  have h := toB_nm l.length l rfl
  have := nm_toB l.length (nm l)
  rw [h] at this
  rw [this]
  exact Nat.mod_lt _ (Nat.pow_pos (by decide))
theorem toB_get : ∀ (k n j : Nat), j < k → (toB k n)[j]? = some (UInt8.ofNat (n / 256 ^ (k - 1 - j)))
  | k + 1, n, j, h => by
    rw [toB]
    rcases Nat.lt_or_ge j k with h1 | h1
    · rw [List.getElem?_append_left (by rw [toB_len]; exact h1), toB_get k _ j h1, Nat.div_div_eq_div_mul]
      congr 3
      rw [← Nat.pow_succ']
      congr 1; omega
    · have : j = k := by omega
      subst this
      rw [List.getElem?_append_right (by rw [toB_len]; exact Nat.le_refl _), toB_len]
      simp
/-- the bytes of 32 -/
def b32 (n : Nat) : List UInt8 := toB 32 n
theorem b32_len (n : Nat) : (b32 n).length = 32 := toB_len 32 n
theorem b32_nm (l : List UInt8) (h : l.length = 32) : b32 (nm l) = l := toB_nm 32 l h
theorem nm_b32 (n : Nat) (h : n < M256) : nm (b32 n) = n := by
  unfold b32
  rw [nm_toB, Nat.mod_eq_of_lt (by have : (256 : Nat) ^ 32 = M256 := by decide
                                   omega)]
theorem nm_lt32 (l : List UInt8) (h : l.length = 32) : nm l < M256 := by
  have := nm_lt l
  rw [h] at this
  have e : (256 : Nat) ^ 32 = M256 := by decide
  omega
/-- as one puts them one by one -/
def xb (n i : Nat) : Int := ((n / 256 ^ i % 256 : Nat) : Int)
theorem b32_bs (n : Nat) : bs (b32 n) = (List.range 32).map fun j => D.int .u8 (xb n (31 - j)) := by
  apply List.ext_getElem?
  intro j
  rcases Nat.lt_or_ge j 32 with h | h
  · unfold b32
    rw [bs_get _ _ _ (toB_get 32 n j h), List.getElem?_map, List.getElem?_range h]
    show some (D.int .u8 (((UInt8.ofNat (n / 256 ^ (32 - 1 - j))).toNat : Nat) : Int)) = some _
    rw [UInt8.toNat_ofNat']; rfl
  · rw [List.getElem?_eq_none (by rw [bs_len, b32_len]; exact h), List.getElem?_eq_none (by simp; exact h)]
theorem lim_byte (n q r : Nat) (hr : r < 8) : IntKind.u8.wrap ((lim n q).fdiv (2 ^ (8 * r))) = xb n (8 * q + r) := by
  unfold lim xb
  rw [Int.fdiv_eq_ediv_of_nonneg _ (by exact Int.le_of_lt (Int.pow_pos (by decide)))]
  have e1 : ((2 : Int) ^ (8 * r)) = ((256 ^ r : Nat) : Int) := by
    rw [Int.natCast_pow, Int.pow_mul]; rfl
  rw [e1, ← Int.natCast_ediv, IntKind.wrap_u8]
  have e2 : n / 18446744073709551616 ^ q % 18446744073709551616 / 256 ^ r % 256 = n / 256 ^ (8 * q + r) % 256 := by
    have p1 : (18446744073709551616 : Nat) = 256 ^ 8 := by decide
    have p2 : (256 : Nat) ^ 8 = 256 ^ r * 256 ^ (8 - r) := by rw [← Nat.pow_add]; congr 1; omega
    rw [p1, ← Nat.pow_mul]
    conv => lhs; rw [show (256 : Nat) ^ 8 = 256 ^ r * 256 ^ (8 - r) from p2]
    rw [Nat.mod_mul_right_div_self, Nat.div_div_eq_div_mul, ← Nat.pow_add]
    rw [Nat.mod_mod_of_dvd]
    exact Nat.dvd_trans (by decide : 256 ∣ 256 ^ 1) (Nat.pow_dvd_pow 256 (by omega))
  omega
end Go.Proofs.Ytbpaimfnfigjpaa
