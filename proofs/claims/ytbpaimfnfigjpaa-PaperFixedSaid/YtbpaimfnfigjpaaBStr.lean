/- Strings as lists of bytes; their order is the numbers'. Plain. No conditions. -/
import Derived.Test.YtbpaimfnfigjpaaBy32
namespace Go.Proofs.Ytbpaimfnfigjpaa
open Go.RowKit Go.Lib
set_option linter.unusedVariables false

theorem ba_list (s : ByteArray) : s.toList = s.data.toList := by rw [ByteArray.toList_eq]
theorem ba_mk (l : List UInt8) : (⟨l.toArray⟩ : ByteArray).toList = l := ba_list _
theorem less_nm : ∀ (x y : List UInt8), x.length = y.length → Op.bytesLess x y = decide (nm x < nm y)
  | [], [], _ => rfl
  | [], _ :: _, h => by cases h
  | _ :: _, [], h => by cases h
  | a :: x, b :: y, h => by
    have h' : x.length = y.length := by simpa using h
    have ih := less_nm x y h'
    have cons : ∀ (c : UInt8) (l : List UInt8), nm (c :: l) = c.toNat * 256 ^ l.length + nm l := by
      intro c l
      have key : ∀ (l : List UInt8) (s : Nat), l.foldl (fun a c => a * 256 + c.toNat) s = s * 256 ^ l.length + nm l := by
        intro l
        induction l with
        | nil => intro s; simp [nm]
        | cons d l ih =>
          intro s
          have h1 : nm (d :: l) = d.toNat * 256 ^ l.length + nm l := by
            show l.foldl _ (0 * 256 + d.toNat) = _
            rw [ih, Nat.zero_mul, Nat.zero_add]
          rw [List.foldl_cons, ih, h1, List.length_cons, Nat.pow_succ, Nat.add_mul, Nat.mul_assoc, Nat.mul_comm 256, Nat.add_assoc]
      show l.foldl _ (0 * 256 + c.toNat) = _
      rw [key, Nat.zero_mul, Nat.zero_add]
    rw [cons, cons, h', Op.bytesLess, ih]
    have bx := nm_lt x
    have by_ := nm_lt y
    rw [h'] at bx
    have hlt : (a < b) ↔ a.toNat < b.toNat := UInt8.lt_iff_toNat_lt
    have heq : (a = b) ↔ a.toNat = b.toNat := UInt8.toNat_inj.symm
    generalize nm x = X at *
    generalize nm y = Y at *
    generalize 256 ^ y.length = Z at *
    rcases Nat.lt_trichotomy a.toNat b.toNat with h1 | h1 | h1
    · have : (a.toNat + 1) * Z ≤ b.toNat * Z := Nat.mul_le_mul_right _ h1
      rw [Nat.succ_mul] at this
      rw [decide_eq_true (hlt.2 h1), Bool.true_or, decide_eq_true (by omega)]
    · have e := heq.2 h1
      subst e
      have : ¬ a < a := UInt8.lt_irrefl a
      simp [this]
    · have : (b.toNat + 1) * Z ≤ a.toNat * Z := Nat.mul_le_mul_right _ h1
      rw [Nat.succ_mul] at this
      have n1 : ¬ a < b := fun h => by have := hlt.1 h; omega
      have n2 : ¬ a = b := fun h => by have := heq.1 h; omega
      rw [decide_eq_false n1, Bool.false_or, beq_eq_false_iff_ne.2 n2, Bool.false_and, decide_eq_false (by omega)]
theorem b32_less (a b : Nat) (ha : a < M256) (hb : b < M256) : Op.bytesLess (⟨(b32 a).toArray⟩ : ByteArray).toList (⟨(b32 b).toArray⟩ : ByteArray).toList = decide (a < b) := by
  rw [ba_mk, ba_mk, less_nm _ _ (by rw [b32_len, b32_len]), nm_b32 a ha, nm_b32 b hb]
end Go.Proofs.Ytbpaimfnfigjpaa
