/- More of the small curves: opposites, inverses by the order, square roots; reckoned by the kernel. No conditions. -/
import Derived.Test.YtpdhbddkcnffbaaDoorGrps
namespace Go.Proofs.YtpdhbddkcnffbaaDoor
open Go.RowKit
set_option linter.unusedVariables false
set_option linter.unusedVariables false
set_option maxRecDepth 1000000

namespace GM
def lifts (p b : Nat) : List Pt → Bool
  | [] => true
  | q :: qs => (match q with | some (x, y) => !Nat.beq y 0 && (Nat.beq (sideM p 0 b x ^ (p / 4 + 1) % p) y || Nat.beq (sideM p 0 b x ^ (p / 4 + 1) % p) (p - y)) | none => false) && lifts p b qs
theorem lifts_at {p b : Nat} : ∀ {F : List Pt}, lifts p b F = true → ∀ (i : Nat) (x y : Nat), F[i]? = some (some (x, y)) → y ≠ 0 ∧ (sideM p 0 b x ^ (p / 4 + 1) % p = y ∨ sideM p 0 b x ^ (p / 4 + 1) % p = p - y)
  | [], _, i, x, y, h => by simp at h
  | q0 :: qs, h, i, x, y, hq => by
    simp only [lifts, Bool.and_eq_true] at h
    cases i with
    | zero =>
      simp at hq; subst hq
      have h1 := h.1
      simp only [Bool.and_eq_true, Bool.or_eq_true] at h1
      refine ⟨fun e => ?_, h1.2.imp Nat.eq_of_beq_eq_true Nat.eq_of_beq_eq_true⟩
      subst e; simp at h1
    | succ i => exact lifts_at h.2 i x y (by simpa using hq)
theorem lif0 : lifts 43 7 tab0 = true := by kernel_rfl
theorem lif1 : lifts 67 2 tab1 = true := by kernel_rfl
theorem lif2 : lifts 79 6 tab2 = true := by kernel_rfl
theorem lif3 : lifts 139 2 tab3 = true := by kernel_rfl
theorem lif4 : lifts 163 3 tab4 = true := by kernel_rfl
theorem lif5 : lifts 211 3 tab5 = true := by kernel_rfl
theorem lif6 : lifts 379 2 tab6 = true := by kernel_rfl
theorem lif7 : lifts 691 3 tab7 = true := by kernel_rfl
theorem inn0 : invs 31 31 = true := by kernel_rfl
theorem inn1 : invs 73 73 = true := by kernel_rfl
theorem inn2 : invs 67 67 = true := by kernel_rfl
theorem inn3 : invs 163 163 = true := by kernel_rfl
theorem inn4 : invs 181 181 = true := by kernel_rfl
theorem inn5 : invs 199 199 = true := by kernel_rfl
theorem inn6 : invs 409 409 = true := by kernel_rfl
theorem inn7 : invs 643 643 = true := by kernel_rfl
end GM

structure Extra (p b n : Nat) (T : Nat → P3) : Prop where
  opp : ∀ i j, (i + j) % n = 0 → i % n ≠ 0 → ∃ x y, T i = (x, y, false) ∧ T j = (x, p - y, false) ∧ 0 < y ∧ y < p ∧ x < p
  inv : ∀ d, d < n → d ≠ 0 → ∃ i, i < n ∧ i * d % n = 1 ∧ Nat.gcd n d = 1
  lift : ∀ i x y f, i % n ≠ 0 → T i = (x, y, f) → f = false ∧ (sideN p 0 b x ^ (p / 4 + 1) % p = y ∨ sideN p 0 b x ^ (p / 4 + 1) % p = p - y)

open GM in
theorem extra_of {p b n gx gy : Nat} {F : List Pt} (h1p : 1 < p) (h2n : 2 < n) (hc : check p 0 b n gx gy F = true) (hr : ∀ (i : Nat) (q : Pt), F[i]? = some q → ∃ x y, q = some (x, y) ∧ row p 0 x y F ((F.tail ++ (none :: F)).drop i) = true) (hl : lifts p b F = true) (hi : invs n n = true) : Extra p b n (GM.T F n) := by
  unfold check at hc
  simp only [Bool.and_eq_true] at hc
  obtain ⟨⟨⟨hlen, _⟩, hon⟩, _⟩ := hc
  have hlen := Nat.eq_of_beq_eq_true hlen
  have hF : ∀ i, i % n ≠ 0 → ∃ x y, F[i % n - 1]? = some (some (x, y)) ∧ GM.T F n i = (x, y, false) ∧ x < p ∧ y < p ∧ row p 0 x y F ((F.tail ++ (none :: F)).drop (i % n - 1)) = true := by
    intro i hi
    have hlt : i % n < n := Nat.mod_lt _ (by omega)
    have hq : F[i % n - 1]? = some (F[i % n - 1]'(by omega)) := List.getElem?_eq_getElem _
    obtain ⟨x, y, e, hx, hy, hs⟩ := onM_at hon _ _ hq
    obtain ⟨x', y', e', hrow⟩ := hr _ _ hq
    rw [e] at e'
    injection e' with e'
    injection e' with e1 e2
    subst e1; subst e2
    rw [e] at hq
    exact ⟨x, y, hq, by unfold GM.T; rw [if_neg hi, hq], hx, hy, hrow⟩
  refine ⟨fun i j hij hi0 => ?_, fun d hd hd0 => ?_, fun i x y f hi0 hT => ?_⟩
  · obtain ⟨x1, y1, q1, e1, hx1, hy1, hrow⟩ := hF i hi0
    have hj0 : j % n ≠ 0 := fun e => hi0 (by rw [Nat.add_mod, e, Nat.add_zero, Nat.mod_mod] at hij; exact hij)
    obtain ⟨x2, y2, q2, e2, hx2, hy2, _⟩ := hF j hj0
    obtain ⟨s, hs, ho⟩ := row_at hrow _ _ q2
    have hi' : i % n < n := Nat.mod_lt _ (by omega)
    have hj' : j % n < n := Nat.mod_lt _ (by omega)
    have hsum : i % n + j % n = n := by
      rw [Nat.add_mod] at hij
      rcases Nat.lt_or_ge (i % n + j % n) n with h | h
      · rw [Nat.mod_eq_of_lt h] at hij; omega
      · rw [Nat.mod_eq_sub_mod h, Nat.mod_eq_of_lt (by omega)] at hij; omega
    have hlt : F.tail.length = n - 2 := by rw [List.length_tail]; omega
    rw [List.getElem?_drop, List.getElem?_append, hlt, if_neg (by omega), show i % n - 1 + (j % n - 1) - (n - 2) = 0 from by omega] at hs
    simp at hs
    subst hs
    simp only [one, Bool.and_eq_true] at ho
    have hx := Nat.eq_of_beq_eq_true ho.1
    have hy := Nat.eq_of_beq_eq_true ho.2
    have hy0 := (lifts_at hl _ _ _ q1).1
    subst hx
    have : y2 = p - y1 := by
      rcases Nat.lt_or_ge (y1 + y2) p with h | h
      · rw [Nat.mod_eq_of_lt h] at hy; omega
      · rw [Nat.mod_eq_sub_mod h, Nat.mod_eq_of_lt (by omega)] at hy; omega
    exact ⟨x1, y1, e1, by rw [e2, this], by omega, hy1, hx1⟩
  · have h := invs_at hi d hd hd0
    exact ⟨_, Nat.mod_lt _ (by omega), h, gcd_of_inv h⟩
  · obtain ⟨x1, y1, q1, e1, _⟩ := hF i hi0
    rw [hT] at e1
    injection e1 with a1 a2
    injection a2 with a2 a3
    subst a1; subst a2
    exact ⟨a3, (lifts_at hl _ _ _ q1).2⟩

end Go.Proofs.YtpdhbddkcnffbaaDoor
