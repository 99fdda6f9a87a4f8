/- Every number whose side has a root stands in the table of the points; and what a signature's numbers come to. Reckoned by the kernel; else plain. No conditions. -/
import Derived.Test.YtpdhbddkcnffbaaDoorGrpX
import Derived.Test.YtpdhbddkcnffbaaDoorLift
namespace Go.Proofs.YtpdhbddkcnffbaaDoor
open Go.RowKit
set_option linter.unusedVariables false
set_option linter.unusedVariables false
set_option maxRecDepth 1000000

namespace GM
def has (x y : Nat) : List Pt → Bool
  | [] => false
  | q :: qs => cond (match q with | some (a, b) => Nat.beq a x && Nat.beq b y | none => false) true (has x y qs)
theorem has_at {x y : Nat} : ∀ {F : List Pt}, has x y F = true → ∃ i : Nat, F[i]? = some (some (x, y))
  | [], h => by cases h
  | q :: qs, h => by
    unfold has at h
    cases q with
    | none => obtain ⟨i, hi⟩ := has_at (F := qs) h; exact ⟨i + 1, by simpa using hi⟩
    | some v =>
      obtain ⟨a, b⟩ := v
      rcases Bool.eq_false_or_eq_true (Nat.beq a x && Nat.beq b y) with hc | hc
      · simp only [Bool.and_eq_true] at hc
        have e1 := Nat.eq_of_beq_eq_true hc.1
        have e2 := Nat.eq_of_beq_eq_true hc.2
        subst e1; subst e2
        exact ⟨0, rfl⟩
      · simp only [hc, cond_false] at h
        obtain ⟨i, hi⟩ := has_at (F := qs) h
        exact ⟨i + 1, by simpa using hi⟩
def cover1 (p b : Nat) (F : List Pt) (x r s : Nat) : Bool := cond (Nat.beq (r * r % p) s) (has x r F) true
def cover (p b : Nat) (F : List Pt) : Nat → Bool
  | 0 => true
  | x + 1 => cover1 p b F x (sideM p 0 b x ^ (p / 4 + 1) % p) (sideM p 0 b x) && cover p b F x
theorem cover_at {p b : Nat} {F : List Pt} : ∀ {k : Nat}, cover p b F k = true → ∀ x, x < k → (sideM p 0 b x ^ (p / 4 + 1) % p) * (sideM p 0 b x ^ (p / 4 + 1) % p) % p = sideM p 0 b x → ∃ i : Nat, F[i]? = some (some (x, sideM p 0 b x ^ (p / 4 + 1) % p))
  | 0, _, x, hx, _ => absurd hx (Nat.not_lt_zero _)
  | k + 1, h, x, hx, hr => by
    simp only [cover, Bool.and_eq_true] at h
    by_cases e : x = k
    · subst e
      have h1 := h.1
      unfold cover1 at h1
      rw [hr, Nat.beq_refl, cond_true] at h1
      exact has_at h1
    · exact cover_at h.2 x (by omega) hr
theorem cov0 : cover 43 7 tab0 43 = true := by kernel_rfl
theorem cov1 : cover 67 2 tab1 67 = true := by kernel_rfl
theorem cov2 : cover 79 6 tab2 79 = true := by kernel_rfl
theorem cov3 : cover 139 2 tab3 139 = true := by kernel_rfl
theorem cov4 : cover 163 3 tab4 163 = true := by kernel_rfl
theorem cov5 : cover 211 3 tab5 211 = true := by kernel_rfl
theorem cov6 : cover 379 2 tab6 379 = true := by kernel_rfl
theorem cov7 : cover 691 3 tab7 691 = true := by kernel_rfl
end GM

/-- whatever has a root is a point -/
def Cover (p b n : Nat) (T : Nat → P3) : Prop := ∀ x, x < p → onN p 0 b x (sideN p 0 b x ^ (p / 4 + 1) % p) = true → ∃ i, i % n ≠ 0 ∧ T i = (x, sideN p 0 b x ^ (p / 4 + 1) % p, false)
open GM in
theorem cover_of {p b n gx gy : Nat} {F : List Pt} (h2n : 2 < n) (hc : check p 0 b n gx gy F = true) (hv : GM.cover p b F p = true) : Cover p b n (GM.T F n) := by
  unfold check at hc
  simp only [Bool.and_eq_true] at hc
  obtain ⟨⟨⟨hlen, _⟩, _⟩, _⟩ := hc
  have hlen := Nat.eq_of_beq_eq_true hlen
  intro x hx ho
  obtain ⟨i, hi⟩ := cover_at hv x hx (of_decide_eq_true ho)
  have hil : i < F.length := by
    rcases Nat.lt_or_ge i F.length with h | h
    · exact h
    · rw [List.getElem?_eq_none h] at hi; cases hi
  have hm : (i + 1) % n = i + 1 := Nat.mod_eq_of_lt (by omega)
  refine ⟨i + 1, by omega, ?_⟩
  unfold GM.T
  rw [if_neg (by omega), hm, Nat.add_sub_cancel, hi]
  rfl

end Go.Proofs.YtpdhbddkcnffbaaDoor
