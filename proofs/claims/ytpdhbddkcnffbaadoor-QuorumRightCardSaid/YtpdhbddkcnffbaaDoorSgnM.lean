/- Every number whose side has a root stands in the table of the points; and what a signature's numbers come to. Reckoned by the kernel; else plain. No conditions. -/
import Derived.Test.YtpdhbddkcnffbaaDoorGrpX
import Derived.Test.YtpdhbddkcnffbaaDoorLift
namespace Go.Proofs.YtpdhbddkcnffbaaDoor
open Go.RowKit
set_option linter.unusedVariables false
set_option maxRecDepth 1000000

namespace GM
def has (x y : Nat) : List Pt → Bool
  | [] => false
  | q :: qs => cond (match q with | some (a, b) => Nat.beq a x && Nat.beq b y | none => false) true (has x y qs)
theorem has_at {x y : Nat} : ∀ {F : List Pt}, has x y F = true → ∃ i : Nat, F[i]? = some (some (x, y))
  | [], h => by cases h
  | q :: qs, h => by
    unfold has at h
    cases q with
    | none => obtain ⟨i, hi⟩ := has_at (F := qs) h; exact ⟨i + 1, by simpa using hi⟩
    | some v =>
      obtain ⟨a, b⟩ := v
      rcases Bool.eq_false_or_eq_true (Nat.beq a x && Nat.beq b y) with hc | hc
      · simp only [Bool.and_eq_true] at hc
        have e1 := Nat.eq_of_beq_eq_true hc.1
        have e2 := Nat.eq_of_beq_eq_true hc.2
        subst e1; subst e2
        exact ⟨0, rfl⟩
      · simp only [hc, cond_false] at h
        obtain ⟨i, hi⟩ := has_at (F := qs) h
        exact ⟨i + 1, by simpa using hi⟩
def cover1 (p b : Nat) (F : List Pt) (x r s : Nat) : Bool := cond (Nat.beq (r * r % p) s) (has x r F) true
def cover (p b : Nat) (F : List Pt) : Nat → Bool
  | 0 => true
  | x + 1 => cover1 p b F x (sideM p 0 b x ^ (p / 4 + 1) % p) (sideM p 0 b x) && cover p b F x
theorem cover_at {p b : Nat} {F : List Pt} : ∀ {k : Nat}, cover p b F k = true → ∀ x, x < k → (sideM p 0 b x ^ (p / 4 + 1) % p) * (sideM p 0 b x ^ (p / 4 + 1) % p) % p = sideM p 0 b x → ∃ i : Nat, F[i]? = some (some (x, sideM p 0 b x ^ (p / 4 + 1) % p))
  | 0, _, x, hx, _ => absurd hx (Nat.not_lt_zero _)
  | k + 1, h, x, hx, hr => by
    simp only [cover, Bool.and_eq_true] at h
    by_cases e : x = k
    · subst e
      have h1 := h.1
      unfold cover1 at h1
      rw [hr, Nat.beq_refl, cond_true] at h1
      exact has_at h1
    · exact cover_at h.2 x (by omega) hr
theorem cov0 : cover 43 7 tab0 43 = true := by kernel_rfl
theorem cov1 : cover 67 2 tab1 67 = true := by kernel_rfl
theorem cov2 : cover 79 6 tab2 79 = true := by kernel_rfl
theorem cov3 : cover 139 2 tab3 139 = true := by kernel_rfl
theorem cov4 : cover 163 3 tab4 163 = true := by kernel_rfl
theorem cov5 : cover 211 3 tab5 211 = true := by kernel_rfl
theorem cov6 : cover 379 2 tab6 379 = true := by kernel_rfl
theorem cov7 : cover 691 3 tab7 691 = true := by kernel_rfl
end GM

/-- whatever has a root is a point -/
def Cover (p b n : Nat) (T : Nat → P3) : Prop := ∀ x, x < p → onN p 0 b x (sideN p 0 b x ^ (p / 4 + 1) % p) = true → ∃ i, i % n ≠ 0 ∧ T i = (x, sideN p 0 b x ^ (p / 4 + 1) % p, false)
open GM in
theorem cover_of {p b n gx gy : Nat} {F : List Pt} (h2n : 2 < n) (hc : check p 0 b n gx gy F = true) (hv : GM.cover p b F p = true) : Cover p b n (GM.T F n) := by
  unfold check at hc
  simp only [Bool.and_eq_true] at hc
  obtain ⟨⟨⟨hlen, _⟩, _⟩, _⟩ := hc
  have hlen := Nat.eq_of_beq_eq_true hlen
  intro x hx ho
  obtain ⟨i, hi⟩ := cover_at hv x hx (of_decide_eq_true ho)
  have hil : i < F.length := by
    rcases Nat.lt_or_ge i F.length with h | h
    · exact h
    · rw [List.getElem?_eq_none h] at hi; cases hi
  have hm : (i + 1) % n = i + 1 := Nat.mod_eq_of_lt (by omega)
  refine ⟨i + 1, by omega, ?_⟩
  unfold GM.T
  rw [if_neg (by omega), hm, Nat.add_sub_cancel, hi]
  rfl

theorem grps3 (z : Int) : ∃ (k p b n gx gy : Nat) (T : Nat → P3), z % 8 = k ∧ cvs[k]? = some (p, b, n, gx, gy) ∧ Grp p b n gx gy T ∧ n < 1000 ∧ 2 < n ∧ p < 1000 ∧ Extra p b n T ∧ Cover p b n T ∧ T 1 = (gx, gy, false) := by
  obtain ⟨k, hk⟩ : ∃ k : Nat, z % 8 = k := ⟨(z % 8).toNat, by omega⟩
  have h8 : k < 8 := by omega
  obtain rfl | rfl | rfl | rfl | rfl | rfl | rfl | rfl : k = 0 ∨ k = 1 ∨ k = 2 ∨ k = 3 ∨ k = 4 ∨ k = 5 ∨ k = 6 ∨ k = 7 := by omega
  · exact ⟨0, 43, 7, 31, 2, 12, _, hk, rfl, grp_of (good_of (by decide) (by decide) (by decide) (by decide) (by decide) (by decide) (by decide) (by decide) (by decide) (by decide)) GM.chk0 GM.rows0 (by decide), by decide, by decide, by decide, extra_of (by decide) (by decide) GM.chk0 GM.rows0 GM.lif0 GM.inn0, cover_of (by decide) GM.chk0 GM.cov0, (grp_of (good_of (by decide) (by decide) (by decide) (by decide) (by decide) (by decide) (by decide) (by decide) (by decide) (by decide)) GM.chk0 GM.rows0 (by decide)).t1⟩
  · exact ⟨1, 67, 2, 73, 2, 12, _, hk, rfl, grp_of (good_of (by decide) (by decide) (by decide) (by decide) (by decide) (by decide) (by decide) (by decide) (by decide) (by decide)) GM.chk1 GM.rows1 (by decide), by decide, by decide, by decide, extra_of (by decide) (by decide) GM.chk1 GM.rows1 GM.lif1 GM.inn1, cover_of (by decide) GM.chk1 GM.cov1, (grp_of (good_of (by decide) (by decide) (by decide) (by decide) (by decide) (by decide) (by decide) (by decide) (by decide) (by decide)) GM.chk1 GM.rows1 (by decide)).t1⟩
  · exact ⟨2, 79, 6, 67, 5, 17, _, hk, rfl, grp_of (good_of (by decide) (by decide) (by decide) (by decide) (by decide) (by decide) (by decide) (by decide) (by decide) (by decide)) GM.chk2 GM.rows2 (by decide), by decide, by decide, by decide, extra_of (by decide) (by decide) GM.chk2 GM.rows2 GM.lif2 GM.inn2, cover_of (by decide) GM.chk2 GM.cov2, (grp_of (good_of (by decide) (by decide) (by decide) (by decide) (by decide) (by decide) (by decide) (by decide) (by decide) (by decide)) GM.chk2 GM.rows2 (by decide)).t1⟩
  · exact ⟨3, 139, 2, 163, 3, 53, _, hk, rfl, grp_of (good_of (by decide) (by decide) (by decide) (by decide) (by decide) (by decide) (by decide) (by decide) (by decide) (by decide)) GM.chk3 GM.rows3 (by decide), by decide, by decide, by decide, extra_of (by decide) (by decide) GM.chk3 GM.rows3 GM.lif3 GM.inn3, cover_of (by decide) GM.chk3 GM.cov3, (grp_of (good_of (by decide) (by decide) (by decide) (by decide) (by decide) (by decide) (by decide) (by decide) (by decide) (by decide)) GM.chk3 GM.rows3 (by decide)).t1⟩
  · exact ⟨4, 163, 3, 181, 1, 2, _, hk, rfl, grp_of (good_of (by decide) (by decide) (by decide) (by decide) (by decide) (by decide) (by decide) (by decide) (by decide) (by decide)) GM.chk4 GM.rows4 (by decide), by decide, by decide, by decide, extra_of (by decide) (by decide) GM.chk4 GM.rows4 GM.lif4 GM.inn4, cover_of (by decide) GM.chk4 GM.cov4, (grp_of (good_of (by decide) (by decide) (by decide) (by decide) (by decide) (by decide) (by decide) (by decide) (by decide) (by decide)) GM.chk4 GM.rows4 (by decide)).t1⟩
  · exact ⟨5, 211, 3, 199, 1, 2, _, hk, rfl, grp_of (good_of (by decide) (by decide) (by decide) (by decide) (by decide) (by decide) (by decide) (by decide) (by decide) (by decide)) GM.chk5 GM.rows5 (by decide), by decide, by decide, by decide, extra_of (by decide) (by decide) GM.chk5 GM.rows5 GM.lif5 GM.inn5, cover_of (by decide) GM.chk5 GM.cov5, (grp_of (good_of (by decide) (by decide) (by decide) (by decide) (by decide) (by decide) (by decide) (by decide) (by decide) (by decide)) GM.chk5 GM.rows5 (by decide)).t1⟩
  · exact ⟨6, 379, 2, 409, 5, 49, _, hk, rfl, grp_of (good_of (by decide) (by decide) (by decide) (by decide) (by decide) (by decide) (by decide) (by decide) (by decide) (by decide)) GM.chk6 GM.rows6 (by decide), by decide, by decide, by decide, extra_of (by decide) (by decide) GM.chk6 GM.rows6 GM.lif6 GM.inn6, cover_of (by decide) GM.chk6 GM.cov6, (grp_of (good_of (by decide) (by decide) (by decide) (by decide) (by decide) (by decide) (by decide) (by decide) (by decide) (by decide)) GM.chk6 GM.rows6 (by decide)).t1⟩
  · exact ⟨7, 691, 3, 643, 1, 2, _, hk, rfl, grp_of (good_of (by decide) (by decide) (by decide) (by decide) (by decide) (by decide) (by decide) (by decide) (by decide) (by decide)) GM.chk7 GM.rows7 (by decide), by decide, by decide, by decide, extra_of (by decide) (by decide) GM.chk7 GM.rows7 GM.lif7 GM.inn7, cover_of (by decide) GM.chk7 GM.cov7, (grp_of (good_of (by decide) (by decide) (by decide) (by decide) (by decide) (by decide) (by decide) (by decide) (by decide) (by decide)) GM.chk7 GM.rows7 (by decide)).t1⟩
/-- a number lifted: none, or a point -/
theorem lift_any {p b n gx gy : Nat} {T : Nat → P3} (G : Grp p b n gx gy T) (E : Extra p b n T) (C : Cover p b n T) (x : Nat) (hx : x < p) (odd : Bool) :
    Pur Tryd.prog 42 [.agg (cv p 0 b n gx gy false), U x, .bool odd] (.tup [.agg (pt 0 0 false), .int .i64 16]) ∨
    ∃ i y, i % n ≠ 0 ∧ T i = (x, y, false) ∧ Pur Tryd.prog 42 [.agg (cv p 0 b n gx gy false), U x, .bool odd] (.tup [.agg (pt x y false), .int .i64 0]) := by
  obtain ⟨r, hr⟩ : ∃ r, sideN p 0 b x ^ (p / 4 + 1) % p = r := ⟨_, rfl⟩
  have h3 := G.good.h3
  have hrl : r < p := by rw [← hr]; exact Nat.mod_lt _ (by omega)
  have hC := C x hx
  rw [hr] at hC
  rcases Bool.eq_false_or_eq_true (decide (decide (r % 2 = 1) = odd)) with ho | ho
  · have ho := of_decide_eq_true ho
    obtain ⟨ob, hob⟩ : ∃ ob, onN p 0 b x r = ob := ⟨_, rfl⟩
    have L := Lift_C G.good x r hx hr odd ob ho hob
    cases ob with
    | false => exact .inl L
    | true =>
      obtain ⟨i, hi, hT⟩ := hC hob
      exact .inr ⟨i, r, hi, hT, L⟩
  · have ho := of_decide_eq_false ho
    have ho' : decide (r % 2 = 1) = !odd := by revert ho; cases odd <;> cases decide (r % 2 = 1) <;> simp
    by_cases hr0 : r = 0
    · subst hr0
      have : odd = true := by revert ho'; cases odd <;> simp
      subst this
      exact .inl (Lift_B G.good x 0 hx hr rfl)
    · obtain ⟨ob, hob⟩ : ∃ ob, onN p 0 b x (p - r) = ob := ⟨_, rfl⟩
      have L := Lift_A G.good x r hx hr odd ob ho' hr0 hob
      cases ob with
      | false => exact .inl L
      | true =>
        have hon : onN p 0 b x r = true := by
          unfold onN at hob ⊢
          have h := of_decide_eq_true hob
          refine decide_eq_true ?_
          rw [← h]
          refine GM.Eqm.to_mod (by omega) ?_
          rw [Int.natCast_mul, Int.natCast_mul]
          refine ⟨2 * (r : Int) - p, ?_⟩
          rw [Int.ofNat_sub (by omega)]
          grind
        obtain ⟨i, hi, hT⟩ := hC hon
        have hlt : i % n < n := Nat.mod_lt _ (by have := G.good.h1; omega)
        obtain ⟨x', y', e1, e2, _⟩ := E.opp i (n - i % n) (by rw [← Nat.mod_add_mod, show i % n + (n - i % n) = n from by omega, Nat.mod_self]) hi
        rw [hT] at e1
        injection e1 with a1 a2
        injection a2 with a2 _
        subst a1; subst a2
        exact .inr ⟨n - i % n, p - r, by rw [Nat.mod_eq_of_lt (by omega)]; omega, e2, L⟩
end Go.Proofs.YtpdhbddkcnffbaaDoor
