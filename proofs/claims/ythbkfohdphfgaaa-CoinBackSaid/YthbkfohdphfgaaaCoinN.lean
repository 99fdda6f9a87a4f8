/- Coins of six: who has how much, as a function. Plain. No conditions. -/
import Derived.Test.YthbkfohdphfgaaaCoinM
namespace Go.Proofs.Ythbkfohdphfgaaa
open Go.RowKit Go.Lib
set_option linter.unusedVariables false

/-- who of a few has something -/
def cl (f : Nat → Nat) (a : Nat) : Nat → List Hold
  | 0 => []
  | n + 1 => (if f a = 0 then [] else [(a, f a)]) ++ cl f (a + 1) n
def sm (f : Nat → Nat) (a : Nat) : Nat → Nat
  | 0 => 0
  | n + 1 => f a + sm f (a + 1) n
def upd (f : Nat → Nat) (i n : Nat) : Nat → Nat := fun j => if j = i then n else f j
theorem upd_at (f : Nat → Nat) (i n : Nat) : upd f i n i = n := by simp [upd]
theorem upd_no (f : Nat → Nat) (i n j : Nat) (h : j ≠ i) : upd f i n j = f j := by simp [upd, h]
theorem upd_same (f : Nat → Nat) (i : Nat) : upd f i (f i) = f := by funext j; unfold upd; split <;> simp_all
theorem upd_upd (f : Nat → Nat) (i n m : Nat) : upd (upd f i n) i m = upd f i m := by funext j; unfold upd; split <;> rfl
def one (i n : Nat) : List Hold := if n = 0 then [] else [(i, n)]
theorem cl_cut (f : Nat → Nat) : ∀ (n a k : Nat), cl f a (n + (k + 1)) = cl f a n ++ one (a + n) (f (a + n)) ++ cl f (a + n + 1) k
  | 0, a, k => by rw [Nat.zero_add]; rfl
  | n + 1, a, k => by
    have e : n + 1 + (k + 1) = (n + (k + 1)) + 1 := by omega
    rw [e]
    show (if f a = 0 then [] else [(a, f a)]) ++ cl f (a + 1) (n + (k + 1)) = ((if f a = 0 then [] else [(a, f a)]) ++ cl f (a + 1) n) ++ _ ++ _
    rw [cl_cut f n (a + 1) k]
    have e2 : a + 1 + n = a + (n + 1) := by omega
    rw [e2]; simp only [List.append_assoc]
theorem cl_six (f : Nat → Nat) (i : Nat) (h : i < 6) : cl f 0 6 = cl f 0 i ++ one i (f i) ++ cl f (i + 1) (5 - i) := by
  have := cl_cut f i 0 (5 - i)
  rw [Nat.zero_add] at this
  rw [show 6 = i + (5 - i + 1) from by omega]
  exact this
theorem cl_ext (f g : Nat → Nat) : ∀ (n a : Nat), (∀ j, a ≤ j → j < a + n → f j = g j) → cl f a n = cl g a n
  | 0, _, _ => rfl
  | n + 1, a, h => by
    unfold cl
    rw [h a (Nat.le_refl _) (by omega), cl_ext f g n (a + 1) (fun j h1 h2 => h j (by omega) (by omega))]
theorem cl_upd (f : Nat → Nat) (i n : Nat) (h : i < 6) : cl (upd f i n) 0 6 = cl f 0 i ++ one i n ++ cl f (i + 1) (5 - i) := by
  rw [cl_six _ i h, upd_at, cl_ext (upd f i n) f i 0 (fun j _ h => upd_no _ _ _ _ (by omega)), cl_ext (upd f i n) f (5 - i) (i + 1) (fun j h _ => upd_no _ _ _ _ (by omega))]
theorem cl_mem (f : Nat → Nat) : ∀ (n a : Nat) (h : Hold), h ∈ cl f a n → a ≤ h.1 ∧ h.1 < a + n ∧ h.2 = f h.1 ∧ 0 < h.2
  | 0, _, _, h => by simp [cl] at h
  | n + 1, a, x, h => by
    unfold cl at h
    rcases List.mem_append.1 h with h | h
    · split at h
      · simp at h
      · simp at h; subst h; simp; omega
    · have := cl_mem f n (a + 1) x h; omega
theorem cl_len (f : Nat → Nat) : ∀ (n a : Nat), (cl f a n).length ≤ n
  | 0, _ => Nat.le_refl _
  | n + 1, a => by
    have := cl_len f n (a + 1)
    unfold cl; rw [List.length_append]
    split <;> simp <;> omega
theorem cl_tot (f : Nat → Nat) : ∀ (n a : Nat), tot (cl f a n) = sm f a n
  | 0, _ => rfl
  | n + 1, a => by
    have := cl_tot f n (a + 1)
    unfold cl sm; rw [← this]
    unfold tot
    split <;> simp_all
theorem cl_sorted (f : Nat → Nat) : ∀ (n a : Nat), (cl f a n).Pairwise fun a b => a.1 < b.1
  | 0, _ => by simp [cl]
  | n + 1, a => by
    unfold cl
    rw [List.pairwise_append]
    refine ⟨by split <;> simp, cl_sorted f n (a + 1), fun x hx y hy => ?_⟩
    have := cl_mem f n (a + 1) y hy
    split at hx
    · simp at hx
    · simp at hx; subst hx; show a < y.1; omega
theorem cl_ok (f : Nat → Nat) (h : sm f 0 6 < M256) : CoinOk (cl f 0 6) where
  sorted := cl_sorted f 6 0
  pos := fun x hx => by have := cl_mem f 6 0 x hx; omega
  few := by have := cl_len f 6 0; omega
  sum := by rw [cl_tot]; exact h
theorem sm_upd (f : Nat → Nat) (i n : Nat) (h : i < 6) : sm (upd f i n) 0 6 + f i = sm f 0 6 + n := by
  obtain rfl | rfl | rfl | rfl | rfl | rfl : i = 0 ∨ i = 1 ∨ i = 2 ∨ i = 3 ∨ i = 4 ∨ i = 5 := by omega
  all_goals (simp [sm, upd] <;> omega)
theorem sm_le (f : Nat → Nat) (i : Nat) (h : i < 6) : f i ≤ sm f 0 6 := by
  obtain rfl | rfl | rfl | rfl | rfl | rfl : i = 0 ∨ i = 1 ∨ i = 2 ∨ i = 3 ∨ i = 4 ∨ i = 5 := by omega
  all_goals (simp [sm] <;> omega)
/-- the coin of six -/
def cD (f : Nat → Nat) : List D := cnD (sm f 0 6) (cl f 0 6)
end Go.Proofs.Ythbkfohdphfgaaa
