/- Coins in plain terms: who has how much, the first ones first. No program in sight. -/
import Derived.Test.YthbkfohdphfgaaaBytes
import Derived.Test.YthbkfohdphfgaaaDNum
import Derived.Test.YthbkfohdphfgaaaFlat
namespace Go.Proofs.Ythbkfohdphfgaaa
open Go.RowKit Go.Lib
set_option linter.unusedVariables false

/-- somebody's name: one of 256 -/
def who (i : Nat) : List UInt8 := 1 :: (List.replicate 30 0 ++ [UInt8.ofNat i])
theorem who_len (i : Nat) : (who i).length = 32 := by simp [who]
theorem cmpb_same (x : UInt8) (a b : List UInt8) : compareBytes (x :: a) (x :: b) = compareBytes a b := by
  have h : ¬ x < x := UInt8.lt_irrefl x
  rw [compareBytes, if_neg h, if_neg h]
theorem cmpb_app (l a b : List UInt8) : compareBytes (l ++ a) (l ++ b) = compareBytes a b := by
  induction l with
  | nil => rfl
  | cons x l ih => rw [List.cons_append, List.cons_append, cmpb_same, ih]
theorem who_cmp (i j : Nat) (hi : i < 256) (hj : j < 256) : compareBytes (who i) (who j) = if i < j then -1 else if j < i then 1 else 0 := by
  unfold who
  rw [cmpb_same, cmpb_app, compareBytes]
  have e1 : (UInt8.ofNat i < UInt8.ofNat j) ↔ i < j := by
    rw [UInt8.lt_iff_toNat_lt, UInt8.toNat_ofNat', UInt8.toNat_ofNat', Nat.mod_eq_of_lt hi, Nat.mod_eq_of_lt hj]
  have e2 : (UInt8.ofNat j < UInt8.ofNat i) ↔ j < i := by
    rw [UInt8.lt_iff_toNat_lt, UInt8.toNat_ofNat', UInt8.toNat_ofNat', Nat.mod_eq_of_lt hi, Nat.mod_eq_of_lt hj]
  simp only [e1, e2]
  rfl

/-- what is held: by whom, how much -/
abbrev Hold := Nat × Nat
def hold (h : Hold) : List D := bs (who h.1) ++ ud h.2
theorem hold_len (h : Hold) : (hold h).length = 36 := by simp [hold, bs_len, who_len, ud]
def hds (l : List Hold) : List D := l.flatMap hold
theorem hds_len (l : List Hold) : (hds l).length = l.length * 36 := fl_len (f := hold) (s := 36) hold_len l
/-- a coin -/
def cnD (s : Nat) (l : List Hold) : List D := ud s ++ [.slice .frozen l.length (hds l)]
def tot (l : List Hold) : Nat := (l.map (·.2)).sum
/-- a coin that may be -/
structure CoinOk (l : List Hold) : Prop where
  sorted : l.Pairwise fun a b => a.1 < b.1
  pos : ∀ h ∈ l, 0 < h.2 ∧ h.1 < 256
  few : l.length ≤ 40
  sum : tot l < M256
end Go.Proofs.Ythbkfohdphfgaaa
