/- What a law's row opens, of any seat: all memory as data; where elements lie. No conditions. -/
import Derived.Test.YtnlacdclnhoghaaRow
import Derived.Test.YtnlacdclnhoghaaFlat
import Derived.Deep.Slices
namespace Go.Proofs.Ytnlacdclnhoghaa
open Go.ChangeShapes Go.WideShapes Go.RowKit Go.Joins Go.Deep
set_option linter.unusedVariables false

/-- all memory that is there, as data -/
def allhw (w : World) : Nat → Nat := fun b => match w.heap[b]? with | some (.cells vs _ _) => vs.size | _ => 0
theorem allhw_ok (w : World) : HwOk (allhw w) w := fun b hb => by
  unfold allhw at hb ⊢
  cases h : w.heap[b]? with
  | none => rw [h] at hb; simp at hb
  | some o => cases o with
    | cells vs T fr => exact ⟨vs, T, fr, rfl, Nat.le_refl _⟩
    | _ => rw [h] at hb; simp at hb

theorem rowAt_le {P : Program} {fits : TypeId → Bool} {d : Nat} {e : TypeId} {count off n : Nat} (h : rowAt P fits d e count off n = true) : off ≤ count * P.cellsOf e := by
  cases d with
  | zero => simp [rowAt] at h
  | succ d =>
    unfold rowAt at h
    simp only at h
    split at h
    · cases h
    · rename_i hs
      have hs : 0 < P.cellsOf e := by omega
      have hd := Nat.div_add_mod off (P.cellsOf e)
      have hm := Nat.mod_lt off hs
      simp only [Bool.or_eq_true, Bool.and_eq_true, beq_iff_eq, decide_eq_true_iff] at h
      rcases h with ⟨⟨h1, h2⟩, _⟩ | ⟨h1, _⟩
      · have : off / P.cellsOf e * P.cellsOf e ≤ count * P.cellsOf e := Nat.mul_le_mul_right _ (by omega)
        rw [Nat.mul_comm] at hd; omega
      · have : (off / P.cellsOf e + 1) * P.cellsOf e ≤ count * P.cellsOf e := Nat.mul_le_mul_right _ h1
        rw [Nat.add_mul] at this
        rw [Nat.mul_comm] at hd; omega
theorem liesAt_le {P : Program} : ∀ {d : Nat} {e : TypeId} {count off : Nat} {u : TypeId} {n : Nat}, liesAt P d e count off u n = true → off ≤ count * P.cellsOf e
  | 0, _, _, _, _, _, h => by simp [liesAt] at h
  | d + 1, e, count, off, u, n, h => by
    unfold liesAt at h
    simp only [Bool.or_eq_true] at h
    rcases h with h | h
    · exact rowAt_le h
    · split at h
      · exact liesAt_le h
      · cases h

/-- a law's walk, whatever data it is told of -/
theorem calls_of_purS {F : FuncId} {ds : List D} {vs : Array Value} {w : World} (h : Pur Try.prog F ds (.bool true)) (hr : Reps (bare (allhw w)) w ds vs) (hg : GTab w [] := by exact gtab_nil _) : Calls Try.prog F vs w fun e w' => e = .returned (.bool true) ∧ New w w' :=
  (h w (allhw w) vs hg (allhw_ok w) hr).mono fun e w' ⟨v, hw', he, hN, _, _, hrv⟩ => by cases hrv; exact ⟨he, hN⟩
end Go.Proofs.Ytnlacdclnhoghaa
