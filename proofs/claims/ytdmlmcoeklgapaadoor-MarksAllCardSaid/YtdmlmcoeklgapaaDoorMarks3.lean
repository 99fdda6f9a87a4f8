/- seen.All over data: of a page it makes the list of its marks. Condition: words of 64 bits. -/
import Derived.Test.YtdmlmcoeklgapaaDoorMarks2
import Derived.Test.YtdmlmcoeklgapaaDoorSeen
namespace Go.Proofs.YtdmlmcoeklgapaaDoor
open Go.RowKit
set_option linter.unusedVariables false

/-- the marks as data -/
def mds (l : List Nat) : List D := l.map fun i : Nat => D.int .i64 (i : Int)
theorem tabM_of {w : World} (h : GTab w []) : TabM w ∧ 0 < w.heap.size := by
  obtain ⟨_, E, fr, e⟩ := h _ (List.mem_singleton.2 rfl)
  refine ⟨fun j hj => ?_, (Array.getElem?_eq_some_iff.1 e).1⟩
  have hj' : j < 64 := hj
  have key : ∀ j : Fin 64, (Go.Lib.deBruijn64tab.map fun z : Nat => Value.int .u8 (z : Int))[j.1]? = some (.int .u8 ((Go.Lib.deBruijn64tab.getD j.1 0 : Nat) : Int)) := by
    intro j; rw [List.getElem?_map, List.getD_eq_getElem?_getD]
    obtain ⟨x, hx⟩ : ∃ x, Go.Lib.deBruijn64tab[j.1]? = some x := ⟨_, List.getElem?_eq_getElem (by exact j.2)⟩
    rw [hx]; rfl
  have hc : w.cell? ⟨0, j, none⟩ = (Go.Lib.deBruijn64tab.map fun z : Nat => Value.int .u8 (z : Int))[j]? := by
    unfold World.cell?
    simp only [e]
    rw [List.getElem?_toArray]
    rfl
  rw [hc]
  exact key ⟨j, hj'⟩
theorem vals_pg (X : Nat → Nat) : D.vals [.agg (pg X)] = some [.agg #[.int .u64 (X 0), .int .u64 (X 1), .int .u64 (X 2), .int .u64 (X 3)]] := rfl
theorem All_ok (X : Nat → Nat) (hX : ∀ k, X k < 18446744073709551616) : Pur Tryd.prog 4 [.agg (pg X)] (.slice .frozen (allq X).length (mds (allq X))) := by
  intro w hw xs hG hok hr
  obtain ⟨hT, hg⟩ := tabM_of hG
  have hx : xs = #[.agg #[.int .u64 (X 0), .int .u64 (X 1), .int .u64 (X 2), .int .u64 (X 3)]] := by
    obtain ⟨e1, e2⟩ := D.vals_at (vals_pg X)
    have hsz := hr.1
    apply Array.ext_getElem?
    intro i
    by_cases hi : i < 1
    · obtain rfl : i = 0 := by omega
      have h2 : xs[0]? = some (xs[0]'(by simp at hsz; omega)) := Array.getElem?_eq_getElem (by simp at hsz; omega)
      rw [h2, (hr.2 0 _ _ rfl h2).val_eq (e2 0 _ _ rfl rfl)]
      rfl
    · rw [Array.getElem?_eq_none (by simp at hsz; omega), Array.getElem?_eq_none (by simp; omega)]
  subst hx
  refine (callsIn_wide.1 (All_in 3 (by omega) X hX w hT hg)).mono ?_
  rintro e w' ⟨v, rfl, hown, hB⟩
  rw [pageL_all] at hown
  have hN : New w w' := ⟨hB.os, hB.tape, hB.output, hB.size, hB.block⟩
  have hok' : ∀ b, 0 < hw b → ∃ vs T fr, w'.heap[b]? = some (.cells vs T fr) ∧ hw b ≤ vs.size := fun b hb => by
    obtain ⟨ws, T, fr, hv, hs⟩ := hok b hb
    exact ⟨ws, T, fr, (hN.block _ (Array.getElem?_eq_some_iff.1 hv).1).trans hv, hs⟩
  show ∃ v0 hw', _
  obtain ⟨_, ⟨rfl, h0⟩ | ⟨g, cap, cur, rfl, hbase, hgb, hle, _, hsz, htk⟩⟩ := hown
  · refine ⟨_, hw, rfl, hN, hok', fun _ _ => rfl, ?_⟩
    have e : allq X = [] := List.eq_nil_of_length_eq_zero h0
    rw [e]
    exact Rep.nil _
  · have hlen : (allq X).length ≤ cur.size := by rw [hsz]; unfold allq; omega
    have hg0 : hw g = 0 := Nat.eq_zero_of_not_pos fun h => by
      obtain ⟨_, _, _, hv, _⟩ := hok g h
      have := (Array.getElem?_eq_some_iff.1 hv).1
      omega
    refine ⟨_, fun b => if b = g then (allq X).length else hw b, rfl, hN, fun b hb => ?_, fun b hb => if_neg (by omega), ?_⟩
    · by_cases hbg : b = g
      · rw [hbg]
        exact ⟨cur, _, _, hgb, by dsimp only; rw [if_pos rfl]; exact hlen⟩
      · dsimp only at hb ⊢
        rw [if_neg hbg] at hb ⊢
        exact hok' b hb
    · have hgl : g < w'.heap.size := (Array.getElem?_eq_some_iff.1 hgb).1
      refine Rep.slice .frozen _ _ g 0 cap ((allq X).map fun x : Nat => Value.int .i64 x).toArray (by simp [mds]) ?_ ?_ ?_ ?_ hgl hle trivial
      · intro d hd
        obtain ⟨i, _, rfl⟩ := List.mem_map.1 hd
        exact ⟨rfl, rfl⟩
      · intro i d v hd hv
        rw [mds, List.getElem?_map] at hd
        rw [List.getElem?_toArray, List.getElem?_map] at hv
        cases h : (allq X)[i]? with
        | none => rw [h] at hd; cases hd
        | some x =>
          rw [h] at hd hv
          cases hd; cases hv
          exact .int _ _
      · show 0 + (mds (allq X)).length ≤ if g = g then _ else _
        rw [if_pos rfl]; simp [mds]
      · intro i hi
        unfold World.cell?
        simp only [hgb]
        rw [if_neg (by simp)]
        have e : cur.toList.take ((allq X).length * 1) = (allq X).map fun x : Nat => Value.int .i64 x := htk
        have hi' : i < (allq X).length * 1 := by simpa [mds] using hi
        rw [← e, Nat.zero_add]
        simp only [List.getElem?_toArray, List.getElem?_take, if_pos hi']
        simp
end Go.Proofs.YtdmlmcoeklgapaaDoor
