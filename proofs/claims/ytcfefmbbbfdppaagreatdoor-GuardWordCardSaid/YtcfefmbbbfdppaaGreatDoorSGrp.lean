/- The points of a small curve add as their numbers do: from the table to the program's 'add'. Conditions: the table's checks. -/
import Derived.Test.YtcfefmbbbfdppaaGreatDoorSGrpM
namespace Go.Proofs.YtcfefmbbbfdppaaGreatDoor
open Go.RowKit
set_option linter.unusedVariables false
set_option maxRecDepth 100000
structure Grp (p b n gx gy : Nat) (T : Nat → P3) : Prop where
  good : Good p 0 b n gx gy
  hn : n < 9223372036854775808
  t0 : T 0 = (0, 0, true)
  t1 : T 1 = (gx, gy, false)
  per : ∀ i, T (i % n) = T i
  on : ∀ i, OnP p 0 b (T i)
  fin : ∀ i, i % n ≠ 0 → (T i).2.2 = false
  add : ∀ i j, AddP p 0 b n gx gy (T i) (T j) (T (i + j))
open GM in
theorem grp_of {p b n gx gy : Nat} {F : List Pt} (g : Good p 0 b n gx gy) (hc : check p 0 b n gx gy F = true) (hr : ∀ (i : Nat) (q : Pt), F[i]? = some q → ∃ x y, q = some (x, y) ∧ row p 0 x y F ((F.tail ++ (none :: F)).drop i) = true) (hn : n < 9223372036854775808) : Grp p b n gx gy (GM.T F n) := by
  have hp := g.hp
  have h3 := g.h3
  have h0 : 0 < p := by omega
  have h1n := g.h1
  unfold check at hc
  simp only [Bool.and_eq_true] at hc
  obtain ⟨⟨⟨hlen, hhd⟩, hon⟩, hinv⟩ := hc
  have hlen := Nat.eq_of_beq_eq_true hlen
  have hF : ∀ i, i % n ≠ 0 → ∃ x y, F[i % n - 1]? = some (some (x, y)) ∧ GM.T F n i = (x, y, false) ∧ x < p ∧ y < p ∧ y * y % p = sideM p 0 b x ∧ row p 0 x y F ((F.tail ++ (none :: F)).drop (i % n - 1)) = true := by
    intro i hi
    have hlt : i % n < n := Nat.mod_lt _ (by omega)
    have hq : F[i % n - 1]? = some (F[i % n - 1]'(by omega)) := List.getElem?_eq_getElem _
    obtain ⟨x, y, e, hx, hy, hs⟩ := onM_at hon _ _ hq
    obtain ⟨x', y', e', hrow⟩ := hr _ _ hq
    rw [e] at e'
    injection e' with e'
    injection e' with e1 e2
    subst e1; subst e2
    rw [e] at hq
    exact ⟨x, y, hq, by unfold GM.T; rw [if_neg hi, hq], hx, hy, hs, hrow⟩
  have hT0 : ∀ i, i % n = 0 → GM.T F n i = (0, 0, true) := fun i hi => by unfold GM.T; rw [if_pos hi]
  have hper : ∀ i j, i % n = j % n → GM.T F n i = GM.T F n j := fun i j h => by unfold GM.T; rw [h]
  have hop : ∀ i, OnP p 0 b (GM.T F n i) := by
    intro i
    by_cases hi : i % n = 0
    · exact .inl (hT0 i hi)
    · obtain ⟨x, y, _, e, hx, hy, hs, _⟩ := hF i hi
      rw [e]
      exact .inr ⟨rfl, hx, hy, decide_eq_true hs⟩
  refine ⟨g, hn, hT0 0 (Nat.zero_mod _), ?_, fun i => hper _ _ (Nat.mod_mod _ _), hop, ?_, ?_⟩
  · have h1 : 1 % n = 1 := Nat.mod_eq_of_lt h1n
    unfold GM.T
    rw [if_neg (by omega), h1]
    cases F with
    | nil => simp at hhd
    | cons q F =>
      cases q with
      | none => simp at hhd
      | some v =>
        simp only [Bool.and_eq_true] at hhd
        simp only [Nat.sub_self, List.getElem?_cons_zero]
        rw [Nat.eq_of_beq_eq_true hhd.1, Nat.eq_of_beq_eq_true hhd.2]
  · intro i hi
    obtain ⟨x, y, _, e, _⟩ := hF i hi
    rw [e]
  · intro i j
    by_cases hi : i % n = 0
    · rw [hT0 i hi, hper (i + j) j (by rw [Nat.add_mod, hi, Nat.zero_add, Nat.mod_mod])]
      exact add_farL p 0 b n gx gy 0 0 _
    · obtain ⟨x1, y1, q1, e1, hx1, hy1, _, hrow⟩ := hF i hi
      by_cases hj : j % n = 0
      · rw [hper (i + j) i (by rw [Nat.add_mod, hj, Nat.add_zero, Nat.mod_mod]), hT0 j hj, e1]
        exact add_farR p 0 b n gx gy x1 y1 0 0
      · obtain ⟨x2, y2, q2, e2, hx2, hy2, _, _⟩ := hF j hj
        obtain ⟨s, hs, ho⟩ := row_at hrow _ _ q2
        rw [List.getElem?_drop] at hs
        have hi' : i % n < n := Nat.mod_lt _ (by omega)
        have hj' : j % n < n := Nat.mod_lt _ (by omega)
        have hlt : F.tail.length = n - 2 := by rw [List.length_tail]; omega
        have hS : (s = none ∧ (i + j) % n = 0) ∨ ∃ x3 y3, s = some (x3, y3) ∧ GM.T F n (i + j) = (x3, y3, false) ∧ x3 < p ∧ y3 < p := by
          have hmod : (i + j) % n = (i % n + j % n) % n := Nat.add_mod _ _ _
          have fin : ∀ t, (i + j) % n = t → t ≠ 0 → F[t - 1]? = some s → ∃ x3 y3, s = some (x3, y3) ∧ GM.T F n (i + j) = (x3, y3, false) ∧ x3 < p ∧ y3 < p := by
            intro t ht ht0 hst
            obtain ⟨x3, y3, q3, e3, hx3, hy3, _⟩ := hF (i + j) (by omega)
            rw [ht, hst] at q3
            injection q3 with q3
            exact ⟨x3, y3, q3, e3, hx3, hy3⟩
          rw [List.getElem?_append, hlt] at hs
          by_cases c1 : i % n + j % n < n
          · rw [if_pos (by omega)] at hs
            right
            refine fin (i % n + j % n) (by rw [hmod, Nat.mod_eq_of_lt c1]) (by omega) ?_
            rw [← List.drop_one, List.getElem?_drop, show 1 + (i % n - 1 + (j % n - 1)) = i % n + j % n - 1 from by omega] at hs
            exact hs
          · rw [if_neg (by omega)] at hs
            by_cases c2 : i % n + j % n = n
            · rw [show i % n - 1 + (j % n - 1) - (n - 2) = 0 from by omega] at hs
              simp at hs
              exact .inl ⟨hs.symm, by rw [hmod, c2, Nat.mod_self]⟩
            · rw [show i % n - 1 + (j % n - 1) - (n - 2) = (i % n + j % n - n - 1) + 1 from by omega, List.getElem?_cons_succ] at hs
              right
              exact fin (i % n + j % n - n) (by rw [hmod, Nat.mod_eq_sub_mod (by omega), Nat.mod_eq_of_lt (by omega)]) (by omega) hs
        have hinv' : ∀ d, d < p → d ≠ 0 → (d ^ (p - 2) % p) * d % p = 1 := fun d hd hd0 => invs_at hinv d hd hd0
        have h1p : 1 % p = 1 := Nat.mod_eq_of_lt (by omega)
        rw [e1, e2]
        rcases hS with ⟨rfl, hz⟩ | ⟨x3, y3, rfl, e3, hx3, hy3⟩
        · rw [hT0 _ hz]
          simp only [one, Bool.and_eq_true] at ho
          have hx := Nat.eq_of_beq_eq_true ho.1
          subst hx
          exact add_opp p 0 b n gx gy x1 y1 y2 hp h3 hx1 hy1 hy2 (Nat.eq_of_beq_eq_true ho.2)
        · rw [e3]
          have hoo : cond (Nat.beq x1 x2) (Nat.beq y1 y2 && GM.dbl p 0 x1 y1 x3 y3) (GM.gen p x1 y1 x2 y2 x3 y3) = true := ho
          clear ho
          rcases Bool.eq_false_or_eq_true (Nat.beq x1 x2) with hb | hb
          · simp only [hb, cond_true, Bool.and_eq_true] at hoo
            have hx := Nat.eq_of_beq_eq_true hb
            have hy := Nat.eq_of_beq_eq_true hoo.1
            subst hx; subst hy
            have hd := hoo.2
            unfold GM.dbl at hd
            simp only [Bool.and_eq_true, Bool.not_eq_true'] at hd
            have hD0 : (y1 + y1) % p ≠ 0 := fun e => by rw [e] at hd; simp at hd
            have hi := hinv' _ (Nat.mod_lt (y1 + y1) h0) hD0
            obtain ⟨c3, c4⟩ := cross (i := ((y1 + y1) % p) ^ (p - 2) % p) h0 (Nat.le_of_lt hx1) (Nat.le_of_lt hx1) hx3 (Nat.le_of_lt hy1) hy3 (by
              have := Eqm.of_mod (p := p) (a := ((y1 + y1) % p) ^ (p - 2) % p * ((y1 + y1) % p)) (b := 1) (by rw [hi, h1p])
              rwa [Int.natCast_mul] at this) rfl (Nat.eq_of_beq_eq_true hd.1.2) (Nat.eq_of_beq_eq_true hd.2)
            exact add_dbl p 0 b n gx gy x1 y1 _ _ x3 y3 hp h3 (by omega) hx1 hy1 hD0 (Nat.mod_lt _ h0) (by rw [hi, h1p]) (gcd_of_inv hi) rfl c3 c4
          · simp only [hb, cond_false] at hoo
            unfold GM.gen at hoo
            simp only [Bool.and_eq_true] at hoo
            have hne : x1 ≠ x2 := fun e => by rw [e, Nat.beq_refl] at hb; cases hb
            have hD0 : (x2 + p - x1) % p ≠ 0 := by
              intro e
              rcases Nat.lt_or_ge x1 x2 with h | h
              · rw [show x2 + p - x1 = (x2 - x1) + p from by omega, Nat.add_mod_right, Nat.mod_eq_of_lt (by omega)] at e; omega
              · rw [Nat.mod_eq_of_lt (by omega)] at e; omega
            have hi := hinv' _ (Nat.mod_lt (x2 + p - x1) h0) hD0
            obtain ⟨c3, c4⟩ := cross (i := ((x2 + p - x1) % p) ^ (p - 2) % p) h0 (Nat.le_of_lt hx1) (Nat.le_of_lt hx2) hx3 (Nat.le_of_lt hy1) hy3 (by
              have := Eqm.of_mod (p := p) (a := ((x2 + p - x1) % p) ^ (p - 2) % p * ((x2 + p - x1) % p)) (b := 1) (by rw [hi, h1p])
              rwa [Int.natCast_mul] at this) rfl (Nat.eq_of_beq_eq_true hoo.1) (Nat.eq_of_beq_eq_true hoo.2)
            exact add_gen p 0 b n gx gy x1 y1 x2 y2 _ _ x3 y3 hp h3 hx1 hy1 hx2 hy2 hne (Nat.mod_lt _ h0) (by rw [hi, h1p]) (gcd_of_inv hi) rfl c3 c4
end Go.Proofs.YtcfefmbbbfdppaaGreatDoor
