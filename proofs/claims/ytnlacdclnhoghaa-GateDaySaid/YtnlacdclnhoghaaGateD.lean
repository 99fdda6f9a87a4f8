/- Within any day not more passes than the limit says: plain. No conditions. -/
import Derived.Test.YtnlacdclnhoghaaGateQ
namespace Go.Proofs.Ytnlacdclnhoghaa
open Go.RowKit
set_option linter.unusedVariables false
set_option maxRecDepth 100000
def usedO (c n : Nat) : List PT → Nat
  | [] => 0
  | p :: r => (if p.held = false ∧ p.ch = c ∧ n - p.at_ < 24 then p.val else 0) + usedO c n r
def sumD (c t : Nat) : List PT → Nat
  | [] => 0
  | p :: r => (if p.held = false ∧ p.ch = c ∧ t ≤ p.at_ ∧ p.at_ < t + 24 then p.val else 0) + sumD c t r
theorem usedO_app (c n : Nat) : ∀ (a b : List PT), usedO c n (a ++ b) = usedO c n a + usedO c n b
  | [], b => by simp [usedO]
  | x :: a, b => by simp only [List.cons_append, usedO, usedO_app c n a b]; omega
theorem sumD_app (c n : Nat) : ∀ (a b : List PT), sumD c n (a ++ b) = sumD c n a + sumD c n b
  | [], b => by simp [sumD]
  | x :: a, b => by simp only [List.cons_append, sumD, sumD_app c n a b]; omega
theorem sumD_le (c t n : Nat) (h1 : t ≤ n) (h2 : n < t + 24) : ∀ (l : List PT), (∀ p ∈ l, p.at_ ≤ n) → sumD c t l ≤ usedO c n l
  | [], _ => Nat.le_refl _
  | p :: l, h => by
    have ih := sumD_le c t n h1 h2 l fun q hq => h q (List.mem_cons.2 (.inr hq))
    simp only [sumD, usedO]
    by_cases hc : p.held = false ∧ p.ch = c ∧ t ≤ p.at_ ∧ p.at_ < t + 24
    · rw [if_pos hc, if_pos ⟨hc.1, hc.2.1, by omega⟩]; omega
    · rw [if_neg hc]; omega
theorem used_filter (c n m : Nat) (h : m ≤ n) : ∀ (l : List QT), used c n (l.filter (fresh24 m)) = used c n l
  | [] => rfl
  | x :: l => by
    rw [List.filter_cons]
    by_cases hf : m - x.at_ < 24
    · rw [show fresh24 m x = true from decide_eq_true hf, if_pos rfl]
      simp only [used, used_filter c n m h l]
    · rw [show fresh24 m x = false from decide_eq_false hf, if_neg (by decide), used_filter c n m h l]
      simp only [used]
      rw [if_neg (fun hh => by omega)]; omega
structure DInv (g0 : GT) (past : List QT) (now : Nat) (out : List PT) : Prop where
  U : ∀ c n, now ≤ n → used c n past = usedO c n out
  W : ∀ c t, sumD c t out ≤ g0.lim c
  A : ∀ p ∈ out, p.at_ ≤ now
theorem DInv.add {g0 : GT} {past : List QT} {now : Nat} {out : List PT} (h : DInv g0 past now out) (id v c : Nat) (hl : used c now past + v ≤ g0.lim c) : DInv g0 (past ++ [⟨id, v, c, now⟩]) now (out ++ [⟨id, v, c, now, false⟩]) := by
  refine ⟨fun d n hn => ?_, fun d t => ?_, fun p hp => ?_⟩
  · rw [used_app, usedO_app, h.U d n hn]
    simp [used, usedO]
  · rw [sumD_app]
    by_cases hc : c = d ∧ t ≤ now ∧ now < t + 24
    · have h1 := sumD_le d t now hc.2.1 hc.2.2 out h.A
      rw [← h.U d now (Nat.le_refl _)] at h1
      have : sumD d t [(⟨id, v, c, now, false⟩ : PT)] = v := by simp [sumD, hc.1, hc.2.1, hc.2.2]
      rw [this, ← hc.1]
      rw [← hc.1] at h1
      omega
    · have : sumD d t [(⟨id, v, c, now, false⟩ : PT)] = 0 := by
        unfold sumD
        rw [if_neg (fun hh => hc hh.2)]; rfl
      rw [this]; exact h.W d t
  · rcases List.mem_append.1 hp with hp | hp
    · exact h.A p hp
    · rw [List.mem_singleton.1 hp]; exact Nat.le_refl _
theorem DInv.held {g0 : GT} {past : List QT} {now : Nat} {out : List PT} (h : DInv g0 past now out) (p : PT) (hp : p.held = true) (ha : p.at_ ≤ now) : DInv g0 past now (out ++ [p]) := by
  refine ⟨fun d n hn => ?_, fun d t => ?_, fun q hq => ?_⟩
  · rw [usedO_app, h.U d n hn]; simp [usedO, hp]
  · rw [sumD_app]; have := h.W d t; simp [sumD, hp]; exact this
  · rcases List.mem_append.1 hq with hq | hq
    · exact h.A q hq
    · rw [List.mem_singleton.1 hq]; exact ha
theorem opn_day (g0 : GT) (hg : Start g0) (l : List RawT) : ∀ j, j ≤ l.length → j ≤ 40 → DInv g0 (opn g0 l j).g.past (opn g0 l j).g.now (opn g0 l j).out
  | 0, _, _ => ⟨fun c n _ => by show used c n g0.past = _; rw [hg.past]; rfl, fun c t => Nat.zero_le _, fun p hp => absurd hp List.not_mem_nil⟩
  | j + 1, hj, h40 => by
    obtain ⟨r, hr⟩ : ∃ r, l[j]? = some r := ⟨_, List.getElem?_eq_getElem (by omega)⟩
    have ih := opn_day g0 hg l j (by omega) (by omega)
    have iv := opn_inv g0 hg l j (by omega) (by omega)
    rw [opn_step g0 l j r hr]
    generalize opn g0 l j = s at *
    unfold openStep
    by_cases hk : r.k % 3 = 0
    · rw [if_pos hk]
      have hlg : ∀ x ∈ s.g.queue, letgo s.ps (s.g.now + rH r) x.id = ⟨x.id, x.val, x.ch, s.g.now + rH r, decide (24 ≤ s.g.now + rH r - x.at_)⟩ := fun x hx => by
        obtain ⟨p, hp, e1, e2, e3, e4⟩ := iv.qps x hx
        have := letgo_of hp (s.g.now + rH r) iv.pnd
        rw [e1, e2, e3, e4] at this; exact this
      have := tick_fold s.g (rH r) (fun _ t => Same s.g t.1 (s.g.now + rH r) ∧ DInv g0 t.1.past (s.g.now + rH r) (s.out ++ t.2.map (letgo s.ps (s.g.now + rH r)))) ⟨⟨rfl, rfl, rfl, rfl, rfl, rfl, rfl⟩, by
        show DInv g0 (s.g.past.filter (fresh24 (s.g.now + rH r))) _ (s.out ++ [])
        rw [List.append_nil]
        exact ⟨fun c n hn => by rw [used_filter c n _ hn]; exact ih.U c n (by omega), ih.W, fun p hp => by have := ih.A p hp; omega⟩⟩ fun i t x hx ht => ⟨ht.1.step x, by
        have hl := hlg x (List.mem_of_getElem? hx)
        rcases tick_out t x with ⟨e, h2⟩ | ⟨e, h1, h2⟩ | ⟨e, _⟩ <;> rw [e]
        · show DInv g0 t.1.past _ (s.out ++ (t.2 ++ [x.id]).map _)
          rw [List.map_append, ← List.append_assoc, List.map_cons, List.map_nil, hl]
          rw [ht.1.now] at h2
          exact ht.2.held _ (decide_eq_true h2) (Nat.le_refl _)
        · show DInv g0 (t.1.past ++ [_]) _ (s.out ++ (t.2 ++ [x.id]).map _)
          rw [List.map_append, ← List.append_assoc, List.map_cons, List.map_nil, hl]
          rw [ht.1.now] at h1
          rw [decide_eq_false h1]
          obtain ⟨_, f2, _⟩ := fits_big h2
          rw [ht.1.now] at f2 ⊢
          refine ht.2.add x.id x.val x.ch ?_
          rw [ht.1.lim, iv.same.lim] at f2
          exact f2
        · exact ht.2⟩
      have hn := this.1.now
      show DInv g0 (tick s.g (rH r)).1.past (tick s.g (rH r)).1.now _
      rw [hn]; exact this.2
    · rw [if_neg hk]
      by_cases hf : s.g.fits ⟨j, rV r, rC r, s.g.now⟩ = true
      · rw [if_pos hf]
        obtain ⟨_, f2, _⟩ := fits_big hf
        refine ih.add j (rV r) (rC r) ?_
        rw [← iv.same.lim]; exact f2
      · rw [if_neg hf]
        exact ih
end Go.Proofs.Ytnlacdclnhoghaa
