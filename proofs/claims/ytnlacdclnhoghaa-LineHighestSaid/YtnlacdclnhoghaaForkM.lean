/- Trees of blocks in plain terms: parents, heights, lines, and what is best. No program in sight. No conditions. -/
import Derived.Test.YtnlacdclnhoghaaFlat
namespace Go.Proofs.Ytnlacdclnhoghaa
open Go.RowKit Go.Lib
set_option linter.unusedVariables false

/-- parents and heights of n blocks -/
structure Tw (n : Nat) (p h : Nat → Nat) : Prop where
  pos : 0 < n
  zero : h 0 = 0
  up : ∀ i, 0 < i → i < n → p i < i ∧ h i = h (p i) + 1
/-- the line to a block -/
def lin (p : Nat → Nat) (b : Nat) : List Nat := if h : b = 0 then [0] else lin p (min (p b) (b - 1)) ++ [b]
termination_by b
decreasing_by omega
theorem lin_zero (p : Nat → Nat) : lin p 0 = [0] := by rw [lin]; simp
theorem lin_up {n : Nat} {p h : Nat → Nat} (w : Tw n p h) (b : Nat) (h0 : 0 < b) (hb : b < n) : lin p b = lin p (p b) ++ [b] := by
  have := (w.up b h0 hb).1
  rw [lin, dif_neg (by omega), Nat.min_eq_left (by omega)]
theorem lin_le (p : Nat → Nat) : ∀ (b i : Nat), i ∈ lin p b → i ≤ b := by
  intro b
  induction b using Nat.strongRecOn with
  | ind b ih =>
    intro i hi
    rw [lin] at hi
    split at hi
    · simp at hi; omega
    · rcases List.mem_append.1 hi with h | h
      · have := ih _ (by omega) i h; omega
      · simp at h; omega
theorem lin_self (p : Nat → Nat) (b : Nat) : b ∈ lin p b := by
  rw [lin]; split
  · simp; assumption
  · simp
theorem lin_ext {p q : Nat → Nat} (n : Nat) (h : ∀ i, i < n → p i = q i) : ∀ b, b < n → lin p b = lin q b := by
  intro b
  induction b using Nat.strongRecOn with
  | ind b ih =>
    intro hb
    rw [lin, lin.eq_def q]
    split
    · rfl
    · rw [h b hb, ih _ (by omega) (by omega)]
theorem lin_step {n : Nat} {p h : Nat → Nat} (w : Tw n p h) (b r : Nat) (hr : r < b) (hb : b < n) : r ∈ lin p b ↔ r ∈ lin p (p b) := by
  rw [lin_up w b (by omega) hb, List.mem_append]
  constructor
  · rintro (h | h)
    · exact h
    · simp at h; omega
  · exact .inl
/-- who lies on a line, of him the line begins with his -/
theorem lin_pre {n : Nat} {p h : Nat → Nat} (w : Tw n p h) (r : Nat) : ∀ b, b < n → r ∈ lin p b → lin p r <+: lin p b := by
  intro b
  induction b using Nat.strongRecOn with
  | ind b ih =>
    intro hb hr
    rcases Nat.lt_trichotomy r b with h1 | h1 | h1
    · have hp := (w.up b (by omega) hb).1
      have := ih (p b) hp (by omega) ((lin_step w b r h1 hb).1 hr)
      rw [lin_up w b (by omega) hb]
      exact this.trans (List.prefix_append _ _)
    · subst h1; exact List.prefix_refl _
    · have := lin_le p b r hr; omega
theorem lin_len {n : Nat} {p h : Nat → Nat} (w : Tw n p h) : ∀ b, b < n → (lin p b).length = h b + 1 := by
  intro b
  induction b using Nat.strongRecOn with
  | ind b ih =>
    intro hb
    by_cases h0 : b = 0
    · subst h0; rw [lin_zero, w.zero]; rfl
    · have hp := w.up b (by omega) hb
      rw [lin_up w b (by omega) hb, List.length_append, ih _ hp.1 (by omega), hp.2]; rfl
theorem lin_ht {n : Nat} {p h : Nat → Nat} (w : Tw n p h) : ∀ b, b < n → ∀ i c, (lin p b)[i]? = some c → h c = i ∧ c < n ∧ c ∈ lin p b := by
  intro b
  induction b using Nat.strongRecOn with
  | ind b ih =>
    intro hb i c hc
    refine ⟨?_, by have := lin_le p b c (List.mem_of_getElem? hc); omega, List.mem_of_getElem? hc⟩
    by_cases h0 : b = 0
    · subst h0; rw [lin_zero] at hc
      cases i with
      | zero => simp at hc; subst hc; exact w.zero
      | succ i => simp at hc
    · have hp := w.up b (by omega) hb
      have hl := lin_len w (p b) (by omega)
      rw [lin_up w b (by omega) hb, List.getElem?_append] at hc
      split at hc
      · exact (ih _ hp.1 (by omega) i c hc).1
      · rename_i hi
        have : i - (lin p (p b)).length = 0 := by
          rcases Nat.eq_zero_or_pos (i - (lin p (p b)).length) with h | h
          · exact h
          · rw [List.getElem?_eq_none (by simp; omega)] at hc; cases hc
        rw [this] at hc
        simp at hc; subst hc
        omega
theorem lin_par {n : Nat} {p h : Nat → Nat} (w : Tw n p h) : ∀ b, b < n → ∀ i c d, (lin p b)[i]? = some c → (lin p b)[i + 1]? = some d → 0 < d ∧ p d = c := by
  intro b
  induction b using Nat.strongRecOn with
  | ind b ih =>
    intro hb i c d hc hd
    by_cases h0 : b = 0
    · subst h0; rw [lin_zero] at hd; simp at hd
    · have hp := w.up b (by omega) hb
      have hl := lin_len w (p b) (by omega)
      have hlb := lin_len w b hb
      rw [lin_up w b (by omega) hb] at hc hd
      have hi : i + 1 < (lin p (p b) ++ [b]).length := (List.getElem?_eq_some_iff.1 hd).1
      rw [List.length_append] at hi
      simp only [List.length_cons, List.length_nil] at hi
      rw [List.getElem?_append_left (by omega)] at hc
      rcases Nat.lt_or_ge (i + 1) (lin p (p b)).length with h1 | h1
      · rw [List.getElem?_append_left h1] at hd
        exact ih _ hp.1 (by omega) i c d hc hd
      · rw [List.getElem?_append_right h1, show i + 1 - (lin p (p b)).length = 0 from by omega] at hd
        simp at hd; subst hd
        refine ⟨by omega, ?_⟩
        -- c is the last one of p b's line
        have hm := lin_ht w (p b) (by omega) i c hc
        have hlast : (lin p (p b))[i]? = some (p b) := by
          by_cases h00 : p b = 0
          · rw [h00, lin_zero] at hl ⊢
            rw [h00, lin_zero] at h1
            simp at h1
            rw [h00, lin_zero] at hc
            cases i with
            | zero => rfl
            | succ i => simp at hc
          · have hpp := w.up (p b) (by omega) (by omega)
            have hl2 := lin_len w (p (p b)) (by omega)
            rw [lin_up w (p b) (by omega) (by omega)]
            rw [lin_up w (p b) (by omega) (by omega), List.length_append] at h1 hl
            simp only [List.length_cons, List.length_nil] at h1 hl
            rw [lin_up w (p b) (by omega) (by omega)] at hc
            have hlt := (List.getElem?_eq_some_iff.1 hc).1
            rw [List.length_append] at hlt
            simp only [List.length_cons, List.length_nil] at hlt
            rw [List.getElem?_append_right (by omega), show i - (lin p (p (p b))).length = 0 from by omega]
            rfl
        rw [hlast] at hc
        injection hc

/-- the best one of those that stand on f -/
structure Best (n : Nat) (p h : Nat → Nat) (f b : Nat) : Prop where
  lt : b < n
  on : f ∈ lin p b
  top : ∀ i, i < n → f ∈ lin p i → h i ≤ h b ∧ (i < b → h i < h b)
theorem Best.one {n : Nat} {p h : Nat → Nat} {f b c : Nat} (x : Best n p h f b) (y : Best n p h f c) : b = c := by
  have h1 := x.top c y.lt y.on
  have h2 := y.top b x.lt x.on
  rcases Nat.lt_trichotomy b c with h | h | h
  · have := h2.2 h; omega
  · exact h
  · have := h1.2 h; omega
/-- a tree that may be -/
structure Tr (n : Nat) (p h : Nat → Nat) (b f : Nat) : Prop where
  w : Tw n p h
  fl : f < n
  best : Best n p h f b

def up1 (f : Nat → Nat) (i n : Nat) : Nat → Nat := fun j => if j = i then n else f j
theorem up1_at (f : Nat → Nat) (i n : Nat) : up1 f i n i = n := by simp [up1]
theorem up1_no (f : Nat → Nat) (i n j : Nat) (h : j ≠ i) : up1 f i n j = f j := by simp [up1, h]
theorem Tw.grow {n : Nat} {p h : Nat → Nat} (w : Tw n p h) (q : Nat) (hq : q < n) : Tw (n + 1) (up1 p n q) (up1 h n (h q + 1)) where
  pos := by omega
  zero := by have := w.pos; rw [up1_no _ _ _ _ (by omega)]; exact w.zero
  up := fun i h0 hi => by
    rcases Nat.lt_or_ge i n with h | h
    · have := w.up i h0 h
      rw [up1_no _ _ _ _ (by omega), up1_no _ _ _ _ (by omega), up1_no _ _ _ _ (by omega)]
      exact this
    · have : i = n := by omega
      subst this
      rw [up1_at, up1_at, up1_no _ _ _ _ (by omega)]
      exact ⟨hq, rfl⟩
theorem lin_old {n : Nat} {p : Nat → Nat} (q i : Nat) (hi : i < n) : lin (up1 p n q) i = lin p i := lin_ext n (fun j hj => up1_no _ _ _ _ (by omega)) i hi
theorem lin_new {n : Nat} {p h : Nat → Nat} (w : Tw n p h) (q : Nat) (hq : q < n) : lin (up1 p n q) n = lin p q ++ [n] := by
  rw [lin_up (w.grow q hq) n w.pos (by omega), up1_at, lin_old q q hq]
theorem Tr.grow {n : Nat} {p h : Nat → Nat} {b f : Nat} (t : Tr n p h b f) (q : Nat) (hq : q < n) (hf : f ∈ lin p q) : Tr (n + 1) (up1 p n q) (up1 h n (h q + 1)) (if h b < h q + 1 then n else b) f where
  w := t.w.grow q hq
  fl := by have := t.fl; omega
  best := by
    have hb := t.best.lt
    have hfl := t.fl
    refine ⟨by split <;> omega, ?_, fun i hi hon => ?_⟩
    · split
      · rw [lin_new t.w q hq]; simp [hf]
      · rw [lin_old q b hb]; exact t.best.on
    · rcases Nat.lt_or_ge i n with h1 | h1
      · rw [lin_old q i h1] at hon
        have := t.best.top i h1 hon
        rw [up1_no h n _ i (by omega)]
        split
        · rw [up1_at]; omega
        · rw [up1_no h n _ b (by omega)]; exact this
      · have : i = n := by omega
        subst this
        rw [up1_at]
        split
        · rw [up1_at]; omega
        · rw [up1_no h i _ b (by omega)]; omega
theorem Tr.settle {n : Nat} {p h : Nat → Nat} {b f : Nat} (t : Tr n p h b f) (k g : Nat) (hk : h f ≤ k) (hg : (lin p b)[k]? = some g) : Tr n p h b g ∧ f ∈ lin p g := by
  have hgt := lin_ht t.w b t.best.lt k g hg
  -- f lies on g's line
  have hfg : f ∈ lin p g := by
    have pf := lin_pre t.w f b t.best.lt t.best.on
    have pg := lin_pre t.w g b t.best.lt hgt.2.2
    have lf := lin_len t.w f t.fl
    have lg := lin_len t.w g hgt.2.1
    have := List.prefix_of_prefix_length_le pf pg (by omega)
    exact this.subset (lin_self p f)
  refine ⟨⟨t.w, hgt.2.1, t.best.lt, hgt.2.2, fun i hi hon => t.best.top i hi ?_⟩, hfg⟩
  exact (lin_pre t.w g i hi hon).subset hfg

/-! as data -/
def pI (p : Nat → Nat) (i : Nat) : Int := if i = 0 then -1 else (p i : Int)
def blk (x : Int × Nat) : List D := [.int .i64 x.1, .int .i64 x.2, .slice .nil 0 []]
def tl (n : Nat) (p h : Nat → Nat) : List (Int × Nat) := (List.range n).map fun i => (pI p i, h i)
def blks (l : List (Int × Nat)) : List D := l.flatMap blk
theorem blks_len (l : List (Int × Nat)) : (blks l).length = l.length * 3 := fl_len (f := blk) (s := 3) (fun _ => rfl) l
theorem tl_len (n : Nat) (p h : Nat → Nat) : (tl n p h).length = n := by simp [tl]
theorem tl_get (n : Nat) (p h : Nat → Nat) (i : Nat) (hi : i < n) : (tl n p h)[i]? = some (pI p i, h i) := by simp [tl, hi]
theorem tl_grow (n : Nat) (p h : Nat → Nat) (q : Nat) (h0 : 0 < n) (k : Nat) : tl (n + 1) (up1 p n q) (up1 h n k) = tl n p h ++ [((q : Int), k)] := by
  unfold tl
  rw [List.range_succ, List.map_append]
  congr 1
  · refine List.map_congr_left fun i hi => ?_
    have := List.mem_range.1 hi
    unfold pI
    rw [up1_no _ _ _ _ (by omega), up1_no _ _ _ _ (by omega)]
  · simp [pI, up1]; omega
/-- a tree's data -/
def trD (n : Nat) (p h : Nat → Nat) (b f : Nat) : List D := [.slice .frozen n (blks (tl n p h)), .int .i64 b, .int .i64 f]
def il (l : List Nat) : List D := l.map fun (i : Nat) => D.int .i64 (i : Int)
theorem il_len (l : List Nat) : (il l).length = l.length := by simp [il]
end Go.Proofs.Ytnlacdclnhoghaa
