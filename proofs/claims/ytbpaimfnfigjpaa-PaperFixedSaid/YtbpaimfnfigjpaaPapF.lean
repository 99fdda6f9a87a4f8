/- What was read is what is written. Plain. No conditions but bounds. -/
import Derived.Test.YtbpaimfnfigjpaaPapM
namespace Go.Proofs.Ytbpaimfnfigjpaa
open Go.RowKit Go.Lib Go.IntWalk
set_option linter.unusedVariables false
set_option maxRecDepth 100000

theorem takeE_back (y : Ey) (n : Nat) (h : (takeE y n).2.2 = true) : y.2 = true ∧ y.1 = (takeE y n).1 ++ (takeE y n).2.1 := by
  unfold takeE at h ⊢
  split at h
  · cases h
  · rename_i hn
    rw [if_neg hn]
    exact ⟨h, (List.take_append_drop n y.1).symm⟩
theorem numberE_back (y : Ey) (k : Nat) (h : (numberE y k).2.2 = true) : ∃ m : Nat, m < 256 ^ k ∧ (numberE y k).1 = IntKind.i64.wrap (m : Nat) ∧ y.2 = true ∧ y.1 = toB k m ++ (numberE y k).2.1 := by
  have hl := takeE_len y k
  obtain ⟨h1, h2⟩ := takeE_back y k h
  refine ⟨nm (takeE y k).1, ?_, rfl, h1, ?_⟩
  · have := nm_lt (takeE y k).1
    rw [hl] at this; exact this
  · rw [toB_nm k _ hl]; exact h2
/-- what cannot be seen any more is nothing -/
def Fine (y : Ey) : Prop := y.2 = false → y.1 = []
theorem Fine.take {y : Ey} (h : Fine y) (n : Nat) : Fine (takeE y n).2 := by
  unfold takeE
  split
  · intro _; rfl
  · intro k; have := h k; show y.1.drop n = []; rw [this]; simp
theorem Fine.blind {y : Ey} (h : Fine y) (n : Nat) (hf : (takeE y n).2.2 = false) : (takeE y n).1 = List.replicate n 0 := by
  unfold takeE at hf ⊢
  split at hf
  · rename_i hn; rw [if_pos hn]
  · rename_i hn; rw [if_neg hn]
    have h1 := h hf
    rw [h1] at hn ⊢
    have : n = 0 := by simp at hn; exact hn
    subst this; rfl
theorem Fine.num {y : Ey} (h : Fine y) (n : Nat) : Fine (numberE y n).2 := h.take n
theorem sgnE_back (y : Ey) (h : (sgnE y).2.2 = true) : ∃ e : SgT, e.ok ∧ (sgnE y).1 = e.i ∧ y.2 = true ∧ y.1 = e.out ++ (sgnE y).2.1 := by
  unfold sgnE at h ⊢
  dsimp only at h ⊢
  obtain ⟨o, ho, h1, h2, h3⟩ := numberE_back _ 1 h
  generalize numberE (takeE (takeE (numberE y 1).2 32).2 32).2 1 = a at *
  have l4 := takeE_len (takeE (numberE y 1).2 32).2 32
  obtain ⟨h4, h5⟩ := takeE_back _ 32 h2
  generalize takeE (takeE (numberE y 1).2 32).2 32 = c at *
  have l6 := takeE_len (numberE y 1).2 32
  obtain ⟨h6, h7⟩ := takeE_back _ 32 h4
  generalize takeE (numberE y 1).2 32 = d at *
  obtain ⟨w, hw, h8, h9, h10⟩ := numberE_back y 1 h6
  generalize numberE y 1 = f at *
  refine ⟨⟨w, nm d.1, nm c.1, o⟩, ⟨by show w ≤ 255; omega, nm_lt32 _ l6, nm_lt32 _ l4, by show o ≤ 255; omega⟩, ?_, h9, ?_⟩
  · rw [h8, h1, i64_in _ (by omega), i64_in _ (by omega)]; rfl
  · rw [h10, h7, h5, h3]
    show _ = (toB 1 w ++ b32 (nm d.1) ++ b32 (nm c.1) ++ toB 1 o) ++ a.2.1
    rw [b32_nm _ l6, b32_nm _ l4]
    simp only [List.append_assoc]
theorem sgnsE_back : ∀ (k : Nat) (y : Ey), (sgnsE k y).2.2 = true → ∃ l : List SgT, (∀ e ∈ l, e.ok) ∧ l.length = k ∧ (sgnsE k y).1 = l.map SgT.i ∧ y.2 = true ∧ y.1 = sgOut l ++ (sgnsE k y).2.1
  | 0, y, h => ⟨[], fun e he => absurd he List.not_mem_nil, rfl, rfl, h, rfl⟩
  | k + 1, y, h => by
    rw [sgnsE] at h ⊢
    dsimp only at h ⊢
    obtain ⟨e, he, h1, h2, h3⟩ := sgnE_back _ h
    obtain ⟨l, hl, h4, h5, h6, h7⟩ := sgnsE_back k y h2
    refine ⟨l ++ [e], fun x hx => ?_, by simp [h4], by rw [h5, h1]; simp, h6, ?_⟩
    · rcases List.mem_append.1 hx with hx | hx
      · exact hl x hx
      · rw [List.mem_singleton.1 hx]; exact he
    · rw [h7, h3]
      unfold sgOut
      rw [List.flatMap_append]
      simp
/-- a message whose numbers may be -/
def BodyI.fits (b : BodyI) : Prop := (0 ≤ b.t ∧ b.t ≤ 1099511627776) ∧ (0 ≤ b.n ∧ b.n ≤ 4294967295) ∧ (0 ≤ b.c ∧ b.c ≤ 65535) ∧ (0 ≤ b.u ∧ b.u ≤ 1099511627776) ∧ (0 ≤ b.v ∧ b.v ≤ 255)
theorem bodyE_back (y : Ey) (h : (bodyE y).2.2 = true) : y.2 = true ∧ (bodyE y).1.e.length = 32 ∧ ((bodyE y).1.fits → (bodyE y).1.l.length ≤ 300 → ∃ b : BodyT, b.ok ∧ b.i = (bodyE y).1 ∧ y.1 = b.out) := by
  unfold bodyE at h ⊢
  dsimp only at h ⊢
  obtain ⟨v, hv, v1, v2, v3⟩ := numberE_back _ 1 h
  obtain ⟨u, hu, u1, u2, u3⟩ := numberE_back _ 8 v2
  obtain ⟨e2, e3⟩ := takeE_back _ 32 u2
  obtain ⟨c, hc, c1, c2, c3⟩ := numberE_back _ 2 e2
  obtain ⟨n, hn, n1, n2, n3⟩ := numberE_back _ 4 c2
  obtain ⟨t, ht, t1, t2, t3⟩ := numberE_back _ 8 n2
  have l4 := takeE_len (numberE (numberE (numberE y 8).2 4).2 2).2 32
  refine ⟨t2, l4, ?_⟩
  generalize numberE (numberE (takeE (numberE (numberE (numberE y 8).2 4).2 2).2 32).2 8).2 1 = av at *
  generalize numberE (takeE (numberE (numberE (numberE y 8).2 4).2 2).2 32).2 8 = au at *
  generalize takeE (numberE (numberE (numberE y 8).2 4).2 2).2 32 = ae at *
  generalize numberE (numberE (numberE y 8).2 4).2 2 = ac at *
  generalize numberE (numberE y 8).2 4 = an at *
  generalize numberE y 8 = aa at *
  rintro ⟨⟨f1, f2⟩, ⟨f3, f4⟩, ⟨f5, f6⟩, ⟨f7, f8⟩, ⟨f9, f10⟩⟩ hl
  dsimp only at f1 f2 f3 f4 f5 f6 f7 f8 f9 f10 hl
  have et : aa.1 = (t : Int) := by rw [t1] at f1 f2 ⊢; rw [IntKind.wrap_i64] at *; omega
  have en : an.1 = (n : Int) := by rw [n1] at f3 f4 ⊢; rw [IntKind.wrap_i64] at *; omega
  have ec : ac.1 = (c : Int) := by rw [c1] at f5 f6 ⊢; rw [IntKind.wrap_i64] at *; omega
  have eu : au.1 = (u : Int) := by rw [u1] at f7 f8 ⊢; rw [IntKind.wrap_i64] at *; omega
  have ev : av.1 = (v : Int) := by rw [v1] at f9 f10 ⊢; rw [IntKind.wrap_i64] at *; omega
  refine ⟨⟨t, n, c, ae.1, u, v, av.2.1⟩, ⟨?_, ?_, ?_, l4, ?_, ?_, hl⟩, ?_, ?_⟩
  · show t ≤ _; omega
  · show n ≤ _; omega
  · show c ≤ _; omega
  · show u ≤ _; omega
  · show v ≤ _; omega
  · unfold BodyT.i; rw [et, en, ec, eu, ev]
  · unfold BodyT.out
    dsimp only
    rw [t3, n3, c3, e3, u3, v3]
    simp only [List.append_assoc]
end Go.Proofs.Ytbpaimfnfigjpaa
