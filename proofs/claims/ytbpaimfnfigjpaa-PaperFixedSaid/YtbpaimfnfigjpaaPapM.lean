/- What is written is read again; what is cut is not. Plain. No conditions but bounds. -/
import Derived.Test.YtbpaimfnfigjpaaDec
namespace Go.Proofs.Ytbpaimfnfigjpaa
open Go.RowKit Go.Lib Go.IntWalk
set_option linter.unusedVariables false
set_option maxRecDepth 100000

theorem takeE_app (a r : List UInt8) (ok : Bool) (n : Nat) (h : a.length = n) : takeE (a ++ r, ok) n = (a, (r, ok)) := by
  unfold takeE
  rw [if_neg (by simp; omega)]
  subst h
  simp
theorem numI_toB (k n : Nat) (h : n < 256 ^ k) (h2 : n < 9223372036854775808) : numI (toB k n) = (n : Int) := by
  unfold numI
  rw [nm_toB, Nat.mod_eq_of_lt h, i64_in _ (by omega)]
theorem numberE_app (k n : Nat) (r : List UInt8) (ok : Bool) (h : n < 256 ^ k) (h2 : n < 9223372036854775808) : numberE (toB k n ++ r, ok) k = ((n : Int), (r, ok)) := by
  unfold numberE
  rw [takeE_app _ r ok k (toB_len k n)]
  simp only [numI_toB k n h h2]
def SgT.i (e : SgT) : SgI := ((e.w : Int), e.r, e.s, (e.o : Int))
theorem sgnE_app (e : SgT) (h : e.ok) (r : List UInt8) (ok : Bool) : sgnE (e.out ++ r, ok) = (e.i, (r, ok)) := by
  unfold sgnE SgT.out
  have hw := h.w
  have ho := h.o
  simp only [List.append_assoc]
  rw [numberE_app 1 e.w _ ok (by omega) (by omega)]
  dsimp only
  rw [takeE_app (b32 e.r) _ ok 32 (b32_len _)]
  dsimp only
  rw [takeE_app (b32 e.s) _ ok 32 (b32_len _)]
  dsimp only
  rw [numberE_app 1 e.o _ ok (by omega) (by omega), nm_b32 _ h.r, nm_b32 _ h.s]
  rfl
theorem sgnsE_app (l : List SgT) (h : ∀ e ∈ l, e.ok) (r : List UInt8) (ok : Bool) : ∀ j, j ≤ l.length → sgnsE j (sgOut l ++ r, ok) = ((l.take j).map SgT.i, (sgOut (l.drop j) ++ r, ok))
  | 0, _ => by simp [sgnsE]
  | j + 1, hj => by
    have hlt : j < l.length := by omega
    rw [sgnsE, sgnsE_app l h r ok j (by omega)]
    dsimp only
    rw [List.drop_eq_getElem_cons hlt]
    have e1 : sgOut (l[j] :: l.drop (j + 1)) = l[j].out ++ sgOut (l.drop (j + 1)) := by unfold sgOut; rw [List.flatMap_cons]
    rw [e1, List.append_assoc, sgnE_app _ (h _ (List.getElem_mem hlt))]
    dsimp only
    rw [List.take_add_one, List.getElem?_eq_getElem hlt, List.map_append]
    rfl
def BodyT.i (b : BodyT) : BodyI := ⟨b.t, b.n, b.c, b.e, b.u, b.v, b.l⟩
theorem BodyT.i_cells (b : BodyT) : b.i.cells = b.cells := rfl
theorem bodyE_app (b : BodyT) (h : b.ok) (ok : Bool) : bodyE (b.out, ok) = (b.i, (b.l, ok)) := by
  have h1 := h.t; have h2 := h.n; have h3 := h.c; have h4 := h.u; have h5 := h.v
  unfold bodyE BodyT.out
  simp only [List.append_assoc]
  rw [numberE_app 8 b.t _ ok (by omega) (by omega)]
  dsimp only
  rw [numberE_app 4 b.n _ ok (by omega) (by omega)]
  dsimp only
  rw [numberE_app 2 b.c _ ok (by omega) (by omega)]
  dsimp only
  rw [takeE_app b.e _ ok 32 h.e]
  dsimp only
  rw [numberE_app 8 b.u _ ok (by omega) (by omega)]
  dsimp only
  rw [numberE_app 1 b.v _ ok (by omega) (by omega)]
  rfl

/-- nothing more is seen -/
def Blind (y : Ey) : Prop := y.2 = false ∧ y.1 = []
theorem Blind.take {y : Ey} (h : Blind y) (n : Nat) : Blind (takeE y n).2 ∧ (takeE y n).1 = List.replicate n 0 := by
  obtain ⟨l, ok⟩ := y
  obtain ⟨rfl, rfl⟩ := h
  unfold takeE
  split
  · exact ⟨⟨rfl, rfl⟩, rfl⟩
  · rename_i hn
    have : n = 0 := by simp at hn; exact hn
    subst this
    exact ⟨⟨rfl, rfl⟩, rfl⟩
theorem Blind.num {y : Ey} (h : Blind y) (n : Nat) : Blind (numberE y n).2 := (h.take n).1
theorem Blind.sgn {y : Ey} (h : Blind y) : Blind (sgnE y).2 := by
  have h1 := h.num 1
  have h2 := (h1.take 32).1
  have h3 := (h2.take 32).1
  have h4 := h3.num 1
  unfold sgnE
  exact h4
theorem Blind.body {y : Ey} (h : Blind y) : Blind (bodyE y).2 := by
  have h1 := h.num 8
  have h2 := h1.num 4
  have h3 := h2.num 2
  have h4 := (h3.take 32).1
  have h5 := h4.num 8
  have h6 := h5.num 1
  unfold bodyE
  dsimp only
  exact h6
/-- the one sees so much less than the other, or nothing more -/
def Pre (k : Nat) (y' y : Ey) : Prop := Blind y' ∨ (y'.2 = true ∧ y.2 = true ∧ ∃ t, t.length = k ∧ y.1 = y'.1 ++ t)
theorem Pre.take {k : Nat} {y' y : Ey} (h : Pre k y' y) (n : Nat) : Pre k (takeE y' n).2 (takeE y n).2 ∧ ((takeE y' n).2.2 = true → (takeE y' n).1 = (takeE y n).1) := by
  rcases h with h | ⟨h1, h2, t, ht, he⟩
  · have hb := h.take n
    exact ⟨.inl hb.1, fun hk => by rw [hb.1.1] at hk; cases hk⟩
  · obtain ⟨l', ok'⟩ := y'
    obtain ⟨l, ok⟩ := y
    dsimp only at h1 h2 he
    subst h1 h2 he
    unfold takeE
    by_cases hn : l'.length < n
    · simp only [if_pos hn]
      exact ⟨.inl ⟨rfl, rfl⟩, fun hk => by cases hk⟩
    · have hn2 : ¬ (l' ++ t).length < n := by rw [List.length_append]; omega
      simp only [if_neg hn, if_neg hn2]
      refine ⟨.inr ⟨rfl, rfl, t, ht, ?_⟩, fun _ => ?_⟩
      · rw [List.drop_append_of_le_length (by omega)]
      · rw [List.take_append_of_le_length (by omega)]
theorem Pre.num {k : Nat} {y' y : Ey} (h : Pre k y' y) (n : Nat) : Pre k (numberE y' n).2 (numberE y n).2 := (h.take n).1
theorem Pre.numv {k : Nat} {y' y : Ey} (h : Pre k y' y) (n : Nat) (hk : (numberE y' n).2.2 = true) : (numberE y' n).1 = (numberE y n).1 := by
  have h2 := (h.take n).2 hk
  show numI (takeE y' n).1 = numI (takeE y n).1
  rw [h2]
theorem Pre.sgn {k : Nat} {y' y : Ey} (h : Pre k y' y) : Pre k (sgnE y').2 (sgnE y).2 := by
  have h1 := h.num 1
  have h2 := (h1.take 32).1
  have h3 := (h2.take 32).1
  have h4 := h3.num 1
  unfold sgnE
  exact h4
theorem Pre.sgns {k : Nat} {y' y : Ey} (h : Pre k y' y) : ∀ j, Pre k (sgnsE j y').2 (sgnsE j y).2
  | 0 => h
  | j + 1 => (Pre.sgns h j).sgn
theorem Pre.body {k : Nat} {y' y : Ey} (h : Pre k y' y) : Pre k (bodyE y').2 (bodyE y).2 := by
  have h1 := h.num 8
  have h2 := h1.num 4
  have h3 := h2.num 2
  have h4 := (h3.take 32).1
  have h5 := h4.num 8
  have h6 := h5.num 1
  unfold bodyE
  dsimp only
  exact h6

/-- a paper is read as it was written -/
theorem Decode_out (q : PapT) (h : q.ok) (no : Nat) (hno : q.out.length = no) : Pur Try.prog 9 [.slice .frozen no (bs q.out)] (.tup [.agg q.cells, .int .i64 0]) := by
  subst hno
  have hn := h.n
  have hset := h.set
  have hbl := h.b.l
  have hlen : q.out.length ≤ 140737488351232 := by unfold PapT.out; simp only [List.length_append, toB_len, sgOut_len, q.b.out_len h.b]; omega
  have hout : q.out = toB 1 1 ++ (toB 4 q.set ++ (toB 1 q.sg.length ++ (sgOut q.sg ++ q.b.out))) := by unfold PapT.out; simp only [List.append_assoc]
  have e4 := sgnsE_app q.sg h.sg q.b.out true q.sg.length (Nat.le_refl _)
  rw [List.take_length, List.drop_length] at e4
  have e4 : sgnsE q.sg.length (sgOut q.sg ++ q.b.out, true) = (q.sg.map SgT.i, (q.b.out, true)) := e4
  have hc : ppC (q.set : Int) q.sg.length (sgsI (q.sg.map SgT.i)) q.b.i.cells = q.cells := by
    unfold PapT.cells
    have : sgsI (q.sg.map SgT.i) = sgsC q.sg := by unfold sgsI sgsC; rw [List.flatMap_map]; rfl
    rw [this]; rfl
  refine Decode_walk q.out hlen 1 q.set _ _ _ _ _ q.sg.length _ _ (by rw [hout]; exact numberE_app 1 1 _ true (by decide) (by decide)) (numberE_app 4 q.set _ true (by omega) (by omega)) (numberE_app 1 q.sg.length _ true (by omega) (by omega)) (fun _ => rfl) hn e4 (bodyE_app q.b h.b true) _ (.inr (.inl ⟨rfl, ?_, ?_⟩))
  · rw [hc]
  · rw [hc]; exact fault_ok q h
/-- cut in its head it is none -/
theorem Decode_cut (q : PapT) (h : q.ok) (k : Nat) (hk : k < 61 + 66 * q.sg.length) : Pur Try.prog 9 [.slice .frozen k (bs (q.out.take k))] (.tup [.agg pp0, .int .i64 4]) := by
  have hn := h.n
  have hset := h.set
  have hbl := h.b.l
  have hol : q.out.length = 61 + 66 * q.sg.length + q.b.l.length := by unfold PapT.out; simp only [List.length_append, toB_len, sgOut_len, q.b.out_len h.b]; omega
  have hout : q.out = toB 1 1 ++ (toB 4 q.set ++ (toB 1 q.sg.length ++ (sgOut q.sg ++ q.b.out))) := by unfold PapT.out; simp only [List.append_assoc]
  have hkl : (q.out.take k).length = k := by rw [List.length_take]; omega
  have p0 : Pre (q.out.length - k) (q.out.take k, true) (q.out, true) := .inr ⟨rfl, rfl, q.out.drop k, by rw [List.length_drop], (List.take_append_drop k q.out).symm⟩
  have f1 : numberE (q.out, true) 1 = (1, (toB 4 q.set ++ (toB 1 q.sg.length ++ (sgOut q.sg ++ q.b.out)), true)) := by rw [hout]; exact numberE_app 1 1 _ true (by decide) (by decide)
  have f2 := numberE_app 4 q.set (toB 1 q.sg.length ++ (sgOut q.sg ++ q.b.out)) true (by omega) (by omega)
  have f3 := numberE_app 1 q.sg.length (sgOut q.sg ++ q.b.out) true (by omega) (by omega)
  have e4 := sgnsE_app q.sg h.sg q.b.out true q.sg.length (Nat.le_refl _)
  rw [List.take_length, List.drop_length] at e4
  have e4 : sgnsE q.sg.length (sgOut q.sg ++ q.b.out, true) = (q.sg.map SgT.i, (q.b.out, true)) := e4
  have f5 := bodyE_app q.b h.b true
  have p1 := p0.num 1
  have v1 := p0.numv 1
  obtain ⟨v, y1, g1⟩ : ∃ v y1, numberE (q.out.take k, true) 1 = (v, y1) := ⟨_, _, rfl⟩
  rw [g1, f1] at p1 v1
  dsimp only at p1 v1
  have p2 := p1.num 4
  obtain ⟨set', y2, g2⟩ : ∃ v y, numberE y1 4 = (v, y) := ⟨_, _, rfl⟩
  rw [g2, f2] at p2
  dsimp only at p2
  have p3 := p2.num 1
  have v3 := p2.numv 1
  have hz3 : Blind (numberE y2 1).2 → (numberE y2 1).1 = ((0 : Nat) : Int) := by
    intro hb
    have hz : (takeE y2 1).1 = List.replicate 1 0 := by
      rcases p2 with hb2 | ⟨h1, h2, t, ht, he⟩
      · exact (hb2.take 1).2
      · have h3 : (takeE y2 1).2.2 = false := hb.1
        unfold takeE at h3 ⊢
        split at h3
        · rename_i hlt
          rw [if_pos hlt]
        · rw [h1] at h3; cases h3
    show numI (takeE y2 1).1 = _
    rw [hz]; rfl
  obtain ⟨nv, y3, g3⟩ : ∃ v y, numberE y2 1 = (v, y) := ⟨_, _, rfl⟩
  rw [g3, f3] at p3 v3
  rw [g3] at hz3
  dsimp only at p3 v3 hz3
  have hw : ∀ (n' : Nat) (e3 : nv = (n' : Int)) (hn' : n' ≤ 19) (hfin : (bodyE (sgnsE n' y3).2).2.2 = false), Pur Try.prog 9 [.slice .frozen k (bs (q.out.take k))] (.tup [.agg pp0, .int .i64 4]) := by
    intro n' e3 hn' hfin
    obtain ⟨l', y4, g4⟩ : ∃ v y, sgnsE n' y3 = (v, y) := ⟨_, _, rfl⟩
    rw [g4] at hfin
    dsimp only at hfin
    obtain ⟨bd, y5, g5⟩ : ∃ v y, bodyE y4 = (v, y) := ⟨_, _, rfl⟩
    rw [g5] at hfin
    dsimp only at hfin
    subst e3
    have := Decode_walk (q.out.take k) (by omega) v set' y1 y2 y3 y4 y5 n' l' bd g1 g2 g3 v1 hn' g4 g5 _ (.inl ⟨hfin, rfl⟩)
    rw [hkl] at this
    exact this
  by_cases hk3 : y3.2 = true
  · refine hw q.sg.length (v3 hk3) hn ?_
    have p5 := (p3.sgns q.sg.length).body
    rw [e4] at p5
    dsimp only at p5
    rw [f5] at p5
    rcases p5 with hb | ⟨_, _, t, ht, he⟩
    · exact hb.1
    · exfalso
      have := congrArg List.length he
      rw [List.length_append] at this
      dsimp only at this
      omega
  · have hbl3 : Blind y3 := by
      rcases p3 with hb | ⟨h1, _⟩
      · exact hb
      · exact absurd h1 hk3
    have hb5 := hbl3.body
    refine hw 0 (hz3 hbl3) (by decide) ?_
    have e0 : (sgnsE 0 y3).2 = y3 := rfl
    rw [e0]
    exact hb5.1
end Go.Proofs.Ytbpaimfnfigjpaa
