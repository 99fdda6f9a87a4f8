/- The sponge: that its turning keeps two states apart that differ. Plain Lean on 64-bit words: no program in sight. No conditions. -/
namespace Go.Proofs.YtbpaimfnfigjpaaDoor.Kec
set_option linter.unusedVariables false
abbrev W := BitVec 64
abbrev S := Nat → W
def rl (x : W) (r : Nat) : W := x.rotateLeft r
def par (a : S) (x : Nat) : W := a x ^^^ a (x + 5) ^^^ a (x + 10) ^^^ a (x + 15) ^^^ a (x + 20)
def dd (c : S) (x : Nat) : W := c ((x + 4) % 5) ^^^ rl (c ((x + 1) % 5)) 1
def theta (a : S) (i : Nat) : W := a i ^^^ dd (par a) (i % 5)
def TT (p q r : Nat) (c : S) (x : Nat) : W := c x ^^^ c ((x + p) % 5) ^^^ rl (c ((x + q) % 5)) r

theorem rl_xor (x y : W) (r : Nat) : rl (x ^^^ y) r = rl x r ^^^ rl y r := by
  unfold rl
  apply BitVec.eq_of_getLsbD_eq
  intro i hi
  simp only [BitVec.getLsbD_rotateLeft, BitVec.getLsbD_xor, cond_eq_ite, decide_eq_true_eq]
  split <;> simp [hi]

theorem rl_rl (x : W) (r s : Nat) (hr : r < 64) (hs : s < 64) : rl (rl x r) s = rl x ((r + s) % 64) := by
  unfold rl
  apply BitVec.eq_of_getLsbD_eq
  intro i hi
  simp only [BitVec.getLsbD_rotateLeft, Nat.mod_mod, Nat.mod_eq_of_lt hr, Nat.mod_eq_of_lt hs, cond_eq_ite, decide_eq_true_eq]
  by_cases h : r + s < 64
  · rw [Nat.mod_eq_of_lt h]
    by_cases h1 : i < s
    · rw [if_pos h1, if_neg (by omega), if_pos (by omega)]
      simp only [show 64 - s + i - r = 64 - (r + s) + i from by omega, show 64 - s + i < 64 from by omega, decide_true, Bool.true_and]
    · rw [if_neg h1]
      by_cases h2 : i - s < r
      · rw [if_pos h2, if_pos (by omega)]
        simp only [show 64 - r + (i - s) = 64 - (r + s) + i from by omega, hi, decide_true, Bool.true_and]
      · rw [if_neg h2, if_neg (by omega)]
        simp only [show i - s - r = i - (r + s) from by omega, show i - s < 64 from by omega, hi, decide_true, Bool.true_and]
  · rw [show (r + s) % 64 = r + s - 64 from by omega]
    by_cases h1 : i < s
    · rw [if_pos h1]
      by_cases h2 : 64 - s + i < r
      · rw [if_pos h2, if_pos (by omega)]
        simp only [show 64 - r + (64 - s + i) = 64 - (r + s - 64) + i from by omega]
      · rw [if_neg h2, if_neg (by omega)]
        simp only [show 64 - s + i - r = i - (r + s - 64) from by omega, show 64 - s + i < 64 from by omega, hi, decide_true, Bool.true_and]
    · rw [if_neg h1, if_pos (by omega), if_neg (by omega)]
      simp only [show 64 - r + (i - s) = i - (r + s - 64) from by omega, hi, decide_true, Bool.true_and]

theorem rl_zero (x : W) : rl x 0 = x := by
  unfold rl
  apply BitVec.eq_of_getLsbD_eq
  intro i hi
  simp [hi]

theorem rl_inj (x y : W) (r : Nat) (hr : r < 64) (h : rl x r = rl y r) : x = y := by
  have := (congrArg (fun z => rl z ((64 - r) % 64)) h : rl (rl x r) ((64 - r) % 64) = rl (rl y r) ((64 - r) % 64))
  rw [rl_rl _ _ _ hr (Nat.mod_lt _ (by decide)), rl_rl _ _ _ hr (Nat.mod_lt _ (by decide)), show (r + (64 - r) % 64) % 64 = 0 from by omega, rl_zero, rl_zero] at this
  exact this

theorem TT_sq (p q r : Nat) (hr : r < 64) (c : S) (x : Nat) (hx : x < 5) : TT p q r (TT p q r c) x = TT ((p + p) % 5) ((q + q) % 5) ((r + r) % 64) c x := by
  unfold TT
  simp only [rl_xor, rl_rl _ r r hr hr]
  rw [show ((x + p) % 5 + p) % 5 = (x + (p + p) % 5) % 5 from by omega, show ((x + q) % 5 + q) % 5 = (x + (q + q) % 5) % 5 from by omega,
    show ((x + p) % 5 + q) % 5 = (x + p + q) % 5 from by omega, show ((x + q) % 5 + p) % 5 = (x + p + q) % 5 from by omega]
  generalize c x = A; generalize c ((x + p) % 5) = B; generalize rl (c ((x + q) % 5)) r = C; generalize c ((x + (p + p) % 5) % 5) = D; generalize rl (c ((x + p + q) % 5)) r = E
  generalize rl (c ((x + (q + q) % 5) % 5)) ((r + r) % 64) = F
  apply BitVec.eq_of_getLsbD_eq
  intro i _
  simp only [BitVec.getLsbD_xor]
  generalize A.getLsbD i = a; generalize B.getLsbD i = b; generalize C.getLsbD i = c; generalize D.getLsbD i = d; generalize E.getLsbD i = e; generalize F.getLsbD i = f
  revert a b c d e f; decide

def Eq5 (c d : S) : Prop := ∀ x, x < 5 → c x = d x
theorem TT_eq {p q r : Nat} {c d : S} (h : Eq5 c d) : Eq5 (TT p q r c) (TT p q r d) := by
  intro x hx
  unfold TT
  rw [h x hx, h _ (Nat.mod_lt _ (by decide)), h _ (Nat.mod_lt _ (by decide))]
theorem TT_up {p q r : Nat} (hr : r < 64) {c d : S} (h : Eq5 (TT p q r c) (TT p q r d)) : Eq5 (TT ((p + p) % 5) ((q + q) % 5) ((r + r) % 64) c) (TT ((p + p) % 5) ((q + q) % 5) ((r + r) % 64) d) := by
  intro x hx
  rw [← TT_sq p q r hr c x hx, ← TT_sq p q r hr d x hx]
  exact TT_eq h x hx

theorem TT_cube (c : S) : Eq5 (TT 1 4 0 (TT 1 4 0 (TT 1 4 0 c))) c := by
  intro x hx
  unfold TT
  simp only [rl_zero]
  have : x = 0 ∨ x = 1 ∨ x = 2 ∨ x = 3 ∨ x = 4 := by omega
  rcases this with rfl | rfl | rfl | rfl | rfl
  all_goals
    simp only [Nat.reduceAdd, Nat.reduceMod]
    generalize c 0 = A; generalize c 1 = B; generalize c 2 = C; generalize c 3 = D; generalize c 4 = E
    apply BitVec.eq_of_getLsbD_eq
    intro i _
    simp only [BitVec.getLsbD_xor]
    generalize A.getLsbD i = a; generalize B.getLsbD i = b; generalize C.getLsbD i = c; generalize D.getLsbD i = d; generalize E.getLsbD i = e
    revert a b c d e; decide

theorem TT_inj {c d : S} (h : Eq5 (TT 4 1 1 c) (TT 4 1 1 d)) : Eq5 c d := by
  have h1 := TT_up (by decide) h
  have h2 := TT_up (by decide) h1
  have h3 := TT_up (by decide) h2
  have h4 := TT_up (by decide) h3
  have h5 := TT_up (by decide) h4
  have h6 := TT_up (by decide) h5
  have h7 : Eq5 (TT 1 4 0 c) (TT 1 4 0 d) := h6
  have h8 := TT_eq (p := 1) (q := 4) (r := 0) (TT_eq (p := 1) (q := 4) (r := 0) h7)
  intro x hx
  rw [← TT_cube c x hx, ← TT_cube d x hx]
  exact h8 x hx

def Eq25 (a b : S) : Prop := ∀ i, i < 25 → a i = b i

theorem par_theta (a : S) : Eq5 (par (theta a)) (TT 4 1 1 (par a)) := by
  intro x hx
  unfold TT
  show par (theta a) x = par a x ^^^ par a ((x + 4) % 5) ^^^ rl (par a ((x + 1) % 5)) 1
  have : par (theta a) x = par a x ^^^ dd (par a) x := by
    conv => lhs; unfold par
    unfold theta
    rw [show x % 5 = x from by omega, show (x + 5) % 5 = x from by omega, show (x + 10) % 5 = x from by omega, show (x + 15) % 5 = x from by omega, show (x + 20) % 5 = x from by omega]
    generalize hd : dd (par a) x = d
    unfold par
    generalize a x = A; generalize a (x + 5) = B; generalize a (x + 10) = C; generalize a (x + 15) = D; generalize a (x + 20) = E
    apply BitVec.eq_of_getLsbD_eq
    intro i _
    simp only [BitVec.getLsbD_xor]
    generalize A.getLsbD i = a; generalize B.getLsbD i = b; generalize C.getLsbD i = c; generalize D.getLsbD i = d'; generalize E.getLsbD i = e; generalize d.getLsbD i = f
    revert a b c d' e f; decide
  rw [this, dd, BitVec.xor_assoc]

theorem theta_inj {a b : S} (h : Eq25 (theta a) (theta b)) : Eq25 a b := by
  have hp : Eq5 (par (theta a)) (par (theta b)) := by
    intro x hx
    unfold par
    rw [h x (by omega), h (x + 5) (by omega), h (x + 10) (by omega), h (x + 15) (by omega), h (x + 20) (by omega)]
  have hq : Eq5 (par a) (par b) := TT_inj fun x hx => by rw [← par_theta a x hx, ← par_theta b x hx]; exact hp x hx
  intro i hi
  have := h i hi
  unfold theta at this
  have hd : dd (par a) (i % 5) = dd (par b) (i % 5) := by
    unfold dd
    rw [hq _ (Nat.mod_lt _ (by decide)), hq _ (Nat.mod_lt _ (by decide))]
  rw [hd] at this
  have := congrArg (· ^^^ dd (par b) (i % 5)) this
  simpa [BitVec.xor_assoc] using this

def turns : List Nat := [0, 1, 62, 28, 27, 36, 44, 6, 55, 20, 3, 10, 43, 25, 39, 41, 45, 15, 21, 8, 18, 2, 61, 56, 14]
def turnAt (i : Nat) : Nat := turns.getD i 0
/-- where lane i goes -/
def goes (i : Nat) : Nat := i / 5 + 5 * ((2 * (i % 5) + 3 * (i / 5)) % 5)
/-- what comes to lane j -/
def comes (j : Nat) : Nat := 5 * (j % 5) + (3 * (j / 5) + j % 5) % 5
theorem goes_comes : ∀ j, j < 25 → goes (comes j) = j ∧ comes j < 25 := by decide
theorem comes_goes : ∀ j, j < 25 → comes (goes j) = j ∧ goes j < 25 := by decide
theorem turnAt_lt : ∀ j, j < 25 → turnAt j < 64 := by decide
def rhopi (a : S) (j : Nat) : W := rl (a (comes j)) (turnAt (comes j))
theorem rhopi_inj {a b : S} (h : Eq25 (rhopi a) (rhopi b)) : Eq25 a b := by
  intro i hi
  have := h (goes i) (comes_goes i hi).2
  unfold rhopi at this
  rw [(comes_goes i hi).1] at this
  exact rl_inj _ _ _ (turnAt_lt i hi) this

def chi (b : S) (i : Nat) : W := b i ^^^ (~~~ b ((i % 5 + 1) % 5 + 5 * (i / 5)) &&& b ((i % 5 + 2) % 5 + 5 * (i / 5)))
theorem chi_row : ∀ a0 a1 a2 a3 a4 b0 b1 b2 b3 b4 : Bool, (a0 ^^ (!a1 && a2)) = (b0 ^^ (!b1 && b2)) → (a1 ^^ (!a2 && a3)) = (b1 ^^ (!b2 && b3)) → (a2 ^^ (!a3 && a4)) = (b2 ^^ (!b3 && b4)) →
    (a3 ^^ (!a4 && a0)) = (b3 ^^ (!b4 && b0)) → (a4 ^^ (!a0 && a1)) = (b4 ^^ (!b0 && b1)) → a0 = b0 ∧ a1 = b1 ∧ a2 = b2 ∧ a3 = b3 ∧ a4 = b4 := by decide
theorem chi_five (a0 a1 a2 a3 a4 b0 b1 b2 b3 b4 : W) (h0 : a0 ^^^ (~~~ a1 &&& a2) = b0 ^^^ (~~~ b1 &&& b2)) (h1 : a1 ^^^ (~~~ a2 &&& a3) = b1 ^^^ (~~~ b2 &&& b3)) (h2 : a2 ^^^ (~~~ a3 &&& a4) = b2 ^^^ (~~~ b3 &&& b4))
    (h3 : a3 ^^^ (~~~ a4 &&& a0) = b3 ^^^ (~~~ b4 &&& b0)) (h4 : a4 ^^^ (~~~ a0 &&& a1) = b4 ^^^ (~~~ b0 &&& b1)) : a0 = b0 ∧ a1 = b1 ∧ a2 = b2 ∧ a3 = b3 ∧ a4 = b4 := by
  have key : ∀ i, i < 64 → a0.getLsbD i = b0.getLsbD i ∧ a1.getLsbD i = b1.getLsbD i ∧ a2.getLsbD i = b2.getLsbD i ∧ a3.getLsbD i = b3.getLsbD i ∧ a4.getLsbD i = b4.getLsbD i := by
    intro i hi
    have e0 := congrArg (·.getLsbD i) h0; have e1 := congrArg (·.getLsbD i) h1; have e2 := congrArg (·.getLsbD i) h2; have e3 := congrArg (·.getLsbD i) h3; have e4 := congrArg (·.getLsbD i) h4
    simp only [BitVec.getLsbD_xor, BitVec.getLsbD_and, BitVec.getLsbD_not, hi, decide_true, Bool.true_and] at e0 e1 e2 e3 e4
    exact chi_row _ _ _ _ _ _ _ _ _ _ e0 e1 e2 e3 e4
  refine ⟨?_, ?_, ?_, ?_, ?_⟩ <;> (apply BitVec.eq_of_getLsbD_eq; intro i hi)
  · exact (key i hi).1
  · exact (key i hi).2.1
  · exact (key i hi).2.2.1
  · exact (key i hi).2.2.2.1
  · exact (key i hi).2.2.2.2
theorem chi_inj {a b : S} (h : Eq25 (chi a) (chi b)) : Eq25 a b := by
  intro i hi
  have row : ∀ y, y < 5 → a (5 * y) = b (5 * y) ∧ a (1 + 5 * y) = b (1 + 5 * y) ∧ a (2 + 5 * y) = b (2 + 5 * y) ∧ a (3 + 5 * y) = b (3 + 5 * y) ∧ a (4 + 5 * y) = b (4 + 5 * y) := by
    intro y hy
    have h0 := h (5 * y) (by omega); have h1 := h (1 + 5 * y) (by omega); have h2 := h (2 + 5 * y) (by omega); have h3 := h (3 + 5 * y) (by omega); have h4 := h (4 + 5 * y) (by omega)
    unfold chi at h0 h1 h2 h3 h4
    simp only [show 5 * y % 5 = 0 from by omega, show 5 * y / 5 = y from by omega, show (1 + 5 * y) % 5 = 1 from by omega, show (1 + 5 * y) / 5 = y from by omega, show (2 + 5 * y) % 5 = 2 from by omega, show (2 + 5 * y) / 5 = y from by omega,
      show (3 + 5 * y) % 5 = 3 from by omega, show (3 + 5 * y) / 5 = y from by omega, show (4 + 5 * y) % 5 = 4 from by omega, show (4 + 5 * y) / 5 = y from by omega, Nat.reduceAdd, Nat.reduceMod, Nat.zero_add] at h0 h1 h2 h3 h4
    exact chi_five _ _ _ _ _ _ _ _ _ _ h0 h1 h2 h3 h4
  have hr := row (i / 5) (by omega)
  have : i % 5 = 0 ∨ i % 5 = 1 ∨ i % 5 = 2 ∨ i % 5 = 3 ∨ i % 5 = 4 := by omega
  rcases this with e | e | e | e | e
  · rw [show i = 5 * (i / 5) from by omega]; exact hr.1
  · rw [show i = 1 + 5 * (i / 5) from by omega]; exact hr.2.1
  · rw [show i = 2 + 5 * (i / 5) from by omega]; exact hr.2.2.1
  · rw [show i = 3 + 5 * (i / 5) from by omega]; exact hr.2.2.2.1
  · rw [show i = 4 + 5 * (i / 5) from by omega]; exact hr.2.2.2.2

def iota (k : W) (a : S) (i : Nat) : W := if i = 0 then a 0 ^^^ k else a i
theorem iota_inj {k : W} {a b : S} (h : Eq25 (iota k a) (iota k b)) : Eq25 a b := by
  intro i hi
  have := h i hi
  unfold iota at this
  by_cases h0 : i = 0
  · subst h0
    simp only [if_true] at this
    have := congrArg (· ^^^ k) this
    simpa [BitVec.xor_assoc] using this
  · rw [if_neg h0, if_neg h0] at this
    exact this

def round (k : W) (a : S) : S := iota k (chi (rhopi (theta a)))
theorem round_inj {k : W} {a b : S} (h : Eq25 (round k a) (round k b)) : Eq25 a b := theta_inj (rhopi_inj (chi_inj (iota_inj h)))
def turn (ks : List W) (a : S) : S := ks.foldl (fun a k => round k a) a
theorem turn_inj : ∀ (ks : List W) {a b : S}, Eq25 (turn ks a) (turn ks b) → Eq25 a b
  | [], a, b, h => h
  | k :: ks, a, b, h => round_inj (turn_inj ks (a := round k a) (b := round k b) h)

theorem round_eq {k : W} {a b : S} (h : Eq25 a b) : Eq25 (round k a) (round k b) := by
  have h1 : Eq25 (theta a) (theta b) := by
    intro i hi
    have hp : ∀ x, x < 5 → par a x = par b x := fun x hx => by unfold par; rw [h x (by omega), h (x + 5) (by omega), h (x + 10) (by omega), h (x + 15) (by omega), h (x + 20) (by omega)]
    unfold theta dd
    rw [h i hi, hp _ (Nat.mod_lt _ (by decide)), hp _ (Nat.mod_lt _ (by decide))]
  have h2 : Eq25 (rhopi (theta a)) (rhopi (theta b)) := by
    intro i hi
    unfold rhopi
    rw [h1 _ (goes_comes i hi).2]
  have h3 : Eq25 (chi (rhopi (theta a))) (chi (rhopi (theta b))) := by
    intro i hi
    unfold chi
    rw [h2 i hi, h2 _ (by omega), h2 _ (by omega)]
  intro i hi
  unfold round iota
  rw [h3 i hi, h3 0 (by omega)]
theorem turn_eq : ∀ (ks : List W) {a b : S}, Eq25 a b → Eq25 (turn ks a) (turn ks b)
  | [], a, b, h => h
  | k :: ks, a, b, h => turn_eq ks (a := round k a) (b := round k b) (round_eq h)
end Go.Proofs.YtbpaimfnfigjpaaDoor.Kec
