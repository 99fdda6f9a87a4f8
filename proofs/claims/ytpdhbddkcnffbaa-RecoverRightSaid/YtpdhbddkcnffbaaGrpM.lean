/- Plain arithmetic of a curve's points: a table of points, held against the law of addition by cross products; no program in sight. No conditions. -/
namespace Go.Proofs.Ytpdhbddkcnffbaa.GM

/-- divides the difference -/
def Eqm (p : Nat) (a b : Int) : Prop := (p : Int) ∣ a - b
theorem Eqm.refl {p : Nat} (a : Int) : Eqm p a a := ⟨0, by omega⟩
theorem Eqm.symm {p : Nat} {a b : Int} (h : Eqm p a b) : Eqm p b a := by
  obtain ⟨k, hk⟩ := h
  exact ⟨-k, by rw [Int.mul_neg]; omega⟩
theorem Eqm.trans {p : Nat} {a b c : Int} (h : Eqm p a b) (k : Eqm p b c) : Eqm p a c := by
  obtain ⟨x, hx⟩ := h
  obtain ⟨y, hy⟩ := k
  exact ⟨x + y, by rw [Int.mul_add]; omega⟩
theorem Eqm.add {p : Nat} {a b c d : Int} (h : Eqm p a b) (k : Eqm p c d) : Eqm p (a + c) (b + d) := by
  obtain ⟨x, hx⟩ := h
  obtain ⟨y, hy⟩ := k
  exact ⟨x + y, by rw [Int.mul_add]; omega⟩
theorem Eqm.neg {p : Nat} {a b : Int} (h : Eqm p a b) : Eqm p (-a) (-b) := by
  obtain ⟨x, hx⟩ := h
  exact ⟨-x, by rw [Int.mul_neg]; omega⟩
theorem Eqm.sub {p : Nat} {a b c d : Int} (h : Eqm p a b) (k : Eqm p c d) : Eqm p (a - c) (b - d) := by
  have := h.add k.neg
  rwa [← Int.sub_eq_add_neg, ← Int.sub_eq_add_neg] at this
theorem Eqm.mul {p : Nat} {a b c d : Int} (h : Eqm p a b) (k : Eqm p c d) : Eqm p (a * c) (b * d) := by
  obtain ⟨x, hx⟩ := h
  obtain ⟨y, hy⟩ := k
  refine ⟨x * c + b * y, ?_⟩
  have e1 : a = b + p * x := by omega
  have e2 : c = d + p * y := by omega
  subst e1
  subst e2
  grind
theorem Eqm.mod {p : Nat} (a : Nat) : Eqm p ((a % p : Nat) : Int) a := by
  refine ⟨-((a / p : Nat) : Int), ?_⟩
  have h := Nat.div_add_mod a p
  have e : (a : Int) = ((p * (a / p) : Nat) : Int) + ((a % p : Nat) : Int) := by rw [← Int.natCast_add, h]
  rw [Int.natCast_mul] at e
  rw [e, Int.mul_neg]; omega
/-- the code's difference -/
theorem Eqm.sb {p a b : Nat} (h : b ≤ p) : Eqm p (((a + p - b) % p : Nat) : Int) ((a : Int) - b) := by
  refine (Eqm.mod _).trans ⟨1, ?_⟩
  omega
theorem Eqm.eq {p a b : Nat} (h : Eqm p a b) (ha : a < p) (hb : b < p) : a = b := by
  obtain ⟨k, hk⟩ := h
  have : k = 0 := by
    rcases Int.lt_trichotomy k 0 with h | h | h
    · have := Int.mul_le_mul_of_nonneg_left (show k ≤ -1 by omega) (Int.natCast_nonneg p); omega
    · exact h
    · have := Int.mul_le_mul_of_nonneg_left (show 1 ≤ k by omega) (Int.natCast_nonneg p); omega
  subst this
  omega
theorem Eqm.of_mod {p a b : Nat} (h : a % p = b % p) : Eqm p a b := (Eqm.mod a).symm.trans (by rw [h]; exact Eqm.mod b)
theorem Eqm.to_mod {p a b : Nat} (hp : 0 < p) (h : Eqm p a b) : a % p = b % p :=
  Eqm.eq (((Eqm.mod a).trans h).trans (Eqm.mod b).symm) (Nat.mod_lt _ hp) (Nat.mod_lt _ hp)

/-- from the cross products to the code's numbers -/
theorem cross {p : Nat} (hp : 0 < p) {x1 x2 x3 y1 y3 U Dn i s : Nat} (hx1 : x1 ≤ p) (hx2 : x2 ≤ p) (hx3 : x3 < p) (hy1 : y1 ≤ p) (hy3 : y3 < p) (hi : Eqm p ((i : Int) * Dn) 1) (hs : U * i % p = s)
    (h3 : ((x3 + x1 + x2) * (Dn * Dn % p)) % p = U * U % p) (h4 : ((y3 + y1) * Dn) % p = (U * ((x1 + p - x3) % p)) % p) :
    ((s * s % p + p - x1) % p + p - x2) % p = x3 ∧ (s * ((x1 + p - x3) % p) % p + p - y1) % p = y3 := by
  have es : Eqm p s ((U : Int) * i) := by rw [← hs]; have := Eqm.mod (p := p) (U * i); rwa [Int.natCast_mul] at this
  have e3 : Eqm p (((x3 : Int) + x1 + x2) * ((Dn : Int) * Dn)) ((U : Int) * U) := by
    have h := Eqm.of_mod (p := p) (a := (x3 + x1 + x2) * (Dn * Dn % p)) (b := U * U) (by rw [h3])
    rw [Int.natCast_mul, Int.natCast_mul, Int.natCast_add, Int.natCast_add] at h
    have k := (Eqm.mod (p := p) (Dn * Dn)).symm
    rw [Int.natCast_mul] at k
    exact ((Eqm.refl ((x3 : Int) + x1 + x2)).mul k).trans h
  have e4 : Eqm p (((y3 : Int) + y1) * Dn) ((U : Int) * (x1 - x3)) := by
    have h := Eqm.of_mod (p := p) (a := (y3 + y1) * Dn) (b := U * ((x1 + p - x3) % p)) (by rw [h4])
    rw [Int.natCast_mul, Int.natCast_mul, Int.natCast_add] at h
    exact h.trans ((Eqm.refl (U : Int)).mul (Eqm.sb (by omega)))
  have f3 : Eqm p ((s : Int) * s - x1 - x2) x3 := by
    have a1 : Eqm p ((s : Int) * s) (((U : Int) * i) * ((U : Int) * i)) := es.mul es
    have a2 : Eqm p (((U : Int) * U) * ((i : Int) * i)) ((((x3 : Int) + x1 + x2) * ((Dn : Int) * Dn)) * ((i : Int) * i)) := e3.symm.mul (Eqm.refl _)
    have a3 : Eqm p (((x3 : Int) + x1 + x2) * (((i : Int) * Dn) * ((i : Int) * Dn))) (((x3 : Int) + x1 + x2) * (1 * 1)) := (Eqm.refl _).mul (hi.mul hi)
    have b1 : ((U : Int) * i) * ((U : Int) * i) = ((U : Int) * U) * ((i : Int) * i) := by grind
    have b2 : (((x3 : Int) + x1 + x2) * ((Dn : Int) * Dn)) * ((i : Int) * i) = ((x3 : Int) + x1 + x2) * (((i : Int) * Dn) * ((i : Int) * Dn)) := by grind
    rw [b1] at a1
    rw [b2] at a2
    have a4 := (a1.trans a2).trans a3
    have a5 := (a4.sub (Eqm.refl (x1 : Int))).sub (Eqm.refl (x2 : Int))
    have b3 : ((x3 : Int) + x1 + x2) * (1 * 1) - x1 - x2 = x3 := by omega
    rwa [b3] at a5
  have f4 : Eqm p ((s : Int) * (x1 - x3) - y1) y3 := by
    have a1 : Eqm p ((s : Int) * (x1 - x3)) (((U : Int) * i) * (x1 - x3)) := es.mul (Eqm.refl _)
    have a2 : Eqm p (((U : Int) * (x1 - x3)) * i) ((((y3 : Int) + y1) * Dn) * i) := e4.symm.mul (Eqm.refl _)
    have a3 : Eqm p (((y3 : Int) + y1) * ((i : Int) * Dn)) (((y3 : Int) + y1) * 1) := (Eqm.refl _).mul hi
    have b1 : ((U : Int) * i) * (x1 - x3) = ((U : Int) * (x1 - x3)) * i := by grind
    have b2 : (((y3 : Int) + y1) * Dn) * i = ((y3 : Int) + y1) * ((i : Int) * Dn) := by grind
    rw [b1] at a1
    rw [b2] at a2
    have a4 := ((a1.trans a2).trans a3).sub (Eqm.refl (y1 : Int))
    have b3 : ((y3 : Int) + y1) * 1 - y1 = y3 := by omega
    rwa [b3] at a4
  constructor
  · refine Eqm.eq (Eqm.trans ?_ f3) (Nat.mod_lt _ hp) hx3
    refine (Eqm.sb hx2).trans (Eqm.sub ((Eqm.sb hx1).trans (Eqm.sub ?_ (Eqm.refl _))) (Eqm.refl _))
    have := Eqm.mod (p := p) (s * s); rwa [Int.natCast_mul] at this
  · refine Eqm.eq (Eqm.trans ?_ f4) (Nat.mod_lt _ hp) hy3
    refine (Eqm.sb hy1).trans (Eqm.sub ?_ (Eqm.refl _))
    have h := Eqm.mod (p := p) (s * ((x1 + p - x3) % p))
    rw [Int.natCast_mul] at h
    exact h.trans ((Eqm.refl (s : Int)).mul (Eqm.sb (by omega)))

/-! the table -/
abbrev Pt := Option (Nat × Nat)

def gen (p x1 y1 x2 y2 x3 y3 : Nat) : Bool :=
  Nat.beq (((x3 + x1 + x2) * ((((x2 + p - x1) % p) * ((x2 + p - x1) % p)) % p)) % p) ((((y2 + p - y1) % p) * ((y2 + p - y1) % p)) % p) && Nat.beq (((y3 + y1) * ((x2 + p - x1) % p)) % p) ((((y2 + p - y1) % p) * ((x1 + p - x3) % p)) % p)
def dbl (p a x1 y1 x3 y3 : Nat) : Bool :=
  !Nat.beq ((y1 + y1) % p) 0 && Nat.beq (((x3 + x1 + x1) * ((((y1 + y1) % p) * ((y1 + y1) % p)) % p)) % p) ((((3 % p * (x1 * x1 % p) % p + a) % p) * ((3 % p * (x1 * x1 % p) % p + a) % p)) % p) && Nat.beq (((y3 + y1) * ((y1 + y1) % p)) % p) ((((3 % p * (x1 * x1 % p) % p + a) % p) * ((x1 + p - x3) % p)) % p)
def one (p a x1 y1 : Nat) (q s : Pt) : Bool :=
  match q with
  | none => false
  | some (x2, y2) => match s with
    | none => Nat.beq x1 x2 && Nat.beq ((y1 + y2) % p) 0
    | some (x3, y3) => cond (Nat.beq x1 x2) (Nat.beq y1 y2 && dbl p a x1 y1 x3 y3) (gen p x1 y1 x2 y2 x3 y3)
def row (p a x1 y1 : Nat) : List Pt → List Pt → Bool
  | [], _ => true
  | q :: qs, s :: ss => one p a x1 y1 q s && row p a x1 y1 qs ss
  | _ :: _, [] => false
def rows (p a : Nat) (F : List Pt) : List Pt → List Pt → Bool
  | [], _ => true
  | q :: qs, s => (match q with | some (x, y) => row p a x y F s | none => false) && rows p a F qs s.tail
def sideM (p a b x : Nat) : Nat := ((x * (x * x % p) % p + a * x % p) % p + b) % p
def onM (p a b : Nat) : List Pt → Bool
  | [] => true
  | q :: qs => (match q with | some (x, y) => Nat.blt x p && Nat.blt y p && Nat.beq (y * y % p) (sideM p a b x) | none => false) && onM p a b qs
def invs (p : Nat) : Nat → Bool
  | 0 => true
  | d + 1 => (Nat.beq d 0 || Nat.beq ((d ^ (p - 2) % p) * d % p) 1) && invs p d
/-- all that is asked of a table: the points 1 .. n - 1 of a curve of order n -/
def check (p a b n gx gy : Nat) (F : List Pt) : Bool :=
  Nat.beq (F.length + 1) n && (match F with | some (x, y) :: _ => Nat.beq x gx && Nat.beq y gy | _ => false) && onM p a b F && invs p p
/-- the rows from number k on, so many -/
def chunk (p a : Nat) (F : List Pt) (k c : Nat) : Bool := rows p a F ((F.drop k).take c) ((F.tail ++ (none :: F)).drop k)

theorem row_at {p a x1 y1 : Nat} : ∀ {F S : List Pt}, row p a x1 y1 F S = true → ∀ (j : Nat) (q : Pt), F[j]? = some q → ∃ s, S[j]? = some s ∧ one p a x1 y1 q s = true
  | [], _, _, j, q, h => by simp at h
  | q0 :: qs, [], h, _, _, _ => by simp [row] at h
  | q0 :: qs, s0 :: ss, h, j, q, hq => by
    simp only [row, Bool.and_eq_true] at h
    cases j with
    | zero => simp at hq; subst hq; exact ⟨s0, by simp, h.1⟩
    | succ j => obtain ⟨s, h1, h2⟩ := row_at h.2 j q (by simpa using hq); exact ⟨s, by simpa using h1, h2⟩
theorem rows_at {p a : Nat} {F : List Pt} : ∀ {G S : List Pt}, rows p a F G S = true → ∀ (i : Nat) (q : Pt), G[i]? = some q → ∃ x y, q = some (x, y) ∧ row p a x y F (S.drop i) = true
  | [], _, _, i, q, h => by simp at h
  | q0 :: qs, S, h, i, q, hq => by
    simp only [rows, Bool.and_eq_true] at h
    cases i with
    | zero =>
      simp at hq; subst hq
      cases q0 with
      | none => simp at h
      | some v => exact ⟨v.1, v.2, rfl, h.1⟩
    | succ i =>
      obtain ⟨x, y, h1, h2⟩ := rows_at h.2 i q (by simpa using hq)
      refine ⟨x, y, h1, ?_⟩
      rwa [← List.drop_one, List.drop_drop, Nat.add_comm 1 i] at h2
theorem chunk_at {p a k c : Nat} {F : List Pt} (h : chunk p a F k c = true) (i : Nat) (q : Pt) (hq : F[i]? = some q) (h1 : k ≤ i) (h2 : i < k + c) : ∃ x y, q = some (x, y) ∧ row p a x y F ((F.tail ++ (none :: F)).drop i) = true := by
  unfold chunk at h
  obtain ⟨x, y, e, hr⟩ := rows_at h (i - k) q (by rw [List.getElem?_take, if_pos (by omega), List.getElem?_drop, show k + (i - k) = i from by omega]; exact hq)
  rw [List.drop_drop, show k + (i - k) = i from by omega] at hr
  exact ⟨x, y, e, hr⟩
theorem onM_at {p a b : Nat} : ∀ {F : List Pt}, onM p a b F = true → ∀ (i : Nat) (q : Pt), F[i]? = some q → ∃ x y, q = some (x, y) ∧ x < p ∧ y < p ∧ y * y % p = sideM p a b x
  | [], _, i, q, h => by simp at h
  | q0 :: qs, h, i, q, hq => by
    simp only [onM, Bool.and_eq_true] at h
    cases i with
    | zero =>
      simp at hq; subst hq
      cases q0 with
      | none => simp at h
      | some v =>
        have h1 := h.1
        simp only [Bool.and_eq_true] at h1
        exact ⟨v.1, v.2, rfl, Nat.blt_eq ▸ h1.1.1, Nat.blt_eq ▸ h1.1.2, Nat.eq_of_beq_eq_true h1.2⟩
    | succ i => exact onM_at h.2 i q (by simpa using hq)
theorem invs_at {p : Nat} : ∀ {k : Nat}, invs p k = true → ∀ d, d < k → d ≠ 0 → (d ^ (p - 2) % p) * d % p = 1
  | 0, _, d, h, _ => by omega
  | k + 1, h, d, hd, h0 => by
    simp only [invs, Bool.and_eq_true, Bool.or_eq_true] at h
    by_cases e : d = k
    · subst e
      rcases h.1 with h1 | h1
      · exact absurd (Nat.eq_of_beq_eq_true h1) h0
      · exact Nat.eq_of_beq_eq_true h1
    · exact invs_at h.2 d (by omega) h0

theorem gcd_of_inv {p d i : Nat} (h : i * d % p = 1) : Nat.gcd p d = 1 := by
  have h1 : Nat.gcd p d ∣ p := Nat.gcd_dvd_left _ _
  have h2 : Nat.gcd p d ∣ i * d := Nat.dvd_trans (Nat.gcd_dvd_right _ _) (Nat.dvd_mul_left _ _)
  have h3 : Nat.gcd p d ∣ i * d % p := (Nat.dvd_mod_iff h1).2 h2
  rw [h] at h3
  exact Nat.dvd_one.1 h3

/-- point number i: of a table -/
def T (F : List Pt) (n i : Nat) : Nat × Nat × Bool := if i % n = 0 then (0, 0, true) else match F[i % n - 1]? with | some (some (x, y)) => (x, y, false) | _ => (0, 0, true)
end Go.Proofs.Ytpdhbddkcnffbaa.GM
