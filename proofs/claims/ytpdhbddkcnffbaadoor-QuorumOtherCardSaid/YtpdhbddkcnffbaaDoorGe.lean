/- The points of a small curve add as their numbers do: from the table to the program's 'add'. Conditions: the table's checks. -/
import Derived.Test.YtpdhbddkcnffbaaDoorCurve5
namespace Go.Proofs.YtpdhbddkcnffbaaDoor
open Go.RowKit
set_option linter.unusedVariables false
set_option linter.unusedVariables false
set_option maxRecDepth 100000
--nrm pt_all pt_x pt_y cv_all cv_p cv_a cv_b cv_n cv_g cv_gx pt_len cv_len rg_len ren_rl rl_all rl_m rl_len rl_nil pt_nil ptD_all ptD_nil ptD_len

theorem p_picked (n m q : Int) (hm : 0 < m) (hm' : m ≤ 4611686018427387904) (hq : n % m = q) : Pur Tryd.prog 10 [.int .i64 n, .int .i64 m] (.int .i64 q) :=
  pur_of_calls (vs := [.int .i64 n, .int .i64 m]) rfl rfl rfl fun w => (picked_any n m hm hm' w).mono fun e w' ⟨h1, h2⟩ => ⟨by rw [h1, hq], by rw [← h2]; exact new_refl w⟩

set_option maxHeartbeats 4000000 in
theorem small5 (p b n x y : Int) : Pur Tryd.prog 33 [.int .u64 p, .int .u64 b, .int .u64 n, .int .u64 x, .int .u64 y]
    (.agg [.int .u64 p, .int .u64 0, .int .u64 0, .int .u64 0, .int .u64 0, .int .u64 0, .int .u64 0, .int .u64 0, .int .u64 b, .int .u64 0, .int .u64 0, .int .u64 0, .int .u64 n, .int .u64 0, .int .u64 0, .int .u64 0, .int .u64 x, .int .u64 0, .int .u64 0, .int .u64 0, .int .u64 y, .int .u64 0, .int .u64 0, .int .u64 0, .bool false]) := by
  refine pur_intro Tryd.func33 rfl Tryd.ntmps33 rfl (by first | rfl | assumption | exact bs_cl _) fun B => ?_
  repeat (first | with_reducible (first | refine W_seq ?_ | refine q_then ?_ | refine q_thenr ?_ | refine q_thenx ?_ | refine W_block ?_ | refine q_block ?_ | refine q_blockr ?_ | refine q_blockx ?_ | refine W_ret ?_ | refine W_skip ?_ | refine W_label ?_ | refine W_exit ?_ | refine W_scope ?_ | refine q_scope ?_ | refine q_scoper ?_ | refine q_scopex ?_) | (with_reducible refine R_nil ?_; try dsimp only [slots0, slots_ud, pt_all, pt_x, pt_y, cv_all, cv_p, cv_a, cv_b, cv_n, cv_g, cv_gx, pt_len, cv_len, rg_len, ren_rl, rl_all, rl_m, rl_len, rl_nil, pt_nil, ptD_all, ptD_nil, ptD_len, cells_U, agg_ud, drop0, dropS, takeS, take0, ud_nil, take_ud, take_ud0, drop_ud, drop_ud0, take_udk, D.cells, D.fz, D.fzs, List.take_succ_cons, List.take_zero, List.drop_succ_cons, List.drop_zero, List.cons_append, List.nil_append, List.append_eq, List.length_cons, List.length_nil, Nat.reduceAdd, Nat.reduceMul, Nat.reduceSub, Int.reduceAdd, Int.reduceSub, Int.reduceToNat, Int.reduceNeg, Int.reduceMul]) | refine q_blocky rfl ?_ | refine W_plain rfl ?_ | refine W_drawn mixed rfl ?_ | refine and_chk (by kernel_rfl) ?_ | refine k_move rfl rfl ?_ | refine k_alloc rfl ?_ | refine k_store rfl rfl rfl rfl rfl rfl rfl ?_ | refine k_build rfl rfl rfl ?_ | refine W_yes rfl ?_ | refine W_no rfl ?_)
  (first | with_reducible refine q_endr ?_ | with_reducible refine q_endn ?_); refine rets1 Tryd.results33 (by first | exact RetV.tmp _ _ rfl | exact RetV.cell _ _ _ _ _ _ _ _ inferInstance rfl rfl rfl) ?_
  rfl

/-- the eight curves: P, B, N, and the base -/
def cvs : List (Nat × Nat × Nat × Nat × Nat) := [(43, 7, 31, 2, 12), (67, 2, 73, 2, 12), (79, 6, 67, 5, 17), (139, 2, 163, 3, 53), (163, 3, 181, 1, 2), (211, 3, 199, 1, 2), (379, 2, 409, 5, 49), (691, 3, 643, 1, 2)]

set_option maxHeartbeats 16000000 in
theorem Curve_ok (z : Int) (k p b n x y : Nat) (hz : z % 8 = k) (hk : cvs[k]? = some (p, b, n, x, y)) : Pur Tryd.prog 13 [.int .i64 z] (.agg (cv p 0 b n x y false)) := by
  have h8 : k < 8 := by omega
  obtain rfl | rfl | rfl | rfl | rfl | rfl | rfl | rfl : k = 0 ∨ k = 1 ∨ k = 2 ∨ k = 3 ∨ k = 4 ∨ k = 5 ∨ k = 6 ∨ k = 7 := by omega
  all_goals
    simp [cvs] at hk
    obtain ⟨rfl, rfl, rfl, rfl, rfl⟩ := hk
    refine pur_intro Tryd.func13 rfl Tryd.ntmps13 rfl (by first | rfl | assumption | exact bs_cl _) fun B => ?_
    repeat (first | with_reducible (first | refine W_seq ?_ | refine q_then ?_ | refine q_thenr ?_ | refine q_thenx ?_ | refine W_block ?_ | refine q_block ?_ | refine q_blockr ?_ | refine q_blockx ?_ | refine W_ret ?_ | refine W_skip ?_ | refine W_label ?_ | refine W_exit ?_ | refine W_scope ?_ | refine q_scope ?_ | refine q_scoper ?_ | refine q_scopex ?_) | (with_reducible refine R_nil ?_; try dsimp only [slots0, slots_ud, pt_all, pt_x, pt_y, cv_all, cv_p, cv_a, cv_b, cv_n, cv_g, cv_gx, pt_len, cv_len, rg_len, ren_rl, rl_all, rl_m, rl_len, rl_nil, pt_nil, ptD_all, ptD_nil, ptD_len, cells_U, agg_ud, drop0, dropS, takeS, take0, ud_nil, take_ud, take_ud0, drop_ud, drop_ud0, take_udk, D.cells, D.fz, D.fzs, List.take_succ_cons, List.take_zero, List.drop_succ_cons, List.drop_zero, List.cons_append, List.nil_append, List.append_eq, List.length_cons, List.length_nil, Nat.reduceAdd, Nat.reduceMul, Nat.reduceSub, Int.reduceAdd, Int.reduceSub, Int.reduceToNat, Int.reduceNeg, Int.reduceMul]) | refine q_blocky rfl ?_ | refine W_plain rfl ?_ | refine W_drawn mixed rfl ?_ | refine and_chk (by kernel_rfl) ?_ | refine k_move rfl rfl ?_ | refine k_alloc rfl ?_ | refine k_store rfl rfl rfl rfl rfl rfl rfl ?_ | refine k_build rfl rfl rfl ?_ | refine k_call rfl (small5 _ _ _ _ _) rfl rfl rfl rfl ?_ | refine k_call rfl (p_picked z 8 _ (by decide) (by decide) hz) rfl rfl rfl rfl ?_ | (refine k_index rfl rfl rfl ⟨?_, ?_⟩ rfl ?_; (omega); (omega)) | refine W_yes rfl ?_ | refine W_no rfl ?_)
    (first | with_reducible refine q_endr ?_ | with_reducible refine q_endn ?_); refine rets1 Tryd.results13 (by first | exact RetV.tmp _ _ rfl | exact RetV.cell _ _ _ _ _ _ _ _ inferInstance rfl rfl rfl) ?_
    rfl
end Go.Proofs.YtpdhbddkcnffbaaDoor

namespace Go.Proofs.YtpdhbddkcnffbaaDoor.GM

/-- divides the difference -/
def Eqm (p : Nat) (a b : Int) : Prop := (p : Int) ∣ a - b
theorem Eqm.refl {p : Nat} (a : Int) : Eqm p a a := ⟨0, by omega⟩
theorem Eqm.symm {p : Nat} {a b : Int} (h : Eqm p a b) : Eqm p b a := by
  obtain ⟨k, hk⟩ := h
  exact ⟨-k, by rw [Int.mul_neg]; omega⟩
theorem Eqm.trans {p : Nat} {a b c : Int} (h : Eqm p a b) (k : Eqm p b c) : Eqm p a c := by
  obtain ⟨x, hx⟩ := h
  obtain ⟨y, hy⟩ := k
  exact ⟨x + y, by rw [Int.mul_add]; omega⟩
theorem Eqm.add {p : Nat} {a b c d : Int} (h : Eqm p a b) (k : Eqm p c d) : Eqm p (a + c) (b + d) := by
  obtain ⟨x, hx⟩ := h
  obtain ⟨y, hy⟩ := k
  exact ⟨x + y, by rw [Int.mul_add]; omega⟩
theorem Eqm.neg {p : Nat} {a b : Int} (h : Eqm p a b) : Eqm p (-a) (-b) := by
  obtain ⟨x, hx⟩ := h
  exact ⟨-x, by rw [Int.mul_neg]; omega⟩
theorem Eqm.sub {p : Nat} {a b c d : Int} (h : Eqm p a b) (k : Eqm p c d) : Eqm p (a - c) (b - d) := by
  have := h.add k.neg
  rwa [← Int.sub_eq_add_neg, ← Int.sub_eq_add_neg] at this
theorem Eqm.mul {p : Nat} {a b c d : Int} (h : Eqm p a b) (k : Eqm p c d) : Eqm p (a * c) (b * d) := by
  obtain ⟨x, hx⟩ := h
  obtain ⟨y, hy⟩ := k
  refine ⟨x * c + b * y, ?_⟩
  have e1 : a = b + p * x := by omega
  have e2 : c = d + p * y := by omega
  subst e1
  subst e2
  grind
theorem Eqm.mod {p : Nat} (a : Nat) : Eqm p ((a % p : Nat) : Int) a := by
  refine ⟨-((a / p : Nat) : Int), ?_⟩
  have h := Nat.div_add_mod a p
  have e : (a : Int) = ((p * (a / p) : Nat) : Int) + ((a % p : Nat) : Int) := by rw [← Int.natCast_add, h]
  rw [Int.natCast_mul] at e
  rw [e, Int.mul_neg]; omega
/-- the code's difference -/
theorem Eqm.sb {p a b : Nat} (h : b ≤ p) : Eqm p (((a + p - b) % p : Nat) : Int) ((a : Int) - b) := by
  refine (Eqm.mod _).trans ⟨1, ?_⟩
  omega
theorem Eqm.eq {p a b : Nat} (h : Eqm p a b) (ha : a < p) (hb : b < p) : a = b := by
  obtain ⟨k, hk⟩ := h
  have : k = 0 := by
    rcases Int.lt_trichotomy k 0 with h | h | h
    · have := Int.mul_le_mul_of_nonneg_left (show k ≤ -1 by omega) (Int.natCast_nonneg p); omega
    · exact h
    · have := Int.mul_le_mul_of_nonneg_left (show 1 ≤ k by omega) (Int.natCast_nonneg p); omega
  subst this
  omega
theorem Eqm.of_mod {p a b : Nat} (h : a % p = b % p) : Eqm p a b := (Eqm.mod a).symm.trans (by rw [h]; exact Eqm.mod b)
theorem Eqm.to_mod {p a b : Nat} (hp : 0 < p) (h : Eqm p a b) : a % p = b % p :=
  Eqm.eq (((Eqm.mod a).trans h).trans (Eqm.mod b).symm) (Nat.mod_lt _ hp) (Nat.mod_lt _ hp)

/-- from the cross products to the code's numbers -/
theorem cross {p : Nat} (hp : 0 < p) {x1 x2 x3 y1 y3 U Dn i s : Nat} (hx1 : x1 ≤ p) (hx2 : x2 ≤ p) (hx3 : x3 < p) (hy1 : y1 ≤ p) (hy3 : y3 < p) (hi : Eqm p ((i : Int) * Dn) 1) (hs : U * i % p = s)
    (h3 : ((x3 + x1 + x2) * (Dn * Dn % p)) % p = U * U % p) (h4 : ((y3 + y1) * Dn) % p = (U * ((x1 + p - x3) % p)) % p) :
    ((s * s % p + p - x1) % p + p - x2) % p = x3 ∧ (s * ((x1 + p - x3) % p) % p + p - y1) % p = y3 := by
  have es : Eqm p s ((U : Int) * i) := by rw [← hs]; have := Eqm.mod (p := p) (U * i); rwa [Int.natCast_mul] at this
  have e3 : Eqm p (((x3 : Int) + x1 + x2) * ((Dn : Int) * Dn)) ((U : Int) * U) := by
    have h := Eqm.of_mod (p := p) (a := (x3 + x1 + x2) * (Dn * Dn % p)) (b := U * U) (by rw [h3])
    rw [Int.natCast_mul, Int.natCast_mul, Int.natCast_add, Int.natCast_add] at h
    have k := (Eqm.mod (p := p) (Dn * Dn)).symm
    rw [Int.natCast_mul] at k
    exact ((Eqm.refl ((x3 : Int) + x1 + x2)).mul k).trans h
  have e4 : Eqm p (((y3 : Int) + y1) * Dn) ((U : Int) * (x1 - x3)) := by
    have h := Eqm.of_mod (p := p) (a := (y3 + y1) * Dn) (b := U * ((x1 + p - x3) % p)) (by rw [h4])
    rw [Int.natCast_mul, Int.natCast_mul, Int.natCast_add] at h
    exact h.trans ((Eqm.refl (U : Int)).mul (Eqm.sb (by omega)))
  have f3 : Eqm p ((s : Int) * s - x1 - x2) x3 := by
    have a1 : Eqm p ((s : Int) * s) (((U : Int) * i) * ((U : Int) * i)) := es.mul es
    have a2 : Eqm p (((U : Int) * U) * ((i : Int) * i)) ((((x3 : Int) + x1 + x2) * ((Dn : Int) * Dn)) * ((i : Int) * i)) := e3.symm.mul (Eqm.refl _)
    have a3 : Eqm p (((x3 : Int) + x1 + x2) * (((i : Int) * Dn) * ((i : Int) * Dn))) (((x3 : Int) + x1 + x2) * (1 * 1)) := (Eqm.refl _).mul (hi.mul hi)
    have b1 : ((U : Int) * i) * ((U : Int) * i) = ((U : Int) * U) * ((i : Int) * i) := by grind
    have b2 : (((x3 : Int) + x1 + x2) * ((Dn : Int) * Dn)) * ((i : Int) * i) = ((x3 : Int) + x1 + x2) * (((i : Int) * Dn) * ((i : Int) * Dn)) := by grind
    rw [b1] at a1
    rw [b2] at a2
    have a4 := (a1.trans a2).trans a3
    have a5 := (a4.sub (Eqm.refl (x1 : Int))).sub (Eqm.refl (x2 : Int))
    have b3 : ((x3 : Int) + x1 + x2) * (1 * 1) - x1 - x2 = x3 := by omega
    rwa [b3] at a5
  have f4 : Eqm p ((s : Int) * (x1 - x3) - y1) y3 := by
    have a1 : Eqm p ((s : Int) * (x1 - x3)) (((U : Int) * i) * (x1 - x3)) := es.mul (Eqm.refl _)
    have a2 : Eqm p (((U : Int) * (x1 - x3)) * i) ((((y3 : Int) + y1) * Dn) * i) := e4.symm.mul (Eqm.refl _)
    have a3 : Eqm p (((y3 : Int) + y1) * ((i : Int) * Dn)) (((y3 : Int) + y1) * 1) := (Eqm.refl _).mul hi
    have b1 : ((U : Int) * i) * (x1 - x3) = ((U : Int) * (x1 - x3)) * i := by grind
    have b2 : (((y3 : Int) + y1) * Dn) * i = ((y3 : Int) + y1) * ((i : Int) * Dn) := by grind
    rw [b1] at a1
    rw [b2] at a2
    have a4 := ((a1.trans a2).trans a3).sub (Eqm.refl (y1 : Int))
    have b3 : ((y3 : Int) + y1) * 1 - y1 = y3 := by omega
    rwa [b3] at a4
  constructor
  · refine Eqm.eq (Eqm.trans ?_ f3) (Nat.mod_lt _ hp) hx3
    refine (Eqm.sb hx2).trans (Eqm.sub ((Eqm.sb hx1).trans (Eqm.sub ?_ (Eqm.refl _))) (Eqm.refl _))
    have := Eqm.mod (p := p) (s * s); rwa [Int.natCast_mul] at this
  · refine Eqm.eq (Eqm.trans ?_ f4) (Nat.mod_lt _ hp) hy3
    refine (Eqm.sb hy1).trans (Eqm.sub ?_ (Eqm.refl _))
    have h := Eqm.mod (p := p) (s * ((x1 + p - x3) % p))
    rw [Int.natCast_mul] at h
    exact h.trans ((Eqm.refl (s : Int)).mul (Eqm.sb (by omega)))

/-! the table -/
abbrev Pt := Option (Nat × Nat)

def gen (p x1 y1 x2 y2 x3 y3 : Nat) : Bool :=
  Nat.beq (((x3 + x1 + x2) * ((((x2 + p - x1) % p) * ((x2 + p - x1) % p)) % p)) % p) ((((y2 + p - y1) % p) * ((y2 + p - y1) % p)) % p) && Nat.beq (((y3 + y1) * ((x2 + p - x1) % p)) % p) ((((y2 + p - y1) % p) * ((x1 + p - x3) % p)) % p)
def dbl (p a x1 y1 x3 y3 : Nat) : Bool :=
  !Nat.beq ((y1 + y1) % p) 0 && Nat.beq (((x3 + x1 + x1) * ((((y1 + y1) % p) * ((y1 + y1) % p)) % p)) % p) ((((3 % p * (x1 * x1 % p) % p + a) % p) * ((3 % p * (x1 * x1 % p) % p + a) % p)) % p) && Nat.beq (((y3 + y1) * ((y1 + y1) % p)) % p) ((((3 % p * (x1 * x1 % p) % p + a) % p) * ((x1 + p - x3) % p)) % p)
def one (p a x1 y1 : Nat) (q s : Pt) : Bool :=
  match q with
  | none => false
  | some (x2, y2) => match s with
    | none => Nat.beq x1 x2 && Nat.beq ((y1 + y2) % p) 0
    | some (x3, y3) => cond (Nat.beq x1 x2) (Nat.beq y1 y2 && dbl p a x1 y1 x3 y3) (gen p x1 y1 x2 y2 x3 y3)
def row (p a x1 y1 : Nat) : List Pt → List Pt → Bool
  | [], _ => true
  | q :: qs, s :: ss => one p a x1 y1 q s && row p a x1 y1 qs ss
  | _ :: _, [] => false
def rows (p a : Nat) (F : List Pt) : List Pt → List Pt → Bool
  | [], _ => true
  | q :: qs, s => (match q with | some (x, y) => row p a x y F s | none => false) && rows p a F qs s.tail
def sideM (p a b x : Nat) : Nat := ((x * (x * x % p) % p + a * x % p) % p + b) % p
def onM (p a b : Nat) : List Pt → Bool
  | [] => true
  | q :: qs => (match q with | some (x, y) => Nat.blt x p && Nat.blt y p && Nat.beq (y * y % p) (sideM p a b x) | none => false) && onM p a b qs
def invs (p : Nat) : Nat → Bool
  | 0 => true
  | d + 1 => (Nat.beq d 0 || Nat.beq ((d ^ (p - 2) % p) * d % p) 1) && invs p d
/-- all that is asked of a table: the points 1 .. n - 1 of a curve of order n -/
def check (p a b n gx gy : Nat) (F : List Pt) : Bool :=
  Nat.beq (F.length + 1) n && (match F with | some (x, y) :: _ => Nat.beq x gx && Nat.beq y gy | _ => false) && onM p a b F && invs p p
/-- the rows from number k on, so many -/
def chunk (p a : Nat) (F : List Pt) (k c : Nat) : Bool := rows p a F ((F.drop k).take c) ((F.tail ++ (none :: F)).drop k)

theorem row_at {p a x1 y1 : Nat} : ∀ {F S : List Pt}, row p a x1 y1 F S = true → ∀ (j : Nat) (q : Pt), F[j]? = some q → ∃ s, S[j]? = some s ∧ one p a x1 y1 q s = true
  | [], _, _, j, q, h => by simp at h
  | q0 :: qs, [], h, _, _, _ => by simp [row] at h
  | q0 :: qs, s0 :: ss, h, j, q, hq => by
    simp only [row, Bool.and_eq_true] at h
    cases j with
    | zero => simp at hq; subst hq; exact ⟨s0, by simp, h.1⟩
    | succ j => obtain ⟨s, h1, h2⟩ := row_at h.2 j q (by simpa using hq); exact ⟨s, by simpa using h1, h2⟩
theorem rows_at {p a : Nat} {F : List Pt} : ∀ {G S : List Pt}, rows p a F G S = true → ∀ (i : Nat) (q : Pt), G[i]? = some q → ∃ x y, q = some (x, y) ∧ row p a x y F (S.drop i) = true
  | [], _, _, i, q, h => by simp at h
  | q0 :: qs, S, h, i, q, hq => by
    simp only [rows, Bool.and_eq_true] at h
    cases i with
    | zero =>
      simp at hq; subst hq
      cases q0 with
      | none => simp at h
      | some v => exact ⟨v.1, v.2, rfl, h.1⟩
    | succ i =>
      obtain ⟨x, y, h1, h2⟩ := rows_at h.2 i q (by simpa using hq)
      refine ⟨x, y, h1, ?_⟩
      rwa [← List.drop_one, List.drop_drop, Nat.add_comm 1 i] at h2
theorem chunk_at {p a k c : Nat} {F : List Pt} (h : chunk p a F k c = true) (i : Nat) (q : Pt) (hq : F[i]? = some q) (h1 : k ≤ i) (h2 : i < k + c) : ∃ x y, q = some (x, y) ∧ row p a x y F ((F.tail ++ (none :: F)).drop i) = true := by
  unfold chunk at h
  obtain ⟨x, y, e, hr⟩ := rows_at h (i - k) q (by rw [List.getElem?_take, if_pos (by omega), List.getElem?_drop, show k + (i - k) = i from by omega]; exact hq)
  rw [List.drop_drop, show k + (i - k) = i from by omega] at hr
  exact ⟨x, y, e, hr⟩
theorem onM_at {p a b : Nat} : ∀ {F : List Pt}, onM p a b F = true → ∀ (i : Nat) (q : Pt), F[i]? = some q → ∃ x y, q = some (x, y) ∧ x < p ∧ y < p ∧ y * y % p = sideM p a b x
  | [], _, i, q, h => by simp at h
  | q0 :: qs, h, i, q, hq => by
    simp only [onM, Bool.and_eq_true] at h
    cases i with
    | zero =>
      simp at hq; subst hq
      cases q0 with
      | none => simp at h
      | some v =>
        have h1 := h.1
        simp only [Bool.and_eq_true] at h1
        exact ⟨v.1, v.2, rfl, Nat.blt_eq ▸ h1.1.1, Nat.blt_eq ▸ h1.1.2, Nat.eq_of_beq_eq_true h1.2⟩
    | succ i => exact onM_at h.2 i q (by simpa using hq)
theorem invs_at {p : Nat} : ∀ {k : Nat}, invs p k = true → ∀ d, d < k → d ≠ 0 → (d ^ (p - 2) % p) * d % p = 1
  | 0, _, d, h, _ => by omega
  | k + 1, h, d, hd, h0 => by
    simp only [invs, Bool.and_eq_true, Bool.or_eq_true] at h
    by_cases e : d = k
    · subst e
      rcases h.1 with h1 | h1
      · exact absurd (Nat.eq_of_beq_eq_true h1) h0
      · exact Nat.eq_of_beq_eq_true h1
    · exact invs_at h.2 d (by omega) h0

theorem gcd_of_inv {p d i : Nat} (h : i * d % p = 1) : Nat.gcd p d = 1 := by
  have h1 : Nat.gcd p d ∣ p := Nat.gcd_dvd_left _ _
  have h2 : Nat.gcd p d ∣ i * d := Nat.dvd_trans (Nat.gcd_dvd_right _ _) (Nat.dvd_mul_left _ _)
  have h3 : Nat.gcd p d ∣ i * d % p := (Nat.dvd_mod_iff h1).2 h2
  rw [h] at h3
  exact Nat.dvd_one.1 h3

/-- point number i: of a table -/
def T (F : List Pt) (n i : Nat) : Nat × Nat × Bool := if i % n = 0 then (0, 0, true) else match F[i % n - 1]? with | some (some (x, y)) => (x, y, false) | _ => (0, 0, true)
end Go.Proofs.YtpdhbddkcnffbaaDoor.GM

namespace Go.Proofs.YtpdhbddkcnffbaaDoor
open Go.RowKit
set_option linter.unusedVariables false
set_option linter.unusedVariables false
set_option maxRecDepth 100000

/-- the points of a curve of order n, by number -/
structure Grp (p b n gx gy : Nat) (T : Nat → P3) : Prop where
  good : Good p 0 b n gx gy
  hn : n < 9223372036854775808
  t0 : T 0 = (0, 0, true)
  t1 : T 1 = (gx, gy, false)
  per : ∀ i, T (i % n) = T i
  on : ∀ i, OnP p 0 b (T i)
  fin : ∀ i, i % n ≠ 0 → (T i).2.2 = false
  add : ∀ i j, AddP p 0 b n gx gy (T i) (T j) (T (i + j))

open GM in
theorem grp_of {p b n gx gy : Nat} {F : List Pt} (g : Good p 0 b n gx gy) (hc : check p 0 b n gx gy F = true) (hr : ∀ (i : Nat) (q : Pt), F[i]? = some q → ∃ x y, q = some (x, y) ∧ row p 0 x y F ((F.tail ++ (none :: F)).drop i) = true) (hn : n < 9223372036854775808) : Grp p b n gx gy (GM.T F n) := by
  have hp := g.hp
  have h3 := g.h3
  have h0 : 0 < p := by omega
  have h1n := g.h1
  unfold check at hc
  simp only [Bool.and_eq_true] at hc
  obtain ⟨⟨⟨hlen, hhd⟩, hon⟩, hinv⟩ := hc
  have hlen := Nat.eq_of_beq_eq_true hlen
  have hF : ∀ i, i % n ≠ 0 → ∃ x y, F[i % n - 1]? = some (some (x, y)) ∧ GM.T F n i = (x, y, false) ∧ x < p ∧ y < p ∧ y * y % p = sideM p 0 b x ∧ row p 0 x y F ((F.tail ++ (none :: F)).drop (i % n - 1)) = true := by
    intro i hi
    have hlt : i % n < n := Nat.mod_lt _ (by omega)
    have hq : F[i % n - 1]? = some (F[i % n - 1]'(by omega)) := List.getElem?_eq_getElem _
    obtain ⟨x, y, e, hx, hy, hs⟩ := onM_at hon _ _ hq
    obtain ⟨x', y', e', hrow⟩ := hr _ _ hq
    rw [e] at e'
    injection e' with e'
    injection e' with e1 e2
    subst e1; subst e2
    rw [e] at hq
    exact ⟨x, y, hq, by unfold GM.T; rw [if_neg hi, hq], hx, hy, hs, hrow⟩
  have hT0 : ∀ i, i % n = 0 → GM.T F n i = (0, 0, true) := fun i hi => by unfold GM.T; rw [if_pos hi]
  have hper : ∀ i j, i % n = j % n → GM.T F n i = GM.T F n j := fun i j h => by unfold GM.T; rw [h]
  have hop : ∀ i, OnP p 0 b (GM.T F n i) := by
    intro i
    by_cases hi : i % n = 0
    · exact .inl (hT0 i hi)
    · obtain ⟨x, y, _, e, hx, hy, hs, _⟩ := hF i hi
      rw [e]
      exact .inr ⟨rfl, hx, hy, decide_eq_true hs⟩
  refine ⟨g, hn, hT0 0 (Nat.zero_mod _), ?_, fun i => hper _ _ (Nat.mod_mod _ _), hop, ?_, ?_⟩
  · have h1 : 1 % n = 1 := Nat.mod_eq_of_lt h1n
    unfold GM.T
    rw [if_neg (by omega), h1]
    cases F with
    | nil => simp at hhd
    | cons q F =>
      cases q with
      | none => simp at hhd
      | some v =>
        simp only [Bool.and_eq_true] at hhd
        simp only [Nat.sub_self, List.getElem?_cons_zero]
        rw [Nat.eq_of_beq_eq_true hhd.1, Nat.eq_of_beq_eq_true hhd.2]
  · intro i hi
    obtain ⟨x, y, _, e, _⟩ := hF i hi
    rw [e]
  · intro i j
    by_cases hi : i % n = 0
    · rw [hT0 i hi, hper (i + j) j (by rw [Nat.add_mod, hi, Nat.zero_add, Nat.mod_mod])]
      exact add_farL p 0 b n gx gy 0 0 _
    · obtain ⟨x1, y1, q1, e1, hx1, hy1, _, hrow⟩ := hF i hi
      by_cases hj : j % n = 0
      · rw [hper (i + j) i (by rw [Nat.add_mod, hj, Nat.add_zero, Nat.mod_mod]), hT0 j hj, e1]
        exact add_farR p 0 b n gx gy x1 y1 0 0
      · obtain ⟨x2, y2, q2, e2, hx2, hy2, _, _⟩ := hF j hj
        obtain ⟨s, hs, ho⟩ := row_at hrow _ _ q2
        rw [List.getElem?_drop] at hs
        have hi' : i % n < n := Nat.mod_lt _ (by omega)
        have hj' : j % n < n := Nat.mod_lt _ (by omega)
        have hlt : F.tail.length = n - 2 := by rw [List.length_tail]; omega
        -- what stands there
        have hS : (s = none ∧ (i + j) % n = 0) ∨ ∃ x3 y3, s = some (x3, y3) ∧ GM.T F n (i + j) = (x3, y3, false) ∧ x3 < p ∧ y3 < p := by
          have hmod : (i + j) % n = (i % n + j % n) % n := Nat.add_mod _ _ _
          have fin : ∀ t, (i + j) % n = t → t ≠ 0 → F[t - 1]? = some s → ∃ x3 y3, s = some (x3, y3) ∧ GM.T F n (i + j) = (x3, y3, false) ∧ x3 < p ∧ y3 < p := by
            intro t ht ht0 hst
            obtain ⟨x3, y3, q3, e3, hx3, hy3, _⟩ := hF (i + j) (by omega)
            rw [ht, hst] at q3
            injection q3 with q3
            exact ⟨x3, y3, q3, e3, hx3, hy3⟩
          rw [List.getElem?_append, hlt] at hs
          by_cases c1 : i % n + j % n < n
          · rw [if_pos (by omega)] at hs
            right
            refine fin (i % n + j % n) (by rw [hmod, Nat.mod_eq_of_lt c1]) (by omega) ?_
            rw [← List.drop_one, List.getElem?_drop, show 1 + (i % n - 1 + (j % n - 1)) = i % n + j % n - 1 from by omega] at hs
            exact hs
          · rw [if_neg (by omega)] at hs
            by_cases c2 : i % n + j % n = n
            · rw [show i % n - 1 + (j % n - 1) - (n - 2) = 0 from by omega] at hs
              simp at hs
              exact .inl ⟨hs.symm, by rw [hmod, c2, Nat.mod_self]⟩
            · rw [show i % n - 1 + (j % n - 1) - (n - 2) = (i % n + j % n - n - 1) + 1 from by omega, List.getElem?_cons_succ] at hs
              right
              exact fin (i % n + j % n - n) (by rw [hmod, Nat.mod_eq_sub_mod (by omega), Nat.mod_eq_of_lt (by omega)]) (by omega) hs
        have hinv' : ∀ d, d < p → d ≠ 0 → (d ^ (p - 2) % p) * d % p = 1 := fun d hd hd0 => invs_at hinv d hd hd0
        have h1p : 1 % p = 1 := Nat.mod_eq_of_lt (by omega)
        rw [e1, e2]
        rcases hS with ⟨rfl, hz⟩ | ⟨x3, y3, rfl, e3, hx3, hy3⟩
        · rw [hT0 _ hz]
          simp only [one, Bool.and_eq_true] at ho
          have hx := Nat.eq_of_beq_eq_true ho.1
          subst hx
          exact add_opp p 0 b n gx gy x1 y1 y2 hp h3 hx1 hy1 hy2 (Nat.eq_of_beq_eq_true ho.2)
        · rw [e3]
          have hoo : cond (Nat.beq x1 x2) (Nat.beq y1 y2 && GM.dbl p 0 x1 y1 x3 y3) (GM.gen p x1 y1 x2 y2 x3 y3) = true := ho
          clear ho
          rcases Bool.eq_false_or_eq_true (Nat.beq x1 x2) with hb | hb
          · simp only [hb, cond_true, Bool.and_eq_true] at hoo
            have hx := Nat.eq_of_beq_eq_true hb
            have hy := Nat.eq_of_beq_eq_true hoo.1
            subst hx; subst hy
            have hd := hoo.2
            unfold GM.dbl at hd
            simp only [Bool.and_eq_true, Bool.not_eq_true'] at hd
            have hD0 : (y1 + y1) % p ≠ 0 := fun e => by rw [e] at hd; simp at hd
            have hi := hinv' _ (Nat.mod_lt (y1 + y1) h0) hD0
            obtain ⟨c3, c4⟩ := cross (i := ((y1 + y1) % p) ^ (p - 2) % p) h0 (Nat.le_of_lt hx1) (Nat.le_of_lt hx1) hx3 (Nat.le_of_lt hy1) hy3 (by
              have := Eqm.of_mod (p := p) (a := ((y1 + y1) % p) ^ (p - 2) % p * ((y1 + y1) % p)) (b := 1) (by rw [hi, h1p])
              rwa [Int.natCast_mul] at this) rfl (Nat.eq_of_beq_eq_true hd.1.2) (Nat.eq_of_beq_eq_true hd.2)
            exact add_dbl p 0 b n gx gy x1 y1 _ _ x3 y3 hp h3 (by omega) hx1 hy1 hD0 (Nat.mod_lt _ h0) (by rw [hi, h1p]) (gcd_of_inv hi) rfl c3 c4
          · simp only [hb, cond_false] at hoo
            unfold GM.gen at hoo
            simp only [Bool.and_eq_true] at hoo
            have hne : x1 ≠ x2 := fun e => by rw [e, Nat.beq_refl] at hb; cases hb
            have hD0 : (x2 + p - x1) % p ≠ 0 := by
              intro e
              rcases Nat.lt_or_ge x1 x2 with h | h
              · rw [show x2 + p - x1 = (x2 - x1) + p from by omega, Nat.add_mod_right, Nat.mod_eq_of_lt (by omega)] at e; omega
              · rw [Nat.mod_eq_of_lt (by omega)] at e; omega
            have hi := hinv' _ (Nat.mod_lt (x2 + p - x1) h0) hD0
            obtain ⟨c3, c4⟩ := cross (i := ((x2 + p - x1) % p) ^ (p - 2) % p) h0 (Nat.le_of_lt hx1) (Nat.le_of_lt hx2) hx3 (Nat.le_of_lt hy1) hy3 (by
              have := Eqm.of_mod (p := p) (a := ((x2 + p - x1) % p) ^ (p - 2) % p * ((x2 + p - x1) % p)) (b := 1) (by rw [hi, h1p])
              rwa [Int.natCast_mul] at this) rfl (Nat.eq_of_beq_eq_true hoo.1) (Nat.eq_of_beq_eq_true hoo.2)
            exact add_gen p 0 b n gx gy x1 y1 x2 y2 _ _ x3 y3 hp h3 hx1 hy1 hx2 hy2 hne (Nat.mod_lt _ h0) (by rw [hi, h1p]) (gcd_of_inv hi) rfl c3 c4
end Go.Proofs.YtpdhbddkcnffbaaDoor
