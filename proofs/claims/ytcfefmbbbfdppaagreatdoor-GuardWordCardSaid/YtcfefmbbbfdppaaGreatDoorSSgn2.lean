/- Recover tells a point by which the signature is right, or says that the signature is none. Conditions: a small curve; its points' table; the signature's numbers below the order. -/
import Derived.Test.YtcfefmbbbfdppaaGreatDoorSGrp
import Derived.Test.YtcfefmbbbfdppaaGreatDoorSTab
import Derived.Test.YtcfefmbbbfdppaaGreatDoorSBytes
import Derived.Test.YtcfefmbbbfdppaaGreatDoorSWide1
import Derived.Test.YtcfefmbbbfdppaaGreatDoorSDFix
namespace Go.Proofs.YtcfefmbbbfdppaaGreatDoor
open Go.RowKit
set_option linter.unusedVariables false
set_option maxRecDepth 100000
--nrm pt_all pt_x pt_y cv_all cv_p cv_a cv_b cv_n cv_g cv_gx pt_len cv_len rg_len ren_rl rl_all rl_m rl_len rl_nil pt_nil ptD_all ptD_nil ptD_len
theorem good_of {p b n gx gy : Nat} (hp : p < 1000) (h3 : 3 < p) (h4 : p % 4 = 3) (hb : b < p) (hn : n < 1000) (h1 : 1 < n) (hd : (4 % p * (0 * (0 * 0 % p) % p) % p + 27 % p * (b * b % p) % p) % p ≠ 0) (hgx : gx < p) (hgy : gy < p) (hon : onN p 0 b gx gy = true) : Good p 0 b n gx gy :=
  ⟨by unfold M256; omega, h3, h4, by omega, hb, by unfold M256; omega, h1, hd, hgx, hgy, hon⟩
section
variable {p b n gx gy : Nat} {T : Nat → P3}
theorem Add_T (G : Grp p b n gx gy T) (i j s : Nat) (hs : T (i + j) = T s) : Pur Tryz.prog 74 [.agg (cv p 0 b n gx gy false), .agg (ptD (T i)), .agg (ptD (T j))] (.tup [.agg (ptD (T s)), .int .i64 0]) := by
  rw [← hs]; exact Add_ok G.good _ _ _ (G.on i) (G.on j) (G.add i j)
theorem On_T (G : Grp p b n gx gy T) (i : Nat) : Pur Tryz.prog 31 [.agg (cv p 0 b n gx gy false), .agg (ptD (T i))] (.int .i64 0) := On_ok G.good _ (G.on i)
theorem Mult_T (G : Grp p b n gx gy T) (k i s : Nat) (hk : k < M256) (hs : T (k * i) = T s) : Pur Tryz.prog 22 [.agg (cv p 0 b n gx gy false), U k, .agg (ptD (T i))] (.tup [.agg (ptD (T s)), .int .i64 0]) := by
  have := Mult_ok G.good (fun j => T (j * i)) k hk (by rw [Nat.zero_mul]; exact G.t0) (by rw [Nat.one_mul]; exact G.on i)
    (fun j _ => by have := G.add (j * i) (j * i); rwa [show j * i + j * i = 2 * j * i from by rw [Nat.mul_assoc, Nat.two_mul]] at this)
    (fun j _ => by have := G.add (2 * j * i) i; rw [show 2 * j * i + i = (2 * j + 1) * i from by rw [Nat.add_mul, Nat.one_mul]] at this; simp only [Nat.one_mul]; exact this)
  simp only [Nat.one_mul] at this
  rw [← hs]; exact this
end
end Go.Proofs.YtcfefmbbbfdppaaGreatDoor
namespace Go.Proofs.YtcfefmbbbfdppaaGreatDoor
open Go.RowKit
set_option linter.unusedVariables false
set_option maxRecDepth 1000000
namespace GM
def lifts (p b : Nat) : List Pt → Bool
  | [] => true
  | q :: qs => (match q with | some (x, y) => !Nat.beq y 0 && (Nat.beq (sideM p 0 b x ^ (p / 4 + 1) % p) y || Nat.beq (sideM p 0 b x ^ (p / 4 + 1) % p) (p - y)) | none => false) && lifts p b qs
theorem lifts_at {p b : Nat} : ∀ {F : List Pt}, lifts p b F = true → ∀ (i : Nat) (x y : Nat), F[i]? = some (some (x, y)) → y ≠ 0 ∧ (sideM p 0 b x ^ (p / 4 + 1) % p = y ∨ sideM p 0 b x ^ (p / 4 + 1) % p = p - y)
  | [], _, i, x, y, h => by simp at h
  | q0 :: qs, h, i, x, y, hq => by
    simp only [lifts, Bool.and_eq_true] at h
    cases i with
    | zero =>
      simp at hq; subst hq
      have h1 := h.1
      simp only [Bool.and_eq_true, Bool.or_eq_true] at h1
      refine ⟨fun e => ?_, h1.2.imp Nat.eq_of_beq_eq_true Nat.eq_of_beq_eq_true⟩
      subst e; simp at h1
    | succ i => exact lifts_at h.2 i x y (by simpa using hq)
theorem lif0 : lifts 43 7 tab0 = true := by kernel_rfl
theorem lif1 : lifts 67 2 tab1 = true := by kernel_rfl
theorem lif2 : lifts 79 6 tab2 = true := by kernel_rfl
theorem lif3 : lifts 139 2 tab3 = true := by kernel_rfl
theorem lif4 : lifts 163 3 tab4 = true := by kernel_rfl
theorem lif5 : lifts 211 3 tab5 = true := by kernel_rfl
theorem lif6 : lifts 379 2 tab6 = true := by kernel_rfl
theorem lif7 : lifts 691 3 tab7 = true := by kernel_rfl
theorem inn0 : invs 31 31 = true := by kernel_rfl
theorem inn1 : invs 73 73 = true := by kernel_rfl
theorem inn2 : invs 67 67 = true := by kernel_rfl
theorem inn3 : invs 163 163 = true := by kernel_rfl
theorem inn4 : invs 181 181 = true := by kernel_rfl
theorem inn5 : invs 199 199 = true := by kernel_rfl
theorem inn6 : invs 409 409 = true := by kernel_rfl
theorem inn7 : invs 643 643 = true := by kernel_rfl
end GM
structure Extra (p b n : Nat) (T : Nat → P3) : Prop where
  opp : ∀ i j, (i + j) % n = 0 → i % n ≠ 0 → ∃ x y, T i = (x, y, false) ∧ T j = (x, p - y, false) ∧ 0 < y ∧ y < p ∧ x < p
  inv : ∀ d, d < n → d ≠ 0 → ∃ i, i < n ∧ i * d % n = 1 ∧ Nat.gcd n d = 1
  lift : ∀ i x y f, i % n ≠ 0 → T i = (x, y, f) → f = false ∧ (sideN p 0 b x ^ (p / 4 + 1) % p = y ∨ sideN p 0 b x ^ (p / 4 + 1) % p = p - y)
open GM in
theorem extra_of {p b n gx gy : Nat} {F : List Pt} (h1p : 1 < p) (h2n : 2 < n) (hc : check p 0 b n gx gy F = true) (hr : ∀ (i : Nat) (q : Pt), F[i]? = some q → ∃ x y, q = some (x, y) ∧ row p 0 x y F ((F.tail ++ (none :: F)).drop i) = true) (hl : lifts p b F = true) (hi : invs n n = true) : Extra p b n (GM.T F n) := by
  unfold check at hc
  simp only [Bool.and_eq_true] at hc
  obtain ⟨⟨⟨hlen, _⟩, hon⟩, _⟩ := hc
  have hlen := Nat.eq_of_beq_eq_true hlen
  have hF : ∀ i, i % n ≠ 0 → ∃ x y, F[i % n - 1]? = some (some (x, y)) ∧ GM.T F n i = (x, y, false) ∧ x < p ∧ y < p ∧ row p 0 x y F ((F.tail ++ (none :: F)).drop (i % n - 1)) = true := by
    intro i hi
    have hlt : i % n < n := Nat.mod_lt _ (by omega)
    have hq : F[i % n - 1]? = some (F[i % n - 1]'(by omega)) := List.getElem?_eq_getElem _
    obtain ⟨x, y, e, hx, hy, hs⟩ := onM_at hon _ _ hq
    obtain ⟨x', y', e', hrow⟩ := hr _ _ hq
    rw [e] at e'
    injection e' with e'
    injection e' with e1 e2
    subst e1; subst e2
    rw [e] at hq
    exact ⟨x, y, hq, by unfold GM.T; rw [if_neg hi, hq], hx, hy, hrow⟩
  refine ⟨fun i j hij hi0 => ?_, fun d hd hd0 => ?_, fun i x y f hi0 hT => ?_⟩
  · obtain ⟨x1, y1, q1, e1, hx1, hy1, hrow⟩ := hF i hi0
    have hj0 : j % n ≠ 0 := fun e => hi0 (by rw [Nat.add_mod, e, Nat.add_zero, Nat.mod_mod] at hij; exact hij)
    obtain ⟨x2, y2, q2, e2, hx2, hy2, _⟩ := hF j hj0
    obtain ⟨s, hs, ho⟩ := row_at hrow _ _ q2
    have hi' : i % n < n := Nat.mod_lt _ (by omega)
    have hj' : j % n < n := Nat.mod_lt _ (by omega)
    have hsum : i % n + j % n = n := by
      rw [Nat.add_mod] at hij
      rcases Nat.lt_or_ge (i % n + j % n) n with h | h
      · rw [Nat.mod_eq_of_lt h] at hij; omega
      · rw [Nat.mod_eq_sub_mod h, Nat.mod_eq_of_lt (by omega)] at hij; omega
    have hlt : F.tail.length = n - 2 := by rw [List.length_tail]; omega
    rw [List.getElem?_drop, List.getElem?_append, hlt, if_neg (by omega), show i % n - 1 + (j % n - 1) - (n - 2) = 0 from by omega] at hs
    simp at hs
    subst hs
    simp only [one, Bool.and_eq_true] at ho
    have hx := Nat.eq_of_beq_eq_true ho.1
    have hy := Nat.eq_of_beq_eq_true ho.2
    have hy0 := (lifts_at hl _ _ _ q1).1
    subst hx
    have : y2 = p - y1 := by
      rcases Nat.lt_or_ge (y1 + y2) p with h | h
      · rw [Nat.mod_eq_of_lt h] at hy; omega
      · rw [Nat.mod_eq_sub_mod h, Nat.mod_eq_of_lt (by omega)] at hy; omega
    exact ⟨x1, y1, e1, by rw [e2, this], by omega, hy1, hx1⟩
  · have h := invs_at hi d hd hd0
    exact ⟨_, Nat.mod_lt _ (by omega), h, gcd_of_inv h⟩
  · obtain ⟨x1, y1, q1, e1, _⟩ := hF i hi0
    rw [hT] at e1
    injection e1 with a1 a2
    injection a2 with a2 a3
    subst a1; subst a2
    exact ⟨a3, (lifts_at hl _ _ _ q1).2⟩
end Go.Proofs.YtcfefmbbbfdppaaGreatDoor
namespace Go.Proofs.YtcfefmbbbfdppaaGreatDoor
open Go.RowKit
set_option linter.unusedVariables false
set_option maxRecDepth 100000
--nrm pt_all pt_x pt_y cv_all cv_p cv_a cv_b cv_n cv_g cv_gx pt_len cv_len rg_len ren_rl rl_all rl_m rl_len rl_nil pt_nil ptD_all ptD_nil ptD_len
theorem tmod2 (r : Nat) : (lim r 0).tmod 2 = ((r % 2 : Nat) : Int) := by
  simp only [lim0]
  rw [Int.tmod_eq_emod_of_nonneg (by omega)]; omega
section
variable {p b n gx gy : Nat} (g : Good p 0 b n gx gy) (x r : Nat) (hx : x < p) (hr : sideN p 0 b x ^ (p / 4 + 1) % p = r)
include g

include hr hx
end
end Go.Proofs.YtcfefmbbbfdppaaGreatDoor
namespace Go.Proofs.YtcfefmbbbfdppaaGreatDoor
open Go.RowKit
set_option linter.unusedVariables false
set_option maxRecDepth 1000000
namespace GM
def hasP (x y : Nat) : List Pt → Bool
  | [] => false
  | q :: qs => cond (match q with | some (a, b) => Nat.beq a x && Nat.beq b y | none => false) true (hasP x y qs)
theorem has_at {x y : Nat} : ∀ {F : List Pt}, hasP x y F = true → ∃ i : Nat, F[i]? = some (some (x, y))
  | [], h => by cases h
  | q :: qs, h => by
    unfold hasP at h
    cases q with
    | none => obtain ⟨i, hi⟩ := has_at (F := qs) h; exact ⟨i + 1, by simpa using hi⟩
    | some v =>
      obtain ⟨a, b⟩ := v
      rcases Bool.eq_false_or_eq_true (Nat.beq a x && Nat.beq b y) with hc | hc
      · simp only [Bool.and_eq_true] at hc
        have e1 := Nat.eq_of_beq_eq_true hc.1
        have e2 := Nat.eq_of_beq_eq_true hc.2
        subst e1; subst e2
        exact ⟨0, rfl⟩
      · simp only [hc, cond_false] at h
        obtain ⟨i, hi⟩ := has_at (F := qs) h
        exact ⟨i + 1, by simpa using hi⟩
def cover1 (p b : Nat) (F : List Pt) (x r s : Nat) : Bool := cond (Nat.beq (r * r % p) s) (hasP x r F) true
def cover (p b : Nat) (F : List Pt) : Nat → Bool
  | 0 => true
  | x + 1 => cover1 p b F x (sideM p 0 b x ^ (p / 4 + 1) % p) (sideM p 0 b x) && cover p b F x
theorem cover_at {p b : Nat} {F : List Pt} : ∀ {k : Nat}, cover p b F k = true → ∀ x, x < k → (sideM p 0 b x ^ (p / 4 + 1) % p) * (sideM p 0 b x ^ (p / 4 + 1) % p) % p = sideM p 0 b x → ∃ i : Nat, F[i]? = some (some (x, sideM p 0 b x ^ (p / 4 + 1) % p))
  | 0, _, x, hx, _ => absurd hx (Nat.not_lt_zero _)
  | k + 1, h, x, hx, hr => by
    simp only [cover, Bool.and_eq_true] at h
    by_cases e : x = k
    · subst e
      have h1 := h.1
      unfold cover1 at h1
      rw [hr, Nat.beq_refl, cond_true] at h1
      exact has_at h1
    · exact cover_at h.2 x (by omega) hr
theorem cov0 : cover 43 7 tab0 43 = true := by kernel_rfl
theorem cov1 : cover 67 2 tab1 67 = true := by kernel_rfl
theorem cov2 : cover 79 6 tab2 79 = true := by kernel_rfl
theorem cov3 : cover 139 2 tab3 139 = true := by kernel_rfl
theorem cov4 : cover 163 3 tab4 163 = true := by kernel_rfl
theorem cov5 : cover 211 3 tab5 211 = true := by kernel_rfl
theorem cov6 : cover 379 2 tab6 379 = true := by kernel_rfl
theorem cov7 : cover 691 3 tab7 691 = true := by kernel_rfl
end GM
def Cover (p b n : Nat) (T : Nat → P3) : Prop := ∀ x, x < p → onN p 0 b x (sideN p 0 b x ^ (p / 4 + 1) % p) = true → ∃ i, i % n ≠ 0 ∧ T i = (x, sideN p 0 b x ^ (p / 4 + 1) % p, false)
open GM in
theorem cover_of {p b n gx gy : Nat} {F : List Pt} (h2n : 2 < n) (hc : check p 0 b n gx gy F = true) (hv : GM.cover p b F p = true) : Cover p b n (GM.T F n) := by
  unfold check at hc
  simp only [Bool.and_eq_true] at hc
  obtain ⟨⟨⟨hlen, _⟩, _⟩, _⟩ := hc
  have hlen := Nat.eq_of_beq_eq_true hlen
  intro x hx ho
  obtain ⟨i, hi⟩ := cover_at hv x hx (of_decide_eq_true ho)
  have hil : i < F.length := by
    rcases Nat.lt_or_ge i F.length with h | h
    · exact h
    · rw [List.getElem?_eq_none h] at hi; cases hi
  have hm : (i + 1) % n = i + 1 := Nat.mod_eq_of_lt (by omega)
  refine ⟨i + 1, by omega, ?_⟩
  unfold GM.T
  rw [if_neg (by omega), hm, Nat.add_sub_cancel, hi]
  rfl
end Go.Proofs.YtcfefmbbbfdppaaGreatDoor
namespace Go.Proofs.YtcfefmbbbfdppaaGreatDoor
open Go.RowKit
set_option linter.unusedVariables false
set_option maxRecDepth 100000
--nrm pt_all pt_x pt_y cv_all cv_p cv_a cv_b cv_n cv_g cv_gx pt_len cv_len rg_len ren_rl rl_all rl_m rl_len rl_nil pt_nil ptD_all ptD_nil ptD_len sg_all sg_r sg_s sg_len
def sg (r s : Nat) (o : Int) : List D := ud r ++ (ud s ++ [.int .i64 o])
theorem sg_all (r s : Nat) (o : Int) : List.take 9 (sg r s o) = sg r s o := rfl
theorem sg_r (r s : Nat) (o : Int) : List.take 4 (sg r s o) = ud r := rfl
theorem sg_s (r s : Nat) (o : Int) : List.take 4 (List.drop 4 (sg r s o)) = ud s := rfl
theorem sg_len (r s : Nat) (o : Int) : (sg r s o).length = 9 := rfl
theorem rest_ok (a m r : Nat) (ha : a < M256) (hm : m < M256) (h0 : 0 < m) (hr : a % m = r) : Pur Tryz.prog 35 [U a, U m] (U r) := by
  refine pur_intro Tryz.func35 rfl Tryz.ntmps35 rfl (by first | rfl | assumption | exact bs_cl _) fun B => ?_
  repeat (first | (with_reducible refine R_nil ?_; try dsimp only [slots0, slots_ud, pt_all, pt_x, pt_y, cv_all, cv_p, cv_a, cv_b, cv_n, cv_g, cv_gx, pt_len, cv_len, rg_len, ren_rl, rl_all, rl_m, rl_len, rl_nil, pt_nil, ptD_all, ptD_nil, ptD_len, sg_all, sg_r, sg_s, sg_len, cells_U, agg_ud, drop0, dropS, takeS, take0, ud_nil, take_ud, take_ud0, drop_ud, drop_ud0, take_udk, D.cells, D.fz, D.fzs, List.take_succ_cons, List.take_zero, List.drop_succ_cons, List.drop_zero, List.cons_append, List.nil_append, List.append_eq, List.length_cons, List.length_nil, Nat.reduceAdd, Nat.reduceMul, Nat.reduceSub, Int.reduceAdd, Int.reduceSub, Int.reduceToNat, Int.reduceNeg, Int.reduceMul]) | refine zC ?_ | refine zA ?_ | refine k_call rfl (p_div a m _ r ha hm h0 rfl hr) rfl rfl rfl rfl ?_ | refine zB ?_)
  (first | with_reducible refine q_endr ?_); refine rets1 Tryz.results35 (by exact zv) ?_
  rfl
theorem low_ok (p a b n gx gy s : Nat) (f r : Bool) (hn : n < M256) (hs : s < M256) (hr : decide (s ≤ n / 2) = r) : Pur Tryz.prog 68 [.agg (cv p a b n gx gy f), U s] (.bool r) := by
  have hh : n / 2 < M256 := by omega
  have hc : ∃ c, cmpI s (n / 2) = c ∧ decide (c ≤ 0) = r := by
    rcases Nat.lt_trichotomy s (n / 2) with h | h | h
    · exact ⟨-1, cmp_m1 h, by rw [← hr]; simp; omega⟩
    · exact ⟨0, cmp_00 h, by rw [← hr]; simp; omega⟩
    · exact ⟨1, cmp_p1 h, by rw [← hr]; simp; omega⟩
  obtain ⟨c, hc, hc0⟩ := hc
  refine pur_intro Tryz.func68 rfl Tryz.ntmps68 rfl (by first | rfl | assumption | exact bs_cl _) fun B => ?_
  repeat (first | (with_reducible refine R_nil ?_; try dsimp only [slots0, slots_ud, pt_all, pt_x, pt_y, cv_all, cv_p, cv_a, cv_b, cv_n, cv_g, cv_gx, pt_len, cv_len, rg_len, ren_rl, rl_all, rl_m, rl_len, rl_nil, pt_nil, ptD_all, ptD_nil, ptD_len, sg_all, sg_r, sg_s, sg_len, cells_U, agg_ud, drop0, dropS, takeS, take0, ud_nil, take_ud, take_ud0, drop_ud, drop_ud0, take_udk, D.cells, D.fz, D.fzs, List.take_succ_cons, List.take_zero, List.drop_succ_cons, List.drop_zero, List.cons_append, List.nil_append, List.append_eq, List.length_cons, List.length_nil, Nat.reduceAdd, Nat.reduceMul, Nat.reduceSub, Int.reduceAdd, Int.reduceSub, Int.reduceToNat, Int.reduceNeg, Int.reduceMul]) | refine zC ?_ | refine zA ?_ | refine k_call rfl (p_div n 2 (n / 2) _ hn (by decide) (by decide) rfl rfl) rfl rfl rfl rfl ?_ | refine k_call rfl (p_cmpF s (n / 2) c hs hh hc) rfl rfl rfl rfl ?_ | refine k_leq rfl rfl rfl hc0 ?_ | refine zB ?_)
  (first | with_reducible refine q_endr ?_); refine rets1 Tryz.results68 (by exact zv) ?_
  rfl
theorem secret_ok (p a b n gx gy d : Nat) (f r : Bool) (hn : n < M256) (hd : d < M256) (hr : decide (d ≠ 0 ∧ d < n) = r) : Pur Tryz.prog 21 [.agg (cv p a b n gx gy f), U d] (.bool r) := by
  have hz := deqs_ud d 0 hd (by decide)
  by_cases h0 : d = 0
  · subst h0
    have : r = false := by rw [← hr]; simp
    subst this
    have hz' : (!deqs (ud 0) (ud 0)) = false := rfl
    refine pur_intro Tryz.func21 rfl Tryz.ntmps21 rfl (by first | rfl | assumption | exact bs_cl _) fun B => ?_
    repeat (first | (with_reducible refine R_nil ?_; try dsimp only [slots0, slots_ud, pt_all, pt_x, pt_y, cv_all, cv_p, cv_a, cv_b, cv_n, cv_g, cv_gx, pt_len, cv_len, rg_len, ren_rl, rl_all, rl_m, rl_len, rl_nil, pt_nil, ptD_all, ptD_nil, ptD_len, sg_all, sg_r, sg_s, sg_len, cells_U, agg_ud, drop0, dropS, takeS, take0, ud_nil, take_ud, take_ud0, drop_ud, drop_ud0, take_udk, D.cells, D.fz, D.fzs, List.take_succ_cons, List.take_zero, List.drop_succ_cons, List.drop_zero, List.cons_append, List.nil_append, List.append_eq, List.length_cons, List.length_nil, Nat.reduceAdd, Nat.reduceMul, Nat.reduceSub, Int.reduceAdd, Int.reduceSub, Int.reduceToNat, Int.reduceNeg, Int.reduceMul]) | refine zC ?_ | refine zA ?_ | refine k_nea rfl rfl rfl rfl rfl hz' ?_ | refine zB ?_)
    (first | with_reducible refine q_endr ?_); refine rets1 Tryz.results21 (by exact zv) ?_
    rfl
  · have hz' : (!deqs (ud d) (ud 0)) = true := by rw [hz]; simpa using h0
    have hc : ∃ c, cmpI d n = c ∧ decide (c < 0) = r := by
      rcases Nat.lt_trichotomy d n with h | h | h
      · exact ⟨-1, cmp_m1 h, by rw [← hr]; simp; omega⟩
      · exact ⟨0, cmp_00 h, by rw [← hr]; simp; omega⟩
      · exact ⟨1, cmp_p1 h, by rw [← hr]; simp; omega⟩
    obtain ⟨c, hc, hc0⟩ := hc
    refine pur_intro Tryz.func21 rfl Tryz.ntmps21 rfl (by first | rfl | assumption | exact bs_cl _) fun B => ?_
    repeat (first | (with_reducible refine R_nil ?_; try dsimp only [slots0, slots_ud, pt_all, pt_x, pt_y, cv_all, cv_p, cv_a, cv_b, cv_n, cv_g, cv_gx, pt_len, cv_len, rg_len, ren_rl, rl_all, rl_m, rl_len, rl_nil, pt_nil, ptD_all, ptD_nil, ptD_len, sg_all, sg_r, sg_s, sg_len, cells_U, agg_ud, drop0, dropS, takeS, take0, ud_nil, take_ud, take_ud0, drop_ud, drop_ud0, take_udk, D.cells, D.fz, D.fzs, List.take_succ_cons, List.take_zero, List.drop_succ_cons, List.drop_zero, List.cons_append, List.nil_append, List.append_eq, List.length_cons, List.length_nil, Nat.reduceAdd, Nat.reduceMul, Nat.reduceSub, Int.reduceAdd, Int.reduceSub, Int.reduceToNat, Int.reduceNeg, Int.reduceMul]) | refine zC ?_ | refine zA ?_ | refine k_nea rfl rfl rfl rfl rfl hz' ?_ | refine k_call rfl (p_cmpF d n c hd hn hc) rfl rfl rfl rfl ?_ | refine k_lss rfl rfl rfl hc0 ?_ | refine zB ?_)
    (first | with_reducible refine q_endr ?_); refine rets1 Tryz.results21 (by exact zv) ?_
    rfl
theorem formed_ok (p a b n gx gy s t : Nat) (f : Bool) (o : Int) (hn : n < M256) (hs0 : s ≠ 0) (hs : s < n) (ht0 : t ≠ 0) (ht : t ≤ n / 2) (ho : 0 ≤ o) (v : Bool) (hv : decide (o ≤ 3) = v) : Pur Tryz.prog 32 [.agg (cv p a b n gx gy f), .agg (sg s t o)] (.bool v) := by
  have h1 := secret_ok p a b n gx gy s f true hn (by omega) (by simp; omega)
  have h2 := secret_ok p a b n gx gy t f true hn (by omega) (by simp; omega)
  have h3 := low_ok p a b n gx gy t f true hn (by omega) (by simp; omega)
  have h4 : decide (o ≥ 0) = true := by simp; omega
  refine pur_intro Tryz.func32 rfl Tryz.ntmps32 rfl (by first | rfl | assumption | exact bs_cl _) fun B => ?_
  repeat (first | (with_reducible refine R_nil ?_; try dsimp only [slots0, slots_ud, pt_all, pt_x, pt_y, cv_all, cv_p, cv_a, cv_b, cv_n, cv_g, cv_gx, pt_len, cv_len, rg_len, ren_rl, rl_all, rl_m, rl_len, rl_nil, pt_nil, ptD_all, ptD_nil, ptD_len, sg_all, sg_r, sg_s, sg_len, cells_U, agg_ud, drop0, dropS, takeS, take0, ud_nil, take_ud, take_ud0, drop_ud, drop_ud0, take_udk, D.cells, D.fz, D.fzs, List.take_succ_cons, List.take_zero, List.drop_succ_cons, List.drop_zero, List.cons_append, List.nil_append, List.append_eq, List.length_cons, List.length_nil, Nat.reduceAdd, Nat.reduceMul, Nat.reduceSub, Int.reduceAdd, Int.reduceSub, Int.reduceToNat, Int.reduceNeg, Int.reduceMul]) | refine zC ?_ | refine zA ?_ | refine k_call rfl h1 rfl rfl rfl rfl ?_ | refine k_call rfl h2 rfl rfl rfl rfl ?_ | refine k_call rfl h3 rfl rfl rfl rfl ?_ | refine k_leq rfl rfl rfl hv ?_ | refine zB ?_)
  (first | with_reducible refine q_endr ?_); refine rets1 Tryz.results32 (by exact zv) ?_
  rfl
section
variable {p b n gx gy : Nat} {T : Nat → P3}
theorem sum2_ok (G : Grp p b n gx gy T) (u v i j s : Nat) (hu : u < M256) (hv : v < M256) (hs : T (u * i + v * j) = T s) : Pur Tryz.prog 37 [.agg (cv p 0 b n gx gy false), U u, .agg (ptD (T i)), U v, .agg (ptD (T j))] (.tup [.agg (ptD (T s)), .int .i64 0]) := by
  refine pur_intro Tryz.func37 rfl Tryz.ntmps37 rfl (by first | rfl | assumption | exact bs_cl _) fun B => ?_
  repeat (first | (with_reducible refine R_nil ?_; try dsimp only [slots0, slots_ud, pt_all, pt_x, pt_y, cv_all, cv_p, cv_a, cv_b, cv_n, cv_g, cv_gx, pt_len, cv_len, rg_len, ren_rl, rl_all, rl_m, rl_len, rl_nil, pt_nil, ptD_all, ptD_nil, ptD_len, sg_all, sg_r, sg_s, sg_len, cells_U, agg_ud, drop0, dropS, takeS, take0, ud_nil, take_ud, take_ud0, drop_ud, drop_ud0, take_udk, D.cells, D.fz, D.fzs, List.take_succ_cons, List.take_zero, List.drop_succ_cons, List.drop_zero, List.cons_append, List.nil_append, List.append_eq, List.length_cons, List.length_nil, Nat.reduceAdd, Nat.reduceMul, Nat.reduceSub, Int.reduceAdd, Int.reduceSub, Int.reduceToNat, Int.reduceNeg, Int.reduceMul]) | refine zC ?_ | refine zA ?_ | refine k_call rfl (Mult_T G u i _ hu rfl) rfl rfl rfl rfl ?_ | refine k_call rfl (Mult_T G v j _ hv rfl) rfl rfl rfl rfl ?_ | refine k_call rfl (Add_T G _ _ s hs) rfl rfl rfl rfl ?_ | refine zB ?_)
  (first | with_reducible refine q_endr ?_); refine rets2 Tryz.results37 (by exact zv) (by exact zv) ?_ ?_
  · rfl
  · rfl
theorem Point_ok (G : Grp p b n gx gy T) (d : Nat) (hd0 : d ≠ 0) (hd : d < n) (hn : n < 1000) : Pur Tryz.prog 6 [.agg (cv p 0 b n gx gy false), U d] (.tup [.agg (ptD (T d)), .int .i64 0]) := by
  have hM := G.good.hp
  have h1 := secret_ok p 0 b n gx gy d false true (by unfold M256; omega) (by unfold M256; omega) (by simp; omega)
  have hm := Mult_T G d 1 d (by unfold M256; omega) (by rw [Nat.mul_one])
  rw [G.t1] at hm
  refine pur_intro Tryz.func6 rfl Tryz.ntmps6 rfl (by first | rfl | assumption | exact bs_cl _) fun B => ?_
  repeat (first | (with_reducible refine R_nil ?_; try dsimp only [slots0, slots_ud, pt_all, pt_x, pt_y, cv_all, cv_p, cv_a, cv_b, cv_n, cv_g, cv_gx, pt_len, cv_len, rg_len, ren_rl, rl_all, rl_m, rl_len, rl_nil, pt_nil, ptD_all, ptD_nil, ptD_len, sg_all, sg_r, sg_s, sg_len, cells_U, agg_ud, drop0, dropS, takeS, take0, ud_nil, take_ud, take_ud0, drop_ud, drop_ud0, take_udk, D.cells, D.fz, D.fzs, List.take_succ_cons, List.take_zero, List.drop_succ_cons, List.drop_zero, List.cons_append, List.nil_append, List.append_eq, List.length_cons, List.length_nil, Nat.reduceAdd, Nat.reduceMul, Nat.reduceSub, Int.reduceAdd, Int.reduceSub, Int.reduceToNat, Int.reduceNeg, Int.reduceMul]) | refine zC ?_ | refine zA ?_ | refine k_call rfl (Check_ok G.good) rfl rfl rfl rfl ?_ | refine k_call rfl h1 rfl rfl rfl rfl ?_ | refine k_call rfl hm rfl rfl rfl rfl ?_ | refine zB ?_)
  (first | with_reducible refine q_endr ?_); refine rets2 Tryz.results6 (by exact zv) (by exact zv) ?_ ?_
  · rfl
  · rfl
end
end Go.Proofs.YtcfefmbbbfdppaaGreatDoor
namespace Go.Proofs.YtcfefmbbbfdppaaGreatDoor
open Go.RowKit
set_option linter.unusedVariables false
set_option maxRecDepth 100000
--nrm pt_all pt_x pt_y cv_all cv_p cv_a cv_b cv_n cv_g cv_gx pt_len cv_len rg_len ren_rl rl_all rl_m rl_len rl_nil pt_nil ptD_all ptD_nil ptD_len sg_all sg_r sg_s sg_len
theorem T_eqm {p b n gx gy : Nat} {T : Nat → P3} (G : Grp p b n gx gy T) {i j : Nat} (h : GM.Eqm n i j) : T i = T j := by
  rw [← G.per i, ← G.per j, GM.Eqm.to_mod (by have := G.good.h1; omega) h]
theorem base_D {p b n gx gy : Nat} {T : Nat → P3} (G : Grp p b n gx gy T) : pt gx gy false = ptD (T 1) := by rw [G.t1]; rfl
section
variable {p b n gx gy : Nat} {T : Nat → P3}
set_option maxHeartbeats 8000000 in
theorem check_at (G : Grp p b n gx gy T) (hn : n < 1000) (l : List UInt8) (hll : l.length = 32) (r s x y i m : Nat) (jv u v z : Nat) (hr : r < n) (hs : s < n) (o : Int) (hxp : x < 2000) (hxr : x % n = r) (hf : Pur Tryz.prog 32 [.agg (cv p 0 b n gx gy false), .agg (sg r s o)] (.bool true))
    (hT : T i = (x, y, false)) (hjv : jv < n) (hj1 : jv * s % n = 1) (hjg : Nat.gcd n s = 1) (hz : nm l % n = z) (hu : z * jv % n = u) (hv : r * jv % n = v) (hm : T (u * 1 + v * m) = T i) (hfar : (T m).2.2 = false) : Pur Tryz.prog 13 [.agg (cv p 0 b n gx gy false), .agg (ptD (T m)), .agg (bs l), .agg (sg r s o)] (.int .i64 0) := by
  have hM : 2000 < M256 := by decide
  have h1 := G.good.h1
  have h0 : 0 < n := by omega
  have hun : u < n := by rw [← hu]; exact Nat.mod_lt _ h0
  have hzn : z < n := by rw [← hz]; exact Nat.mod_lt _ h0
  have hvn : v < n := by rw [← hv]; exact Nat.mod_lt _ h0
  have wi := p_finv s n jv (by omega) hs hjv (by rw [hj1, Nat.mod_eq_of_lt h1]) hjg
  have fr := From_ok l hll
  have re := rest_ok (nm l) n z (nm_lt32 l hll) (by omega) h0 hz
  have mu := p_fmul z jv n u (by omega) hzn hjv hu
  have mv := p_fmul r jv n v (by omega) hr hjv hv
  have su := sum2_ok G u v 1 m i (by omega) (by omega) hm
  have rx := rest_ok x n r (by omega) (by omega) h0 hxr
  have on := On_T G m
  rw [← base_D G, hT] at su
  have hne : (!deqs (ud r) (ud r)) = false := by rw [deqs_ud _ _ (by omega) (by omega)]; simp
  generalize T m = t at *
  obtain ⟨tx, ty, tf⟩ := t
  simp only at hfar
  subst hfar
  refine pur_intro Tryz.func13 rfl Tryz.ntmps13 rfl (by first | rfl | assumption | exact bs_cl _) fun B => ?_
  repeat (first | (with_reducible refine R_nil ?_; try dsimp only [slots0, slots_ud, pt_all, pt_x, pt_y, cv_all, cv_p, cv_a, cv_b, cv_n, cv_g, cv_gx, pt_len, cv_len, rg_len, ren_rl, rl_all, rl_m, rl_len, rl_nil, pt_nil, ptD_all, ptD_nil, ptD_len, sg_all, sg_r, sg_s, sg_len, cells_U, agg_ud, drop0, dropS, takeS, take0, ud_nil, take_ud, take_ud0, drop_ud, drop_ud0, take_udk, D.cells, D.fz, D.fzs, List.take_succ_cons, List.take_zero, List.drop_succ_cons, List.drop_zero, List.cons_append, List.nil_append, List.append_eq, List.length_cons, List.length_nil, Nat.reduceAdd, Nat.reduceMul, Nat.reduceSub, Int.reduceAdd, Int.reduceSub, Int.reduceToNat, Int.reduceNeg, Int.reduceMul]) | refine zC ?_ | refine zA ?_ | refine k_call rfl on rfl rfl rfl rfl ?_ | refine k_call rfl hf rfl rfl rfl rfl ?_ | refine k_call rfl wi rfl rfl rfl rfl ?_ | refine k_load rfl rfl rfl (b_cut hll _) ?_ | refine k_call rfl fr rfl (b_fz1 _) (b_cl1 _) rfl ?_ | refine k_call rfl re rfl rfl rfl rfl ?_ | refine k_call rfl mu rfl rfl rfl rfl ?_ | refine k_call rfl mv rfl rfl rfl rfl ?_ | refine k_call rfl su rfl rfl rfl rfl ?_ | refine k_call rfl rx rfl rfl rfl rfl ?_ | refine k_nea rfl rfl rfl rfl rfl hne ?_ | refine zB ?_)
  (first | with_reducible refine q_endr ?_); refine rets1 Tryz.results13 (by exact zv) ?_
  rfl
end
end Go.Proofs.YtcfefmbbbfdppaaGreatDoor
