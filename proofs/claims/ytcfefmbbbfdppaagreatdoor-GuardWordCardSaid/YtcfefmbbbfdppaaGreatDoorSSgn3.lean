/- What try makes of a nonce. Conditions: a small curve; its points' table; numbers below the order. -/
import Derived.Test.YtcfefmbbbfdppaaGreatDoorSSgn2
import Derived.Test.YtcfefmbbbfdppaaGreatDoorSBytes
namespace Go.Proofs.YtcfefmbbbfdppaaGreatDoor
open Go.RowKit
set_option linter.unusedVariables false
set_option maxRecDepth 1000000
--nrm pt_all pt_x pt_y cv_all cv_p cv_a cv_b cv_n cv_g cv_gx pt_len cv_len rg_len ren_rl rl_all rl_m rl_len rl_nil pt_nil ptD_all ptD_nil ptD_len sg_all sg_r sg_s sg_len
def trN (n : Nat) (T : Nat → P3) (iv : Nat → Nat) (d z k : Nat) : Nat := iv k * ((z + (T k).1 % n * d % n) % n) % n
def trOS (n : Nat) (T : Nat → P3) (k : Nat) : Nat := (T k).2.1 % 2 + if n ≤ (T k).1 then 2 else 0
def trS (n : Nat) (T : Nat → P3) (iv : Nat → Nat) (d z k : Nat) : Option (Nat × Nat × Nat) :=
  if k = 0 then none else if (T k).1 % n = 0 then none else if trN n T iv d z k = 0 then none else
  if trN n T iv d z k ≤ n / 2 then some ((T k).1 % n, trN n T iv d z k, trOS n T k) else some ((T k).1 % n, n - trN n T iv d z k, trOS n T k ^^^ 1)
def Ivs (n : Nat) (iv : Nat → Nat) : Prop := ∀ k, k < n → k ≠ 0 → iv k < n ∧ iv k * k % n = 1 ∧ Nat.gcd n k = 1
theorem ivs_of {p b n : Nat} {T : Nat → P3} (E : Extra p b n T) : ∃ iv, Ivs n iv := by
  refine ⟨fun k => if h : k < n ∧ k ≠ 0 then Classical.choose (E.inv k h.1 h.2) else 0, fun k h1 h2 => ?_⟩
  simp only [dif_pos (And.intro h1 h2)]
  exact Classical.choose_spec (E.inv k h1 h2)
structure SigOk (n p d z : Nat) (T : Nat → P3) (r s : Nat) (o : Int) (i x y : Nat) : Prop where
  r0 : r ≠ 0
  rn : r < n
  s0 : s ≠ 0
  sl : s ≤ n / 2
  o0 : 0 ≤ o
  o3 : o ≤ 3
  ti : T i = (x, y, false)
  i0 : i % n ≠ 0
  y0 : 0 < y
  yp : y < p
  xp : x < p
  xr : x % n = r
  hx : cond (decide (o ≥ 2)) (r + n) r = x
  od : decide (o.tmod 2 = 1) = decide (y % 2 = 1)
  eq : GM.Eqm n ((s : Int) * i) ((z : Int) + r * d)
theorem eqm1 {n a b : Nat} (h : a * b % n = 1) : GM.Eqm n ((a : Int) * b) 1 := by
  have := GM.Eqm.mod (p := n) (a * b)
  rw [h] at this
  exact this.symm.trans ⟨0, by push_cast; omega⟩
theorem odd_xor (a : Nat) (h : a < 4) : a ^^^ 1 < 4 ∧ (a ^^^ 1) % 2 = 1 - a % 2 ∧ decide (((a ^^^ 1 : Nat) : Int) ≥ 2) = decide ((a : Int) ≥ 2) := by
  obtain rfl | rfl | rfl | rfl : a = 0 ∨ a = 1 ∨ a = 2 ∨ a = 3 := by omega
  all_goals decide
section
variable {p b n gx gy : Nat} {T : Nat → P3}
theorem trN_eq {iv : Nat → Nat} (hiv : Ivs n iv) {d z k : Nat} (hk : k < n) (hk0 : k ≠ 0) : GM.Eqm n ((trN n T iv d z k : Nat) * (k : Int)) ((z : Int) + ((T k).1 % n : Nat) * d) := by
  obtain ⟨h1, h2, _⟩ := hiv k hk hk0
  have e1 := eqm1 h2
  unfold trN
  generalize (T k).1 % n = r
  have e2 : GM.Eqm n ((iv k * ((z + r * d % n) % n) % n : Nat) : Int) ((iv k : Int) * ((z : Int) + r * d)) := by
    refine (GM.Eqm.mod _).trans ?_
    rw [Int.natCast_mul]
    refine (GM.Eqm.refl _).mul ?_
    refine (GM.Eqm.mod _).trans ?_
    rw [Int.natCast_add]
    refine (GM.Eqm.refl _).add ?_
    exact (GM.Eqm.mod _).trans ⟨0, by push_cast; omega⟩
  have e3 := e2.mul (GM.Eqm.refl (k : Int))
  have e4 := e1.mul (GM.Eqm.refl ((z : Int) + r * d))
  refine e3.trans ?_
  refine GM.Eqm.trans (b := (iv k : Int) * k * (z + r * d)) ⟨0, by grind⟩ ?_
  exact e4.trans ⟨0, by grind⟩
theorem trS_ok (G : Grp p b n gx gy T) (E : Extra p b n T) (hp2 : p < 2 * n) {iv : Nat → Nat} (hiv : Ivs n iv) {d z k r s o : Nat} (hk : k < n) (h : trS n T iv d z k = some (r, s, o)) : ∃ i x y, SigOk n p d z T r s o i x y := by
  have h1 := G.good.h1
  have h4 := G.good.h4
  unfold trS at h
  by_cases hk0 : k = 0
  · rw [if_pos hk0] at h; cases h
  rw [if_neg hk0] at h
  by_cases hr0 : (T k).1 % n = 0
  · rw [if_pos hr0] at h; cases h
  rw [if_neg hr0] at h
  by_cases hs0 : trN n T iv d z k = 0
  · rw [if_pos hs0] at h; cases h
  rw [if_neg hs0] at h
  have hkn : k % n ≠ 0 := by rw [Nat.mod_eq_of_lt hk]; exact hk0
  obtain ⟨x, y, e1, e2, hy0, hy, hx⟩ := E.opp k (n - k) (by rw [show k + (n - k) = n from by omega, Nat.mod_self]) hkn
  have heq := trN_eq (T := T) (d := d) (z := z) hiv hk hk0
  have hsn : trN n T iv d z k < n := Nat.mod_lt _ (by omega)
  have ho : trOS n T k = y % 2 + if n ≤ x then 2 else 0 := by unfold trOS; rw [e1]
  rw [e1] at h hr0 heq
  rw [ho] at h
  simp only at h hr0 heq
  generalize trN n T iv d z k = t at *
  have hrn : x % n < n := Nat.mod_lt _ (by omega)
  have hxx : x = x % n + if n ≤ x then n else 0 := by
    split
    · rename_i hle
      rw [Nat.mod_eq_sub_mod hle, Nat.mod_eq_of_lt (by omega)]; omega
    · rw [Nat.mod_eq_of_lt (by omega)]; omega
  obtain ⟨q, hq⟩ : ∃ q, y % 2 + (if n ≤ x then 2 else 0) = q := ⟨_, rfl⟩
  rw [hq] at h
  have hq4 : q < 4 ∧ q % 2 = y % 2 ∧ cond (decide ((q : Int) ≥ 2)) (x % n + n) (x % n) = x := by
    by_cases hle : n ≤ x
    · rw [if_pos hle] at hq hxx
      refine ⟨by omega, by omega, ?_⟩
      rw [decide_eq_true (by omega), cond_true]; exact hxx.symm
    · rw [if_neg hle] at hq hxx
      refine ⟨by omega, by omega, ?_⟩
      rw [decide_eq_false (by omega), cond_false]; exact hxx.symm
  obtain ⟨q4, q2, qx⟩ := hq4
  have htm : ∀ a : Nat, decide ((a : Int).tmod 2 = 1) = decide (a % 2 = 1) := fun a => by
    rw [Int.tmod_eq_emod_of_nonneg (by omega)]
    exact decide_eq_decide.2 (by omega)
  by_cases hl : t ≤ n / 2
  · rw [if_pos hl] at h
    simp only [Option.some.injEq, Prod.mk.injEq] at h
    obtain ⟨rfl, rfl, rfl⟩ := h
    exact ⟨k, x, y, hr0, hrn, hs0, hl, by omega, by omega, e1, hkn, hy0, hy, hx, rfl, qx, by rw [htm, q2], heq⟩
  · rw [if_neg hl] at h
    simp only [Option.some.injEq, Prod.mk.injEq] at h
    obtain ⟨rfl, rfl, rfl⟩ := h
    obtain ⟨x4, x2, xg⟩ := odd_xor q q4
    refine ⟨n - k, x, p - y, hr0, hrn, by omega, by omega, by omega, by omega, e2, by rw [Nat.mod_eq_of_lt (by omega)]; omega, by omega, by omega, hx, rfl, by rw [xg]; exact qx, ?_, ?_⟩
    · rw [htm, x2, q2]
      exact decide_eq_decide.2 (by omega)
    · rw [Int.ofNat_sub (by omega), Int.ofNat_sub (by omega)]
      refine GM.Eqm.trans ?_ heq
      exact ⟨(n : Int) - k - t, by grind⟩
theorem tr_some (G : Grp p b n gx gy T) (E : Extra p b n T) {iv : Nat → Nat} (hiv : Ivs n iv) {d z : Nat} (hd : d < n) (hd0 : d ≠ 0) (h2n : 2 < n) (t1 : (T 1).1 % n ≠ 0) (t2 : (T 2).1 % n ≠ 0) (t12 : (T 1).1 % n ≠ (T 2).1 % n) : ∃ k, (k = 1 ∨ k = 2) ∧ trS n T iv d z k ≠ none := by
  by_cases z1 : trN n T iv d z 1 = 0
  · by_cases z2 : trN n T iv d z 2 = 0
    · exfalso
      have a1 := trN_eq (T := T) (d := d) (z := z) hiv (k := 1) (by omega) (by decide)
      have a2 := trN_eq (T := T) (d := d) (z := z) hiv (k := 2) (by omega) (by decide)
      rw [z1] at a1
      rw [z2] at a2
      obtain ⟨j, hj, hj1, _⟩ := E.inv d hd hd0
      have ej := eqm1 hj1
      have hlt1 : (T 1).1 % n < n := Nat.mod_lt _ (by omega)
      have hlt2 : (T 2).1 % n < n := Nat.mod_lt _ (by omega)
      generalize (T 1).1 % n = r1 at *
      generalize (T 2).1 % n = r2 at *
      refine t12 (GM.Eqm.eq ?_ hlt1 hlt2)
      have b1 : GM.Eqm n 0 (((r1 : Int) - r2) * d * j) := GM.Eqm.trans ⟨0, by simp⟩ (((a1.sub a2).mul (GM.Eqm.refl (j : Int))).trans ⟨0, by grind⟩)
      have b2 := ej.mul (GM.Eqm.refl ((r1 : Int) - r2))
      have b3 := b1.trans (GM.Eqm.trans ⟨0, by grind⟩ b2)
      have b4 := (b3.add (GM.Eqm.refl (r2 : Int))).symm
      exact GM.Eqm.trans ⟨0, by grind⟩ (b4.trans ⟨0, by grind⟩)
    · refine ⟨2, .inr rfl, ?_⟩
      unfold trS
      rw [if_neg (by decide), if_neg t2, if_neg z2]
      split <;> simp
  · refine ⟨1, .inl rfl, ?_⟩
    unfold trS
    rw [if_neg (by decide), if_neg t1, if_neg z1]
    split <;> simp
theorem chk_sig (G : Grp p b n gx gy T) (E : Extra p b n T) (hn : n < 1000) (hp : p < 1000) {d z r s i x y : Nat} {o : Int} (h : SigOk n p d z T r s o i x y) (l : List UInt8) (hll : l.length = 32) (hz : nm l % n = z) (hd : d % n ≠ 0) :
    Pur Tryz.prog 13 [.agg (cv p 0 b n gx gy false), .agg (ptD (T d)), .agg (bs l), .agg (sg r s o)] (.int .i64 0) := by
  have h1 := G.good.h1
  have hM : 2000 < M256 := by decide
  have hsl := h.sl
  have hf := formed_ok p 0 b n gx gy r s false o (by omega) h.r0 h.rn h.s0 h.sl h.o0 true (by have := h.o3; simp; omega)
  obtain ⟨jv, hjv, hj1, hjg⟩ := E.inv s (by omega) h.s0
  obtain ⟨u, hu⟩ : ∃ u, z * jv % n = u := ⟨_, rfl⟩
  obtain ⟨v, hv⟩ : ∃ v, r * jv % n = v := ⟨_, rfl⟩
  have c1 := eqm1 hj1
  have c3 : GM.Eqm n u ((z : Int) * jv) := by rw [← hu]; exact GM.Eqm.mod _
  have c4 : GM.Eqm n v ((r : Int) * jv) := by rw [← hv]; exact GM.Eqm.mod _
  have ce : GM.Eqm n ((u * 1 + v * d : Nat) : Int) i := by
    have d1 := c3.add (c4.mul (GM.Eqm.refl (d : Int)))
    have d2 := h.eq.mul (GM.Eqm.refl (jv : Int))
    have d3 := c1.mul (GM.Eqm.refl (i : Int))
    refine GM.Eqm.trans (b := (z : Int) * jv + (r : Int) * jv * d) (by push_cast; rw [Int.mul_one]; exact d1) ?_
    refine GM.Eqm.trans (b := ((z : Int) + r * d) * jv) ⟨0, by grind⟩ ?_
    refine d2.symm.trans ?_
    refine GM.Eqm.trans (b := (jv : Int) * s * i) ⟨0, by grind⟩ ?_
    exact d3.trans ⟨0, by grind⟩
  exact check_at G hn l hll r s x y i d jv u v z h.rn (by omega) o (by have := h.xp; omega) h.xr hf h.ti hjv hj1 hjg hz hu hv (T_eqm G ce) (G.fin d hd)
end
namespace GM
def dis : List Pt → Bool
  | [] => true
  | q :: qs => (match q with | some (a, b) => !hasP a b qs | none => false) && dis qs
theorem has_of {x y : Nat} : ∀ {F : List Pt} {i : Nat}, F[i]? = some (some (x, y)) → hasP x y F = true
  | [], i, h => by simp at h
  | q :: qs, 0, h => by
    simp only [List.getElem?_cons_zero, Option.some.injEq] at h
    subst h
    unfold hasP
    simp [Nat.beq_refl]
  | q :: qs, i + 1, h => by
    unfold hasP
    rw [has_of (F := qs) (i := i) (by simpa using h)]
    simp
theorem dis_at {x y : Nat} : ∀ {F : List Pt}, dis F = true → ∀ (i j : Nat), F[i]? = some (some (x, y)) → F[j]? = some (some (x, y)) → i = j
  | [], _, i, j, hi, _ => by simp at hi
  | q :: qs, h, i, j, hi, hj => by
    simp only [dis, Bool.and_eq_true] at h
    cases i with
    | zero =>
      cases j with
      | zero => rfl
      | succ j =>
        simp only [List.getElem?_cons_zero, Option.some.injEq] at hi
        subst hi
        have h1 : (!hasP x y qs) = true := h.1
        rw [has_of (F := qs) (i := j) (by simpa using hj)] at h1
        cases h1
    | succ i =>
      cases j with
      | zero =>
        simp only [List.getElem?_cons_zero, Option.some.injEq] at hj
        subst hj
        have h1 : (!hasP x y qs) = true := h.1
        rw [has_of (F := qs) (i := i) (by simpa using hi)] at h1
        cases h1
      | succ j => rw [dis_at h.2 i j (by simpa using hi) (by simpa using hj)]
theorem dis0 : dis tab0 = true := by kernel_rfl
theorem dis1 : dis tab1 = true := by kernel_rfl
theorem dis2 : dis tab2 = true := by kernel_rfl
theorem dis3 : dis tab3 = true := by kernel_rfl
theorem dis4 : dis tab4 = true := by kernel_rfl
theorem dis5 : dis tab5 = true := by kernel_rfl
theorem dis6 : dis tab6 = true := by kernel_rfl
theorem dis7 : dis tab7 = true := by kernel_rfl
end GM
def Inj (n : Nat) (T : Nat → P3) : Prop := ∀ i j, i % n ≠ 0 → j % n ≠ 0 → T i = T j → i % n = j % n
theorem inj_of {p b n gx gy : Nat} {F : List GM.Pt} (h2n : 2 < n) (hc : GM.check p 0 b n gx gy F = true) (hd : GM.dis F = true) : Inj n (GM.T F n) := by
  unfold GM.check at hc
  simp only [Bool.and_eq_true] at hc
  obtain ⟨⟨⟨hlen, _⟩, hon⟩, _⟩ := hc
  have hlen := Nat.eq_of_beq_eq_true hlen
  intro i j hi hj h
  have li : i % n < n := Nat.mod_lt _ (by omega)
  have lj : j % n < n := Nat.mod_lt _ (by omega)
  have key : ∀ k, k % n ≠ 0 → k % n < n → ∃ x y, F[k % n - 1]? = some (some (x, y)) ∧ GM.T F n k = (x, y, false) := by
    intro k hk hlt
    have hq : F[k % n - 1]? = some (F[k % n - 1]'(by omega)) := List.getElem?_eq_getElem _
    obtain ⟨x, y, e, _⟩ := GM.onM_at hon _ _ hq
    rw [e] at hq
    refine ⟨x, y, hq, ?_⟩
    unfold GM.T
    rw [if_neg hk, hq]
  obtain ⟨x, y, f1, f2⟩ := key i hi li
  obtain ⟨x', y', g1, g2⟩ := key j hj lj
  rw [f2, g2] at h
  injection h with h1 h2
  injection h2 with h2 _
  subst h1; subst h2
  have := GM.dis_at hd _ _ f1 g1
  omega
theorem grps4 (z : Int) : ∃ (k p b n gx gy : Nat) (T : Nat → P3), z % 8 = k ∧ cvs[k]? = some (p, b, n, gx, gy) ∧ Grp p b n gx gy T ∧ n < 1000 ∧ 2 < n ∧ p < 1000 ∧ Extra p b n T ∧ Cover p b n T ∧ p < 2 * n ∧ 30 < n ∧ (n % 2 = 1 ∧ Inj n T) ∧ (T 1).1 % n ≠ 0 ∧ (T 2).1 % n ≠ 0 ∧ (T 1).1 % n ≠ (T 2).1 % n := by
  obtain ⟨k, hk⟩ : ∃ k : Nat, z % 8 = k := ⟨(z % 8).toNat, by omega⟩
  have h8 : k < 8 := by omega
  obtain rfl | rfl | rfl | rfl | rfl | rfl | rfl | rfl : k = 0 ∨ k = 1 ∨ k = 2 ∨ k = 3 ∨ k = 4 ∨ k = 5 ∨ k = 6 ∨ k = 7 := by omega
  · exact ⟨0, 43, 7, 31, 2, 12, _, hk, rfl, grp_of (good_of (by decide) (by decide) (by decide) (by decide) (by decide) (by decide) (by decide) (by decide) (by decide) (by decide)) GM.chk0 GM.rows0 (by decide), by decide, by decide, by decide, extra_of (by decide) (by decide) GM.chk0 GM.rows0 GM.lif0 GM.inn0, cover_of (by decide) GM.chk0 GM.cov0, by decide, by decide, ⟨by decide, inj_of (by decide) GM.chk0 GM.dis0⟩, by decide +kernel, by decide +kernel, by decide +kernel⟩
  · exact ⟨1, 67, 2, 73, 2, 12, _, hk, rfl, grp_of (good_of (by decide) (by decide) (by decide) (by decide) (by decide) (by decide) (by decide) (by decide) (by decide) (by decide)) GM.chk1 GM.rows1 (by decide), by decide, by decide, by decide, extra_of (by decide) (by decide) GM.chk1 GM.rows1 GM.lif1 GM.inn1, cover_of (by decide) GM.chk1 GM.cov1, by decide, by decide, ⟨by decide, inj_of (by decide) GM.chk1 GM.dis1⟩, by decide +kernel, by decide +kernel, by decide +kernel⟩
  · exact ⟨2, 79, 6, 67, 5, 17, _, hk, rfl, grp_of (good_of (by decide) (by decide) (by decide) (by decide) (by decide) (by decide) (by decide) (by decide) (by decide) (by decide)) GM.chk2 GM.rows2 (by decide), by decide, by decide, by decide, extra_of (by decide) (by decide) GM.chk2 GM.rows2 GM.lif2 GM.inn2, cover_of (by decide) GM.chk2 GM.cov2, by decide, by decide, ⟨by decide, inj_of (by decide) GM.chk2 GM.dis2⟩, by decide +kernel, by decide +kernel, by decide +kernel⟩
  · exact ⟨3, 139, 2, 163, 3, 53, _, hk, rfl, grp_of (good_of (by decide) (by decide) (by decide) (by decide) (by decide) (by decide) (by decide) (by decide) (by decide) (by decide)) GM.chk3 GM.rows3 (by decide), by decide, by decide, by decide, extra_of (by decide) (by decide) GM.chk3 GM.rows3 GM.lif3 GM.inn3, cover_of (by decide) GM.chk3 GM.cov3, by decide, by decide, ⟨by decide, inj_of (by decide) GM.chk3 GM.dis3⟩, by decide +kernel, by decide +kernel, by decide +kernel⟩
  · exact ⟨4, 163, 3, 181, 1, 2, _, hk, rfl, grp_of (good_of (by decide) (by decide) (by decide) (by decide) (by decide) (by decide) (by decide) (by decide) (by decide) (by decide)) GM.chk4 GM.rows4 (by decide), by decide, by decide, by decide, extra_of (by decide) (by decide) GM.chk4 GM.rows4 GM.lif4 GM.inn4, cover_of (by decide) GM.chk4 GM.cov4, by decide, by decide, ⟨by decide, inj_of (by decide) GM.chk4 GM.dis4⟩, by decide +kernel, by decide +kernel, by decide +kernel⟩
  · exact ⟨5, 211, 3, 199, 1, 2, _, hk, rfl, grp_of (good_of (by decide) (by decide) (by decide) (by decide) (by decide) (by decide) (by decide) (by decide) (by decide) (by decide)) GM.chk5 GM.rows5 (by decide), by decide, by decide, by decide, extra_of (by decide) (by decide) GM.chk5 GM.rows5 GM.lif5 GM.inn5, cover_of (by decide) GM.chk5 GM.cov5, by decide, by decide, ⟨by decide, inj_of (by decide) GM.chk5 GM.dis5⟩, by decide +kernel, by decide +kernel, by decide +kernel⟩
  · exact ⟨6, 379, 2, 409, 5, 49, _, hk, rfl, grp_of (good_of (by decide) (by decide) (by decide) (by decide) (by decide) (by decide) (by decide) (by decide) (by decide) (by decide)) GM.chk6 GM.rows6 (by decide), by decide, by decide, by decide, extra_of (by decide) (by decide) GM.chk6 GM.rows6 GM.lif6 GM.inn6, cover_of (by decide) GM.chk6 GM.cov6, by decide, by decide, ⟨by decide, inj_of (by decide) GM.chk6 GM.dis6⟩, by decide +kernel, by decide +kernel, by decide +kernel⟩
  · exact ⟨7, 691, 3, 643, 1, 2, _, hk, rfl, grp_of (good_of (by decide) (by decide) (by decide) (by decide) (by decide) (by decide) (by decide) (by decide) (by decide) (by decide)) GM.chk7 GM.rows7 (by decide), by decide, by decide, by decide, extra_of (by decide) (by decide) GM.chk7 GM.rows7 GM.lif7 GM.inn7, cover_of (by decide) GM.chk7 GM.cov7, by decide, by decide, ⟨by decide, inj_of (by decide) GM.chk7 GM.dis7⟩, by decide +kernel, by decide +kernel, by decide +kernel⟩
end Go.Proofs.YtcfefmbbbfdppaaGreatDoor
namespace Go.Proofs.YtcfefmbbbfdppaaGreatDoor
open Go.RowKit
set_option linter.unusedVariables false
set_option maxRecDepth 100000
--nrm pt_all pt_x pt_y cv_all cv_p cv_a cv_b cv_n cv_g cv_gx pt_len cv_len rg_len ren_rl rl_all rl_m rl_len rl_nil pt_nil ptD_all ptD_nil ptD_len sg_all sg_r sg_s sg_len
def trD : Option (Nat × Nat × Nat) → D
  | none => .tup [.agg (sg 0 0 0), .bool false, .int .i64 0]
  | some (r, s, o) => .tup [.agg (sg r s o), .bool true, .int .i64 0]
theorem xor_i64 (a : Nat) (h : a < 4) : bitw .xor .i64 (a : Int) 1 = ((a ^^^ 1 : Nat) : Int) := by
  obtain rfl | rfl | rfl | rfl : a = 0 ∨ a = 1 ∨ a = 2 ∨ a = 3 := by omega
  all_goals decide
section
variable {p b n gx gy : Nat} {T : Nat → P3}
theorem try_zero (G : Grp p b n gx gy T) (d z : Nat) : Pur Tryz.prog 54 [.agg (cv p 0 b n gx gy false), U d, U z, U 0] (trD none) := by
  have hq : deqs (ud 0) (ud 0) = true := rfl
  show Pur Tryz.prog 54 [.agg (cv p 0 b n gx gy false), U d, U z, U 0] (.tup [.agg (sg 0 0 0), .bool false, .int .i64 0])
  refine pur_intro Tryz.func54 rfl Tryz.ntmps54 rfl (by first | rfl | assumption | exact bs_cl _) fun B => ?_
  repeat (first | (with_reducible refine R_nil ?_; try dsimp only [slots0, slots_ud, pt_all, pt_x, pt_y, cv_all, cv_p, cv_a, cv_b, cv_n, cv_g, cv_gx, pt_len, cv_len, rg_len, ren_rl, rl_all, rl_m, rl_len, rl_nil, pt_nil, ptD_all, ptD_nil, ptD_len, sg_all, sg_r, sg_s, sg_len, cells_U, agg_ud, drop0, dropS, takeS, take0, ud_nil, take_ud, take_ud0, drop_ud, drop_ud0, take_udk, D.cells, D.fz, D.fzs, List.take_succ_cons, List.take_zero, List.drop_succ_cons, List.drop_zero, List.cons_append, List.nil_append, List.append_eq, List.length_cons, List.length_nil, Nat.reduceAdd, Nat.reduceMul, Nat.reduceSub, Int.reduceAdd, Int.reduceSub, Int.reduceToNat, Int.reduceNeg, Int.reduceMul]) | refine zC ?_ | refine zA ?_ | refine k_eqa rfl rfl rfl rfl rfl hq ?_ | refine zB ?_)
  (first | with_reducible refine q_endr ?_); refine rets3 Tryz.results54 (by exact zv) (by exact zv) (by exact zv) ?_ ?_ ?_
  all_goals rfl
set_option maxHeartbeats 8000000 in
theorem try_r0 (G : Grp p b n gx gy T) (hn : n < 1000) (hp : p < 1000) (d z k x y : Nat) (hk : k < n) (hk0 : k ≠ 0) (hT : T k = (x, y, false)) (hx : x < p) (hy : y < p) (hr : x % n = 0) : Pur Tryz.prog 54 [.agg (cv p 0 b n gx gy false), U d, U z, U k] (trD none) := by
  have hM : 2000 < M256 := by decide
  have h1 := G.good.h1
  have hq : deqs (ud k) (ud 0) = false := by rw [deqs_ud _ _ (by omega) (by decide)]; simpa using hk0
  have hm := Mult_T G k 1 k (by omega) (by rw [Nat.mul_one])
  rw [← base_D G, hT] at hm
  have hre := rest_ok x n 0 (by omega) (by omega) (by omega) hr
  have hy2 := tmod2 y
  have hc : IntKind.i64.wrap ((y % 2 : Nat) : Int) = ((y % 2 : Nat) : Int) := Go.IntWalk.i64_in _ (by omega)
  have hq0 : deqs (ud 0) (ud 0) = true := rfl
  show Pur Tryz.prog 54 [.agg (cv p 0 b n gx gy false), U d, U z, U k] (.tup [.agg (sg 0 0 0), .bool false, .int .i64 0])
  refine pur_intro Tryz.func54 rfl Tryz.ntmps54 rfl (by first | rfl | assumption | exact bs_cl _) fun B => ?_
  repeat (first | (with_reducible refine R_nil ?_; try dsimp only [slots0, slots_ud, pt_all, pt_x, pt_y, cv_all, cv_p, cv_a, cv_b, cv_n, cv_g, cv_gx, pt_len, cv_len, rg_len, ren_rl, rl_all, rl_m, rl_len, rl_nil, pt_nil, ptD_all, ptD_nil, ptD_len, sg_all, sg_r, sg_s, sg_len, cells_U, agg_ud, drop0, dropS, takeS, take0, ud_nil, take_ud, take_ud0, drop_ud, drop_ud0, take_udk, D.cells, D.fz, D.fzs, List.take_succ_cons, List.take_zero, List.drop_succ_cons, List.drop_zero, List.cons_append, List.nil_append, List.append_eq, List.length_cons, List.length_nil, Nat.reduceAdd, Nat.reduceMul, Nat.reduceSub, Int.reduceAdd, Int.reduceSub, Int.reduceToNat, Int.reduceNeg, Int.reduceMul]) | refine zC ?_ | refine zA ?_ | refine k_eqa rfl rfl rfl rfl rfl hq ?_ | refine k_call rfl hm rfl rfl rfl rfl ?_ | refine k_call rfl hre rfl rfl rfl rfl ?_ | (refine k_rem rfl rfl rfl ?_ hy2 ?_; (decide)) | refine k_conv rfl rfl hc ?_ | refine k_eqa rfl rfl rfl rfl rfl hq0 ?_ | refine zB ?_)
  (first | with_reducible refine q_endr ?_); refine rets3 Tryz.results54 (by exact zv) (by exact zv) (by exact zv) ?_ ?_ ?_
  all_goals rfl
set_option maxHeartbeats 16000000 in
theorem try_at (G : Grp p b n gx gy T) (hn : n < 1000) (hp : p < 1000) (d z k x y r t iv rd su c : Nat) (o1 o2 : Nat) (hd : d < n) (hz : z < n) (hk : k < n) (hk0 : k ≠ 0) (hT : T k = (x, y, false)) (hx : x < p) (hy : y < p) (hr : x % n = r) (hr0 : r ≠ 0) (ge lo : Bool) (hge : decide (n ≤ x) = ge)
    (hiv : iv < n) (hi1 : iv * k % n = 1) (hig : Nat.gcd n k = 1) (hrd : r * d % n = rd) (hsu : (z + rd) % n = su) (ht : iv * su % n = t) (q : D)
    (ho1 : o1 = y % 2 + cond ge 2 0) (hlo : decide (t ≤ n / 2) = lo) (ho2 : o1 ^^^ 1 = o2) (hc : n - t = c)
    (hq : q = cond (decide (t = 0)) (.tup [.agg (sg 0 0 0), .bool false, .int .i64 0]) (cond lo (.tup [.agg (sg r t o1), .bool true, .int .i64 0]) (.tup [.agg (sg r c o2), .bool true, .int .i64 0]))) : Pur Tryz.prog 54 [.agg (cv p 0 b n gx gy false), U d, U z, U k] q := by
  have hM : 2000 < M256 := by decide
  have h1 := G.good.h1
  have h0 : 0 < n := by omega
  have hrn : r < n := by rw [← hr]; exact Nat.mod_lt _ h0
  have hrdn : rd < n := by rw [← hrd]; exact Nat.mod_lt _ h0
  have hsun : su < n := by rw [← hsu]; exact Nat.mod_lt _ h0
  have htn : t < n := by rw [← ht]; exact Nat.mod_lt _ h0
  have hqk : deqs (ud k) (ud 0) = false := by rw [deqs_ud _ _ (by omega) (by decide)]; simpa using hk0
  have hqr : deqs (ud r) (ud 0) = false := by rw [deqs_ud _ _ (by omega) (by decide)]; simpa using hr0
  have hm := Mult_T G k 1 k (by omega) (by rw [Nat.mul_one])
  rw [← base_D G, hT] at hm
  have hre := rest_ok x n r (by omega) (by omega) (by omega) hr
  have hy2 := tmod2 y
  have hcv : IntKind.i64.wrap ((y % 2 : Nat) : Int) = ((y % 2 : Nat) : Int) := Go.IntWalk.i64_in _ (by omega)
  have wi := p_finv k n iv (by omega) hk hiv (by rw [hi1, Nat.mod_eq_of_lt h1]) hig
  have m1 := p_fmul r d n rd (by omega) hrn hd hrd
  have m2 := p_fadd z rd n su (by omega) hz hrdn hsu
  have m3 := p_fmul iv su n t (by omega) hiv hsun ht
  have hcc : ∃ e, cmpI x n = e ∧ decide (e ≥ 0) = ge := by
    rcases Nat.lt_trichotomy x n with h | h | h
    · exact ⟨-1, cmp_m1 h, by rw [← hge]; simp; omega⟩
    · exact ⟨0, cmp_00 h, by rw [← hge]; simp; omega⟩
    · exact ⟨1, cmp_p1 h, by rw [← hge]; simp; omega⟩
  obtain ⟨e, he, hge0⟩ := hcc
  have wc := p_cmpF x n e (by omega) (by omega) he
  have hlow := low_ok p 0 b n gx gy t false lo (by omega) (by omega) hlo
  have hsb := p_wsub n t c false (by omega) (by omega) (by rw [← hc, show n + M256 - t = (n - t) + M256 from by omega, Nat.add_mod_right, Nat.mod_eq_of_lt (by omega)]) (by simp; omega)
  have o4 : o1 < 4 := by rw [ho1]; cases ge <;> simp <;> omega
  have hxor := xor_i64 o1 o4
  rw [ho2] at hxor
  have hqt : deqs (ud t) (ud 0) = decide (t = 0) := by rw [deqs_ud _ _ (by omega) (by decide)]
  have hadd : (y % 2 : Nat) + (2 : Int) = ((y % 2 + 2 : Nat) : Int) := by push_cast; rfl
  have hy22 : y % 2 < 2 := Nat.mod_lt _ (by decide)
  have hwr : IntKind.i64.wrap (((y % 2 : Nat) : Int) + 2) = ((y % 2 + 2 : Nat) : Int) := by rw [hadd]; exact Go.IntWalk.i64_in _ (by omega)
  generalize y % 2 = y2 at *
  subst ho1
  by_cases ht0 : t = 0
  · rw [decide_eq_true ht0, cond_true] at hq
    rw [decide_eq_true ht0] at hqt
    subst hq
    cases ge
    all_goals
      simp only [cond_true, cond_false, Nat.add_zero] at hxor
      refine pur_intro Tryz.func54 rfl Tryz.ntmps54 rfl (by first | rfl | assumption | exact bs_cl _) fun B => ?_
      repeat (first | (with_reducible refine R_nil ?_; try dsimp only [slots0, slots_ud, pt_all, pt_x, pt_y, cv_all, cv_p, cv_a, cv_b, cv_n, cv_g, cv_gx, pt_len, cv_len, rg_len, ren_rl, rl_all, rl_m, rl_len, rl_nil, pt_nil, ptD_all, ptD_nil, ptD_len, sg_all, sg_r, sg_s, sg_len, cells_U, agg_ud, drop0, dropS, takeS, take0, ud_nil, take_ud, take_ud0, drop_ud, drop_ud0, take_udk, D.cells, D.fz, D.fzs, List.take_succ_cons, List.take_zero, List.drop_succ_cons, List.drop_zero, List.cons_append, List.nil_append, List.append_eq, List.length_cons, List.length_nil, Nat.reduceAdd, Nat.reduceMul, Nat.reduceSub, Int.reduceAdd, Int.reduceSub, Int.reduceToNat, Int.reduceNeg, Int.reduceMul]) | refine zC ?_ | refine zA ?_ | refine k_eqa rfl rfl rfl rfl rfl hqk ?_ | refine k_call rfl hm rfl rfl rfl rfl ?_ | refine k_call rfl hre rfl rfl rfl rfl ?_ | (refine k_rem rfl rfl rfl ?_ hy2 ?_; (decide)) | refine k_conv rfl rfl hcv ?_ | refine k_eqa rfl rfl rfl rfl rfl hqr ?_ | refine k_call rfl wc rfl rfl rfl rfl ?_ | refine k_geq rfl rfl rfl hge0 ?_ | refine k_add rfl rfl rfl hwr ?_ | refine k_call rfl wi rfl rfl rfl rfl ?_ | refine k_call rfl m1 rfl rfl rfl rfl ?_ | refine k_call rfl m2 rfl rfl rfl rfl ?_ | refine k_call rfl m3 rfl rfl rfl rfl ?_ | refine k_eqa rfl rfl rfl rfl rfl hqt ?_ | refine zB ?_)
      (first | with_reducible refine q_endr ?_); refine rets3 Tryz.results54 (by exact zv) (by exact zv) (by exact zv) ?_ ?_ ?_
      all_goals rfl
  · rw [decide_eq_false ht0, cond_false] at hq
    rw [decide_eq_false ht0] at hqt
    subst hq
    cases ge <;> cases lo
    all_goals
      simp only [cond_true, cond_false, Nat.add_zero] at hxor ⊢
      refine pur_intro Tryz.func54 rfl Tryz.ntmps54 rfl (by first | rfl | assumption | exact bs_cl _) fun B => ?_
      repeat (first | (with_reducible refine R_nil ?_; try dsimp only [slots0, slots_ud, pt_all, pt_x, pt_y, cv_all, cv_p, cv_a, cv_b, cv_n, cv_g, cv_gx, pt_len, cv_len, rg_len, ren_rl, rl_all, rl_m, rl_len, rl_nil, pt_nil, ptD_all, ptD_nil, ptD_len, sg_all, sg_r, sg_s, sg_len, cells_U, agg_ud, drop0, dropS, takeS, take0, ud_nil, take_ud, take_ud0, drop_ud, drop_ud0, take_udk, D.cells, D.fz, D.fzs, List.take_succ_cons, List.take_zero, List.drop_succ_cons, List.drop_zero, List.cons_append, List.nil_append, List.append_eq, List.length_cons, List.length_nil, Nat.reduceAdd, Nat.reduceMul, Nat.reduceSub, Int.reduceAdd, Int.reduceSub, Int.reduceToNat, Int.reduceNeg, Int.reduceMul]) | refine zC ?_ | refine zA ?_ | refine k_eqa rfl rfl rfl rfl rfl hqk ?_ | refine k_call rfl hm rfl rfl rfl rfl ?_ | refine k_call rfl hre rfl rfl rfl rfl ?_ | (refine k_rem rfl rfl rfl ?_ hy2 ?_; (decide)) | refine k_conv rfl rfl hcv ?_ | refine k_eqa rfl rfl rfl rfl rfl hqr ?_ | refine k_call rfl wc rfl rfl rfl rfl ?_ | refine k_geq rfl rfl rfl hge0 ?_ | refine k_add rfl rfl rfl hwr ?_ | refine k_call rfl wi rfl rfl rfl rfl ?_ | refine k_call rfl m1 rfl rfl rfl rfl ?_ | refine k_call rfl m2 rfl rfl rfl rfl ?_ | refine k_call rfl m3 rfl rfl rfl rfl ?_ | refine k_eqa rfl rfl rfl rfl rfl hqt ?_ | refine k_call rfl hlow rfl rfl rfl rfl ?_ | refine k_call rfl hsb rfl rfl rfl rfl ?_ | refine k_bits rfl rfl rfl rfl hxor ?_ | refine zB ?_)
      (first | with_reducible refine q_endr ?_); refine rets3 Tryz.results54 (by exact zv) (by exact zv) (by exact zv) ?_ ?_ ?_
      all_goals rfl
theorem try_ok (G : Grp p b n gx gy T) (E : Extra p b n T) (hn : n < 1000) (hp : p < 1000) {iv : Nat → Nat} (hiv : Ivs n iv) (d z k : Nat) (hd : d < n) (hz : z < n) (hk : k < n) : Pur Tryz.prog 54 [.agg (cv p 0 b n gx gy false), U d, U z, U k] (trD (trS n T iv d z k)) := by
  have h1 := G.good.h1
  by_cases hk0 : k = 0
  · subst hk0
    have : trS n T iv d z 0 = none := by unfold trS; rw [if_pos rfl]
    rw [this]
    exact try_zero G d z
  · have hkn : k % n ≠ 0 := by rw [Nat.mod_eq_of_lt hk]; exact hk0
    obtain ⟨x, y, e1, _, hy0, hy, hx⟩ := E.opp k (n - k) (by rw [show k + (n - k) = n from by omega, Nat.mod_self]) hkn
    unfold trS
    rw [if_neg hk0]
    have ex : (T k).1 = x := by rw [e1]
    have ey : (T k).2.1 = y := by rw [e1]
    by_cases hr0 : x % n = 0
    · rw [ex, if_pos hr0]
      exact try_r0 G hn hp d z k x y hk hk0 e1 hx hy hr0
    · rw [ex, if_neg hr0]
      obtain ⟨v1, v2, v3⟩ := hiv k hk hk0
      have et : trN n T iv d z k = iv k * ((z + x % n * d % n) % n) % n := by unfold trN; rw [ex]
      have eo : trOS n T k = y % 2 + cond (decide (n ≤ x)) 2 0 := by
        unfold trOS; rw [ex, ey]
        by_cases h : n ≤ x
        · rw [if_pos h, decide_eq_true h, cond_true]
        · rw [if_neg h, decide_eq_false h, cond_false]
      refine try_at G hn hp d z k x y (x % n) (trN n T iv d z k) (iv k) _ _ (n - trN n T iv d z k) (trOS n T k) (trOS n T k ^^^ 1) hd hz hk hk0 e1 hx hy rfl hr0 _ _ rfl v1 v2 v3 rfl rfl et.symm _ eo rfl rfl rfl ?_
      by_cases ht : trN n T iv d z k = 0
      · rw [if_pos ht, decide_eq_true ht]; rfl
      · rw [if_neg ht, decide_eq_false ht, cond_false]
        by_cases hl : trN n T iv d z k ≤ n / 2
        · rw [if_pos hl, decide_eq_true hl]; rfl
        · rw [if_neg hl, decide_eq_false hl]; rfl
end
end Go.Proofs.YtcfefmbbbfdppaaGreatDoor
