/- Numbers in decimal digits, and a division by ten to the nineteenth in halves: plain laws. Conditions: said at each. -/
import Derived.Test.YtcgdcnhggejgbaaMath
namespace Go.Proofs.Ytcgdcnhggejgbaa
theorem dig_dec (n : Nat) (h : ¬ n = 0) : n / 10 < n := Nat.div_lt_self (by omega) (by omega)
/-- The digits of a number as letters, the lowest first. -/
def digs (n : Nat) : List UInt8 := if h : n = 0 then [] else UInt8.ofNat (48 + n % 10) :: digs (n / 10)
termination_by n
decreasing_by exact dig_dec n h
theorem digs_0 : digs 0 = [] := by rw [digs]; rfl
theorem digs_s (n : Nat) (h : n ≠ 0) : digs n = UInt8.ofNat (48 + n % 10) :: digs (n / 10) := by rw [digs, dif_neg h]
theorem digs_nil (n : Nat) (h : digs n = []) : n = 0 := by
  by_cases e : n = 0
  · exact e
  · rw [digs_s n e] at h; exact absurd h (List.cons_ne_nil _ _)
/-- The number that letters show. -/
def dval (l : List UInt8) : Nat := l.foldl (fun a c => a * 10 + (c.toNat - 48)) 0
theorem dval_snoc (l : List UInt8) (c : UInt8) : dval (l ++ [c]) = dval l * 10 + (c.toNat - 48) := by simp [dval, List.foldl_append]
theorem ch_nat (d : Nat) (h : d < 10) : (UInt8.ofNat (48 + d)).toNat = 48 + d := by
  rw [UInt8.toNat_ofNat']; omega
theorem digs_val (n : Nat) : dval (digs n).reverse = n := by
  induction n using Nat.strongRecOn with
  | _ n ih =>
    by_cases e : n = 0
    · subst e; rw [digs_0]; rfl
    · rw [digs_s n e, List.reverse_cons, dval_snoc, ih (n / 10) (dig_dec n e), ch_nat _ (Nat.mod_lt _ (by omega))]; omega
theorem digs_in (n : Nat) : ∀ c ∈ digs n, 48 ≤ c.toNat ∧ c.toNat ≤ 57 := by
  induction n using Nat.strongRecOn with
  | _ n ih =>
    by_cases e : n = 0
    · subst e; rw [digs_0]; intro c hc; exact absurd hc List.not_mem_nil
    · rw [digs_s n e]; intro c hc
      rcases List.mem_cons.mp hc with hc | hc
      · rw [hc, ch_nat _ (Nat.mod_lt _ (by omega))]; have := Nat.mod_lt n (show 10 > 0 by omega); omega
      · exact ih (n / 10) (dig_dec n e) c hc
theorem digs_last (n : Nat) (h : n ≠ 0) : ∃ c, (digs n).getLast? = some c ∧ c ≠ 48 := by
  induction n using Nat.strongRecOn with
  | _ n ih =>
    rw [digs_s n h]
    by_cases e : n / 10 = 0
    · rw [e, digs_0]; refine ⟨_, rfl, ?_⟩
      intro k
      have := congrArg UInt8.toNat (show UInt8.ofNat (48 + n % 10) = 48 from k)
      rw [ch_nat _ (Nat.mod_lt _ (by omega))] at this
      have : (48 : UInt8).toNat = 48 := rfl
      omega
    · obtain ⟨c, hc, hn⟩ := ih (n / 10) (dig_dec n h) e
      refine ⟨c, ?_, hn⟩
      rw [List.getLast?_cons, hc]; rfl
theorem digs_len (n : Nat) (h : n ≠ 0) : 10 ^ (digs n).length ≤ 10 * n := by
  induction n using Nat.strongRecOn with
  | _ n ih =>
    rw [digs_s n h, List.length_cons, Nat.pow_succ]
    by_cases e : n / 10 = 0
    · rw [e, digs_0]; simp; omega
    · have := ih (n / 10) (dig_dec n h) e; omega
theorem val_digs : ∀ (r : List UInt8), (∀ c ∈ r, 48 ≤ c.toNat ∧ c.toNat ≤ 57) → r.getLast? ≠ some 48 → digs (dval r.reverse) = r
  | [], _, _ => by rw [show dval ([] : List UInt8).reverse = 0 from rfl, digs_0]
  | c :: r, hd, hl => by
    have hc := hd c (List.mem_cons_self ..)
    have ih : digs (dval r.reverse) = r := by
      refine val_digs r (fun x hx => hd x (List.mem_cons_of_mem _ hx)) ?_
      intro k; apply hl; rw [List.getLast?_cons, k]; rfl
    rw [List.reverse_cons, dval_snoc]
    have hn : dval r.reverse * 10 + (c.toNat - 48) ≠ 0 := by
      intro k
      have h0 : dval r.reverse = 0 := by omega
      rw [h0, digs_0] at ih
      apply hl; rw [← ih]
      show some c = some 48
      have : c.toNat = 48 := by omega
      rw [← UInt8.ofNat_toNat (x := c), this]; rfl
    rw [digs_s _ hn, show (dval r.reverse * 10 + (c.toNat - 48)) / 10 = dval r.reverse by omega, ih, show 48 + (dval r.reverse * 10 + (c.toNat - 48)) % 10 = c.toNat by omega, UInt8.ofNat_toNat]
/-- A number in decimal digits. -/
def dec (n : Nat) : List UInt8 := if n = 0 then [48] else (digs n).reverse
def numeral (l : List UInt8) : Prop := (∀ c ∈ l, 48 ≤ c.toNat ∧ c.toNat ≤ 57) ∧ l ≠ [] ∧ (l.head? = some 48 → l.length = 1)
theorem dec_num (n : Nat) : numeral (dec n) := by
  unfold dec
  by_cases e : n = 0
  · rw [if_pos e]; refine ⟨?_, by simp, fun _ => rfl⟩
    intro c hc; rw [List.mem_singleton.mp hc]; exact ⟨by decide, by decide⟩
  · rw [if_neg e]
    refine ⟨fun c hc => digs_in n c (List.mem_reverse.mp hc), ?_, ?_⟩
    · intro k; exact e (digs_nil n (List.reverse_eq_nil_iff.mp k))
    · intro k; rw [List.head?_reverse] at k
      obtain ⟨c, hc, hn⟩ := digs_last n e
      rw [hc] at k; exact absurd (Option.some.inj k) hn
theorem dec_val (n : Nat) : dval (dec n) = n := by
  unfold dec
  by_cases e : n = 0
  · rw [if_pos e, e]; rfl
  · rw [if_neg e]; exact digs_val n
theorem val_dec (l : List UInt8) (h : numeral l) : dec (dval l) = l := by
  obtain ⟨h1, h2, h3⟩ := h
  have hg : ∀ {r : List UInt8}, r = l.reverse → r.getLast? ≠ some 48 → digs (dval l) = l.reverse := by
    intro r hr hh
    have := val_digs l.reverse (fun c hc => h1 c (List.mem_reverse.mp hc)) (hr ▸ hh)
    rwa [List.reverse_reverse] at this
  by_cases e : l.head? = some 48
  · have hl := h3 e
    match l, hl with
    | [c], _ => rw [show c = 48 from Option.some.inj e]; rfl
  · have := hg rfl (by rw [List.getLast?_reverse]; exact e)
    unfold dec
    have hn : dval l ≠ 0 := by
      intro k; rw [k, digs_0] at this
      exact h2 (List.reverse_eq_nil_iff.mp this.symm)
    rw [if_neg hn, this, List.reverse_reverse]
theorem dec_len (n : Nat) (h : n < 115792089237316195423570985008687907853269984665640564039457584007913129639936) : (dec n).length ≤ 78 := by
  unfold dec
  by_cases e : n = 0
  · rw [if_pos e]; decide
  · rw [if_neg e, List.length_reverse]
    have := digs_len n e
    apply Decidable.byContradiction; intro k
    have h2 : 10 ^ 79 ≤ 10 ^ (digs n).length := Nat.pow_le_pow_right (by omega) (by omega)
    omega
theorem dval_mono (l : List UInt8) : ∀ (k : List UInt8), dval l ≤ dval (l ++ k)
  | [] => by simp
  | c :: k => by
    have := dval_mono (l ++ [c]) k
    rw [dval_snoc, List.append_assoc] at this
    show dval l ≤ dval (l ++ ([c] ++ k)); omega
termination_by k => k.length
-- a half of a division by ten to the nineteenth
theorem half_top (u : Nat) (hu : u < 10000000000000000000) : u / 2328306436 ≤ 4294967297 := by omega
theorem half_at (u d : Nat) (hu : u < 10000000000000000000) (hd : d < 4294967296) : (u * 4294967296 + d) / 10000000000000000000 ≤ u / 2328306436 := by omega
theorem half_facts (u d : Nat) (hu : u < 10000000000000000000) (hd : d < 4294967296) : ∃ q a r s : Nat, q * 10000000000000000000 + s = u * 4294967296 + d ∧ s < 10000000000000000000 ∧ u / 2328306436 = a ∧ a * 2328306436 + r = u ∧ r < 2328306436 ∧ q ≤ a ∧ a ≤ 4294967297 :=
  ⟨(u * 4294967296 + d) / 10000000000000000000, u / 2328306436, u % 2328306436, (u * 4294967296 + d) % 10000000000000000000, by have := Nat.div_add_mod (u * 4294967296 + d) 10000000000000000000; rw [Nat.mul_comm] at this; exact this, Nat.mod_lt _ (by decide), rfl, by have := Nat.div_add_mod u 2328306436; rw [Nat.mul_comm] at this; exact this, Nat.mod_lt _ (by decide), half_at u d hu hd, half_top u hu⟩
theorem half_go (u d q s a r b t : Nat) (hd : d < 4294967296) (h1 : q * 10000000000000000000 + s = u * 4294967296 + d) (h2 : s < 10000000000000000000) (hu : u < 10000000000000000000) (ha : a * 2328306436 + r = u) (hq : q ≤ a) (hb : b = a - 1) (ht : t = r + 2328306436) (hc : 4294967296 ≤ a ∨ 4294967296 * r + d < a * 2313682944) : b * 2328306436 + t = u ∧ q ≤ b ∧ b + 1 = a := by omega
theorem half_out (u d q s b t : Nat) (h1 : q * 10000000000000000000 + s = u * 4294967296 + d) (h2 : s < 10000000000000000000) (ha : b * 2328306436 + t = u) (hq : q ≤ b) (hb : b ≤ 4294967296) (ht : 4294967296 ≤ t) : b = q := by omega
theorem half_end (u d q s a r : Nat) (h1 : q * 10000000000000000000 + s = u * 4294967296 + d) (h2 : s < 10000000000000000000) (ha : a * 2328306436 + r = u) (hq : q ≤ a) (hc : a * 2313682944 ≤ 4294967296 * r + d) : a = q := by omega
theorem half_dm (T X s n : Nat) (h : s < T) (e : n = s + T * X) : n / T = X ∧ n % T = s := by
  subst e
  have h0 : 0 < T := by omega
  exact ⟨by rw [Nat.add_mul_div_left _ _ h0, Nat.div_eq_of_lt h, Nat.zero_add], by rw [Nat.add_mul_mod_self_left, Nat.mod_eq_of_lt h]⟩
theorem half_gen (B T hi lo d1 d0 q1 s1 q0 s0 : Nat) (hd : d1 * B + d0 = lo) (h1 : q1 * T + s1 = hi * B + d1) (h3 : q0 * T + s0 = s1 * B + d0) : hi * (B * B) + lo = s0 + T * (q1 * B + q0) := by
  have e1 : hi * (B * B) + lo = (hi * B + d1) * B + d0 := by rw [← hd, ← Nat.mul_assoc, Nat.add_mul, Nat.add_assoc]
  have e2 : T * (q1 * B + q0) = q1 * T * B + q0 * T := by rw [Nat.mul_add, Nat.mul_left_comm, ← Nat.mul_assoc, Nat.mul_comm T q0]
  rw [e1, ← h1, e2, Nat.add_mul, Nat.add_assoc, ← h3]
  omega
theorem half_join (hi lo d1 d0 q1 s1 q0 s0 : Nat) (hd : d1 * 4294967296 + d0 = lo) (h1 : q1 * 10000000000000000000 + s1 = hi * 4294967296 + d1) (h3 : q0 * 10000000000000000000 + s0 = s1 * 4294967296 + d0) (h4 : s0 < 10000000000000000000) : (hi * 18446744073709551616 + lo) / 10000000000000000000 = q1 * 4294967296 + q0 ∧ (hi * 18446744073709551616 + lo) % 10000000000000000000 = s0 :=
  half_dm _ _ _ _ h4 (half_gen 4294967296 10000000000000000000 hi lo d1 d0 q1 s1 q0 s0 hd h1 h3)
theorem wrap_chain (x d y s : Int) (h : y + s = x + d) (h0 : 0 ≤ s) (h1 : s < 18446744073709551616) : ((x % 18446744073709551616 + d) % 18446744073709551616 - y % 18446744073709551616) % 18446744073709551616 = s := by
  rw [Int.emod_add_emod, ← Int.sub_emod, show x + d - y = s by omega]
  exact Int.emod_eq_of_lt h0 h1
theorem int_gen (q T s u B d : Nat) (h : q * T + s = u * B + d) : (q : Int) * (T : Int) + (s : Int) = (u : Int) * (B : Int) + (d : Int) := by exact_mod_cast h
theorem half_int (q s u d : Nat) (h : q * 10000000000000000000 + s = u * 4294967296 + d) : (q : Int) * 10000000000000000000 + (s : Int) = (u : Int) * 4294967296 + (d : Int) := int_gen q 10000000000000000000 s u 4294967296 d h
theorem dm_step (B T X x q r : Nat) (h0 : 0 < T) (hq : X / T = q) (hr : X % T = r) : (X * B + x) / T = q * B + (r * B + x) / T ∧ (X * B + x) % T = (r * B + x) % T := by
  have hX : X = T * q + r := by rw [← hq, ← hr]; exact (Nat.div_add_mod X T).symm
  have e : X * B + x = (r * B + x) + T * (q * B) := by rw [hX, Nat.add_mul, Nat.mul_assoc]; omega
  rw [e]
  exact ⟨by rw [Nat.add_mul_div_left _ _ h0, Nat.add_comm], by rw [Nat.add_mul_mod_self_left]⟩
theorem dm_lt (B T r x : Nat) (hr : r < T) (hx : x < B) : (r * B + x) / T < B := by
  rw [Nat.div_lt_iff_lt_mul (by omega)]
  have h1 : r * B + B ≤ T * B := by
    have := Nat.mul_le_mul_right B (show r + 1 ≤ T by omega)
    rw [Nat.add_mul, Nat.one_mul] at this; exact this
  rw [Nat.mul_comm B T]; omega
theorem dm4 (B T x0 x1 x2 x3 y1 y2 y3 y0 r1 r2 r3 r0 : Nat) (h0 : 0 < T) (e3 : (0 * B + x3) / T = y3) (f3 : (0 * B + x3) % T = r3) (e2 : (r3 * B + x2) / T = y2) (f2 : (r3 * B + x2) % T = r2) (e1 : (r2 * B + x1) / T = y1) (f1 : (r2 * B + x1) % T = r1) (e0 : (r1 * B + x0) / T = y0) (f0 : (r1 * B + x0) % T = r0) :
    (((x3 * B + x2) * B + x1) * B + x0) / T = ((y3 * B + y2) * B + y1) * B + y0 ∧ (((x3 * B + x2) * B + x1) * B + x0) % T = r0 := by
  rw [Nat.zero_mul, Nat.zero_add] at e3 f3
  obtain ⟨a1, a2⟩ := dm_step B T x3 x2 y3 r3 h0 e3 f3
  rw [e2] at a1; rw [f2] at a2
  obtain ⟨b1, b2⟩ := dm_step B T (x3 * B + x2) x1 _ r2 h0 a1 a2
  rw [e1] at b1; rw [f1] at b2
  obtain ⟨c1, c2⟩ := dm_step B T ((x3 * B + x2) * B + x1) x0 _ r1 h0 b1 b2
  rw [e0] at c1; rw [f0] at c2
  exact ⟨c1, c2⟩
theorem horner (B x0 x1 x2 x3 : Nat) : x0 + B * x1 + (B * B) * x2 + (B * (B * B)) * x3 = ((x3 * B + x2) * B + x1) * B + x0 := by
  rw [Nat.add_mul, Nat.add_mul, Nat.add_mul, Nat.mul_comm B x1, Nat.mul_comm (B * B) x2, Nat.mul_comm (B * (B * B)) x3, Nat.mul_assoc x2, Nat.mul_assoc x3, Nat.mul_assoc x3]
  rw [Nat.mul_assoc B B B]
  omega
end Go.Proofs.Ytcgdcnhggejgbaa
