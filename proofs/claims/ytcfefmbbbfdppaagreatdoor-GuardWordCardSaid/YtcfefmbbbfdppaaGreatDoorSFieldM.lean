/- Arithmetic by a modulus: powers bit by bit, and the long way to an inverse. Plain Lean, no program in sight. No conditions. -/
import Derived.Test.YtcfefmbbbfdppaaGreatDoorSField1
namespace Go.Proofs.YtcfefmbbbfdppaaGreatDoor
open Go.RowKit
set_option linter.unusedVariables false
set_option maxRecDepth 100000
set_option linter.unusedSimpArgs false
theorem cmp_lt (a m : Nat) (hm : m < M256) (h : a < m) (w : World) :
    Calls Tryz.prog 46 #[u a, u m] w fun e w' => e = .returned (.int .i64 (-1)) ∧ New w w' :=
  cmp_is a m (-1) (by omega) hm (by unfold cmpI; rw [if_pos h]) w
@[reducible] def cc (a b : Nat) : Array Value := #[.int .u64 (lim a 0), .int .u64 (lim a 1), .int .u64 (lim a 2), .int .u64 (lim a 3), .int .u64 (lim b 0), .int .u64 (lim b 1), .int .u64 (lim b 2), .int .u64 (lim b 3)]
set_option maxHeartbeats 1000000 in
theorem fault2 (a b m g : Nat) (tt : TypeId) (hm : m < M256) (ha : a < m) (hb : b < m) (w : World) (B0 : Blk w g tt (cc a b)) :
    Calls Tryz.prog 69 #[u m, .slice (some ⟨g, 0, none⟩) 2 2] w fun e w' => e = .returned (.int .i64 0) ∧ New w w' := by
  have ez := zero_iff m hm
  rw [decide_eq_false (by omega)] at ez
  have ha := hide ha; have hb := hide hb; have hm := hide hm
  have l0 := B0.lt
  go_enter Tryz.func69, Tryz.ntmps69
  go_wp2_with fail
  refine wp_loop_rounds 3 ?_
  rw [rounds_succ]
  have B2 := Blk.new_ w 27 (uc m)
  have B0 := B0.al (.cells (uc m) 27)
  have N := new_alloc (new_refl w) (.cells (uc m) 27)
  generalize hW : World.alloc w _ = W at *
  clear hW
  clear l0
  have c0 := B0.cell; have c2 := B2.cell; have l0 := B0.lt; have l2 := B2.lt
  go_wp2_with fail
  refine (cmp_lt a m (unhide hm) (unhide ha) _).mono ?_
  rintro e w1 ⟨rfl, hb⟩
  have U : New W w1 := new_trans (by (repeat' (first | with_reducible exact new_refl _ | with_reducible assumption | with_reducible refine new_drewN ?_ _ | with_reducible refine new_drew ?_ | with_reducible refine new_alloc ?_ _ | with_reducible refine new_set ?_ ?_ _ | with_reducible refine new_freeze ?_ ?_ _ | with_reducible refine new_trans ?_ (by assumption) | (simp; done) | (simp; omega)))) hb
  have N : New w w1 := new_trans (by (repeat' (first | with_reducible exact new_refl _ | with_reducible assumption | with_reducible refine new_drewN ?_ _ | with_reducible refine new_drew ?_ | with_reducible refine new_alloc ?_ _ | with_reducible refine new_set ?_ ?_ _ | with_reducible refine new_freeze ?_ ?_ _ | with_reducible refine new_trans ?_ (by assumption) | (simp; done) | (simp; omega)))) hb
  have B0 := B0.up U
  have B2 := B2.up U
  try clear c0
  try clear l0
  try clear f0
  have c0 := B0.cell; have l0 := B0.lt
  try clear c2
  try clear l2
  try clear f2
  have c2 := B2.cell; have l2 := B2.lt
  clear hb U
  go_wp2_with fail
  rw [rounds_succ]
  go_wp2_with fail
  refine (cmp_lt b m (unhide hm) (unhide hb) _).mono ?_
  rintro e w2 ⟨rfl, hb⟩
  have U : New w1 w2 := new_trans (by (repeat' (first | with_reducible exact new_refl _ | with_reducible assumption | with_reducible refine new_drewN ?_ _ | with_reducible refine new_drew ?_ | with_reducible refine new_alloc ?_ _ | with_reducible refine new_set ?_ ?_ _ | with_reducible refine new_freeze ?_ ?_ _ | with_reducible refine new_trans ?_ (by assumption) | (simp; done) | (simp; omega)))) hb
  have N : New w w2 := new_trans (by (repeat' (first | with_reducible exact new_refl _ | with_reducible assumption | with_reducible refine new_drewN ?_ _ | with_reducible refine new_drew ?_ | with_reducible refine new_alloc ?_ _ | with_reducible refine new_set ?_ ?_ _ | with_reducible refine new_freeze ?_ ?_ _ | with_reducible refine new_trans ?_ (by assumption) | (simp; done) | (simp; omega)))) hb
  have B0 := B0.up U
  have B2 := B2.up U
  try clear c0
  try clear l0
  try clear f0
  have c0 := B0.cell; have l0 := B0.lt
  try clear c2
  try clear l2
  try clear f2
  have c2 := B2.cell; have l2 := B2.lt
  clear hb U
  go_wp2_with fail
  rw [rounds_succ]
  go_wp2
  go_ret
  exact ⟨rfl, by (repeat' (first | with_reducible exact new_refl _ | with_reducible assumption | with_reducible refine new_drewN ?_ _ | with_reducible refine new_drew ?_ | with_reducible refine new_alloc ?_ _ | with_reducible refine new_set ?_ ?_ _ | with_reducible refine new_freeze ?_ ?_ _ | with_reducible refine new_trans ?_ (by assumption) | (simp; done) | (simp; omega)))⟩
@[reducible] def c1 (a : Nat) : Array Value := #[.int .u64 (lim a 0), .int .u64 (lim a 1), .int .u64 (lim a 2), .int .u64 (lim a 3)]
set_option maxHeartbeats 1000000 in
theorem fault1 (a m g : Nat) (tt : TypeId) (hm : m < M256) (ha : a < m) (w : World) (B0 : Blk w g tt (uc a)) :
    Calls Tryz.prog 69 #[u m, .slice (some ⟨g, 0, none⟩) 1 1] w fun e w' => e = .returned (.int .i64 0) ∧ New w w' := by
  have ez := zero_iff m hm
  rw [decide_eq_false (by omega)] at ez
  have ha := hide ha; have hm := hide hm
  go_enter Tryz.func69, Tryz.ntmps69
  go_wp2_with fail
  refine wp_loop_rounds 2 ?_
  rw [rounds_succ]
  have B2 := Blk.new_ w 27 (uc m)
  have B0 := B0.al (.cells (uc m) 27)
  have N := new_alloc (new_refl w) (.cells (uc m) 27)
  generalize hW : World.alloc w _ = W at *
  clear hW
  have c0 := B0.cell; have c2 := B2.cell; have l0 := B0.lt; have l2 := B2.lt
  go_wp2_with fail
  refine (cmp_lt a m (unhide hm) (unhide ha) _).mono ?_
  rintro e w1 ⟨rfl, hb⟩
  have U : New W w1 := new_trans (by (repeat' (first | with_reducible exact new_refl _ | with_reducible assumption | with_reducible refine new_drewN ?_ _ | with_reducible refine new_drew ?_ | with_reducible refine new_alloc ?_ _ | with_reducible refine new_set ?_ ?_ _ | with_reducible refine new_freeze ?_ ?_ _ | with_reducible refine new_trans ?_ (by assumption) | (simp; done) | (simp; omega)))) hb
  have N : New w w1 := new_trans (by (repeat' (first | with_reducible exact new_refl _ | with_reducible assumption | with_reducible refine new_drewN ?_ _ | with_reducible refine new_drew ?_ | with_reducible refine new_alloc ?_ _ | with_reducible refine new_set ?_ ?_ _ | with_reducible refine new_freeze ?_ ?_ _ | with_reducible refine new_trans ?_ (by assumption) | (simp; done) | (simp; omega)))) hb
  have B0 := B0.up U
  have B2 := B2.up U
  try clear c0
  try clear l0
  try clear f0
  have c0 := B0.cell; have l0 := B0.lt
  try clear c2
  try clear l2
  try clear f2
  have c2 := B2.cell; have l2 := B2.lt
  clear hb U
  go_wp2_with fail
  rw [rounds_succ]
  go_wp2
  go_ret
  exact ⟨rfl, by (repeat' (first | with_reducible exact new_refl _ | with_reducible assumption | with_reducible refine new_drewN ?_ _ | with_reducible refine new_drew ?_ | with_reducible refine new_alloc ?_ _ | with_reducible refine new_set ?_ ?_ _ | with_reducible refine new_freeze ?_ ?_ _ | with_reducible refine new_trans ?_ (by assumption) | (simp; done) | (simp; omega)))⟩
theorem Keep.trans {T : List Nat} {a b c : World} (h : Keep T a b) (k : Keep T b c) : Keep T a c :=
  ⟨k.os.trans h.os, k.tape.trans h.tape, k.output.trans h.output, Nat.le_trans h.size k.size, fun i hi hT => (k.block i (Nat.lt_of_lt_of_le hi h.size) hT).trans (h.block i hi hT)⟩
theorem Keep.ofNew {T : List Nat} {a b : World} (k : New a b) : Keep T a b := (Keep.refl T a).new k
theorem Blk.keep {T : List Nat} {w w' : World} {g : Nat} {t : TypeId} {cs : Array Value} (h : Blk w g t cs) (hk : Keep T w w') (hg : g ∉ T) : Blk w' g t cs := (hk.block g h.lt hg).trans h
theorem limb_zero (a q : Nat) (h : a / 2 ^ (64 * (q + 1)) = 0) (hz : lim a q = 0) : a / 2 ^ (64 * q) = 0 := by
  unfold lim at hz
  rw [show (18446744073709551616 : Nat) ^ q = 2 ^ (64 * q) from by rw [Nat.pow_mul]] at hz
  have e : a / 2 ^ (64 * (q + 1)) = a / 2 ^ (64 * q) / 18446744073709551616 := by
    rw [Nat.div_div_eq_div_mul, show 64 * (q + 1) = 64 * q + 64 from by omega, Nat.pow_add]
  rw [e] at h
  generalize a / 2 ^ (64 * q) = y at *
  omega
theorem next_bit (a n : Nat) : a / 2 ^ n = 2 * (a / 2 ^ (n + 1)) + a / 2 ^ n % 2 := by
  rw [Nat.pow_succ, ← Nat.div_div_eq_div_mul]
  generalize a / 2 ^ n = y
  omega
theorem uc_at (a q : Nat) (hq : q < 4) : (uc a)[q]? = some (.int .u64 (lim a q)) := by
  have : q = 0 ∨ q = 1 ∨ q = 2 ∨ q = 3 := by omega
  rcases this with rfl | rfl | rfl | rfl <;> rfl
set_option maxHeartbeats 4000000 in
theorem bits_mul (a : Nat) (ha : a < M256) (v1 v2 v3 : Value) (T : List Nat) (I : Nat → World → Prop) (hnew : ∀ p w w', I p w → New w w' → I p w')
    (hc0 : ∀ (p : Nat) (w : World), I p w → 2 * p ≤ a → Calls Tryz.prog 100 #[.bool false, v1, v2, v3] w fun e w' => e = .returned (.tuple #[]) ∧ I (2 * p) w' ∧ Keep T w w')
    (hc1 : ∀ (p : Nat) (w : World), I p w → 2 * p + 1 ≤ a → Calls Tryz.prog 100 #[.bool true, v1, v2, v3] w fun e w' => e = .returned (.tuple #[]) ∧ I (2 * p + 1) w' ∧ Keep T w w')
    (w : World) (h0 : I 0 w) (hT : ∀ x ∈ T, x < w.heap.size) :
    Calls Tryz.prog 99 #[u a, .func (.func 100) #[] #[v1, v2, v3]] w fun e w' => e = .returned (.tuple #[]) ∧ I a w' ∧ Keep T w w' := by
  have hnew := hide hnew; have hc0 := hide hc0; have hc1 := hide hc1; have hT := hide hT; have h0 := hide h0
  have hz := hide (Nat.div_eq_of_lt (show a < 2 ^ (64 * 4) from ha))
  have ha := hide ha
  go_enter Tryz.func99, Tryz.ntmps99
  go_wp2_with fail
  have B2 := Blk.new_ w 27 (uc a)
  have N := new_alloc (new_refl w) (.cells (uc a) 27)
  have hg : Hid (w.heap.size ∉ T) := hide (fun h => Nat.lt_irrefl _ (unhide hT _ h))
  have h0 := hide (unhide hnew 0 _ _ (unhide h0) N)
  have hN := hide N
  generalize hW : World.alloc w _ = W at *
  clear hW
  generalize w.heap.size = g2 at *
  go_loopw [4, 5] (fun b i wr => ∃ j : Nat, j ≤ 4 ∧ i = .int .i64 ((j : Int) - 1) ∧ b = .bool (decide (a / 2 ^ (64 * j) ≠ 0)) ∧ Blk wr g2 27 (uc a) ∧ Hid (I (a / 2 ^ (64 * j)) wr) ∧ Keep T W wr) (fun _ i _ => (intOf i + 1).toNat)
  case atStart => exact ⟨4, by omega, rfl, by first | (rw [unhide hz]; done) | (rw [unhide hz]; rfl), B2, by rw [unhide hz]; exact h0, Keep.refl _ _⟩
  case round =>
    obtain ⟨j, hj, rfl, rfl, B2, hI, hK⟩ := hrel
    cases j with
    | zero =>
      go_wp2
      have e : a / 2 ^ (64 * 0) = a := by rw [Nat.mul_zero, Nat.pow_zero, Nat.div_one]
      rw [e] at hI
      go_end0
      exact ⟨rfl, unhide hI, (Keep.ofNew (unhide hN)).trans hK⟩
    | succ q =>
      rw [show ((q + 1 : Nat) : Int) - 1 = q from by omega]
      have hq4 : (q : Int) < 4 := by omega
      have hq0 : (0 : Int) ≤ q := by omega
      have cq : wr.cell? ⟨g2, q, none⟩ = some (.int .u64 (lim a q)) := by rw [B2.cell]; exact uc_at a q (by omega)
      by_cases hs : lim a q = 0 ∧ a / 2 ^ (64 * (q + 1)) = 0
      · obtain ⟨hl, hp⟩ := hs
        rw [show decide (a / 2 ^ (64 * (q + 1)) ≠ 0) = false by simp [hp]]
        have hn := hide (limb_zero a q hp hl)
        rw [hp] at hI
        rw [hl] at cq
        clear hl hp
        go_wp2
        exact ⟨⟨q, by omega, rfl, by first | (rw [unhide hn]; done) | (rw [unhide hn]; rfl), B2, by rw [unhide hn]; exact hI, hK⟩, by simp [intOf] <;> omega⟩
      · have hcase : (lim a q ≠ 0) ∨ (lim a q = 0 ∧ a / 2 ^ (64 * (q + 1)) ≠ 0) := by
          by_cases hl : lim a q = 0
          · exact .inr ⟨hl, fun h => hs ⟨hl, h⟩⟩
          · exact .inl hl
        clear hs
        have eq64 : 64 * (q + 1) = 64 * q + 64 := by omega
        rw [eq64] at hI hcase ⊢
        clear eq64
        obtain ⟨beg, ebeg⟩ : ∃ beg, decide (a / 2 ^ (64 * q + 64) ≠ 0) = beg := ⟨_, rfl⟩
        rw [ebeg]
        have hstart : ((beg = true ∧ lim a q = 0) ∨ (lim a q == 0) = false) := by
          rcases hcase with h | ⟨h', h⟩
          · exact .inr (by simpa using h)
          · exact .inl ⟨by rw [← ebeg]; simpa using h, h'⟩
        have ebeg := hide ebeg
        clear hcase
        rcases hstart with ⟨rfl, hl⟩ | hl'
        rw [hl] at cq
        clear hl
        all_goals go_wp2_with fail
        all_goals try clear hl'
        all_goals
          obtain ⟨wo, rfl⟩ : ∃ wo : World, wo = wr := ⟨_, rfl⟩
          clear cq
          go_loopw [4, 6] (fun b k wr => ∃ t : Nat, t ≤ 64 ∧ k = .int .i64 ((t : Int) - 1) ∧ b = .bool (decide (a / 2 ^ (64 * q + t) ≠ 0)) ∧ Blk wr g2 27 (uc a) ∧ Hid (I (a / 2 ^ (64 * q + t)) wr) ∧ Keep T W wr) (fun _ k _ => (intOf k + 1).toNat)
          case atStart => exact ⟨64, by omega, rfl, by rw [unhide ebeg], B2, hI, hK⟩
          case round =>
            clear B2 hI hK ebeg
            obtain ⟨t, ht, rfl, rfl, B2, hI, hK⟩ := hrel
            cases t with
            | zero =>
              go_wp2
              exact ⟨⟨q, by omega, rfl, rfl, B2, hI, hK⟩, by simp [intOf] <;> omega⟩
            | succ s =>
              rw [show ((s + 1 : Nat) : Int) - 1 = s from by omega]
              have hs64 : (s : Int) < 64 := by omega
              have hs0 : (0 : Int) ≤ s := by omega
              have cq : wr.cell? ⟨g2, q, none⟩ = some (.int .u64 (lim a q)) := by rw [B2.cell]; exact uc_at a q (by omega)
              have nb := next_bit a (64 * q + s)
              have ab := and_one (lim a q) s (lim_nonneg a q) (lim_lt a q)
              rw [lim_bit a q s (by omega)] at ab
              have le := Nat.div_le_self a (2 ^ (64 * q + s))
              have hb2 := Nat.mod_lt (a / 2 ^ (64 * q + s)) (by decide : 0 < 2)
              rw [← Nat.add_assoc] at hI ⊢
              generalize a / 2 ^ (64 * q + s + 1) = p at *
              generalize a / 2 ^ (64 * q + s) % 2 = bit at *
              have hbit : bit = 0 ∨ bit = 1 := by omega
              by_cases hp : p = 0
              · subst hp
                rcases hbit with rfl | rfl
                · have nb := hide nb; clear le hb2
                  go_wp2
                  exact ⟨⟨s, by omega, rfl, by first | (rw [unhide nb]; done) | (rw [unhide nb]; rfl), B2, by rw [unhide nb]; exact hI, hK⟩, by simp [intOf] <;> omega⟩
                · rw [nb] at le; have nb := hide nb; clear hb2
                  go_wp2_with fail
                  refine (unhide hc1 0 _ (unhide hI) le).mono ?_
                  rintro e w2 ⟨rfl, hI2, hk2⟩
                  have hI2 := hide hI2
                  go_wp2
                  exact ⟨⟨s, by omega, rfl, by first | (rw [unhide nb]; done) | (rw [unhide nb]; rfl), B2.keep hk2 (unhide hg), by first | (rw [unhide nb]; done) | (rw [unhide nb]; exact hI2), hK.trans hk2⟩, by simp [intOf] <;> omega⟩
              · rw [show decide (p ≠ 0) = true by simp [hp]]
                have hn0 : 2 * p + bit ≠ 0 := by omega
                rw [nb] at le
                have nb := hide nb; have hn0 := hide hn0; clear hb2 hp
                rcases hbit with rfl | rfl
                · go_wp2_with fail
                  refine (unhide hc0 p _ (unhide hI) le).mono ?_
                  rintro e w2 ⟨rfl, hI2, hk2⟩
                  have hI2 := hide hI2
                  go_wp2
                  exact ⟨⟨s, by omega, rfl, by rw [unhide nb]; exact (congrArg Value.bool (decide_eq_true (unhide hn0))).symm, B2.keep hk2 (unhide hg), by first | (rw [unhide nb]; done) | (rw [unhide nb]; exact hI2), hK.trans hk2⟩, by simp [intOf] <;> omega⟩
                · go_wp2_with fail
                  refine (unhide hc1 p _ (unhide hI) le).mono ?_
                  rintro e w2 ⟨rfl, hI2, hk2⟩
                  have hI2 := hide hI2
                  go_wp2
                  exact ⟨⟨s, by omega, rfl, by rw [unhide nb]; exact (congrArg Value.bool (decide_eq_true (unhide hn0))).symm, B2.keep hk2 (unhide hg), by first | (rw [unhide nb]; done) | (rw [unhide nb]; exact hI2), hK.trans hk2⟩, by simp [intOf] <;> omega⟩
end Go.Proofs.YtcfefmbbbfdppaaGreatDoor
namespace Go.Proofs.YtcfefmbbbfdppaaGreatDoor.FM
theorem dvd_of_mod {x y m : Nat} (h : x % m = y % m) : (m : Int) ∣ (x : Int) - y := by
  have h' : (x : Int) % m = (y : Int) % m := by have := congrArg (Nat.cast : Nat → Int) h; simpa using this
  exact Int.dvd_of_emod_eq_zero (Int.emod_eq_emod_iff_emod_sub_eq_zero.1 h')
theorem mod_of_dvd {x y m : Nat} (h : (m : Int) ∣ (x : Int) - y) : x % m = y % m := by
  have h' : (x : Int) % m = (y : Int) % m := Int.emod_eq_emod_iff_emod_sub_eq_zero.2 (Int.emod_eq_zero_of_dvd h)
  have : ((x % m : Nat) : Int) = ((y % m : Nat) : Int) := by simpa using h'
  exact Int.ofNat.inj this
theorem inv_uniq {a i j m : Nat} (hi : i < m) (hj : j < m) (ei : a * i % m = 1 % m) (ej : a * j % m = 1 % m) : i = j := by
  obtain ⟨c, hc⟩ := dvd_of_mod ei
  obtain ⟨d, hd⟩ := dvd_of_mod ej
  have : (m : Int) ∣ (i : Int) - j := ⟨c * j - d * i, by
    have h1 : ((a * i : Nat) : Int) = a * i := by simp
    have h2 : ((a * j : Nat) : Int) = a * j := by simp
    rw [h1] at hc; rw [h2] at hd
    have e1 : (a : Int) * i = 1 + m * c := by have : ((1 : Nat) : Int) = 1 := rfl; rw [this] at hc; omega
    have e2 : (a : Int) * j = 1 + m * d := by have : ((1 : Nat) : Int) = 1 := rfl; rw [this] at hd; omega
    grind⟩
  have := mod_of_dvd this
  rw [Nat.mod_eq_of_lt hi, Nat.mod_eq_of_lt hj] at this
  exact this
theorem sub_dvd {u v m : Nat} (hv : v ≤ m) : (m : Int) ∣ (((u + m - v) % m : Nat) : Int) - (u - v) := by
  have h1 : (((u + m - v) % m : Nat) : Int) = (u + m - v : Int) % m := by
    rw [Int.natCast_emod]; congr 1; omega
  rw [h1]
  refine ⟨1 - (u + m - v : Int) / m, ?_⟩
  have := Int.mul_ediv_add_emod (u + m - v) m
  rw [Int.mul_sub, Int.mul_one]; omega
theorem inv_step {a m r s u t : Nat} (hm : 0 < m) (hu : u * a % m = r % m) (ht : t * a % m = s % m) : (u + m - (r / s % m) * t % m) % m * a % m = (r % s) % m := by
  obtain ⟨c, hc⟩ := dvd_of_mod hu
  obtain ⟨d, hd⟩ := dvd_of_mod ht
  obtain ⟨e, he⟩ := sub_dvd (u := u) (v := (r / s % m) * t % m) (Nat.le_of_lt (Nat.mod_lt _ hm))
  obtain ⟨f, hf⟩ : (m : Int) ∣ (((r / s % m) * t % m : Nat) : Int) - ((r / s * t : Nat) : Int) := dvd_of_mod (by simp [Nat.mod_mul_mod])
  have hrs : (r : Int) = s * ((r / s : Nat) : Int) + ((r % s : Nat) : Int) := by
    have := Nat.div_add_mod r s
    have := congrArg (Nat.cast : Nat → Int) this
    simpa using this.symm
  apply mod_of_dvd
  generalize (u + m - (r / s % m) * t % m) % m = x at *
  generalize (r / s % m) * t % m = y at *
  generalize hq : r / s = q at *
  generalize r % s = l at *
  have e1 : ((u * a : Nat) : Int) = u * a := by simp
  have e2 : ((t * a : Nat) : Int) = t * a := by simp
  have e3 : ((q * t : Nat) : Int) = q * t := by simp
  have e4 : ((x * a : Nat) : Int) = x * a := by simp
  rw [e1] at hc; rw [e2] at hd; rw [e3] at hf; rw [e4]
  exact ⟨e * a - f * a + c - q * d, by
    have h1 : (x : Int) = u - y + m * e := by omega
    have h2 : (y : Int) = q * t + m * f := by omega
    have h3 : (u : Int) * a = r + m * c := by omega
    have h4 : (t : Int) * a = s + m * d := by omega
    rw [h1, h2]
    grind⟩
end Go.Proofs.YtcfefmbbbfdppaaGreatDoor.FM
