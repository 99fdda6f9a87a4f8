/- MulSpreads: a sum is taken so often as its parts are, in all 512 bits: for every three raw things the call returns true, and they read as before. No conditions. -/
import Derived.Test.YtcgdcnhggejgbaaRow
import Derived.Test.YtcgdcnhggejgbaaLaw
import Derived.Test.YtcgdcnhggejgbaaMul
namespace Go.Proofs.Ytcgdcnhggejgbaa.mulSpreads
open Go.ChangeShapes Go.WideShapes Go.RowKit
set_option linter.unusedVariables false

theorem fin (x i j m n l low hi : Nat) (k : M256 * x + l = M256 * (i + j) + (m + n)) (hm : m < M256) (hn : n < M256) (hl : l < M256) (hlow : (m + n) % M256 = low) (hhi : (i + j) % M256 = hi) :
    l = low ∧ x % M256 = (if M256 ≤ m + n then (hi + 1) % M256 else hi) := by
  unfold M256 at *
  split
  · rename_i h
    have h1 : x = i + j + 1 := by omega
    refine ⟨by omega, ?_⟩
    omega
  · rename_i h
    have h1 : x = i + j := by omega
    refine ⟨by omega, ?_⟩
    omega

theorem spreads (a b c s l h0 m i n j low hi : Nat) (ha : a < M256) (hb : b < M256) (hc : c < M256) (hs : (a + b) % M256 = s) (hl : s * c % M256 = l) (hh : s * c / M256 = h0) (hm : a * c % M256 = m) (hi' : a * c / M256 = i) (hn : b * c % M256 = n) (hj : b * c / M256 = j)
    (hlow : (m + n) % M256 = low) (hhi : (i + j) % M256 = hi) :
    l = low ∧ (if M256 ≤ a + b then (h0 + c) % M256 else h0) = (if M256 ≤ m + n then (hi + 1) % M256 else hi) := by
  have e1 : (a + b) * c = a * c + b * c := Nat.add_mul a b c
  have e2 : s * c = if M256 ≤ a + b then a * c + b * c - M256 * c else a * c + b * c := by
    split
    · rename_i h
      have : s = a + b - M256 := by unfold M256 at *; omega
      rw [this, Nat.sub_mul, e1]
    · rename_i h
      have : s = a + b := by unfold M256 at *; omega
      rw [this, e1]
  have e3 : M256 ≤ a + b → M256 * c ≤ a * c + b * c := fun h => by rw [← e1]; exact Nat.mul_le_mul_right c h
  have hj' : a * c < M256 * M256 := Nat.mul_lt_mul'' ha hc
  have hj'' : b * c < M256 * M256 := Nat.mul_lt_mul'' hb hc
  have hp := Nat.div_add_mod (a * c) M256
  have hq := Nat.div_add_mod (b * c) M256
  have hr := Nat.div_add_mod (s * c) M256
  have hmn := Nat.div_add_mod (m + n) M256
  rw [hm, hi'] at hp; rw [hn, hj] at hq; rw [hl, hh] at hr; rw [hlow] at hmn
  have m1 : m < M256 := hm ▸ mod_lt _
  have n1 : n < M256 := hn ▸ mod_lt _
  have l1 : l < M256 := hl ▸ mod_lt _
  have o1 : low < M256 := hlow ▸ mod_lt _
  have b0 : h0 < M256 := by
    rw [← hh]; exact (Nat.div_lt_iff_lt_mul (by decide)).2 (Nat.mul_lt_mul'' (hs ▸ mod_lt _) hc)
  by_cases ho : M256 ≤ a + b
  · rw [if_pos ho] at e2
    have e4 := e3 ho
    have k1 : M256 * (h0 + c) + l = M256 * (i + j) + (m + n) := by
      rw [Nat.mul_add, Nat.mul_add]; omega
    rw [if_pos ho]
    exact fin (h0 + c) i j m n l low hi k1 m1 n1 l1 hlow hhi
  · rw [if_neg ho] at e2
    have k1 : M256 * h0 + l = M256 * (i + j) + (m + n) := by
      rw [Nat.mul_add]; omega
    rw [if_neg ho]
    have := fin h0 i j m n l low hi k1 m1 n1 l1 hlow hhi
    rw [Nat.mod_eq_of_lt b0] at this
    exact this

theorem add_one (a s : Nat) (o : Bool) (ha : a < M256) (hs : (a + 1) % M256 = s) (ho : decide (M256 ≤ a + 1) = o) (w : World) :
    Calls Try.prog 17 #[u a, .agg #[.int .u64 1, .int .u64 0, .int .u64 0, .int .u64 0]] w fun e w' => e = .returned (.tuple #[u s, .bool o]) ∧ New w w' := by
  have h := add_is a 1 s o ha (by decide) hs ho w
  rw [u_one] at h
  exact h


set_option maxRecDepth 100000 in
set_option maxHeartbeats 1000000 in
theorem walk_oc (k1 a1 b1 k2 a2 b2 k3 a3 b3 : Int) (s1 s2 s3 : ByteArray) (ho : decide (M256 ≤ num k1 a1 b1 + num k2 a2 b2) = true) (hcy : decide (M256 ≤ num k1 a1 b1 * num k3 a3 b3 % M256 + num k2 a2 b2 * num k3 a3 b3 % M256) = true) (w : World) :
    Calls Try.prog 8 #[.agg (raw k1 a1 b1 s1), .agg (raw k2 a2 b2 s2), .agg (raw k3 a3 b3 s3)] w fun e w' => e = .returned (.bool true) ∧ New w w' := by
  go_enter Try.func8, Try.ntmps8
  go_wp2
  obtain ⟨W, g1, g2, g3, eW, e1, e2, e3, hN, B1, B2, B3⟩ := box3 w (raw k1 a1 b1 s1) (raw k2 a2 b2 s2) (raw k3 a3 b3 s3) 23 23 23
  rw [← eW, ← e3, ← e2, ← e1]
  clear eW e1 e2 e3
  refine region_ok (by kernel_rfl) [.inl (.agg (raw k1 a1 b1 s1)), .inl (u (num k1 a1 b1)), .inl (.agg (raw k2 a2 b2 s2)), .inl (u (num k2 a2 b2)), .inl (.agg (raw k3 a3 b3 s3)), .inl (u (num k3 a3 b3)), .inr (.inl (26, z4)), .inr (.inl (26, z4)), .inr (.inl (26, z4)), .inr (.inr (6, uc (num k1 a1 b1))), .inr (.inr (7, uc (num k2 a2 b2))), .inr (.inr (8, uc (num k3 a3 b3)))] rfl (by kernel_rfl) rfl ?_ ?_
  · refine ⟨?_, ?_, ?_, ?_, ?_, ?_, ?_, ?_, ?_, ?_, ?_, ?_, trivial⟩
    · exact ok_load 23 3 g1 _ _ (0, 0) _ rfl (by decide) rfl B1 Try.underlying23 rfl size_raw
    · exact ok_call 16 _ _ _ _ _ rfl Try.func16 (by kernel_rfl) (by kernel_rfl) (fun a _ hp => by have h := hp 0 _ _ rfl rfl rfl; simp [h]) (number_any k1 a1 b1 s1)
    · exact ok_load 23 4 g2 _ _ (0, 0) _ rfl (by decide) rfl B2 Try.underlying23 rfl size_raw
    · exact ok_call 16 _ _ _ _ _ rfl Try.func16 (by kernel_rfl) (by kernel_rfl) (fun a _ hp => by have h := hp 2 _ _ rfl rfl rfl; simp [h]) (number_any k2 a2 b2 s2)
    · exact ok_load 23 5 g3 _ _ (0, 0) _ rfl (by decide) rfl B3 Try.underlying23 rfl size_raw
    · exact ok_call 16 _ _ _ _ _ rfl Try.func16 (by kernel_rfl) (by kernel_rfl) (fun a _ hp => by have h := hp 4 _ _ rfl rfl rfl; simp [h]) (number_any k3 a3 b3 s3)
    · exact ok_alloc _ _ rfl zero_u
    · exact ok_alloc _ _ rfl zero_u
    · exact ok_alloc _ _ rfl zero_u
    · exact ok_store _ 6 7 _ 1 _ _ rfl rfl rfl rfl rfl rfl rfl rfl size_u rfl (by simp [Value.oneCell'])
    · exact ok_store _ 7 8 _ 3 _ _ rfl rfl rfl rfl rfl rfl rfl rfl size_u rfl (by simp [Value.oneCell'])
    · exact ok_store _ 8 9 _ 5 _ _ rfl rfl rfl rfl rfl rfl rfl rfl size_u rfl (by simp [Value.oneCell'])
  intro g w1 hN1 hB hD
  simp [frame, gives, Act.put]
  have B1 : Blk w1 (g 6) _ _ := (hB 6 _ _ 9 _ rfl rfl).2
  have B2 : Blk w1 (g 7) _ _ := (hB 7 _ _ 10 _ rfl rfl).2
  have B3 : Blk w1 (g 8) _ _ := (hB 8 _ _ 11 _ rfl rfl).2
  generalize g 6 = p1 at *
  generalize g 7 = p2 at *
  generalize g 8 = p3 at *
  have N := new_trans hN hN1
  clear hB hD g hN hN1
  have hx1 := num_lt k1 a1 b1; generalize num k1 a1 b1 = x1 at *
  have hx2 := num_lt k2 a2 b2; generalize num k2 a2 b2 = x2 at *
  have hx3 := num_lt k3 a3 b3; generalize num k3 a3 b3 = x3 at *
  try clear c1 l1
  have c1 := B1.cell; have l1 := B1.lt
  try clear c2 l2
  have c2 := B2.cell; have l2 := B2.lt
  try clear c3 l3
  have c3 := B3.cell; have l3 := B3.lt
  obtain ⟨s, e1⟩ : ∃ s, (x1 + x2) % M256 = s := ⟨_, rfl⟩
  obtain ⟨l, e2⟩ : ∃ z, s * x3 % M256 = z := ⟨_, rfl⟩
  obtain ⟨h0, e3⟩ : ∃ z, s * x3 / M256 = z := ⟨_, rfl⟩
  obtain ⟨m, e4⟩ : ∃ z, x1 * x3 % M256 = z := ⟨_, rfl⟩
  obtain ⟨i, e5⟩ : ∃ z, x1 * x3 / M256 = z := ⟨_, rfl⟩
  obtain ⟨n, e6⟩ : ∃ z, x2 * x3 % M256 = z := ⟨_, rfl⟩
  obtain ⟨j, e7⟩ : ∃ z, x2 * x3 / M256 = z := ⟨_, rfl⟩
  obtain ⟨low, e8⟩ : ∃ z, (m + n) % M256 = z := ⟨_, rfl⟩
  obtain ⟨hi, e9⟩ : ∃ z, (i + j) % M256 = z := ⟨_, rfl⟩
  obtain ⟨f1, f2⟩ := spreads x1 x2 x3 s l h0 m i n j low hi hx1 hx2 hx3 e1 e2 e3 e4 e5 e6 e7 e8 e9
  have hs : s < M256 := e1 ▸ mod_lt _
  have hm : m < M256 := e4 ▸ mod_lt _
  have hn : n < M256 := e6 ▸ mod_lt _
  have dv : ∀ a b : Nat, a < M256 → b < M256 → a * b / M256 < M256 := fun a b ha hb => (Nat.div_lt_iff_lt_mul (by decide)).2 (Nat.mul_lt_mul'' ha hb)
  have hh0 : h0 < M256 := e3 ▸ dv _ _ hs hx3
  have hi' : i < M256 := e5 ▸ dv _ _ hx1 hx3
  have hj' : j < M256 := e7 ▸ dv _ _ hx2 hx3
  have hhi : hi < M256 := e9 ▸ mod_lt _
  rw [e4, e6] at hcy
  subst f1
  clear dv
  rw [if_pos (of_decide_eq_true ho), if_pos (of_decide_eq_true hcy)] at f2
  obtain ⟨h1, g1'⟩ : ∃ z, (h0 + x3) % M256 = z := ⟨_, rfl⟩
  rw [g1'] at f2
  obtain ⟨hi1, g2'⟩ : ∃ z, (hi + 1) % M256 = z := ⟨_, rfl⟩
  rw [g2'] at f2
  subst f2
  have ho := hide ho; have hcy := hide hcy; have e1 := hide e1; have e2 := hide e2; have e3 := hide e3; have e4 := hide e4; have e5 := hide e5; have e6 := hide e6; have e7 := hide e7; have e8 := hide e8; have e9 := hide e9; have g1' := hide g1'; have g2' := hide g2'
  go_wp2_with fail
  refine (add_is x1 x2 s true hx1 hx2 (unhide e1) (unhide ho) _).mono ?_
  rintro e w2 ⟨rfl, hb⟩
  have U : New w1 w2 := new_trans (by (repeat' (first | with_reducible exact new_refl _ | with_reducible assumption | with_reducible refine new_drewN ?_ _ | with_reducible refine new_drew ?_ | with_reducible refine new_alloc ?_ _ | with_reducible refine new_set ?_ ?_ _ | with_reducible refine new_freeze ?_ ?_ _ | with_reducible refine new_trans ?_ (by assumption) | (simp; done) | (simp; omega)))) hb
  have N : New w w2 := new_trans (by (repeat' (first | with_reducible exact new_refl _ | with_reducible assumption | with_reducible refine new_drewN ?_ _ | with_reducible refine new_drew ?_ | with_reducible refine new_alloc ?_ _ | with_reducible refine new_set ?_ ?_ _ | with_reducible refine new_freeze ?_ ?_ _ | with_reducible refine new_trans ?_ (by assumption) | (simp; done) | (simp; omega)))) hb
  have B1 := B1.up U
  have B2 := B2.up U
  have B3 := B3.up U
  try clear c1 l1
  have c1 := B1.cell; have l1 := B1.lt
  try clear c2 l2
  have c2 := B2.cell; have l2 := B2.lt
  try clear c3 l3
  have c3 := B3.cell; have l3 := B3.lt
  clear hb U
  go_wp2_with fail
  refine (mul_is s x3 l h0 hs hx3 (unhide e2) (unhide e3) _).mono ?_
  rintro e w3 ⟨rfl, hb⟩
  have U : New w2 w3 := new_trans (by (repeat' (first | with_reducible exact new_refl _ | with_reducible assumption | with_reducible refine new_drewN ?_ _ | with_reducible refine new_drew ?_ | with_reducible refine new_alloc ?_ _ | with_reducible refine new_set ?_ ?_ _ | with_reducible refine new_freeze ?_ ?_ _ | with_reducible refine new_trans ?_ (by assumption) | (simp; done) | (simp; omega)))) hb
  have N : New w w3 := new_trans (by (repeat' (first | with_reducible exact new_refl _ | with_reducible assumption | with_reducible refine new_drewN ?_ _ | with_reducible refine new_drew ?_ | with_reducible refine new_alloc ?_ _ | with_reducible refine new_set ?_ ?_ _ | with_reducible refine new_freeze ?_ ?_ _ | with_reducible refine new_trans ?_ (by assumption) | (simp; done) | (simp; omega)))) hb
  have B1 := B1.up U
  have B2 := B2.up U
  have B3 := B3.up U
  have B4 := (Blk.new_ w2 26 (uc s)).up hb
  try clear c1 l1
  have c1 := B1.cell; have l1 := B1.lt
  try clear c2 l2
  have c2 := B2.cell; have l2 := B2.lt
  try clear c3 l3
  have c3 := B3.cell; have l3 := B3.lt
  try clear c4 l4
  have c4 := B4.cell; have l4 := B4.lt
  clear hb U
  have l1 := B1.lt; have l2 := B2.lt; have l3 := B3.lt
  have n1 : p1 ≠ w3.heap.size + 1 := by omega
  have n2 : p2 ≠ w3.heap.size + 1 := by omega
  have n3 : p3 ≠ w3.heap.size + 1 := by omega
  have n5 : w3.heap.size ≠ w3.heap.size + 1 := by omega
  have lw : w.heap.size ≤ w3.heap.size + 1 := by have := N.size; omega
  have n1 := hide n1; have n2 := hide n2; have n3 := hide n3; have n5 := hide n5
  go_wp2_with fail
  refine (add_is h0 x3 h1 _ hh0 hx3 (unhide g1') rfl _).mono ?_
  rintro e w4 ⟨rfl, hb⟩
  have U : New w3 w4 := new_trans (by (repeat' (first | with_reducible exact new_refl _ | with_reducible assumption | with_reducible refine new_drewN ?_ _ | with_reducible refine new_drew ?_ | with_reducible refine new_alloc ?_ _ | with_reducible refine new_set ?_ ?_ _ | with_reducible refine new_freeze ?_ ?_ _ | with_reducible refine new_trans ?_ (by assumption) | (simp; done) | (simp; omega)))) hb
  have N : New w w4 := new_trans (by (repeat' (first | with_reducible exact new_refl _ | with_reducible assumption | with_reducible refine new_drewN ?_ _ | with_reducible refine new_drew ?_ | with_reducible refine new_alloc ?_ _ | with_reducible refine new_set ?_ ?_ _ | with_reducible refine new_freeze ?_ ?_ _ | with_reducible refine new_trans ?_ (by assumption) | (simp; done) | (simp; omega)))) hb
  have B1 := B1.up U
  have B2 := B2.up U
  have B3 := B3.up U
  have B5 := ((Blk.new_ w3 26 (uc l)).al _).up hb
  have B6 := (Blk.new1 w3 _ 26 (uc h0)).up hb
  try clear c1 l1
  have c1 := B1.cell; have l1 := B1.lt
  try clear c2 l2
  have c2 := B2.cell; have l2 := B2.lt
  try clear c3 l3
  have c3 := B3.cell; have l3 := B3.lt
  try clear c5 l5
  have c5 := B5.cell; have l5 := B5.lt
  try clear c6 l6
  have c6 := B6.cell; have l6 := B6.lt
  clear hb U
  have fr := B6.free
  go_wp2_with fail
  refine (mul_is x1 x3 m i hx1 hx3 (unhide e4) (unhide e5) _).mono ?_
  rintro e w5 ⟨rfl, hb⟩
  have N : New w w5 := new_trans (new_set4 N lw _ _ _ _) hb
  have B1 := (B1.far4 (unhide n1) _ _ _ _).up hb
  have B2 := (B2.far4 (unhide n2) _ _ _ _).up hb
  have B3 := (B3.far4 (unhide n3) _ _ _ _).up hb
  have B5 := (B5.far4 (unhide n5) _ _ _ _).up hb
  have B6 := (B6.set4 _ _ _ _).up hb
  clear c1 c2 c3 c5 c6 l1 l2 l3 l5 l6 fr hb lw
  have c1 := B1.cell; have l1 := B1.lt; have c2 := B2.cell; have l2 := B2.lt; have c3 := B3.cell; have l3 := B3.lt; have c5 := B5.cell; have l5 := B5.lt; have c6 := B6.cell; have l6 := B6.lt
  go_wp2_with fail
  refine (mul_is x2 x3 n j hx2 hx3 (unhide e6) (unhide e7) _).mono ?_
  rintro e w6 ⟨rfl, hb⟩
  have U : New w5 w6 := new_trans (by (repeat' (first | with_reducible exact new_refl _ | with_reducible assumption | with_reducible refine new_drewN ?_ _ | with_reducible refine new_drew ?_ | with_reducible refine new_alloc ?_ _ | with_reducible refine new_set ?_ ?_ _ | with_reducible refine new_freeze ?_ ?_ _ | with_reducible refine new_trans ?_ (by assumption) | (simp; done) | (simp; omega)))) hb
  have N : New w w6 := new_trans (by (repeat' (first | with_reducible exact new_refl _ | with_reducible assumption | with_reducible refine new_drewN ?_ _ | with_reducible refine new_drew ?_ | with_reducible refine new_alloc ?_ _ | with_reducible refine new_set ?_ ?_ _ | with_reducible refine new_freeze ?_ ?_ _ | with_reducible refine new_trans ?_ (by assumption) | (simp; done) | (simp; omega)))) hb
  have B1 := B1.up U
  have B2 := B2.up U
  have B3 := B3.up U
  have B5 := B5.up U
  have B6 := B6.up U
  have B7 := ((Blk.new_ w5 26 (uc m)).al _).up hb
  have B8 := (Blk.new1 w5 _ 26 (uc i)).up hb
  try clear c1 l1
  have c1 := B1.cell; have l1 := B1.lt
  try clear c2 l2
  have c2 := B2.cell; have l2 := B2.lt
  try clear c3 l3
  have c3 := B3.cell; have l3 := B3.lt
  try clear c5 l5
  have c5 := B5.cell; have l5 := B5.lt
  try clear c6 l6
  have c6 := B6.cell; have l6 := B6.lt
  try clear c7 l7
  have c7 := B7.cell; have l7 := B7.lt
  try clear c8 l8
  have c8 := B8.cell; have l8 := B8.lt
  clear hb U
  go_wp2_with fail
  refine (add_is m n l true hm hn (unhide e8) (unhide hcy) _).mono ?_
  rintro e w7 ⟨rfl, hb⟩
  have U : New w6 w7 := new_trans (by (repeat' (first | with_reducible exact new_refl _ | with_reducible assumption | with_reducible refine new_drewN ?_ _ | with_reducible refine new_drew ?_ | with_reducible refine new_alloc ?_ _ | with_reducible refine new_set ?_ ?_ _ | with_reducible refine new_freeze ?_ ?_ _ | with_reducible refine new_trans ?_ (by assumption) | (simp; done) | (simp; omega)))) hb
  have N : New w w7 := new_trans (by (repeat' (first | with_reducible exact new_refl _ | with_reducible assumption | with_reducible refine new_drewN ?_ _ | with_reducible refine new_drew ?_ | with_reducible refine new_alloc ?_ _ | with_reducible refine new_set ?_ ?_ _ | with_reducible refine new_freeze ?_ ?_ _ | with_reducible refine new_trans ?_ (by assumption) | (simp; done) | (simp; omega)))) hb
  have B5 := B5.up U
  have B6 := B6.up U
  have B7 := B7.up U
  have B8 := B8.up U
  have B9 := ((Blk.new_ w6 26 (uc n)).al _).up hb
  have B10 := (Blk.new1 w6 _ 26 (uc j)).up hb
  try clear c5 l5
  have c5 := B5.cell; have l5 := B5.lt
  try clear c6 l6
  have c6 := B6.cell; have l6 := B6.lt
  try clear c7 l7
  have c7 := B7.cell; have l7 := B7.lt
  try clear c8 l8
  have c8 := B8.cell; have l8 := B8.lt
  try clear c9 l9
  have c9 := B9.cell; have l9 := B9.lt
  try clear c10 l10
  have c10 := B10.cell; have l10 := B10.lt
  clear hb U
  go_wp2_with fail
  refine (add_is i j hi _ hi' hj' (unhide e9) rfl _).mono ?_
  rintro e w8 ⟨rfl, hb⟩
  have U : New w7 w8 := new_trans (by (repeat' (first | with_reducible exact new_refl _ | with_reducible assumption | with_reducible refine new_drewN ?_ _ | with_reducible refine new_drew ?_ | with_reducible refine new_alloc ?_ _ | with_reducible refine new_set ?_ ?_ _ | with_reducible refine new_freeze ?_ ?_ _ | with_reducible refine new_trans ?_ (by assumption) | (simp; done) | (simp; omega)))) hb
  have N : New w w8 := new_trans (by (repeat' (first | with_reducible exact new_refl _ | with_reducible assumption | with_reducible refine new_drewN ?_ _ | with_reducible refine new_drew ?_ | with_reducible refine new_alloc ?_ _ | with_reducible refine new_set ?_ ?_ _ | with_reducible refine new_freeze ?_ ?_ _ | with_reducible refine new_trans ?_ (by assumption) | (simp; done) | (simp; omega)))) hb
  have B5 := B5.up U
  have B6 := B6.up U
  have B7 := B7.up U
  have B8 := B8.up U
  have B9 := B9.up U
  have B10 := B10.up U
  have B11 := (Blk.new_ w7 26 (uc l)).up hb
  try clear c5 l5
  have c5 := B5.cell; have l5 := B5.lt
  try clear c6 l6
  have c6 := B6.cell; have l6 := B6.lt
  try clear c7 l7
  have c7 := B7.cell; have l7 := B7.lt
  try clear c8 l8
  have c8 := B8.cell; have l8 := B8.lt
  try clear c9 l9
  have c9 := B9.cell; have l9 := B9.lt
  try clear c10 l10
  have c10 := B10.cell; have l10 := B10.lt
  try clear c11 l11
  have c11 := B11.cell; have l11 := B11.lt
  clear hb U
  have l11 := B11.lt; have l5 := B5.lt; have l6 := B6.lt
  have n5 : w3.heap.size ≠ w8.heap.size := by omega
  have n6 : w3.heap.size + 1 ≠ w8.heap.size := by omega
  have n11 : w7.heap.size ≠ w8.heap.size := by omega
  have lw : w.heap.size ≤ w8.heap.size := N.size
  have n5 := hide n5; have n6 := hide n6; have n11 := hide n11
  go_wp2_with fail
  refine (add_one hi h1 _ hhi (unhide g2') rfl _).mono ?_
  rintro e w9 ⟨rfl, hb⟩
  have U : New w8 w9 := new_trans (by (repeat' (first | with_reducible exact new_refl _ | with_reducible assumption | with_reducible refine new_drewN ?_ _ | with_reducible refine new_drew ?_ | with_reducible refine new_alloc ?_ _ | with_reducible refine new_set ?_ ?_ _ | with_reducible refine new_freeze ?_ ?_ _ | with_reducible refine new_trans ?_ (by assumption) | (simp; done) | (simp; omega)))) hb
  have N : New w w9 := new_trans (by (repeat' (first | with_reducible exact new_refl _ | with_reducible assumption | with_reducible refine new_drewN ?_ _ | with_reducible refine new_drew ?_ | with_reducible refine new_alloc ?_ _ | with_reducible refine new_set ?_ ?_ _ | with_reducible refine new_freeze ?_ ?_ _ | with_reducible refine new_trans ?_ (by assumption) | (simp; done) | (simp; omega)))) hb
  have B5 := B5.up U
  have B6 := B6.up U
  have B11 := B11.up U
  have B12 := (Blk.new_ w8 26 (uc hi)).up hb
  try clear c5 l5
  have c5 := B5.cell; have l5 := B5.lt
  try clear c6 l6
  have c6 := B6.cell; have l6 := B6.lt
  try clear c11 l11
  have c11 := B11.cell; have l11 := B11.lt
  try clear c12 l12
  have c12 := B12.cell; have l12 := B12.lt
  clear hb U
  have fr := B12.free
  go_wp2_with fail
  refine (tells_any _).mono ?_
  rintro e w10 ⟨rfl, hb⟩
  have N : New w w10 := new_trans (new_set4 N lw _ _ _ _) hb
  have B5 := (B5.far4 (unhide n5) _ _ _ _).up hb
  have B6 := (B6.far4 (unhide n6) _ _ _ _).up hb
  have B11 := (B11.far4 (unhide n11) _ _ _ _).up hb
  have B12 := (B12.set4 _ _ _ _).up hb
  clear c5 c6 c11 c12 l5 l6 l11 l12 fr hb lw
  have c5 := B5.cell; have l5 := B5.lt; have c6 := B6.cell; have l6 := B6.lt; have c11 := B11.cell; have l11 := B11.lt; have c12 := B12.cell; have l12 := B12.lt
  go_wp2
  go_ret
  exact ⟨by simp, N⟩

set_option maxRecDepth 100000 in
set_option maxHeartbeats 1000000 in
theorem walk_on (k1 a1 b1 k2 a2 b2 k3 a3 b3 : Int) (s1 s2 s3 : ByteArray) (ho : decide (M256 ≤ num k1 a1 b1 + num k2 a2 b2) = true) (hcy : decide (M256 ≤ num k1 a1 b1 * num k3 a3 b3 % M256 + num k2 a2 b2 * num k3 a3 b3 % M256) = false) (w : World) :
    Calls Try.prog 8 #[.agg (raw k1 a1 b1 s1), .agg (raw k2 a2 b2 s2), .agg (raw k3 a3 b3 s3)] w fun e w' => e = .returned (.bool true) ∧ New w w' := by
  go_enter Try.func8, Try.ntmps8
  go_wp2
  obtain ⟨W, g1, g2, g3, eW, e1, e2, e3, hN, B1, B2, B3⟩ := box3 w (raw k1 a1 b1 s1) (raw k2 a2 b2 s2) (raw k3 a3 b3 s3) 23 23 23
  rw [← eW, ← e3, ← e2, ← e1]
  clear eW e1 e2 e3
  refine region_ok (by kernel_rfl) [.inl (.agg (raw k1 a1 b1 s1)), .inl (u (num k1 a1 b1)), .inl (.agg (raw k2 a2 b2 s2)), .inl (u (num k2 a2 b2)), .inl (.agg (raw k3 a3 b3 s3)), .inl (u (num k3 a3 b3)), .inr (.inl (26, z4)), .inr (.inl (26, z4)), .inr (.inl (26, z4)), .inr (.inr (6, uc (num k1 a1 b1))), .inr (.inr (7, uc (num k2 a2 b2))), .inr (.inr (8, uc (num k3 a3 b3)))] rfl (by kernel_rfl) rfl ?_ ?_
  · refine ⟨?_, ?_, ?_, ?_, ?_, ?_, ?_, ?_, ?_, ?_, ?_, ?_, trivial⟩
    · exact ok_load 23 3 g1 _ _ (0, 0) _ rfl (by decide) rfl B1 Try.underlying23 rfl size_raw
    · exact ok_call 16 _ _ _ _ _ rfl Try.func16 (by kernel_rfl) (by kernel_rfl) (fun a _ hp => by have h := hp 0 _ _ rfl rfl rfl; simp [h]) (number_any k1 a1 b1 s1)
    · exact ok_load 23 4 g2 _ _ (0, 0) _ rfl (by decide) rfl B2 Try.underlying23 rfl size_raw
    · exact ok_call 16 _ _ _ _ _ rfl Try.func16 (by kernel_rfl) (by kernel_rfl) (fun a _ hp => by have h := hp 2 _ _ rfl rfl rfl; simp [h]) (number_any k2 a2 b2 s2)
    · exact ok_load 23 5 g3 _ _ (0, 0) _ rfl (by decide) rfl B3 Try.underlying23 rfl size_raw
    · exact ok_call 16 _ _ _ _ _ rfl Try.func16 (by kernel_rfl) (by kernel_rfl) (fun a _ hp => by have h := hp 4 _ _ rfl rfl rfl; simp [h]) (number_any k3 a3 b3 s3)
    · exact ok_alloc _ _ rfl zero_u
    · exact ok_alloc _ _ rfl zero_u
    · exact ok_alloc _ _ rfl zero_u
    · exact ok_store _ 6 7 _ 1 _ _ rfl rfl rfl rfl rfl rfl rfl rfl size_u rfl (by simp [Value.oneCell'])
    · exact ok_store _ 7 8 _ 3 _ _ rfl rfl rfl rfl rfl rfl rfl rfl size_u rfl (by simp [Value.oneCell'])
    · exact ok_store _ 8 9 _ 5 _ _ rfl rfl rfl rfl rfl rfl rfl rfl size_u rfl (by simp [Value.oneCell'])
  intro g w1 hN1 hB hD
  simp [frame, gives, Act.put]
  have B1 : Blk w1 (g 6) _ _ := (hB 6 _ _ 9 _ rfl rfl).2
  have B2 : Blk w1 (g 7) _ _ := (hB 7 _ _ 10 _ rfl rfl).2
  have B3 : Blk w1 (g 8) _ _ := (hB 8 _ _ 11 _ rfl rfl).2
  generalize g 6 = p1 at *
  generalize g 7 = p2 at *
  generalize g 8 = p3 at *
  have N := new_trans hN hN1
  clear hB hD g hN hN1
  have hx1 := num_lt k1 a1 b1; generalize num k1 a1 b1 = x1 at *
  have hx2 := num_lt k2 a2 b2; generalize num k2 a2 b2 = x2 at *
  have hx3 := num_lt k3 a3 b3; generalize num k3 a3 b3 = x3 at *
  try clear c1 l1
  have c1 := B1.cell; have l1 := B1.lt
  try clear c2 l2
  have c2 := B2.cell; have l2 := B2.lt
  try clear c3 l3
  have c3 := B3.cell; have l3 := B3.lt
  obtain ⟨s, e1⟩ : ∃ s, (x1 + x2) % M256 = s := ⟨_, rfl⟩
  obtain ⟨l, e2⟩ : ∃ z, s * x3 % M256 = z := ⟨_, rfl⟩
  obtain ⟨h0, e3⟩ : ∃ z, s * x3 / M256 = z := ⟨_, rfl⟩
  obtain ⟨m, e4⟩ : ∃ z, x1 * x3 % M256 = z := ⟨_, rfl⟩
  obtain ⟨i, e5⟩ : ∃ z, x1 * x3 / M256 = z := ⟨_, rfl⟩
  obtain ⟨n, e6⟩ : ∃ z, x2 * x3 % M256 = z := ⟨_, rfl⟩
  obtain ⟨j, e7⟩ : ∃ z, x2 * x3 / M256 = z := ⟨_, rfl⟩
  obtain ⟨low, e8⟩ : ∃ z, (m + n) % M256 = z := ⟨_, rfl⟩
  obtain ⟨hi, e9⟩ : ∃ z, (i + j) % M256 = z := ⟨_, rfl⟩
  obtain ⟨f1, f2⟩ := spreads x1 x2 x3 s l h0 m i n j low hi hx1 hx2 hx3 e1 e2 e3 e4 e5 e6 e7 e8 e9
  have hs : s < M256 := e1 ▸ mod_lt _
  have hm : m < M256 := e4 ▸ mod_lt _
  have hn : n < M256 := e6 ▸ mod_lt _
  have dv : ∀ a b : Nat, a < M256 → b < M256 → a * b / M256 < M256 := fun a b ha hb => (Nat.div_lt_iff_lt_mul (by decide)).2 (Nat.mul_lt_mul'' ha hb)
  have hh0 : h0 < M256 := e3 ▸ dv _ _ hs hx3
  have hi' : i < M256 := e5 ▸ dv _ _ hx1 hx3
  have hj' : j < M256 := e7 ▸ dv _ _ hx2 hx3
  have hhi : hi < M256 := e9 ▸ mod_lt _
  rw [e4, e6] at hcy
  subst f1
  clear dv
  rw [if_pos (of_decide_eq_true ho), if_neg (of_decide_eq_false hcy)] at f2
  obtain ⟨h1, g1'⟩ : ∃ z, (h0 + x3) % M256 = z := ⟨_, rfl⟩
  rw [g1'] at f2
  subst f2
  have ho := hide ho; have hcy := hide hcy; have e1 := hide e1; have e2 := hide e2; have e3 := hide e3; have e4 := hide e4; have e5 := hide e5; have e6 := hide e6; have e7 := hide e7; have e8 := hide e8; have e9 := hide e9; have g1' := hide g1'
  go_wp2_with fail
  refine (add_is x1 x2 s true hx1 hx2 (unhide e1) (unhide ho) _).mono ?_
  rintro e w2 ⟨rfl, hb⟩
  have U : New w1 w2 := new_trans (by (repeat' (first | with_reducible exact new_refl _ | with_reducible assumption | with_reducible refine new_drewN ?_ _ | with_reducible refine new_drew ?_ | with_reducible refine new_alloc ?_ _ | with_reducible refine new_set ?_ ?_ _ | with_reducible refine new_freeze ?_ ?_ _ | with_reducible refine new_trans ?_ (by assumption) | (simp; done) | (simp; omega)))) hb
  have N : New w w2 := new_trans (by (repeat' (first | with_reducible exact new_refl _ | with_reducible assumption | with_reducible refine new_drewN ?_ _ | with_reducible refine new_drew ?_ | with_reducible refine new_alloc ?_ _ | with_reducible refine new_set ?_ ?_ _ | with_reducible refine new_freeze ?_ ?_ _ | with_reducible refine new_trans ?_ (by assumption) | (simp; done) | (simp; omega)))) hb
  have B1 := B1.up U
  have B2 := B2.up U
  have B3 := B3.up U
  try clear c1 l1
  have c1 := B1.cell; have l1 := B1.lt
  try clear c2 l2
  have c2 := B2.cell; have l2 := B2.lt
  try clear c3 l3
  have c3 := B3.cell; have l3 := B3.lt
  clear hb U
  go_wp2_with fail
  refine (mul_is s x3 l h0 hs hx3 (unhide e2) (unhide e3) _).mono ?_
  rintro e w3 ⟨rfl, hb⟩
  have U : New w2 w3 := new_trans (by (repeat' (first | with_reducible exact new_refl _ | with_reducible assumption | with_reducible refine new_drewN ?_ _ | with_reducible refine new_drew ?_ | with_reducible refine new_alloc ?_ _ | with_reducible refine new_set ?_ ?_ _ | with_reducible refine new_freeze ?_ ?_ _ | with_reducible refine new_trans ?_ (by assumption) | (simp; done) | (simp; omega)))) hb
  have N : New w w3 := new_trans (by (repeat' (first | with_reducible exact new_refl _ | with_reducible assumption | with_reducible refine new_drewN ?_ _ | with_reducible refine new_drew ?_ | with_reducible refine new_alloc ?_ _ | with_reducible refine new_set ?_ ?_ _ | with_reducible refine new_freeze ?_ ?_ _ | with_reducible refine new_trans ?_ (by assumption) | (simp; done) | (simp; omega)))) hb
  have B1 := B1.up U
  have B2 := B2.up U
  have B3 := B3.up U
  have B4 := (Blk.new_ w2 26 (uc s)).up hb
  try clear c1 l1
  have c1 := B1.cell; have l1 := B1.lt
  try clear c2 l2
  have c2 := B2.cell; have l2 := B2.lt
  try clear c3 l3
  have c3 := B3.cell; have l3 := B3.lt
  try clear c4 l4
  have c4 := B4.cell; have l4 := B4.lt
  clear hb U
  have l1 := B1.lt; have l2 := B2.lt; have l3 := B3.lt
  have n1 : p1 ≠ w3.heap.size + 1 := by omega
  have n2 : p2 ≠ w3.heap.size + 1 := by omega
  have n3 : p3 ≠ w3.heap.size + 1 := by omega
  have n5 : w3.heap.size ≠ w3.heap.size + 1 := by omega
  have lw : w.heap.size ≤ w3.heap.size + 1 := by have := N.size; omega
  have n1 := hide n1; have n2 := hide n2; have n3 := hide n3; have n5 := hide n5
  go_wp2_with fail
  refine (add_is h0 x3 h1 _ hh0 hx3 (unhide g1') rfl _).mono ?_
  rintro e w4 ⟨rfl, hb⟩
  have U : New w3 w4 := new_trans (by (repeat' (first | with_reducible exact new_refl _ | with_reducible assumption | with_reducible refine new_drewN ?_ _ | with_reducible refine new_drew ?_ | with_reducible refine new_alloc ?_ _ | with_reducible refine new_set ?_ ?_ _ | with_reducible refine new_freeze ?_ ?_ _ | with_reducible refine new_trans ?_ (by assumption) | (simp; done) | (simp; omega)))) hb
  have N : New w w4 := new_trans (by (repeat' (first | with_reducible exact new_refl _ | with_reducible assumption | with_reducible refine new_drewN ?_ _ | with_reducible refine new_drew ?_ | with_reducible refine new_alloc ?_ _ | with_reducible refine new_set ?_ ?_ _ | with_reducible refine new_freeze ?_ ?_ _ | with_reducible refine new_trans ?_ (by assumption) | (simp; done) | (simp; omega)))) hb
  have B1 := B1.up U
  have B2 := B2.up U
  have B3 := B3.up U
  have B5 := ((Blk.new_ w3 26 (uc l)).al _).up hb
  have B6 := (Blk.new1 w3 _ 26 (uc h0)).up hb
  try clear c1 l1
  have c1 := B1.cell; have l1 := B1.lt
  try clear c2 l2
  have c2 := B2.cell; have l2 := B2.lt
  try clear c3 l3
  have c3 := B3.cell; have l3 := B3.lt
  try clear c5 l5
  have c5 := B5.cell; have l5 := B5.lt
  try clear c6 l6
  have c6 := B6.cell; have l6 := B6.lt
  clear hb U
  have fr := B6.free
  go_wp2_with fail
  refine (mul_is x1 x3 m i hx1 hx3 (unhide e4) (unhide e5) _).mono ?_
  rintro e w5 ⟨rfl, hb⟩
  have N : New w w5 := new_trans (new_set4 N lw _ _ _ _) hb
  have B1 := (B1.far4 (unhide n1) _ _ _ _).up hb
  have B2 := (B2.far4 (unhide n2) _ _ _ _).up hb
  have B3 := (B3.far4 (unhide n3) _ _ _ _).up hb
  have B5 := (B5.far4 (unhide n5) _ _ _ _).up hb
  have B6 := (B6.set4 _ _ _ _).up hb
  clear c1 c2 c3 c5 c6 l1 l2 l3 l5 l6 fr hb lw
  have c1 := B1.cell; have l1 := B1.lt; have c2 := B2.cell; have l2 := B2.lt; have c3 := B3.cell; have l3 := B3.lt; have c5 := B5.cell; have l5 := B5.lt; have c6 := B6.cell; have l6 := B6.lt
  go_wp2_with fail
  refine (mul_is x2 x3 n j hx2 hx3 (unhide e6) (unhide e7) _).mono ?_
  rintro e w6 ⟨rfl, hb⟩
  have U : New w5 w6 := new_trans (by (repeat' (first | with_reducible exact new_refl _ | with_reducible assumption | with_reducible refine new_drewN ?_ _ | with_reducible refine new_drew ?_ | with_reducible refine new_alloc ?_ _ | with_reducible refine new_set ?_ ?_ _ | with_reducible refine new_freeze ?_ ?_ _ | with_reducible refine new_trans ?_ (by assumption) | (simp; done) | (simp; omega)))) hb
  have N : New w w6 := new_trans (by (repeat' (first | with_reducible exact new_refl _ | with_reducible assumption | with_reducible refine new_drewN ?_ _ | with_reducible refine new_drew ?_ | with_reducible refine new_alloc ?_ _ | with_reducible refine new_set ?_ ?_ _ | with_reducible refine new_freeze ?_ ?_ _ | with_reducible refine new_trans ?_ (by assumption) | (simp; done) | (simp; omega)))) hb
  have B1 := B1.up U
  have B2 := B2.up U
  have B3 := B3.up U
  have B5 := B5.up U
  have B6 := B6.up U
  have B7 := ((Blk.new_ w5 26 (uc m)).al _).up hb
  have B8 := (Blk.new1 w5 _ 26 (uc i)).up hb
  try clear c1 l1
  have c1 := B1.cell; have l1 := B1.lt
  try clear c2 l2
  have c2 := B2.cell; have l2 := B2.lt
  try clear c3 l3
  have c3 := B3.cell; have l3 := B3.lt
  try clear c5 l5
  have c5 := B5.cell; have l5 := B5.lt
  try clear c6 l6
  have c6 := B6.cell; have l6 := B6.lt
  try clear c7 l7
  have c7 := B7.cell; have l7 := B7.lt
  try clear c8 l8
  have c8 := B8.cell; have l8 := B8.lt
  clear hb U
  go_wp2_with fail
  refine (add_is m n l false hm hn (unhide e8) (unhide hcy) _).mono ?_
  rintro e w7 ⟨rfl, hb⟩
  have U : New w6 w7 := new_trans (by (repeat' (first | with_reducible exact new_refl _ | with_reducible assumption | with_reducible refine new_drewN ?_ _ | with_reducible refine new_drew ?_ | with_reducible refine new_alloc ?_ _ | with_reducible refine new_set ?_ ?_ _ | with_reducible refine new_freeze ?_ ?_ _ | with_reducible refine new_trans ?_ (by assumption) | (simp; done) | (simp; omega)))) hb
  have N : New w w7 := new_trans (by (repeat' (first | with_reducible exact new_refl _ | with_reducible assumption | with_reducible refine new_drewN ?_ _ | with_reducible refine new_drew ?_ | with_reducible refine new_alloc ?_ _ | with_reducible refine new_set ?_ ?_ _ | with_reducible refine new_freeze ?_ ?_ _ | with_reducible refine new_trans ?_ (by assumption) | (simp; done) | (simp; omega)))) hb
  have B5 := B5.up U
  have B6 := B6.up U
  have B7 := B7.up U
  have B8 := B8.up U
  have B9 := ((Blk.new_ w6 26 (uc n)).al _).up hb
  have B10 := (Blk.new1 w6 _ 26 (uc j)).up hb
  try clear c5 l5
  have c5 := B5.cell; have l5 := B5.lt
  try clear c6 l6
  have c6 := B6.cell; have l6 := B6.lt
  try clear c7 l7
  have c7 := B7.cell; have l7 := B7.lt
  try clear c8 l8
  have c8 := B8.cell; have l8 := B8.lt
  try clear c9 l9
  have c9 := B9.cell; have l9 := B9.lt
  try clear c10 l10
  have c10 := B10.cell; have l10 := B10.lt
  clear hb U
  go_wp2_with fail
  refine (add_is i j h1 _ hi' hj' (unhide e9) rfl _).mono ?_
  rintro e w8 ⟨rfl, hb⟩
  have U : New w7 w8 := new_trans (by (repeat' (first | with_reducible exact new_refl _ | with_reducible assumption | with_reducible refine new_drewN ?_ _ | with_reducible refine new_drew ?_ | with_reducible refine new_alloc ?_ _ | with_reducible refine new_set ?_ ?_ _ | with_reducible refine new_freeze ?_ ?_ _ | with_reducible refine new_trans ?_ (by assumption) | (simp; done) | (simp; omega)))) hb
  have N : New w w8 := new_trans (by (repeat' (first | with_reducible exact new_refl _ | with_reducible assumption | with_reducible refine new_drewN ?_ _ | with_reducible refine new_drew ?_ | with_reducible refine new_alloc ?_ _ | with_reducible refine new_set ?_ ?_ _ | with_reducible refine new_freeze ?_ ?_ _ | with_reducible refine new_trans ?_ (by assumption) | (simp; done) | (simp; omega)))) hb
  have B5 := B5.up U
  have B6 := B6.up U
  have B7 := B7.up U
  have B8 := B8.up U
  have B9 := B9.up U
  have B10 := B10.up U
  have B11 := (Blk.new_ w7 26 (uc l)).up hb
  try clear c5 l5
  have c5 := B5.cell; have l5 := B5.lt
  try clear c6 l6
  have c6 := B6.cell; have l6 := B6.lt
  try clear c7 l7
  have c7 := B7.cell; have l7 := B7.lt
  try clear c8 l8
  have c8 := B8.cell; have l8 := B8.lt
  try clear c9 l9
  have c9 := B9.cell; have l9 := B9.lt
  try clear c10 l10
  have c10 := B10.cell; have l10 := B10.lt
  try clear c11 l11
  have c11 := B11.cell; have l11 := B11.lt
  clear hb U
  go_wp2_with fail
  refine (tells_any _).mono ?_
  rintro e w10 ⟨rfl, hb⟩
  have U : New w8 w10 := new_trans (by (repeat' (first | with_reducible exact new_refl _ | with_reducible assumption | with_reducible refine new_drewN ?_ _ | with_reducible refine new_drew ?_ | with_reducible refine new_alloc ?_ _ | with_reducible refine new_set ?_ ?_ _ | with_reducible refine new_freeze ?_ ?_ _ | with_reducible refine new_trans ?_ (by assumption) | (simp; done) | (simp; omega)))) hb
  have N : New w w10 := new_trans (by (repeat' (first | with_reducible exact new_refl _ | with_reducible assumption | with_reducible refine new_drewN ?_ _ | with_reducible refine new_drew ?_ | with_reducible refine new_alloc ?_ _ | with_reducible refine new_set ?_ ?_ _ | with_reducible refine new_freeze ?_ ?_ _ | with_reducible refine new_trans ?_ (by assumption) | (simp; done) | (simp; omega)))) hb
  have B5 := B5.up U
  have B6 := B6.up U
  have B11 := B11.up U
  have B12 := (Blk.new_ w8 26 (uc h1)).up hb
  try clear c5 l5
  have c5 := B5.cell; have l5 := B5.lt
  try clear c6 l6
  have c6 := B6.cell; have l6 := B6.lt
  try clear c11 l11
  have c11 := B11.cell; have l11 := B11.lt
  try clear c12 l12
  have c12 := B12.cell; have l12 := B12.lt
  clear hb U
  go_wp2
  go_ret
  exact ⟨by simp, N⟩

set_option maxRecDepth 100000 in
set_option maxHeartbeats 1000000 in
theorem walk_nc (k1 a1 b1 k2 a2 b2 k3 a3 b3 : Int) (s1 s2 s3 : ByteArray) (ho : decide (M256 ≤ num k1 a1 b1 + num k2 a2 b2) = false) (hcy : decide (M256 ≤ num k1 a1 b1 * num k3 a3 b3 % M256 + num k2 a2 b2 * num k3 a3 b3 % M256) = true) (w : World) :
    Calls Try.prog 8 #[.agg (raw k1 a1 b1 s1), .agg (raw k2 a2 b2 s2), .agg (raw k3 a3 b3 s3)] w fun e w' => e = .returned (.bool true) ∧ New w w' := by
  go_enter Try.func8, Try.ntmps8
  go_wp2
  obtain ⟨W, g1, g2, g3, eW, e1, e2, e3, hN, B1, B2, B3⟩ := box3 w (raw k1 a1 b1 s1) (raw k2 a2 b2 s2) (raw k3 a3 b3 s3) 23 23 23
  rw [← eW, ← e3, ← e2, ← e1]
  clear eW e1 e2 e3
  refine region_ok (by kernel_rfl) [.inl (.agg (raw k1 a1 b1 s1)), .inl (u (num k1 a1 b1)), .inl (.agg (raw k2 a2 b2 s2)), .inl (u (num k2 a2 b2)), .inl (.agg (raw k3 a3 b3 s3)), .inl (u (num k3 a3 b3)), .inr (.inl (26, z4)), .inr (.inl (26, z4)), .inr (.inl (26, z4)), .inr (.inr (6, uc (num k1 a1 b1))), .inr (.inr (7, uc (num k2 a2 b2))), .inr (.inr (8, uc (num k3 a3 b3)))] rfl (by kernel_rfl) rfl ?_ ?_
  · refine ⟨?_, ?_, ?_, ?_, ?_, ?_, ?_, ?_, ?_, ?_, ?_, ?_, trivial⟩
    · exact ok_load 23 3 g1 _ _ (0, 0) _ rfl (by decide) rfl B1 Try.underlying23 rfl size_raw
    · exact ok_call 16 _ _ _ _ _ rfl Try.func16 (by kernel_rfl) (by kernel_rfl) (fun a _ hp => by have h := hp 0 _ _ rfl rfl rfl; simp [h]) (number_any k1 a1 b1 s1)
    · exact ok_load 23 4 g2 _ _ (0, 0) _ rfl (by decide) rfl B2 Try.underlying23 rfl size_raw
    · exact ok_call 16 _ _ _ _ _ rfl Try.func16 (by kernel_rfl) (by kernel_rfl) (fun a _ hp => by have h := hp 2 _ _ rfl rfl rfl; simp [h]) (number_any k2 a2 b2 s2)
    · exact ok_load 23 5 g3 _ _ (0, 0) _ rfl (by decide) rfl B3 Try.underlying23 rfl size_raw
    · exact ok_call 16 _ _ _ _ _ rfl Try.func16 (by kernel_rfl) (by kernel_rfl) (fun a _ hp => by have h := hp 4 _ _ rfl rfl rfl; simp [h]) (number_any k3 a3 b3 s3)
    · exact ok_alloc _ _ rfl zero_u
    · exact ok_alloc _ _ rfl zero_u
    · exact ok_alloc _ _ rfl zero_u
    · exact ok_store _ 6 7 _ 1 _ _ rfl rfl rfl rfl rfl rfl rfl rfl size_u rfl (by simp [Value.oneCell'])
    · exact ok_store _ 7 8 _ 3 _ _ rfl rfl rfl rfl rfl rfl rfl rfl size_u rfl (by simp [Value.oneCell'])
    · exact ok_store _ 8 9 _ 5 _ _ rfl rfl rfl rfl rfl rfl rfl rfl size_u rfl (by simp [Value.oneCell'])
  intro g w1 hN1 hB hD
  simp [frame, gives, Act.put]
  have B1 : Blk w1 (g 6) _ _ := (hB 6 _ _ 9 _ rfl rfl).2
  have B2 : Blk w1 (g 7) _ _ := (hB 7 _ _ 10 _ rfl rfl).2
  have B3 : Blk w1 (g 8) _ _ := (hB 8 _ _ 11 _ rfl rfl).2
  generalize g 6 = p1 at *
  generalize g 7 = p2 at *
  generalize g 8 = p3 at *
  have N := new_trans hN hN1
  clear hB hD g hN hN1
  have hx1 := num_lt k1 a1 b1; generalize num k1 a1 b1 = x1 at *
  have hx2 := num_lt k2 a2 b2; generalize num k2 a2 b2 = x2 at *
  have hx3 := num_lt k3 a3 b3; generalize num k3 a3 b3 = x3 at *
  try clear c1 l1
  have c1 := B1.cell; have l1 := B1.lt
  try clear c2 l2
  have c2 := B2.cell; have l2 := B2.lt
  try clear c3 l3
  have c3 := B3.cell; have l3 := B3.lt
  obtain ⟨s, e1⟩ : ∃ s, (x1 + x2) % M256 = s := ⟨_, rfl⟩
  obtain ⟨l, e2⟩ : ∃ z, s * x3 % M256 = z := ⟨_, rfl⟩
  obtain ⟨h0, e3⟩ : ∃ z, s * x3 / M256 = z := ⟨_, rfl⟩
  obtain ⟨m, e4⟩ : ∃ z, x1 * x3 % M256 = z := ⟨_, rfl⟩
  obtain ⟨i, e5⟩ : ∃ z, x1 * x3 / M256 = z := ⟨_, rfl⟩
  obtain ⟨n, e6⟩ : ∃ z, x2 * x3 % M256 = z := ⟨_, rfl⟩
  obtain ⟨j, e7⟩ : ∃ z, x2 * x3 / M256 = z := ⟨_, rfl⟩
  obtain ⟨low, e8⟩ : ∃ z, (m + n) % M256 = z := ⟨_, rfl⟩
  obtain ⟨hi, e9⟩ : ∃ z, (i + j) % M256 = z := ⟨_, rfl⟩
  obtain ⟨f1, f2⟩ := spreads x1 x2 x3 s l h0 m i n j low hi hx1 hx2 hx3 e1 e2 e3 e4 e5 e6 e7 e8 e9
  have hs : s < M256 := e1 ▸ mod_lt _
  have hm : m < M256 := e4 ▸ mod_lt _
  have hn : n < M256 := e6 ▸ mod_lt _
  have dv : ∀ a b : Nat, a < M256 → b < M256 → a * b / M256 < M256 := fun a b ha hb => (Nat.div_lt_iff_lt_mul (by decide)).2 (Nat.mul_lt_mul'' ha hb)
  have hh0 : h0 < M256 := e3 ▸ dv _ _ hs hx3
  have hi' : i < M256 := e5 ▸ dv _ _ hx1 hx3
  have hj' : j < M256 := e7 ▸ dv _ _ hx2 hx3
  have hhi : hi < M256 := e9 ▸ mod_lt _
  rw [e4, e6] at hcy
  subst f1
  clear dv
  rw [if_neg (of_decide_eq_false ho), if_pos (of_decide_eq_true hcy)] at f2
  obtain ⟨hi1, g2'⟩ : ∃ z, (hi + 1) % M256 = z := ⟨_, rfl⟩
  rw [g2'] at f2
  subst f2
  have ho := hide ho; have hcy := hide hcy; have e1 := hide e1; have e2 := hide e2; have e3 := hide e3; have e4 := hide e4; have e5 := hide e5; have e6 := hide e6; have e7 := hide e7; have e8 := hide e8; have e9 := hide e9; have g2' := hide g2'
  go_wp2_with fail
  refine (add_is x1 x2 s false hx1 hx2 (unhide e1) (unhide ho) _).mono ?_
  rintro e w2 ⟨rfl, hb⟩
  have U : New w1 w2 := new_trans (by (repeat' (first | with_reducible exact new_refl _ | with_reducible assumption | with_reducible refine new_drewN ?_ _ | with_reducible refine new_drew ?_ | with_reducible refine new_alloc ?_ _ | with_reducible refine new_set ?_ ?_ _ | with_reducible refine new_freeze ?_ ?_ _ | with_reducible refine new_trans ?_ (by assumption) | (simp; done) | (simp; omega)))) hb
  have N : New w w2 := new_trans (by (repeat' (first | with_reducible exact new_refl _ | with_reducible assumption | with_reducible refine new_drewN ?_ _ | with_reducible refine new_drew ?_ | with_reducible refine new_alloc ?_ _ | with_reducible refine new_set ?_ ?_ _ | with_reducible refine new_freeze ?_ ?_ _ | with_reducible refine new_trans ?_ (by assumption) | (simp; done) | (simp; omega)))) hb
  have B1 := B1.up U
  have B2 := B2.up U
  have B3 := B3.up U
  try clear c1 l1
  have c1 := B1.cell; have l1 := B1.lt
  try clear c2 l2
  have c2 := B2.cell; have l2 := B2.lt
  try clear c3 l3
  have c3 := B3.cell; have l3 := B3.lt
  clear hb U
  go_wp2_with fail
  refine (mul_is s x3 l h0 hs hx3 (unhide e2) (unhide e3) _).mono ?_
  rintro e w3 ⟨rfl, hb⟩
  have U : New w2 w3 := new_trans (by (repeat' (first | with_reducible exact new_refl _ | with_reducible assumption | with_reducible refine new_drewN ?_ _ | with_reducible refine new_drew ?_ | with_reducible refine new_alloc ?_ _ | with_reducible refine new_set ?_ ?_ _ | with_reducible refine new_freeze ?_ ?_ _ | with_reducible refine new_trans ?_ (by assumption) | (simp; done) | (simp; omega)))) hb
  have N : New w w3 := new_trans (by (repeat' (first | with_reducible exact new_refl _ | with_reducible assumption | with_reducible refine new_drewN ?_ _ | with_reducible refine new_drew ?_ | with_reducible refine new_alloc ?_ _ | with_reducible refine new_set ?_ ?_ _ | with_reducible refine new_freeze ?_ ?_ _ | with_reducible refine new_trans ?_ (by assumption) | (simp; done) | (simp; omega)))) hb
  have B1 := B1.up U
  have B2 := B2.up U
  have B3 := B3.up U
  have B4 := (Blk.new_ w2 26 (uc s)).up hb
  try clear c1 l1
  have c1 := B1.cell; have l1 := B1.lt
  try clear c2 l2
  have c2 := B2.cell; have l2 := B2.lt
  try clear c3 l3
  have c3 := B3.cell; have l3 := B3.lt
  try clear c4 l4
  have c4 := B4.cell; have l4 := B4.lt
  clear hb U
  go_wp2_with fail
  refine (mul_is x1 x3 m i hx1 hx3 (unhide e4) (unhide e5) _).mono ?_
  rintro e w5 ⟨rfl, hb⟩
  have U : New w3 w5 := new_trans (by (repeat' (first | with_reducible exact new_refl _ | with_reducible assumption | with_reducible refine new_drewN ?_ _ | with_reducible refine new_drew ?_ | with_reducible refine new_alloc ?_ _ | with_reducible refine new_set ?_ ?_ _ | with_reducible refine new_freeze ?_ ?_ _ | with_reducible refine new_trans ?_ (by assumption) | (simp; done) | (simp; omega)))) hb
  have N : New w w5 := new_trans (by (repeat' (first | with_reducible exact new_refl _ | with_reducible assumption | with_reducible refine new_drewN ?_ _ | with_reducible refine new_drew ?_ | with_reducible refine new_alloc ?_ _ | with_reducible refine new_set ?_ ?_ _ | with_reducible refine new_freeze ?_ ?_ _ | with_reducible refine new_trans ?_ (by assumption) | (simp; done) | (simp; omega)))) hb
  have B1 := B1.up U
  have B2 := B2.up U
  have B3 := B3.up U
  have B5 := ((Blk.new_ w3 26 (uc l)).al _).up hb
  have B6 := (Blk.new1 w3 _ 26 (uc h0)).up hb
  try clear c1 l1
  have c1 := B1.cell; have l1 := B1.lt
  try clear c2 l2
  have c2 := B2.cell; have l2 := B2.lt
  try clear c3 l3
  have c3 := B3.cell; have l3 := B3.lt
  try clear c5 l5
  have c5 := B5.cell; have l5 := B5.lt
  try clear c6 l6
  have c6 := B6.cell; have l6 := B6.lt
  clear hb U
  go_wp2_with fail
  refine (mul_is x2 x3 n j hx2 hx3 (unhide e6) (unhide e7) _).mono ?_
  rintro e w6 ⟨rfl, hb⟩
  have U : New w5 w6 := new_trans (by (repeat' (first | with_reducible exact new_refl _ | with_reducible assumption | with_reducible refine new_drewN ?_ _ | with_reducible refine new_drew ?_ | with_reducible refine new_alloc ?_ _ | with_reducible refine new_set ?_ ?_ _ | with_reducible refine new_freeze ?_ ?_ _ | with_reducible refine new_trans ?_ (by assumption) | (simp; done) | (simp; omega)))) hb
  have N : New w w6 := new_trans (by (repeat' (first | with_reducible exact new_refl _ | with_reducible assumption | with_reducible refine new_drewN ?_ _ | with_reducible refine new_drew ?_ | with_reducible refine new_alloc ?_ _ | with_reducible refine new_set ?_ ?_ _ | with_reducible refine new_freeze ?_ ?_ _ | with_reducible refine new_trans ?_ (by assumption) | (simp; done) | (simp; omega)))) hb
  have B1 := B1.up U
  have B2 := B2.up U
  have B3 := B3.up U
  have B5 := B5.up U
  have B6 := B6.up U
  have B7 := ((Blk.new_ w5 26 (uc m)).al _).up hb
  have B8 := (Blk.new1 w5 _ 26 (uc i)).up hb
  try clear c1 l1
  have c1 := B1.cell; have l1 := B1.lt
  try clear c2 l2
  have c2 := B2.cell; have l2 := B2.lt
  try clear c3 l3
  have c3 := B3.cell; have l3 := B3.lt
  try clear c5 l5
  have c5 := B5.cell; have l5 := B5.lt
  try clear c6 l6
  have c6 := B6.cell; have l6 := B6.lt
  try clear c7 l7
  have c7 := B7.cell; have l7 := B7.lt
  try clear c8 l8
  have c8 := B8.cell; have l8 := B8.lt
  clear hb U
  go_wp2_with fail
  refine (add_is m n l true hm hn (unhide e8) (unhide hcy) _).mono ?_
  rintro e w7 ⟨rfl, hb⟩
  have U : New w6 w7 := new_trans (by (repeat' (first | with_reducible exact new_refl _ | with_reducible assumption | with_reducible refine new_drewN ?_ _ | with_reducible refine new_drew ?_ | with_reducible refine new_alloc ?_ _ | with_reducible refine new_set ?_ ?_ _ | with_reducible refine new_freeze ?_ ?_ _ | with_reducible refine new_trans ?_ (by assumption) | (simp; done) | (simp; omega)))) hb
  have N : New w w7 := new_trans (by (repeat' (first | with_reducible exact new_refl _ | with_reducible assumption | with_reducible refine new_drewN ?_ _ | with_reducible refine new_drew ?_ | with_reducible refine new_alloc ?_ _ | with_reducible refine new_set ?_ ?_ _ | with_reducible refine new_freeze ?_ ?_ _ | with_reducible refine new_trans ?_ (by assumption) | (simp; done) | (simp; omega)))) hb
  have B5 := B5.up U
  have B6 := B6.up U
  have B7 := B7.up U
  have B8 := B8.up U
  have B9 := ((Blk.new_ w6 26 (uc n)).al _).up hb
  have B10 := (Blk.new1 w6 _ 26 (uc j)).up hb
  try clear c5 l5
  have c5 := B5.cell; have l5 := B5.lt
  try clear c6 l6
  have c6 := B6.cell; have l6 := B6.lt
  try clear c7 l7
  have c7 := B7.cell; have l7 := B7.lt
  try clear c8 l8
  have c8 := B8.cell; have l8 := B8.lt
  try clear c9 l9
  have c9 := B9.cell; have l9 := B9.lt
  try clear c10 l10
  have c10 := B10.cell; have l10 := B10.lt
  clear hb U
  go_wp2_with fail
  refine (add_is i j hi _ hi' hj' (unhide e9) rfl _).mono ?_
  rintro e w8 ⟨rfl, hb⟩
  have U : New w7 w8 := new_trans (by (repeat' (first | with_reducible exact new_refl _ | with_reducible assumption | with_reducible refine new_drewN ?_ _ | with_reducible refine new_drew ?_ | with_reducible refine new_alloc ?_ _ | with_reducible refine new_set ?_ ?_ _ | with_reducible refine new_freeze ?_ ?_ _ | with_reducible refine new_trans ?_ (by assumption) | (simp; done) | (simp; omega)))) hb
  have N : New w w8 := new_trans (by (repeat' (first | with_reducible exact new_refl _ | with_reducible assumption | with_reducible refine new_drewN ?_ _ | with_reducible refine new_drew ?_ | with_reducible refine new_alloc ?_ _ | with_reducible refine new_set ?_ ?_ _ | with_reducible refine new_freeze ?_ ?_ _ | with_reducible refine new_trans ?_ (by assumption) | (simp; done) | (simp; omega)))) hb
  have B5 := B5.up U
  have B6 := B6.up U
  have B7 := B7.up U
  have B8 := B8.up U
  have B9 := B9.up U
  have B10 := B10.up U
  have B11 := (Blk.new_ w7 26 (uc l)).up hb
  try clear c5 l5
  have c5 := B5.cell; have l5 := B5.lt
  try clear c6 l6
  have c6 := B6.cell; have l6 := B6.lt
  try clear c7 l7
  have c7 := B7.cell; have l7 := B7.lt
  try clear c8 l8
  have c8 := B8.cell; have l8 := B8.lt
  try clear c9 l9
  have c9 := B9.cell; have l9 := B9.lt
  try clear c10 l10
  have c10 := B10.cell; have l10 := B10.lt
  try clear c11 l11
  have c11 := B11.cell; have l11 := B11.lt
  clear hb U
  have l11 := B11.lt; have l5 := B5.lt; have l6 := B6.lt
  have n5 : w3.heap.size ≠ w8.heap.size := by omega
  have n6 : w3.heap.size + 1 ≠ w8.heap.size := by omega
  have n11 : w7.heap.size ≠ w8.heap.size := by omega
  have lw : w.heap.size ≤ w8.heap.size := N.size
  have n5 := hide n5; have n6 := hide n6; have n11 := hide n11
  go_wp2_with fail
  refine (add_one hi h0 _ hhi (unhide g2') rfl _).mono ?_
  rintro e w9 ⟨rfl, hb⟩
  have U : New w8 w9 := new_trans (by (repeat' (first | with_reducible exact new_refl _ | with_reducible assumption | with_reducible refine new_drewN ?_ _ | with_reducible refine new_drew ?_ | with_reducible refine new_alloc ?_ _ | with_reducible refine new_set ?_ ?_ _ | with_reducible refine new_freeze ?_ ?_ _ | with_reducible refine new_trans ?_ (by assumption) | (simp; done) | (simp; omega)))) hb
  have N : New w w9 := new_trans (by (repeat' (first | with_reducible exact new_refl _ | with_reducible assumption | with_reducible refine new_drewN ?_ _ | with_reducible refine new_drew ?_ | with_reducible refine new_alloc ?_ _ | with_reducible refine new_set ?_ ?_ _ | with_reducible refine new_freeze ?_ ?_ _ | with_reducible refine new_trans ?_ (by assumption) | (simp; done) | (simp; omega)))) hb
  have B5 := B5.up U
  have B6 := B6.up U
  have B11 := B11.up U
  have B12 := (Blk.new_ w8 26 (uc hi)).up hb
  try clear c5 l5
  have c5 := B5.cell; have l5 := B5.lt
  try clear c6 l6
  have c6 := B6.cell; have l6 := B6.lt
  try clear c11 l11
  have c11 := B11.cell; have l11 := B11.lt
  try clear c12 l12
  have c12 := B12.cell; have l12 := B12.lt
  clear hb U
  have fr := B12.free
  go_wp2_with fail
  refine (tells_any _).mono ?_
  rintro e w10 ⟨rfl, hb⟩
  have N : New w w10 := new_trans (new_set4 N lw _ _ _ _) hb
  have B5 := (B5.far4 (unhide n5) _ _ _ _).up hb
  have B6 := (B6.far4 (unhide n6) _ _ _ _).up hb
  have B11 := (B11.far4 (unhide n11) _ _ _ _).up hb
  have B12 := (B12.set4 _ _ _ _).up hb
  clear c5 c6 c11 c12 l5 l6 l11 l12 fr hb lw
  have c5 := B5.cell; have l5 := B5.lt; have c6 := B6.cell; have l6 := B6.lt; have c11 := B11.cell; have l11 := B11.lt; have c12 := B12.cell; have l12 := B12.lt
  go_wp2
  go_ret
  exact ⟨by simp, N⟩

set_option maxRecDepth 100000 in
set_option maxHeartbeats 1000000 in
theorem walk_nn (k1 a1 b1 k2 a2 b2 k3 a3 b3 : Int) (s1 s2 s3 : ByteArray) (ho : decide (M256 ≤ num k1 a1 b1 + num k2 a2 b2) = false) (hcy : decide (M256 ≤ num k1 a1 b1 * num k3 a3 b3 % M256 + num k2 a2 b2 * num k3 a3 b3 % M256) = false) (w : World) :
    Calls Try.prog 8 #[.agg (raw k1 a1 b1 s1), .agg (raw k2 a2 b2 s2), .agg (raw k3 a3 b3 s3)] w fun e w' => e = .returned (.bool true) ∧ New w w' := by
  go_enter Try.func8, Try.ntmps8
  go_wp2
  obtain ⟨W, g1, g2, g3, eW, e1, e2, e3, hN, B1, B2, B3⟩ := box3 w (raw k1 a1 b1 s1) (raw k2 a2 b2 s2) (raw k3 a3 b3 s3) 23 23 23
  rw [← eW, ← e3, ← e2, ← e1]
  clear eW e1 e2 e3
  refine region_ok (by kernel_rfl) [.inl (.agg (raw k1 a1 b1 s1)), .inl (u (num k1 a1 b1)), .inl (.agg (raw k2 a2 b2 s2)), .inl (u (num k2 a2 b2)), .inl (.agg (raw k3 a3 b3 s3)), .inl (u (num k3 a3 b3)), .inr (.inl (26, z4)), .inr (.inl (26, z4)), .inr (.inl (26, z4)), .inr (.inr (6, uc (num k1 a1 b1))), .inr (.inr (7, uc (num k2 a2 b2))), .inr (.inr (8, uc (num k3 a3 b3)))] rfl (by kernel_rfl) rfl ?_ ?_
  · refine ⟨?_, ?_, ?_, ?_, ?_, ?_, ?_, ?_, ?_, ?_, ?_, ?_, trivial⟩
    · exact ok_load 23 3 g1 _ _ (0, 0) _ rfl (by decide) rfl B1 Try.underlying23 rfl size_raw
    · exact ok_call 16 _ _ _ _ _ rfl Try.func16 (by kernel_rfl) (by kernel_rfl) (fun a _ hp => by have h := hp 0 _ _ rfl rfl rfl; simp [h]) (number_any k1 a1 b1 s1)
    · exact ok_load 23 4 g2 _ _ (0, 0) _ rfl (by decide) rfl B2 Try.underlying23 rfl size_raw
    · exact ok_call 16 _ _ _ _ _ rfl Try.func16 (by kernel_rfl) (by kernel_rfl) (fun a _ hp => by have h := hp 2 _ _ rfl rfl rfl; simp [h]) (number_any k2 a2 b2 s2)
    · exact ok_load 23 5 g3 _ _ (0, 0) _ rfl (by decide) rfl B3 Try.underlying23 rfl size_raw
    · exact ok_call 16 _ _ _ _ _ rfl Try.func16 (by kernel_rfl) (by kernel_rfl) (fun a _ hp => by have h := hp 4 _ _ rfl rfl rfl; simp [h]) (number_any k3 a3 b3 s3)
    · exact ok_alloc _ _ rfl zero_u
    · exact ok_alloc _ _ rfl zero_u
    · exact ok_alloc _ _ rfl zero_u
    · exact ok_store _ 6 7 _ 1 _ _ rfl rfl rfl rfl rfl rfl rfl rfl size_u rfl (by simp [Value.oneCell'])
    · exact ok_store _ 7 8 _ 3 _ _ rfl rfl rfl rfl rfl rfl rfl rfl size_u rfl (by simp [Value.oneCell'])
    · exact ok_store _ 8 9 _ 5 _ _ rfl rfl rfl rfl rfl rfl rfl rfl size_u rfl (by simp [Value.oneCell'])
  intro g w1 hN1 hB hD
  simp [frame, gives, Act.put]
  have B1 : Blk w1 (g 6) _ _ := (hB 6 _ _ 9 _ rfl rfl).2
  have B2 : Blk w1 (g 7) _ _ := (hB 7 _ _ 10 _ rfl rfl).2
  have B3 : Blk w1 (g 8) _ _ := (hB 8 _ _ 11 _ rfl rfl).2
  generalize g 6 = p1 at *
  generalize g 7 = p2 at *
  generalize g 8 = p3 at *
  have N := new_trans hN hN1
  clear hB hD g hN hN1
  have hx1 := num_lt k1 a1 b1; generalize num k1 a1 b1 = x1 at *
  have hx2 := num_lt k2 a2 b2; generalize num k2 a2 b2 = x2 at *
  have hx3 := num_lt k3 a3 b3; generalize num k3 a3 b3 = x3 at *
  try clear c1 l1
  have c1 := B1.cell; have l1 := B1.lt
  try clear c2 l2
  have c2 := B2.cell; have l2 := B2.lt
  try clear c3 l3
  have c3 := B3.cell; have l3 := B3.lt
  obtain ⟨s, e1⟩ : ∃ s, (x1 + x2) % M256 = s := ⟨_, rfl⟩
  obtain ⟨l, e2⟩ : ∃ z, s * x3 % M256 = z := ⟨_, rfl⟩
  obtain ⟨h0, e3⟩ : ∃ z, s * x3 / M256 = z := ⟨_, rfl⟩
  obtain ⟨m, e4⟩ : ∃ z, x1 * x3 % M256 = z := ⟨_, rfl⟩
  obtain ⟨i, e5⟩ : ∃ z, x1 * x3 / M256 = z := ⟨_, rfl⟩
  obtain ⟨n, e6⟩ : ∃ z, x2 * x3 % M256 = z := ⟨_, rfl⟩
  obtain ⟨j, e7⟩ : ∃ z, x2 * x3 / M256 = z := ⟨_, rfl⟩
  obtain ⟨low, e8⟩ : ∃ z, (m + n) % M256 = z := ⟨_, rfl⟩
  obtain ⟨hi, e9⟩ : ∃ z, (i + j) % M256 = z := ⟨_, rfl⟩
  obtain ⟨f1, f2⟩ := spreads x1 x2 x3 s l h0 m i n j low hi hx1 hx2 hx3 e1 e2 e3 e4 e5 e6 e7 e8 e9
  have hs : s < M256 := e1 ▸ mod_lt _
  have hm : m < M256 := e4 ▸ mod_lt _
  have hn : n < M256 := e6 ▸ mod_lt _
  have dv : ∀ a b : Nat, a < M256 → b < M256 → a * b / M256 < M256 := fun a b ha hb => (Nat.div_lt_iff_lt_mul (by decide)).2 (Nat.mul_lt_mul'' ha hb)
  have hh0 : h0 < M256 := e3 ▸ dv _ _ hs hx3
  have hi' : i < M256 := e5 ▸ dv _ _ hx1 hx3
  have hj' : j < M256 := e7 ▸ dv _ _ hx2 hx3
  have hhi : hi < M256 := e9 ▸ mod_lt _
  rw [e4, e6] at hcy
  subst f1
  clear dv
  rw [if_neg (of_decide_eq_false ho), if_neg (of_decide_eq_false hcy)] at f2
  subst f2
  have ho := hide ho; have hcy := hide hcy; have e1 := hide e1; have e2 := hide e2; have e3 := hide e3; have e4 := hide e4; have e5 := hide e5; have e6 := hide e6; have e7 := hide e7; have e8 := hide e8; have e9 := hide e9
  go_wp2_with fail
  refine (add_is x1 x2 s false hx1 hx2 (unhide e1) (unhide ho) _).mono ?_
  rintro e w2 ⟨rfl, hb⟩
  have U : New w1 w2 := new_trans (by (repeat' (first | with_reducible exact new_refl _ | with_reducible assumption | with_reducible refine new_drewN ?_ _ | with_reducible refine new_drew ?_ | with_reducible refine new_alloc ?_ _ | with_reducible refine new_set ?_ ?_ _ | with_reducible refine new_freeze ?_ ?_ _ | with_reducible refine new_trans ?_ (by assumption) | (simp; done) | (simp; omega)))) hb
  have N : New w w2 := new_trans (by (repeat' (first | with_reducible exact new_refl _ | with_reducible assumption | with_reducible refine new_drewN ?_ _ | with_reducible refine new_drew ?_ | with_reducible refine new_alloc ?_ _ | with_reducible refine new_set ?_ ?_ _ | with_reducible refine new_freeze ?_ ?_ _ | with_reducible refine new_trans ?_ (by assumption) | (simp; done) | (simp; omega)))) hb
  have B1 := B1.up U
  have B2 := B2.up U
  have B3 := B3.up U
  try clear c1 l1
  have c1 := B1.cell; have l1 := B1.lt
  try clear c2 l2
  have c2 := B2.cell; have l2 := B2.lt
  try clear c3 l3
  have c3 := B3.cell; have l3 := B3.lt
  clear hb U
  go_wp2_with fail
  refine (mul_is s x3 l h0 hs hx3 (unhide e2) (unhide e3) _).mono ?_
  rintro e w3 ⟨rfl, hb⟩
  have U : New w2 w3 := new_trans (by (repeat' (first | with_reducible exact new_refl _ | with_reducible assumption | with_reducible refine new_drewN ?_ _ | with_reducible refine new_drew ?_ | with_reducible refine new_alloc ?_ _ | with_reducible refine new_set ?_ ?_ _ | with_reducible refine new_freeze ?_ ?_ _ | with_reducible refine new_trans ?_ (by assumption) | (simp; done) | (simp; omega)))) hb
  have N : New w w3 := new_trans (by (repeat' (first | with_reducible exact new_refl _ | with_reducible assumption | with_reducible refine new_drewN ?_ _ | with_reducible refine new_drew ?_ | with_reducible refine new_alloc ?_ _ | with_reducible refine new_set ?_ ?_ _ | with_reducible refine new_freeze ?_ ?_ _ | with_reducible refine new_trans ?_ (by assumption) | (simp; done) | (simp; omega)))) hb
  have B1 := B1.up U
  have B2 := B2.up U
  have B3 := B3.up U
  have B4 := (Blk.new_ w2 26 (uc s)).up hb
  try clear c1 l1
  have c1 := B1.cell; have l1 := B1.lt
  try clear c2 l2
  have c2 := B2.cell; have l2 := B2.lt
  try clear c3 l3
  have c3 := B3.cell; have l3 := B3.lt
  try clear c4 l4
  have c4 := B4.cell; have l4 := B4.lt
  clear hb U
  go_wp2_with fail
  refine (mul_is x1 x3 m i hx1 hx3 (unhide e4) (unhide e5) _).mono ?_
  rintro e w5 ⟨rfl, hb⟩
  have U : New w3 w5 := new_trans (by (repeat' (first | with_reducible exact new_refl _ | with_reducible assumption | with_reducible refine new_drewN ?_ _ | with_reducible refine new_drew ?_ | with_reducible refine new_alloc ?_ _ | with_reducible refine new_set ?_ ?_ _ | with_reducible refine new_freeze ?_ ?_ _ | with_reducible refine new_trans ?_ (by assumption) | (simp; done) | (simp; omega)))) hb
  have N : New w w5 := new_trans (by (repeat' (first | with_reducible exact new_refl _ | with_reducible assumption | with_reducible refine new_drewN ?_ _ | with_reducible refine new_drew ?_ | with_reducible refine new_alloc ?_ _ | with_reducible refine new_set ?_ ?_ _ | with_reducible refine new_freeze ?_ ?_ _ | with_reducible refine new_trans ?_ (by assumption) | (simp; done) | (simp; omega)))) hb
  have B1 := B1.up U
  have B2 := B2.up U
  have B3 := B3.up U
  have B5 := ((Blk.new_ w3 26 (uc l)).al _).up hb
  have B6 := (Blk.new1 w3 _ 26 (uc h0)).up hb
  try clear c1 l1
  have c1 := B1.cell; have l1 := B1.lt
  try clear c2 l2
  have c2 := B2.cell; have l2 := B2.lt
  try clear c3 l3
  have c3 := B3.cell; have l3 := B3.lt
  try clear c5 l5
  have c5 := B5.cell; have l5 := B5.lt
  try clear c6 l6
  have c6 := B6.cell; have l6 := B6.lt
  clear hb U
  go_wp2_with fail
  refine (mul_is x2 x3 n j hx2 hx3 (unhide e6) (unhide e7) _).mono ?_
  rintro e w6 ⟨rfl, hb⟩
  have U : New w5 w6 := new_trans (by (repeat' (first | with_reducible exact new_refl _ | with_reducible assumption | with_reducible refine new_drewN ?_ _ | with_reducible refine new_drew ?_ | with_reducible refine new_alloc ?_ _ | with_reducible refine new_set ?_ ?_ _ | with_reducible refine new_freeze ?_ ?_ _ | with_reducible refine new_trans ?_ (by assumption) | (simp; done) | (simp; omega)))) hb
  have N : New w w6 := new_trans (by (repeat' (first | with_reducible exact new_refl _ | with_reducible assumption | with_reducible refine new_drewN ?_ _ | with_reducible refine new_drew ?_ | with_reducible refine new_alloc ?_ _ | with_reducible refine new_set ?_ ?_ _ | with_reducible refine new_freeze ?_ ?_ _ | with_reducible refine new_trans ?_ (by assumption) | (simp; done) | (simp; omega)))) hb
  have B1 := B1.up U
  have B2 := B2.up U
  have B3 := B3.up U
  have B5 := B5.up U
  have B6 := B6.up U
  have B7 := ((Blk.new_ w5 26 (uc m)).al _).up hb
  have B8 := (Blk.new1 w5 _ 26 (uc i)).up hb
  try clear c1 l1
  have c1 := B1.cell; have l1 := B1.lt
  try clear c2 l2
  have c2 := B2.cell; have l2 := B2.lt
  try clear c3 l3
  have c3 := B3.cell; have l3 := B3.lt
  try clear c5 l5
  have c5 := B5.cell; have l5 := B5.lt
  try clear c6 l6
  have c6 := B6.cell; have l6 := B6.lt
  try clear c7 l7
  have c7 := B7.cell; have l7 := B7.lt
  try clear c8 l8
  have c8 := B8.cell; have l8 := B8.lt
  clear hb U
  go_wp2_with fail
  refine (add_is m n l false hm hn (unhide e8) (unhide hcy) _).mono ?_
  rintro e w7 ⟨rfl, hb⟩
  have U : New w6 w7 := new_trans (by (repeat' (first | with_reducible exact new_refl _ | with_reducible assumption | with_reducible refine new_drewN ?_ _ | with_reducible refine new_drew ?_ | with_reducible refine new_alloc ?_ _ | with_reducible refine new_set ?_ ?_ _ | with_reducible refine new_freeze ?_ ?_ _ | with_reducible refine new_trans ?_ (by assumption) | (simp; done) | (simp; omega)))) hb
  have N : New w w7 := new_trans (by (repeat' (first | with_reducible exact new_refl _ | with_reducible assumption | with_reducible refine new_drewN ?_ _ | with_reducible refine new_drew ?_ | with_reducible refine new_alloc ?_ _ | with_reducible refine new_set ?_ ?_ _ | with_reducible refine new_freeze ?_ ?_ _ | with_reducible refine new_trans ?_ (by assumption) | (simp; done) | (simp; omega)))) hb
  have B5 := B5.up U
  have B6 := B6.up U
  have B7 := B7.up U
  have B8 := B8.up U
  have B9 := ((Blk.new_ w6 26 (uc n)).al _).up hb
  have B10 := (Blk.new1 w6 _ 26 (uc j)).up hb
  try clear c5 l5
  have c5 := B5.cell; have l5 := B5.lt
  try clear c6 l6
  have c6 := B6.cell; have l6 := B6.lt
  try clear c7 l7
  have c7 := B7.cell; have l7 := B7.lt
  try clear c8 l8
  have c8 := B8.cell; have l8 := B8.lt
  try clear c9 l9
  have c9 := B9.cell; have l9 := B9.lt
  try clear c10 l10
  have c10 := B10.cell; have l10 := B10.lt
  clear hb U
  go_wp2_with fail
  refine (add_is i j h0 _ hi' hj' (unhide e9) rfl _).mono ?_
  rintro e w8 ⟨rfl, hb⟩
  have U : New w7 w8 := new_trans (by (repeat' (first | with_reducible exact new_refl _ | with_reducible assumption | with_reducible refine new_drewN ?_ _ | with_reducible refine new_drew ?_ | with_reducible refine new_alloc ?_ _ | with_reducible refine new_set ?_ ?_ _ | with_reducible refine new_freeze ?_ ?_ _ | with_reducible refine new_trans ?_ (by assumption) | (simp; done) | (simp; omega)))) hb
  have N : New w w8 := new_trans (by (repeat' (first | with_reducible exact new_refl _ | with_reducible assumption | with_reducible refine new_drewN ?_ _ | with_reducible refine new_drew ?_ | with_reducible refine new_alloc ?_ _ | with_reducible refine new_set ?_ ?_ _ | with_reducible refine new_freeze ?_ ?_ _ | with_reducible refine new_trans ?_ (by assumption) | (simp; done) | (simp; omega)))) hb
  have B5 := B5.up U
  have B6 := B6.up U
  have B7 := B7.up U
  have B8 := B8.up U
  have B9 := B9.up U
  have B10 := B10.up U
  have B11 := (Blk.new_ w7 26 (uc l)).up hb
  try clear c5 l5
  have c5 := B5.cell; have l5 := B5.lt
  try clear c6 l6
  have c6 := B6.cell; have l6 := B6.lt
  try clear c7 l7
  have c7 := B7.cell; have l7 := B7.lt
  try clear c8 l8
  have c8 := B8.cell; have l8 := B8.lt
  try clear c9 l9
  have c9 := B9.cell; have l9 := B9.lt
  try clear c10 l10
  have c10 := B10.cell; have l10 := B10.lt
  try clear c11 l11
  have c11 := B11.cell; have l11 := B11.lt
  clear hb U
  go_wp2_with fail
  refine (tells_any _).mono ?_
  rintro e w10 ⟨rfl, hb⟩
  have U : New w8 w10 := new_trans (by (repeat' (first | with_reducible exact new_refl _ | with_reducible assumption | with_reducible refine new_drewN ?_ _ | with_reducible refine new_drew ?_ | with_reducible refine new_alloc ?_ _ | with_reducible refine new_set ?_ ?_ _ | with_reducible refine new_freeze ?_ ?_ _ | with_reducible refine new_trans ?_ (by assumption) | (simp; done) | (simp; omega)))) hb
  have N : New w w10 := new_trans (by (repeat' (first | with_reducible exact new_refl _ | with_reducible assumption | with_reducible refine new_drewN ?_ _ | with_reducible refine new_drew ?_ | with_reducible refine new_alloc ?_ _ | with_reducible refine new_set ?_ ?_ _ | with_reducible refine new_freeze ?_ ?_ _ | with_reducible refine new_trans ?_ (by assumption) | (simp; done) | (simp; omega)))) hb
  have B5 := B5.up U
  have B6 := B6.up U
  have B11 := B11.up U
  have B12 := (Blk.new_ w8 26 (uc h0)).up hb
  try clear c5 l5
  have c5 := B5.cell; have l5 := B5.lt
  try clear c6 l6
  have c6 := B6.cell; have l6 := B6.lt
  try clear c11 l11
  have c11 := B11.cell; have l11 := B11.lt
  try clear c12 l12
  have c12 := B12.cell; have l12 := B12.lt
  clear hb U
  go_wp2
  go_ret
  exact ⟨by simp, N⟩

theorem walk (k1 a1 b1 k2 a2 b2 k3 a3 b3 : Int) (s1 s2 s3 : ByteArray) (w : World) :
    Calls Try.prog 8 #[.agg (raw k1 a1 b1 s1), .agg (raw k2 a2 b2 s2), .agg (raw k3 a3 b3 s3)] w fun e w' => e = .returned (.bool true) ∧ New w w' := by
  cases ho : decide (M256 ≤ num k1 a1 b1 + num k2 a2 b2) <;> cases hcy : decide (M256 ≤ num k1 a1 b1 * num k3 a3 b3 % M256 + num k2 a2 b2 * num k3 a3 b3 % M256)
  · exact walk_nn k1 a1 b1 k2 a2 b2 k3 a3 b3 s1 s2 s3 ho hcy w
  · exact walk_nc k1 a1 b1 k2 a2 b2 k3 a3 b3 s1 s2 s3 ho hcy w
  · exact walk_on k1 a1 b1 k2 a2 b2 k3 a3 b3 s1 s2 s3 ho hcy w
  · exact walk_oc k1 a1 b1 k2 a2 b2 k3 a3 b3 s1 s2 s3 ho hcy w

set_option maxRecDepth 100000 in
theorem lifted (os : Os) (started : os.Started) (H : Type) (enc : TypeId × Value → H) :
    ReturnsInHanded {} Try.checked os 8 .any (Rows.mulSpreadsSpec.pre6 enc Try.prog Try.f8 Rows.mulSpreadsRow.domain false) (Rows.mulSpreadsSpec.post enc Try.prog Try.f8 false true false false) := by
  refine returnsInHanded_of_change (C := Try.checked) own started (by kernel_rfl) Try.func8
    (ChangeSpec.witness6 (enc := enc) (C := Try.checked) false ⟨#[], #[.agg #[.int .i64 0, .int .i64 0, .int .i64 0, .string ⟨#[]⟩], .agg #[.int .i64 0, .int .i64 0, .int .i64 0, .string ⟨#[]⟩], .agg #[.int .i64 0, .int .i64 0, .int .i64 0, .string ⟨#[]⟩]], []⟩ 8 (by kernel_rfl) (by kernel_rfl) (by kernel_rfl) (by kernel_rfl)) ?_
  intro W base args ds gs before hval0 hW hcnd _
  have hval : ∀ (j : Nat) t v, Try.f8.params[j]? = some t → args[j]? = some v → Value.okWide Try.prog W .any base t v := hval0
  have hW' := hW
  obtain ⟨p, q, hA0, hV, rfl, hfz, hnd⟩ := hW
  have hA : DataW.TrodAll enc Try.prog W 0 (fun _ => true) true Try.f8.params.toList args.toList ds p := hA0
  rw [Try.params8] at hA hval
  obtain ⟨v0, vs0, d0, ds0, p0, q0, hargs, rfl, rfl, h0, r0⟩ := trodAll_cons hA
  obtain ⟨v1, vs1, d1, ds1, p1, q1, rfl, rfl, rfl, h1, r1⟩ := trodAll_cons r0
  obtain ⟨v2, vs2, d2, ds2, p2, q2, rfl, rfl, rfl, h2, r2⟩ := trodAll_cons r1
  obtain ⟨rfl, rfl, rfl⟩ := trodAll_nil r2
  obtain rfl : args = #[v0, v1, v2] := by cases args; simp_all
  obtain ⟨rfl, rfl⟩ := trodVars_none hV
  obtain ⟨k1, a1, b1, s1, rfl, wk1, wa1, wb1, ws1⟩ := open_raw (hval 0 23 v0 rfl rfl) h0
  obtain ⟨k2, a2, b2, s2, rfl, wk2, wa2, wb2, ws2⟩ := open_raw (hval 1 23 v1 rfl rfl) h1
  obtain ⟨k3, a3, b3, s3, rfl, wk3, wa3, wb3, ws3⟩ := open_raw (hval 2 23 v2 rfl rfl) h2
  refine (walk k1 a1 b1 k2 a2 b2 k3 a3 b3 s1 s2 s3 W).mono fun e W' ⟨he, hN⟩ => ?_
  subst he
  exact ⟨_, rfl, law_post laidOut (by kernel_rfl) (by kernel_rfl) Try.underlying4 rfl hW' rfl hN⟩

theorem holds : Rows.MulSpreadsSaid :=
  OpenClaim.holds_of_wide 8 Try.f8 rfl rfl rfl rfl rfl rfl rfl ⟨rfl, rfl, rfl, rfl, rfl⟩ rfl rfl rfl rfl rfl (by kernel_rfl) Try.func8 (by kernel_rfl)
    (of_decide_eq_true (by kernel_rfl)) (by unfold Func.isWrapper; first | (rw [if_pos (by decide +kernel)]; kernel_rfl) | (rw [if_neg (by decide +kernel)]; exact ⟨rfl, rfl⟩))
    (fun os started H enc _ => lifted os started H enc)

#print axioms holds
end Go.Proofs.Ytcgdcnhggejgbaa.mulSpreads

