/- PowerAdds: by a modulus a power of a sum is the product of the powers, and the power of a product, too: for every three raw things and two ints the call returns true. No conditions. -/
import Derived.Test.YtdelfiijbkhldaaRow
import Derived.Test.YtdelfiijbkhldaaFTells
import Derived.Test.YtdelfiijbkhldaaPow
namespace Go.Proofs.Ytdelfiijbkhldaa.powerAdds
open Go.ChangeShapes Go.WideShapes Go.RowKit
set_option linter.unusedVariables false
set_option linter.unusedSimpArgs false

set_option maxRecDepth 100000 in
set_option maxHeartbeats 8000000 in
theorem walk (k1 a1 b1 k2 a2 b2 k3 a3 b3 : Int) (s1 s2 s3 : ByteArray) (i j : Int) (w : World) :
    Calls Try.prog 6 #[.agg (raw k1 a1 b1 s1), .agg (raw k2 a2 b2 s2), .agg (raw k3 a3 b3 s3), .int .i64 i, .int .i64 j] w fun e w' => e = .returned (.bool true) ∧ New w w' := by
  go_enter Try.func6, Try.ntmps6
  go_wp2_with fail
  generalize hW : World.alloc _ _ = W
  obtain ⟨N, B5, B6, B7, B37⟩ := boxes4 hW
  clear hW
  generalize q37 : w.heap.size + 1 + 1 + 1 = g37 at *
  generalize q7 : w.heap.size + 1 + 1 = g7 at *
  generalize q6 : w.heap.size + 1 = g6 at *
  have hL : Hid (w.heap.size < g6 ∧ g6 < g7 ∧ g7 < g37) := hide (by omega)
  clear q6 q7 q37
  try clear c5
  try clear l5
  try clear f5
  have c5 := B5.cell; have l5 := B5.lt
  try clear c6
  try clear l6
  try clear f6
  have c6 := B6.cell; have l6 := B6.lt
  try clear c7
  try clear l7
  try clear f7
  have c7 := B7.cell; have l7 := B7.lt
  try clear c37
  try clear l37
  try clear f37
  have c37 := B37.cell; have l37 := B37.lt
  refine (ring2 k1 a1 b1 s1 k2 a2 b2 s2 k3 a3 b3 s3 g37 _ _ B37).mono ?_
  rintro e w1 ⟨g12, cap, cur, rfl, hb, B12, hcap, hcur⟩
  have hn0 := mo_pos (num k1 a1 b1); have hnM := mo_lt _ (num_lt k1 a1 b1)
  generalize mo (num k1 a1 b1) = n at *
  have hx := Nat.mod_lt (num k2 a2 b2) hn0; have hy := Nat.mod_lt (num k3 a3 b3) hn0
  generalize num k2 a2 b2 % n = x at *; generalize num k3 a3 b3 % n = y at *
  have N := new_trans N hb
  have q0 := hcur 0 _ rfl; have q1 := hcur 1 _ rfl; have q2 := hcur 2 _ rfl; have q3 := hcur 3 _ rfl
  have q4 := hcur 4 _ rfl; have q5 := hcur 5 _ rfl; have q6 := hcur 6 _ rfl; have q7 := hcur 7 _ rfl
  clear hcur hb B5 B6 B7 B37 c5 c6 c7 c37 l5 l6 l7 l37 hL hcap
  have hi := wrapu_bd i; have hj := wrapu_bd j
  generalize hwi : IntKind.u64.wrap i = I at *
  generalize hwj : IntKind.u64.wrap j = J at *
  have hI2 : 0 ≤ I / 2 ∧ I / 2 < 18446744073709551616 := by omega
  have hJ2 : 0 ≤ J / 2 ∧ J / 2 < 18446744073709551616 := by omega
  obtain ⟨P, eP⟩ : ∃ P, mk4 I (J / 2) 0 0 = P := ⟨_, rfl⟩
  obtain ⟨Q, eQ⟩ : ∃ Q, mk4 J (I / 2) 0 0 = Q := ⟨_, rfl⟩
  have zz : (0 : Int) ≤ 0 ∧ (0 : Int) < 18446744073709551616 := by decide
  have uP := hide (u_mk4 hi hJ2 zz zz); have uQ := hide (u_mk4 hj hI2 zz zz)
  rw [eP] at uP; rw [eQ] at uQ
  have hPM : P < M256 := by rw [← eP]; exact mk4_lt hi hJ2 zz zz
  have hQM : Q < M256 := by rw [← eQ]; exact mk4_lt hj hI2 zz zz
  have hS : P + Q < M256 := by rw [← eP, ← eQ]; unfold mk4 M256; omega
  obtain ⟨S, eS⟩ : ∃ S, P + Q = S := ⟨_, rfl⟩
  rw [eS] at hS
  obtain ⟨a, ea⟩ : ∃ a, x ^ P % n = a := ⟨_, rfl⟩
  obtain ⟨b, eb⟩ : ∃ b, x ^ Q % n = b := ⟨_, rfl⟩
  obtain ⟨c, ec⟩ : ∃ c, a * b % n = c := ⟨_, rfl⟩
  obtain ⟨xy, exy⟩ : ∃ z, x * y % n = z := ⟨_, rfl⟩
  obtain ⟨v, ev⟩ : ∃ v, y ^ P % n = v := ⟨_, rfl⟩
  obtain ⟨t, et⟩ : ∃ t, a * v % n = t := ⟨_, rfl⟩
  have ed : x ^ S % n = c := by rw [← ec, ← ea, ← eb, ← eS, Nat.pow_add, Nat.mul_mod]
  have eu : xy ^ P % n = t := by rw [← et, ← ea, ← ev, ← exy, ← Nat.pow_mod, Nat.mul_pow, Nat.mul_mod]
  have eS1 : (P + Q) % M256 = S := by rw [eS]; exact Nat.mod_eq_of_lt hS
  have eS2 : decide (M256 ≤ P + Q) = false := by rw [eS]; simp; omega
  have ha : a < n := by rw [← ea]; exact Nat.mod_lt _ hn0
  have hb : b < n := by rw [← eb]; exact Nat.mod_lt _ hn0
  have hxy : xy < n := by rw [← exy]; exact Nat.mod_lt _ hn0
  have hv : v < n := by rw [← ev]; exact Nat.mod_lt _ hn0
  have hwi := hide hwi; have hwj := hide hwj
  have ha := hide ha; have hb := hide hb; have hxy := hide hxy; have hv := hide hv; have hx := hide hx; have hy := hide hy; have hnM := hide hnM; have hPM := hide hPM; have hQM := hide hQM; have hS := hide hS
  have ea := hide ea; have eb := hide eb; have ec := hide ec; have exy := hide exy; have ev := hide ev; have et := hide et; have ed := hide ed; have eu := hide eu; have eS1 := hide eS1; have eS2 := hide eS2
  clear eP eQ eS hn0 zz
  go_wp2_with fail
  rw [unhide uP, unhide uQ]
  generalize hY : World.alloc _ _ = Y
  obtain ⟨NZ, B11, B13, B14⟩ := boxes3 hY
  rw [Value.agg.inj (unhide uP)] at B13
  rw [Value.agg.inj (unhide uQ)] at B14
  have B12 := B12.up NZ; have N := new_trans N NZ
  clear hY NZ uP uQ
  have c11 := B11.cell; have l11 := B11.lt
  refine (add_is P Q S false (unhide hPM) (unhide hQM) (unhide eS1) (unhide eS2) _).mono ?_
  rintro e v1 ⟨rfl, hb⟩
  have U : New Y v1 := new_trans (by (repeat' (first | with_reducible exact new_refl _ | with_reducible assumption | with_reducible refine new_drewN ?_ _ | with_reducible refine new_drew ?_ | with_reducible refine new_alloc ?_ _ | with_reducible refine new_set ?_ ?_ _ | with_reducible refine new_freeze ?_ ?_ _ | with_reducible refine new_trans ?_ (by assumption) | (simp; done) | (simp; omega)))) hb
  have N : New w v1 := new_trans (by (repeat' (first | with_reducible exact new_refl _ | with_reducible assumption | with_reducible refine new_drewN ?_ _ | with_reducible refine new_drew ?_ | with_reducible refine new_alloc ?_ _ | with_reducible refine new_set ?_ ?_ _ | with_reducible refine new_freeze ?_ ?_ _ | with_reducible refine new_trans ?_ (by assumption) | (simp; done) | (simp; omega)))) hb
  have B11 := B11.up U
  have B12 := B12.up U
  have B13 := B13.up U
  have B14 := B14.up U
  try clear c11
  try clear l11
  try clear f11
  have c11 := B11.cell; have l11 := B11.lt
  try clear c12
  try clear l12
  try clear f12
  have c12 := B12.cell; have l12 := B12.lt
  try clear c13
  try clear l13
  try clear f13
  have c13 := B13.cell; have l13 := B13.lt
  try clear c14
  try clear l14
  try clear f14
  have c14 := B14.cell; have l14 := B14.lt
  clear hb U
  go_wp2_with fail
  generalize hY2 : World.alloc _ _ = Y2
  obtain ⟨NZ, B15⟩ := boxes1 hY2
  have B11 := B11.up NZ; have B12 := B12.up NZ; have B13 := B13.up NZ; have B14 := B14.up NZ; have N := new_trans N NZ
  clear hY2 NZ
  apply region_okA
  case hm => kernel_rfl
  case hall =>
    apply allok_cons
    · exact ok_val _ fun ρ w' hN hc hF h0 hp => by have h12 := h0 12 rfl; (conv at h12 => (rhs; whnf)); simp [execOp, go_sem, hc, hF, h12] <;> rfl
    apply allok_cons
    · exact ok_val _ fun ρ w' hN hc hF h0 hp => by have h60 := hp 0 _ _ rfl rfl rfl; simp [execOp, go_sem, hc, hF, h60] <;> rfl
    apply allok_cons
    · exact ok_val _ fun ρ w' hN hc hF h0 hp => by have h61 := hp 1 _ _ rfl rfl rfl; have c := Blk.cell (B12.up hN); simp [execOp, go_sem, hc, hF, h61, c, q0, q1, q2, q3] <;> rfl
    apply allok_cons
    · exact ok_val _ fun ρ w' hN hc hF h0 hp => by have h13 := h0 13 rfl; (conv at h13 => (rhs; whnf)); have c := Blk.cell (B13.up hN); simp [execOp, go_sem, hc, hF, h13, c] <;> rfl
    apply allok_cons
    · exact ok_val _ fun ρ w' hN hc hF h0 hp => by have h11 := h0 11 rfl; (conv at h11 => (rhs; whnf)); have c := Blk.cell (B11.up hN); simp [execOp, go_sem, hc, hF, h11, c] <;> rfl
    apply allok_cons
    · refine ok_call 18 _ _ _ _ _ rfl Try.func18 (by kernel_rfl) (by kernel_rfl) ?_ (Pow_to x P n a (unhide hnM) (unhide hx) (unhide hPM) (unhide ea)); intro a h0 hp; have h62 := hp 2 _ _ rfl rfl rfl; have h63 := hp 3 _ _ rfl rfl rfl; have h64 := hp 4 _ _ rfl rfl rfl; simp [h62, h63, h64]
    apply allok_cons
    · exact ok_val _ fun ρ w' hN hc hF h0 hp => by have h65 := hp 5 _ _ rfl rfl rfl; simp [execOp, go_sem, hc, hF, h65] <;> rfl
    apply allok_cons
    · exact ok_val _ fun ρ w' hN hc hF h0 hp => by have h59 := hp 6 _ _ rfl rfl rfl; simp [execOp, go_sem, hc, hF, h59] <;> rfl
    apply allok_cons
    · exact ok_val _ fun ρ w' hN hc hF h0 hp => by have h59 := hp 6 _ _ rfl rfl rfl; simp [execOp, go_sem, hc, hF, h59] <;> rfl
    apply allok_cons
    · exact ok_alloc _ _ rfl zero_u
    apply allok_cons
    · exact ok_store _ 9 17 66 7 _ _ rfl rfl rfl rfl rfl rfl rfl rfl size_u rfl (by simp [Value.oneCell'])
    apply allok_cons
    · exact ok_val _ fun ρ w' hN hc hF h0 hp => by have h67 := hp 8 _ _ rfl rfl rfl; simp [execOp, go_sem, hc, hF, h67] <;> rfl
    exact allok_nil
  case hops => kernel_rfl
  case hlen => rfl
  case hputs => rfl
  intro g v2 hN1 hB hD
  simp [frame, gives, Act.put]
  have kk17 := (hB 9 _ _ 10 _ rfl rfl).1
  have B17 : Blk v2 (g 9) _ _ := (hB 9 _ _ 10 _ rfl rfl).2
  have B11 := B11.up hN1
  have B12 := B12.up hN1
  have B13 := B13.up hN1
  have B14 := B14.up hN1
  have B15 := B15.up hN1
  have N := new_trans N hN1
  generalize g 9 = p17 at *
  clear hB hD g hN1
  try clear c11
  try clear l11
  have c11 := B11.cell; have l11 := B11.lt
  try clear c12
  try clear l12
  have c12 := B12.cell; have l12 := B12.lt
  try clear c13
  try clear l13
  have c13 := B13.cell; have l13 := B13.lt
  try clear c14
  try clear l14
  have c14 := B14.cell; have l14 := B14.lt
  try clear c15
  try clear l15
  have c15 := B15.cell; have l15 := B15.lt
  try clear c17
  try clear l17
  have c17 := B17.cell; have l17 := B17.lt
  go_wp2_with fail
  apply region_okA
  case hm => kernel_rfl
  case hall =>
    apply allok_cons
    · exact ok_val _ fun ρ w' hN hc hF h0 hp => by have h12 := h0 12 rfl; (conv at h12 => (rhs; whnf)); simp [execOp, go_sem, hc, hF, h12] <;> rfl
    apply allok_cons
    · exact ok_val _ fun ρ w' hN hc hF h0 hp => by have h69 := hp 0 _ _ rfl rfl rfl; simp [execOp, go_sem, hc, hF, h69] <;> rfl
    apply allok_cons
    · exact ok_val _ fun ρ w' hN hc hF h0 hp => by have h70 := hp 1 _ _ rfl rfl rfl; have c := Blk.cell (B12.up hN); simp [execOp, go_sem, hc, hF, h70, c, q0, q1, q2, q3] <;> rfl
    apply allok_cons
    · exact ok_val _ fun ρ w' hN hc hF h0 hp => by have h14 := h0 14 rfl; (conv at h14 => (rhs; whnf)); have c := Blk.cell (B14.up hN); simp [execOp, go_sem, hc, hF, h14, c] <;> rfl
    apply allok_cons
    · exact ok_val _ fun ρ w' hN hc hF h0 hp => by have h11 := h0 11 rfl; (conv at h11 => (rhs; whnf)); have c := Blk.cell (B11.up hN); simp [execOp, go_sem, hc, hF, h11, c] <;> rfl
    apply allok_cons
    · refine ok_call 18 _ _ _ _ _ rfl Try.func18 (by kernel_rfl) (by kernel_rfl) ?_ (Pow_to x Q n b (unhide hnM) (unhide hx) (unhide hQM) (unhide eb)); intro a h0 hp; have h71 := hp 2 _ _ rfl rfl rfl; have h72 := hp 3 _ _ rfl rfl rfl; have h73 := hp 4 _ _ rfl rfl rfl; simp [h71, h72, h73]
    apply allok_cons
    · exact ok_val _ fun ρ w' hN hc hF h0 hp => by have h74 := hp 5 _ _ rfl rfl rfl; simp [execOp, go_sem, hc, hF, h74] <;> rfl
    apply allok_cons
    · exact ok_val _ fun ρ w' hN hc hF h0 hp => by have h68 := hp 6 _ _ rfl rfl rfl; simp [execOp, go_sem, hc, hF, h68] <;> rfl
    apply allok_cons
    · exact ok_val _ fun ρ w' hN hc hF h0 hp => by have h68 := hp 6 _ _ rfl rfl rfl; simp [execOp, go_sem, hc, hF, h68] <;> rfl
    apply allok_cons
    · exact ok_alloc _ _ rfl zero_u
    apply allok_cons
    · exact ok_store _ 9 19 75 7 _ _ rfl rfl rfl rfl rfl rfl rfl rfl size_u rfl (by simp [Value.oneCell'])
    apply allok_cons
    · exact ok_val _ fun ρ w' hN hc hF h0 hp => by have h76 := hp 8 _ _ rfl rfl rfl; simp [execOp, go_sem, hc, hF, h76] <;> rfl
    exact allok_nil
  case hops => kernel_rfl
  case hlen => rfl
  case hputs => rfl
  intro g v3 hN1 hB hD
  simp [frame, gives, Act.put]
  have kk19 := (hB 9 _ _ 10 _ rfl rfl).1
  have B19 : Blk v3 (g 9) _ _ := (hB 9 _ _ 10 _ rfl rfl).2
  have B11 := B11.up hN1
  have B12 := B12.up hN1
  have B13 := B13.up hN1
  have B15 := B15.up hN1
  have B17 := B17.up hN1
  have N := new_trans N hN1
  generalize g 9 = p19 at *
  clear hB hD g hN1
  try clear c11
  try clear l11
  have c11 := B11.cell; have l11 := B11.lt
  try clear c12
  try clear l12
  have c12 := B12.cell; have l12 := B12.lt
  try clear c13
  try clear l13
  have c13 := B13.cell; have l13 := B13.lt
  try clear c15
  try clear l15
  have c15 := B15.cell; have l15 := B15.lt
  try clear c17
  try clear l17
  have c17 := B17.cell; have l17 := B17.lt
  try clear c19
  try clear l19
  have c19 := B19.cell; have l19 := B19.lt
  go_wp2_with fail
  refine (Mul_to a b n c (unhide hnM) (unhide ha) (unhide hb) (unhide ec) _).mono ?_
  rintro e v4 ⟨rfl, hb⟩
  have U : New v3 v4 := new_trans (by (repeat' (first | with_reducible exact new_refl _ | with_reducible assumption | with_reducible refine new_drewN ?_ _ | with_reducible refine new_drew ?_ | with_reducible refine new_alloc ?_ _ | with_reducible refine new_set ?_ ?_ _ | with_reducible refine new_freeze ?_ ?_ _ | with_reducible refine new_trans ?_ (by assumption) | (simp; done) | (simp; omega)))) hb
  have N : New w v4 := new_trans (by (repeat' (first | with_reducible exact new_refl _ | with_reducible assumption | with_reducible refine new_drewN ?_ _ | with_reducible refine new_drew ?_ | with_reducible refine new_alloc ?_ _ | with_reducible refine new_set ?_ ?_ _ | with_reducible refine new_freeze ?_ ?_ _ | with_reducible refine new_trans ?_ (by assumption) | (simp; done) | (simp; omega)))) hb
  have B11 := B11.up U
  have B12 := B12.up U
  have B13 := B13.up U
  have B15 := B15.up U
  have B17 := B17.up U
  try clear c11
  try clear l11
  try clear f11
  have c11 := B11.cell; have l11 := B11.lt
  try clear c12
  try clear l12
  try clear f12
  have c12 := B12.cell; have l12 := B12.lt
  try clear c13
  try clear l13
  try clear f13
  have c13 := B13.cell; have l13 := B13.lt
  try clear c15
  try clear l15
  try clear f15
  have c15 := B15.cell; have l15 := B15.lt
  try clear c17
  try clear l17
  try clear f17
  have c17 := B17.cell; have l17 := B17.lt
  clear hb U
  go_wp2_with fail
  generalize hY3 : World.alloc _ _ = Y3
  obtain ⟨NZ, B21⟩ := boxes1 hY3
  have B11 := B11.up NZ; have B12 := B12.up NZ; have B13 := B13.up NZ; have B15 := B15.up NZ; have B17 := B17.up NZ; have N := new_trans N NZ
  clear hY3 NZ
  apply region_okA
  case hm => kernel_rfl
  case hall =>
    apply allok_cons
    · exact ok_val _ fun ρ w' hN hc hF h0 hp => by have h12 := h0 12 rfl; (conv at h12 => (rhs; whnf)); simp [execOp, go_sem, hc, hF, h12] <;> rfl
    apply allok_cons
    · exact ok_val _ fun ρ w' hN hc hF h0 hp => by have h85 := hp 0 _ _ rfl rfl rfl; simp [execOp, go_sem, hc, hF, h85] <;> rfl
    apply allok_cons
    · exact ok_val _ fun ρ w' hN hc hF h0 hp => by have h86 := hp 1 _ _ rfl rfl rfl; have c := Blk.cell (B12.up hN); simp [execOp, go_sem, hc, hF, h86, c, q0, q1, q2, q3] <;> rfl
    apply allok_cons
    · exact ok_val _ fun ρ w' hN hc hF h0 hp => by have h15 := h0 15 rfl; (conv at h15 => (rhs; whnf)); have c := Blk.cell (B15.up hN); simp [execOp, go_sem, hc, hF, h15, c] <;> rfl
    apply allok_cons
    · exact ok_val _ fun ρ w' hN hc hF h0 hp => by have h11 := h0 11 rfl; (conv at h11 => (rhs; whnf)); have c := Blk.cell (B11.up hN); simp [execOp, go_sem, hc, hF, h11, c] <;> rfl
    apply allok_cons
    · refine ok_call 18 _ _ _ _ _ rfl Try.func18 (by kernel_rfl) (by kernel_rfl) ?_ (Pow_to x S n c (unhide hnM) (unhide hx) (unhide hS) (unhide ed)); intro a h0 hp; have h87 := hp 2 _ _ rfl rfl rfl; have h88 := hp 3 _ _ rfl rfl rfl; have h89 := hp 4 _ _ rfl rfl rfl; simp [h87, h88, h89]
    apply allok_cons
    · exact ok_val _ fun ρ w' hN hc hF h0 hp => by have h90 := hp 5 _ _ rfl rfl rfl; simp [execOp, go_sem, hc, hF, h90] <;> rfl
    apply allok_cons
    · exact ok_val _ fun ρ w' hN hc hF h0 hp => by have h84 := hp 6 _ _ rfl rfl rfl; simp [execOp, go_sem, hc, hF, h84] <;> rfl
    apply allok_cons
    · exact ok_val _ fun ρ w' hN hc hF h0 hp => by have h84 := hp 6 _ _ rfl rfl rfl; simp [execOp, go_sem, hc, hF, h84] <;> rfl
    apply allok_cons
    · exact ok_alloc _ _ rfl zero_u
    apply allok_cons
    · exact ok_store _ 9 23 91 7 _ _ rfl rfl rfl rfl rfl rfl rfl rfl size_u rfl (by simp [Value.oneCell'])
    apply allok_cons
    · exact ok_val _ fun ρ w' hN hc hF h0 hp => by have h92 := hp 8 _ _ rfl rfl rfl; simp [execOp, go_sem, hc, hF, h92] <;> rfl
    exact allok_nil
  case hops => kernel_rfl
  case hlen => rfl
  case hputs => rfl
  intro g v5 hN1 hB hD
  simp [frame, gives, Act.put]
  have kk23 := (hB 9 _ _ 10 _ rfl rfl).1
  have B23 : Blk v5 (g 9) _ _ := (hB 9 _ _ 10 _ rfl rfl).2
  have B11 := B11.up hN1
  have B12 := B12.up hN1
  have B13 := B13.up hN1
  have B17 := B17.up hN1
  have B21 := B21.up hN1
  have N := new_trans N hN1
  generalize g 9 = p23 at *
  clear hB hD g hN1
  try clear c11
  try clear l11
  have c11 := B11.cell; have l11 := B11.lt
  try clear c12
  try clear l12
  have c12 := B12.cell; have l12 := B12.lt
  try clear c13
  try clear l13
  have c13 := B13.cell; have l13 := B13.lt
  try clear c17
  try clear l17
  have c17 := B17.cell; have l17 := B17.lt
  try clear c21
  try clear l21
  have c21 := B21.cell; have l21 := B21.lt
  try clear c23
  try clear l23
  have c23 := B23.cell; have l23 := B23.lt
  go_wp2_with fail
  apply region_okA
  case hm => kernel_rfl
  case hall =>
    apply allok_cons
    · exact ok_val _ fun ρ w' hN hc hF h0 hp => by have h12 := h0 12 rfl; (conv at h12 => (rhs; whnf)); simp [execOp, go_sem, hc, hF, h12] <;> rfl
    apply allok_cons
    · exact ok_val _ fun ρ w' hN hc hF h0 hp => by have h94 := hp 0 _ _ rfl rfl rfl; simp [execOp, go_sem, hc, hF, h94] <;> rfl
    apply allok_cons
    · exact ok_val _ fun ρ w' hN hc hF h0 hp => by have h95 := hp 1 _ _ rfl rfl rfl; have c := Blk.cell (B12.up hN); simp [execOp, go_sem, hc, hF, h95, c, q0, q1, q2, q3] <;> rfl
    apply allok_cons
    · exact ok_val _ fun ρ w' hN hc hF h0 hp => by have h12 := h0 12 rfl; (conv at h12 => (rhs; whnf)); simp [execOp, go_sem, hc, hF, h12] <;> rfl
    apply allok_cons
    · exact ok_val _ fun ρ w' hN hc hF h0 hp => by have h97 := hp 3 _ _ rfl rfl rfl; simp [execOp, go_sem, hc, hF, h97] <;> rfl
    apply allok_cons
    · exact ok_val _ fun ρ w' hN hc hF h0 hp => by have h98 := hp 4 _ _ rfl rfl rfl; have c := Blk.cell (B12.up hN); simp [execOp, go_sem, hc, hF, h98, c, q4, q5, q6, q7] <;> rfl
    apply allok_cons
    · exact ok_val _ fun ρ w' hN hc hF h0 hp => by have h11 := h0 11 rfl; (conv at h11 => (rhs; whnf)); have c := Blk.cell (B11.up hN); simp [execOp, go_sem, hc, hF, h11, c] <;> rfl
    apply allok_cons
    · refine ok_call 12 _ _ _ _ _ rfl Try.func12 (by kernel_rfl) (by kernel_rfl) ?_ (Mul_to x y n xy (unhide hnM) (unhide hx) (unhide hy) (unhide exy)); intro a h0 hp; have h96 := hp 2 _ _ rfl rfl rfl; have h99 := hp 5 _ _ rfl rfl rfl; have h100 := hp 6 _ _ rfl rfl rfl; simp [h96, h99, h100]
    apply allok_cons
    · exact ok_val _ fun ρ w' hN hc hF h0 hp => by have h101 := hp 7 _ _ rfl rfl rfl; simp [execOp, go_sem, hc, hF, h101] <;> rfl
    apply allok_cons
    · exact ok_val _ fun ρ w' hN hc hF h0 hp => by have h93 := hp 8 _ _ rfl rfl rfl; simp [execOp, go_sem, hc, hF, h93] <;> rfl
    apply allok_cons
    · exact ok_val _ fun ρ w' hN hc hF h0 hp => by have h93 := hp 8 _ _ rfl rfl rfl; simp [execOp, go_sem, hc, hF, h93] <;> rfl
    apply allok_cons
    · exact ok_alloc _ _ rfl zero_u
    apply allok_cons
    · exact ok_store _ 11 25 102 9 _ _ rfl rfl rfl rfl rfl rfl rfl rfl size_u rfl (by simp [Value.oneCell'])
    apply allok_cons
    · exact ok_val _ fun ρ w' hN hc hF h0 hp => by have h103 := hp 10 _ _ rfl rfl rfl; simp [execOp, go_sem, hc, hF, h103] <;> rfl
    exact allok_nil
  case hops => kernel_rfl
  case hlen => rfl
  case hputs => rfl
  intro g v6 hN1 hB hD
  simp [frame, gives, Act.put]
  have kk25 := (hB 11 _ _ 12 _ rfl rfl).1
  have B25 : Blk v6 (g 11) _ _ := (hB 11 _ _ 12 _ rfl rfl).2
  have B11 := B11.up hN1
  have B12 := B12.up hN1
  have B13 := B13.up hN1
  have B17 := B17.up hN1
  have B21 := B21.up hN1
  have B23 := B23.up hN1
  have N := new_trans N hN1
  generalize g 11 = p25 at *
  clear hB hD g hN1
  try clear c11
  try clear l11
  have c11 := B11.cell; have l11 := B11.lt
  try clear c12
  try clear l12
  have c12 := B12.cell; have l12 := B12.lt
  try clear c13
  try clear l13
  have c13 := B13.cell; have l13 := B13.lt
  try clear c17
  try clear l17
  have c17 := B17.cell; have l17 := B17.lt
  try clear c21
  try clear l21
  have c21 := B21.cell; have l21 := B21.lt
  try clear c23
  try clear l23
  have c23 := B23.cell; have l23 := B23.lt
  try clear c25
  try clear l25
  have c25 := B25.cell; have l25 := B25.lt
  go_wp2_with fail
  refine (Pow_to xy P n t (unhide hnM) (unhide hxy) (unhide hPM) (unhide eu) _).mono ?_
  rintro e v7 ⟨rfl, hb⟩
  have U : New v6 v7 := new_trans (by (repeat' (first | with_reducible exact new_refl _ | with_reducible assumption | with_reducible refine new_drewN ?_ _ | with_reducible refine new_drew ?_ | with_reducible refine new_alloc ?_ _ | with_reducible refine new_set ?_ ?_ _ | with_reducible refine new_freeze ?_ ?_ _ | with_reducible refine new_trans ?_ (by assumption) | (simp; done) | (simp; omega)))) hb
  have N : New w v7 := new_trans (by (repeat' (first | with_reducible exact new_refl _ | with_reducible assumption | with_reducible refine new_drewN ?_ _ | with_reducible refine new_drew ?_ | with_reducible refine new_alloc ?_ _ | with_reducible refine new_set ?_ ?_ _ | with_reducible refine new_freeze ?_ ?_ _ | with_reducible refine new_trans ?_ (by assumption) | (simp; done) | (simp; omega)))) hb
  have B11 := B11.up U
  have B12 := B12.up U
  have B13 := B13.up U
  have B17 := B17.up U
  have B21 := B21.up U
  have B23 := B23.up U
  try clear c11
  try clear l11
  try clear f11
  have c11 := B11.cell; have l11 := B11.lt
  try clear c12
  try clear l12
  try clear f12
  have c12 := B12.cell; have l12 := B12.lt
  try clear c13
  try clear l13
  try clear f13
  have c13 := B13.cell; have l13 := B13.lt
  try clear c17
  try clear l17
  try clear f17
  have c17 := B17.cell; have l17 := B17.lt
  try clear c21
  try clear l21
  try clear f21
  have c21 := B21.cell; have l21 := B21.lt
  try clear c23
  try clear l23
  try clear f23
  have c23 := B23.cell; have l23 := B23.lt
  clear hb U
  go_wp2_with fail
  generalize hY4 : World.alloc _ _ = Y4
  obtain ⟨NZ, B27⟩ := boxes1 hY4
  have B11 := B11.up NZ; have B12 := B12.up NZ; have B13 := B13.up NZ; have B17 := B17.up NZ; have B21 := B21.up NZ; have B23 := B23.up NZ; have N := new_trans N NZ
  clear hY4 NZ
  apply region_okA
  case hm => kernel_rfl
  case hall =>
    apply allok_cons
    · exact ok_val _ fun ρ w' hN hc hF h0 hp => by have h12 := h0 12 rfl; (conv at h12 => (rhs; whnf)); simp [execOp, go_sem, hc, hF, h12] <;> rfl
    apply allok_cons
    · exact ok_val _ fun ρ w' hN hc hF h0 hp => by have h112 := hp 0 _ _ rfl rfl rfl; simp [execOp, go_sem, hc, hF, h112] <;> rfl
    apply allok_cons
    · exact ok_val _ fun ρ w' hN hc hF h0 hp => by have h113 := hp 1 _ _ rfl rfl rfl; have c := Blk.cell (B12.up hN); simp [execOp, go_sem, hc, hF, h113, c, q4, q5, q6, q7] <;> rfl
    apply allok_cons
    · exact ok_val _ fun ρ w' hN hc hF h0 hp => by have h13 := h0 13 rfl; (conv at h13 => (rhs; whnf)); have c := Blk.cell (B13.up hN); simp [execOp, go_sem, hc, hF, h13, c] <;> rfl
    apply allok_cons
    · exact ok_val _ fun ρ w' hN hc hF h0 hp => by have h11 := h0 11 rfl; (conv at h11 => (rhs; whnf)); have c := Blk.cell (B11.up hN); simp [execOp, go_sem, hc, hF, h11, c] <;> rfl
    apply allok_cons
    · refine ok_call 18 _ _ _ _ _ rfl Try.func18 (by kernel_rfl) (by kernel_rfl) ?_ (Pow_to y P n v (unhide hnM) (unhide hy) (unhide hPM) (unhide ev)); intro a h0 hp; have h114 := hp 2 _ _ rfl rfl rfl; have h115 := hp 3 _ _ rfl rfl rfl; have h116 := hp 4 _ _ rfl rfl rfl; simp [h114, h115, h116]
    apply allok_cons
    · exact ok_val _ fun ρ w' hN hc hF h0 hp => by have h117 := hp 5 _ _ rfl rfl rfl; simp [execOp, go_sem, hc, hF, h117] <;> rfl
    apply allok_cons
    · exact ok_val _ fun ρ w' hN hc hF h0 hp => by have h111 := hp 6 _ _ rfl rfl rfl; simp [execOp, go_sem, hc, hF, h111] <;> rfl
    apply allok_cons
    · exact ok_val _ fun ρ w' hN hc hF h0 hp => by have h111 := hp 6 _ _ rfl rfl rfl; simp [execOp, go_sem, hc, hF, h111] <;> rfl
    apply allok_cons
    · exact ok_alloc _ _ rfl zero_u
    apply allok_cons
    · exact ok_store _ 9 29 118 7 _ _ rfl rfl rfl rfl rfl rfl rfl rfl size_u rfl (by simp [Value.oneCell'])
    apply allok_cons
    · exact ok_val _ fun ρ w' hN hc hF h0 hp => by have h119 := hp 8 _ _ rfl rfl rfl; simp [execOp, go_sem, hc, hF, h119] <;> rfl
    exact allok_nil
  case hops => kernel_rfl
  case hlen => rfl
  case hputs => rfl
  intro g v8 hN1 hB hD
  simp [frame, gives, Act.put]
  have kk29 := (hB 9 _ _ 10 _ rfl rfl).1
  have B29 : Blk v8 (g 9) _ _ := (hB 9 _ _ 10 _ rfl rfl).2
  have B11 := B11.up hN1
  have B12 := B12.up hN1
  have B17 := B17.up hN1
  have B21 := B21.up hN1
  have B23 := B23.up hN1
  have B27 := B27.up hN1
  have N := new_trans N hN1
  generalize g 9 = p29 at *
  clear hB hD g hN1
  try clear c11
  try clear l11
  have c11 := B11.cell; have l11 := B11.lt
  try clear c12
  try clear l12
  have c12 := B12.cell; have l12 := B12.lt
  try clear c17
  try clear l17
  have c17 := B17.cell; have l17 := B17.lt
  try clear c21
  try clear l21
  have c21 := B21.cell; have l21 := B21.lt
  try clear c23
  try clear l23
  have c23 := B23.cell; have l23 := B23.lt
  try clear c27
  try clear l27
  have c27 := B27.cell; have l27 := B27.lt
  try clear c29
  try clear l29
  have c29 := B29.cell; have l29 := B29.lt
  clear B12 c12 l12 q0 q1 q2 q3 q4 q5 q6 q7
  go_wp2_with fail
  refine (Mul_to a v n t (unhide hnM) (unhide ha) (unhide hv) (unhide et) _).mono ?_
  rintro e v9 ⟨rfl, hb⟩
  have U : New v8 v9 := new_trans (by (repeat' (first | with_reducible exact new_refl _ | with_reducible assumption | with_reducible refine new_drewN ?_ _ | with_reducible refine new_drew ?_ | with_reducible refine new_alloc ?_ _ | with_reducible refine new_set ?_ ?_ _ | with_reducible refine new_freeze ?_ ?_ _ | with_reducible refine new_trans ?_ (by assumption) | (simp; done) | (simp; omega)))) hb
  have N : New w v9 := new_trans (by (repeat' (first | with_reducible exact new_refl _ | with_reducible assumption | with_reducible refine new_drewN ?_ _ | with_reducible refine new_drew ?_ | with_reducible refine new_alloc ?_ _ | with_reducible refine new_set ?_ ?_ _ | with_reducible refine new_freeze ?_ ?_ _ | with_reducible refine new_trans ?_ (by assumption) | (simp; done) | (simp; omega)))) hb
  have B17 := B17.up U
  have B21 := B21.up U
  have B23 := B23.up U
  have B27 := B27.up U
  have B29 := B29.up U
  try clear c17
  try clear l17
  try clear f17
  have c17 := B17.cell; have l17 := B17.lt
  try clear c21
  try clear l21
  try clear f21
  have c21 := B21.cell; have l21 := B21.lt
  try clear c23
  try clear l23
  try clear f23
  have c23 := B23.cell; have l23 := B23.lt
  try clear c27
  try clear l27
  try clear f27
  have c27 := B27.cell; have l27 := B27.lt
  try clear c29
  try clear l29
  try clear f29
  have c29 := B29.cell; have l29 := B29.lt
  clear hb U
  go_wp2_with fail
  refine (ftells_any _).mono ?_
  rintro e v10 ⟨rfl, hb⟩
  have U : New v9 v10 := new_trans (by (repeat' (first | with_reducible exact new_refl _ | with_reducible assumption | with_reducible refine new_drewN ?_ _ | with_reducible refine new_drew ?_ | with_reducible refine new_alloc ?_ _ | with_reducible refine new_set ?_ ?_ _ | with_reducible refine new_freeze ?_ ?_ _ | with_reducible refine new_trans ?_ (by assumption) | (simp; done) | (simp; omega)))) hb
  have N : New w v10 := new_trans (by (repeat' (first | with_reducible exact new_refl _ | with_reducible assumption | with_reducible refine new_drewN ?_ _ | with_reducible refine new_drew ?_ | with_reducible refine new_alloc ?_ _ | with_reducible refine new_set ?_ ?_ _ | with_reducible refine new_freeze ?_ ?_ _ | with_reducible refine new_trans ?_ (by assumption) | (simp; done) | (simp; omega)))) hb
  have B21 := B21.up U
  have B23 := B23.up U
  have B27 := B27.up U
  have B31 := (Blk.new_ v9 26 (uc t)).up hb
  try clear c21
  try clear l21
  try clear f21
  have c21 := B21.cell; have l21 := B21.lt
  try clear c23
  try clear l23
  try clear f23
  have c23 := B23.cell; have l23 := B23.lt
  try clear c27
  try clear l27
  try clear f27
  have c27 := B27.cell; have l27 := B27.lt
  try clear c31
  try clear l31
  try clear f31
  have c31 := B31.cell; have l31 := B31.lt
  clear hb U
  go_wp2
  go_ret
  exact ⟨by simp, by (repeat' (first | with_reducible exact new_refl _ | with_reducible assumption | with_reducible refine new_drewN ?_ _ | with_reducible refine new_drew ?_ | with_reducible refine new_alloc ?_ _ | with_reducible refine new_set ?_ ?_ _ | with_reducible refine new_freeze ?_ ?_ _ | with_reducible refine new_trans ?_ (by assumption) | (simp; done) | (simp; omega)))⟩

set_option maxRecDepth 100000 in
theorem lifted (os : Os) (started : os.Started) (H : Type) (enc : TypeId × Value → H) :
    ReturnsInHanded {} Try.checked os 6 .any (Rows.powerAddsSpec.pre6 enc Try.prog Try.f6 Rows.powerAddsRow.domain false) (Rows.powerAddsSpec.post enc Try.prog Try.f6 false true false false) := by
  refine returnsInHanded_of_change (C := Try.checked) own started (by kernel_rfl) Try.func6
    (ChangeSpec.witness6 (enc := enc) (C := Try.checked) false ⟨#[], #[.agg #[.int .i64 0, .int .i64 0, .int .i64 0, .string ⟨#[]⟩], .agg #[.int .i64 0, .int .i64 0, .int .i64 0, .string ⟨#[]⟩], .agg #[.int .i64 0, .int .i64 0, .int .i64 0, .string ⟨#[]⟩], .int .i64 0, .int .i64 0], []⟩ 8 (by kernel_rfl) (by kernel_rfl) (by kernel_rfl) (by kernel_rfl)) ?_
  intro W base args ds gs before hval0 hW hcnd _
  have hval : ∀ (j : Nat) t v, Try.f6.params[j]? = some t → args[j]? = some v → Value.okWide Try.prog W .any base t v := hval0
  have hW' := hW
  obtain ⟨p, q, hA0, hV, rfl, hfz, hnd⟩ := hW
  have hA : DataW.TrodAll enc Try.prog W 0 (fun _ => true) true Try.f6.params.toList args.toList ds p := hA0
  rw [Try.params6] at hA hval
  obtain ⟨v0, vs0, d0, ds0, p0, q0, hargs, rfl, rfl, h0, r0⟩ := trodAll_cons hA
  obtain ⟨v1, vs1, d1, ds1, p1, q1, rfl, rfl, rfl, h1, r1⟩ := trodAll_cons r0
  obtain ⟨v2, vs2, d2, ds2, p2, q2, rfl, rfl, rfl, h2, r2⟩ := trodAll_cons r1
  obtain ⟨v3, vs3, d3, ds3, p3, q3, rfl, rfl, rfl, h3, r3⟩ := trodAll_cons r2
  obtain ⟨v4, vs4, d4, ds4, p4, q4, rfl, rfl, rfl, h4, r4⟩ := trodAll_cons r3
  obtain ⟨rfl, rfl, rfl⟩ := trodAll_nil r4
  obtain rfl : args = #[v0, v1, v2, v3, v4] := by cases args; simp_all
  obtain ⟨rfl, rfl⟩ := trodVars_none hV
  obtain ⟨k1, a1, b1, s1, rfl, wk1, wa1, wb1, ws1⟩ := open_raw (hval 0 23 v0 rfl rfl) h0
  obtain ⟨k2, a2, b2, s2, rfl, wk2, wa2, wb2, ws2⟩ := open_raw (hval 1 23 v1 rfl rfl) h1
  obtain ⟨k3, a3, b3, s3, rfl, wk3, wa3, wb3, ws3⟩ := open_raw (hval 2 23 v2 rfl rfl) h2
  obtain ⟨n4, rfl, rfl, rfl, wn4⟩ := open_int Try.underlying3 (hval 3 3 v3 rfl rfl) h3
  obtain ⟨n5, rfl, rfl, rfl, wn5⟩ := open_int Try.underlying3 (hval 4 3 v4 rfl rfl) h4
  refine (walk k1 a1 b1 k2 a2 b2 k3 a3 b3 s1 s2 s3 n4 n5 W).mono fun e W' ⟨he, hN⟩ => ?_
  subst he
  exact ⟨_, rfl, law_post laidOut (by kernel_rfl) (by kernel_rfl) Try.underlying4 rfl hW' rfl hN⟩

theorem holds : Rows.PowerAddsSaid :=
  OpenClaim.holds_of_wide 6 Try.f6 rfl rfl rfl rfl rfl rfl rfl ⟨rfl, rfl, rfl, rfl, rfl⟩ rfl rfl rfl rfl rfl (by kernel_rfl) Try.func6 (by kernel_rfl)
    (of_decide_eq_true (by kernel_rfl)) (by unfold Func.isWrapper; first | (rw [if_pos (by decide +kernel)]; kernel_rfl) | (rw [if_neg (by decide +kernel)]; exact ⟨rfl, rfl⟩))
    (fun os started H enc _ => lifted os started H enc)

#print axioms holds
end Go.Proofs.Ytdelfiijbkhldaa.powerAdds
