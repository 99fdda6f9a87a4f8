/- wide.Mul: both halves of the product. -/
import Derived.Test.YtcgdcnhggejgbaaAdd
import Derived.Shelf.Bits.Mul64
import Derived.RegionTactic
import Derived.Test.YtcgdcnhggejgbaaSet
namespace Go.Proofs.Ytcgdcnhggejgbaa
open Go.RowKit Go.Shelf
set_option linter.unusedVariables false

def lays264_ren : Go.Shelf.Ren := ⟨fun | 264 => 34 | n => n, fun | 53 => 24 | 46 => 62 | n => n, fun | n => n⟩
theorem lays264 : Go.Proofs.Lays.n264 Try.prog lays264_ren := {
  mixed := by kernel_rfl
  f264 := Try.func34.trans (congrArg some (by kernel_rfl))
  t46 := Try.underlying62
  a46 := Try.isAgg62
  z46 := Try.sizeOf62
  v46 := Try.zeroValue62
  t53 := Try.underlying24
  a53 := Try.isAgg24
  z53 := Try.sizeOf24
  v53 := Try.zeroValue24 }
theorem mul64 (x y : Nat) (hx : x < 18446744073709551616) (hy : y < 18446744073709551616) (w : World) :
    Calls Try.prog 34 #[.int .u64 x, .int .u64 y] w fun e w' => e = .returned (.tuple #[.int .u64 ((x * y / 18446744073709551616 : Nat) : Int), .int .u64 ((x * y % 18446744073709551616 : Nat) : Int)]) ∧ w' = w := Any.bits_Mul64 lays264 x y hx hy w

/-- one step of the inner loop, in numbers: the product's two halves, what is added, what is carried -/
theorem mul_step (x y o c : Int) (hx : 0 ≤ x ∧ x < 18446744073709551616) (hy : 0 ≤ y ∧ y < 18446744073709551616) (ho : 0 ≤ o ∧ o < 18446744073709551616) (hc : 0 ≤ c ∧ c < 18446744073709551616) :
    ∃ hi lo s d s2 d2 : Int, (∀ w, Calls Try.prog 34 #[.int .u64 x, .int .u64 y] w fun e w' => e = .returned (.tuple #[.int .u64 hi, .int .u64 lo]) ∧ w = w') ∧
      (∀ w, (callFunc 32 #[.int .u64 lo, .int .u64 o, .int .u64 0]).run Try.prog w = .ok (.value (.tuple #[.int .u64 s, .int .u64 d])) w) ∧
      (∀ w, (callFunc 32 #[.int .u64 s, .int .u64 c, .int .u64 0]).run Try.prog w = .ok (.value (.tuple #[.int .u64 s2, .int .u64 d2])) w) ∧
      (0 ≤ hi ∧ 0 ≤ d) ∧ (hi + d < 18446744073709551616) ∧ 0 ≤ d2 ∧ hi + d + d2 < 18446744073709551616 ∧ (0 ≤ s2 ∧ s2 < 18446744073709551616) ∧ Hid (x * y + o + c = s2 + 18446744073709551616 * (hi + d + d2)) := by
  obtain ⟨hx0, hx1⟩ := hx; obtain ⟨hy0, hy1⟩ := hy; obtain ⟨ho0, ho1⟩ := ho; obtain ⟨hc0, hc1⟩ := hc
  obtain ⟨x, rfl⟩ := Int.eq_ofNat_of_zero_le hx0
  obtain ⟨y, rfl⟩ := Int.eq_ofNat_of_zero_le hy0
  have hp : x * y ≤ 18446744073709551615 * 18446744073709551615 := Nat.mul_le_mul (by omega) (by omega)
  have hM := mul64 x y (by omega) (by omega)
  obtain ⟨s, d, A1, s0, s1, d0, d1, e1⟩ := add64' ((x * y % 18446744073709551616 : Nat) : Int) o 0 (by omega) ho0 (by omega) ho1 (by decide) (by decide)
  obtain ⟨s2, d2, A2, t0, t1, f0, f1, e2⟩ := add64' s c 0 s0 hc0 s1 hc1 (by decide) (by decide)
  refine ⟨_, _, s, d, s2, d2, fun w => (hM w).mono fun e w' h => ⟨h.1, h.2.symm⟩, A1, A2, ⟨by omega, d0⟩, by omega, f0, by omega, ⟨t0, t1⟩, hide ?_⟩
  have e3 : ((x : Int) * y) = ((x * y : Nat) : Int) := by simp
  rw [e3]
  omega

theorem mul_sum (p00 p01 p02 p03 p10 p11 p12 p13 p20 p21 p22 p23 p30 p31 p32 p33 d00 d01 d02 d03 d10 d11 d12 d13 d20 d21 d22 d23 d30 d31 d32 d33 f00 f01 f02 f03 f10 f11 f12 f13 f20 f21 f22 f23 f30 f31 f32 f33 h00 h01 h02 h03 h10 h11 h12 h13 h20 h21 h22 h23 h30 h31 h32 h33 t00 t01 t02 t03 t10 t11 t12 t13 t20 t21 t22 t23 t30 t31 t32 t33 : Int)
    (E00 : p00 + 0 + (0) = t00 + 18446744073709551616 * (h00 + d00 + f00))
    (E01 : p01 + 0 + (h00 + d00 + f00) = t01 + 18446744073709551616 * (h01 + d01 + f01))
    (E02 : p02 + 0 + (h01 + d01 + f01) = t02 + 18446744073709551616 * (h02 + d02 + f02))
    (E03 : p03 + 0 + (h02 + d02 + f02) = t03 + 18446744073709551616 * (h03 + d03 + f03))
    (E10 : p10 + t01 + (0) = t10 + 18446744073709551616 * (h10 + d10 + f10))
    (E11 : p11 + t02 + (h10 + d10 + f10) = t11 + 18446744073709551616 * (h11 + d11 + f11))
    (E12 : p12 + t03 + (h11 + d11 + f11) = t12 + 18446744073709551616 * (h12 + d12 + f12))
    (E13 : p13 + (h03 + d03 + f03) + (h12 + d12 + f12) = t13 + 18446744073709551616 * (h13 + d13 + f13))
    (E20 : p20 + t11 + (0) = t20 + 18446744073709551616 * (h20 + d20 + f20))
    (E21 : p21 + t12 + (h20 + d20 + f20) = t21 + 18446744073709551616 * (h21 + d21 + f21))
    (E22 : p22 + t13 + (h21 + d21 + f21) = t22 + 18446744073709551616 * (h22 + d22 + f22))
    (E23 : p23 + (h13 + d13 + f13) + (h22 + d22 + f22) = t23 + 18446744073709551616 * (h23 + d23 + f23))
    (E30 : p30 + t21 + (0) = t30 + 18446744073709551616 * (h30 + d30 + f30))
    (E31 : p31 + t22 + (h30 + d30 + f30) = t31 + 18446744073709551616 * (h31 + d31 + f31))
    (E32 : p32 + t23 + (h31 + d31 + f31) = t32 + 18446744073709551616 * (h32 + d32 + f32))
    (E33 : p33 + (h23 + d23 + f23) + (h32 + d32 + f32) = t33 + 18446744073709551616 * (h33 + d33 + f33))
    : p00 + 18446744073709551616 * p01 + 340282366920938463463374607431768211456 * p02 + 6277101735386680763835789423207666416102355444464034512896 * p03 + 18446744073709551616 * p10 + 340282366920938463463374607431768211456 * p11 + 6277101735386680763835789423207666416102355444464034512896 * p12 + 115792089237316195423570985008687907853269984665640564039457584007913129639936 * p13 + 340282366920938463463374607431768211456 * p20 + 6277101735386680763835789423207666416102355444464034512896 * p21 + 115792089237316195423570985008687907853269984665640564039457584007913129639936 * p22 + 2135987035920910082395021706169552114602704522356652769947041607822219725780640550022962086936576 * p23 + 6277101735386680763835789423207666416102355444464034512896 * p30 + 115792089237316195423570985008687907853269984665640564039457584007913129639936 * p31 + 2135987035920910082395021706169552114602704522356652769947041607822219725780640550022962086936576 * p32 + 39402006196394479212279040100143613805079739270465446667948293404245721771497210611414266254884915640806627990306816 * p33 =
      t00 + 18446744073709551616 * t10 + 340282366920938463463374607431768211456 * t20 + 6277101735386680763835789423207666416102355444464034512896 * t30 + 115792089237316195423570985008687907853269984665640564039457584007913129639936 * t31 + 2135987035920910082395021706169552114602704522356652769947041607822219725780640550022962086936576 * t32 + 39402006196394479212279040100143613805079739270465446667948293404245721771497210611414266254884915640806627990306816 * t33 + 726838724295606890549323807888004534353641360687318060281490199180639288113397923326191050713763565560762521606266177933534601628614656 * (h33 + d33 + f33) := by
  omega

theorem mul_expand (a0 a1 a2 a3 b0 b1 b2 b3 : Int) : (a0 + 18446744073709551616 * a1 + 340282366920938463463374607431768211456 * a2 + 6277101735386680763835789423207666416102355444464034512896 * a3) * (b0 + 18446744073709551616 * b1 + 340282366920938463463374607431768211456 * b2 + 6277101735386680763835789423207666416102355444464034512896 * b3) =
    (a0 * b0) + 18446744073709551616 * (a0 * b1) + 340282366920938463463374607431768211456 * (a0 * b2) + 6277101735386680763835789423207666416102355444464034512896 * (a0 * b3) + 18446744073709551616 * (a1 * b0) + 340282366920938463463374607431768211456 * (a1 * b1) + 6277101735386680763835789423207666416102355444464034512896 * (a1 * b2) + 115792089237316195423570985008687907853269984665640564039457584007913129639936 * (a1 * b3) + 340282366920938463463374607431768211456 * (a2 * b0) + 6277101735386680763835789423207666416102355444464034512896 * (a2 * b1) + 115792089237316195423570985008687907853269984665640564039457584007913129639936 * (a2 * b2) + 2135987035920910082395021706169552114602704522356652769947041607822219725780640550022962086936576 * (a2 * b3) + 6277101735386680763835789423207666416102355444464034512896 * (a3 * b0) + 115792089237316195423570985008687907853269984665640564039457584007913129639936 * (a3 * b1) + 2135987035920910082395021706169552114602704522356652769947041607822219725780640550022962086936576 * (a3 * b2) + 39402006196394479212279040100143613805079739270465446667948293404245721771497210611414266254884915640806627990306816 * (a3 * b3) := by
  grind

theorem mul_halves (n : Nat) (z0 z1 z2 z3 z4 z5 z6 z7 : Int) (h0 : 0 ≤ z0 ∧ z0 < 18446744073709551616) (h1 : 0 ≤ z1 ∧ z1 < 18446744073709551616) (h2 : 0 ≤ z2 ∧ z2 < 18446744073709551616) (h3 : 0 ≤ z3 ∧ z3 < 18446744073709551616) (h4 : 0 ≤ z4 ∧ z4 < 18446744073709551616) (h5 : 0 ≤ z5 ∧ z5 < 18446744073709551616) (h6 : 0 ≤ z6 ∧ z6 < 18446744073709551616) (h7 : 0 ≤ z7 ∧ z7 < 18446744073709551616)
    (h : (n : Int) = z0 + 18446744073709551616 * z1 + 340282366920938463463374607431768211456 * z2 + 6277101735386680763835789423207666416102355444464034512896 * z3 + 115792089237316195423570985008687907853269984665640564039457584007913129639936 * z4 + 2135987035920910082395021706169552114602704522356652769947041607822219725780640550022962086936576 * z5 + 39402006196394479212279040100143613805079739270465446667948293404245721771497210611414266254884915640806627990306816 * z6 + 726838724295606890549323807888004534353641360687318060281490199180639288113397923326191050713763565560762521606266177933534601628614656 * z7) :
    Value.tuple #[.agg #[.int .u64 z0, .int .u64 z1, .int .u64 z2, .int .u64 z3], .agg #[.int .u64 z4, .int .u64 z5, .int .u64 z6, .int .u64 z7]] = Value.tuple #[u (n % M256), u (n / M256)] := by
  obtain ⟨h0, k0⟩ := h0; obtain ⟨h1, k1⟩ := h1; obtain ⟨h2, k2⟩ := h2; obtain ⟨h3, k3⟩ := h3; obtain ⟨h4, k4⟩ := h4; obtain ⟨h5, k5⟩ := h5; obtain ⟨h6, k6⟩ := h6; obtain ⟨h7, k7⟩ := h7
  obtain ⟨e0, e1, e2, e3⟩ := lim_of n z0 z1 z2 z3 (z4 + 18446744073709551616 * z5 + 340282366920938463463374607431768211456 * z6 + 6277101735386680763835789423207666416102355444464034512896 * z7) h0 k0 h1 k1 h2 k2 h3 k3 (by omega)
  have hd : ((n / M256 : Nat) : Int) = z4 + 18446744073709551616 * z5 + 340282366920938463463374607431768211456 * z6 + 6277101735386680763835789423207666416102355444464034512896 * z7 + 115792089237316195423570985008687907853269984665640564039457584007913129639936 * 0 := by unfold M256; omega
  obtain ⟨e4, e5, e6, e7⟩ := lim_of (n / M256) z4 z5 z6 z7 0 h4 k4 h5 k5 h6 k6 h7 k7 hd
  rw [u_mod, u, u, e0, e1, e2, e3, e4, e5, e6, e7]

set_option maxHeartbeats 4000000 in
theorem mul_walk (a0 a1 a2 a3 b0 b1 b2 b3 : Int) (ha0 : 0 ≤ a0 ∧ a0 < 18446744073709551616) (ha1 : 0 ≤ a1 ∧ a1 < 18446744073709551616) (ha2 : 0 ≤ a2 ∧ a2 < 18446744073709551616) (ha3 : 0 ≤ a3 ∧ a3 < 18446744073709551616) (hb0 : 0 ≤ b0 ∧ b0 < 18446744073709551616) (hb1 : 0 ≤ b1 ∧ b1 < 18446744073709551616) (hb2 : 0 ≤ b2 ∧ b2 < 18446744073709551616) (hb3 : 0 ≤ b3 ∧ b3 < 18446744073709551616) (a b : Nat) (va : (a : Int) = a0 + 18446744073709551616 * a1 + 340282366920938463463374607431768211456 * a2 + 6277101735386680763835789423207666416102355444464034512896 * a3) (vb : (b : Int) = b0 + 18446744073709551616 * b1 + 340282366920938463463374607431768211456 * b2 + 6277101735386680763835789423207666416102355444464034512896 * b3) (w : World) :
    Calls Try.prog 24 #[.agg #[.int .u64 a0, .int .u64 a1, .int .u64 a2, .int .u64 a3], .agg #[.int .u64 b0, .int .u64 b1, .int .u64 b2, .int .u64 b3]] w fun e w' => e = .returned (.tuple #[u (a * b % M256), u (a * b / M256)]) ∧ New w w' := by
  obtain ⟨h00, l00, s00, d00, t00, f00, M00, A00, C00, ⟨p00, q00⟩, r00, u00, v00, bt00, E00⟩ := mul_step a0 b0 0 (0) ha0 hb0 ⟨by decide, by decide⟩ ⟨by decide, by decide⟩
  obtain ⟨h01, l01, s01, d01, t01, f01, M01, A01, C01, ⟨p01, q01⟩, r01, u01, v01, bt01, E01⟩ := mul_step a0 b1 0 (h00 + d00 + f00) ha0 hb1 ⟨by decide, by decide⟩ ⟨by omega, by omega⟩
  obtain ⟨h02, l02, s02, d02, t02, f02, M02, A02, C02, ⟨p02, q02⟩, r02, u02, v02, bt02, E02⟩ := mul_step a0 b2 0 (h01 + d01 + f01) ha0 hb2 ⟨by decide, by decide⟩ ⟨by omega, by omega⟩
  obtain ⟨h03, l03, s03, d03, t03, f03, M03, A03, C03, ⟨p03, q03⟩, r03, u03, v03, bt03, E03⟩ := mul_step a0 b3 0 (h02 + d02 + f02) ha0 hb3 ⟨by decide, by decide⟩ ⟨by omega, by omega⟩
  obtain ⟨h10, l10, s10, d10, t10, f10, M10, A10, C10, ⟨p10, q10⟩, r10, u10, v10, bt10, E10⟩ := mul_step a1 b0 t01 (0) ha1 hb0 bt01 ⟨by decide, by decide⟩
  obtain ⟨h11, l11, s11, d11, t11, f11, M11, A11, C11, ⟨p11, q11⟩, r11, u11, v11, bt11, E11⟩ := mul_step a1 b1 t02 (h10 + d10 + f10) ha1 hb1 bt02 ⟨by omega, by omega⟩
  obtain ⟨h12, l12, s12, d12, t12, f12, M12, A12, C12, ⟨p12, q12⟩, r12, u12, v12, bt12, E12⟩ := mul_step a1 b2 t03 (h11 + d11 + f11) ha1 hb2 bt03 ⟨by omega, by omega⟩
  obtain ⟨h13, l13, s13, d13, t13, f13, M13, A13, C13, ⟨p13, q13⟩, r13, u13, v13, bt13, E13⟩ := mul_step a1 b3 (h03 + d03 + f03) (h12 + d12 + f12) ha1 hb3 ⟨by omega, by omega⟩ ⟨by omega, by omega⟩
  obtain ⟨h20, l20, s20, d20, t20, f20, M20, A20, C20, ⟨p20, q20⟩, r20, u20, v20, bt20, E20⟩ := mul_step a2 b0 t11 (0) ha2 hb0 bt11 ⟨by decide, by decide⟩
  obtain ⟨h21, l21, s21, d21, t21, f21, M21, A21, C21, ⟨p21, q21⟩, r21, u21, v21, bt21, E21⟩ := mul_step a2 b1 t12 (h20 + d20 + f20) ha2 hb1 bt12 ⟨by omega, by omega⟩
  obtain ⟨h22, l22, s22, d22, t22, f22, M22, A22, C22, ⟨p22, q22⟩, r22, u22, v22, bt22, E22⟩ := mul_step a2 b2 t13 (h21 + d21 + f21) ha2 hb2 bt13 ⟨by omega, by omega⟩
  obtain ⟨h23, l23, s23, d23, t23, f23, M23, A23, C23, ⟨p23, q23⟩, r23, u23, v23, bt23, E23⟩ := mul_step a2 b3 (h13 + d13 + f13) (h22 + d22 + f22) ha2 hb3 ⟨by omega, by omega⟩ ⟨by omega, by omega⟩
  obtain ⟨h30, l30, s30, d30, t30, f30, M30, A30, C30, ⟨p30, q30⟩, r30, u30, v30, bt30, E30⟩ := mul_step a3 b0 t21 (0) ha3 hb0 bt21 ⟨by decide, by decide⟩
  obtain ⟨h31, l31, s31, d31, t31, f31, M31, A31, C31, ⟨p31, q31⟩, r31, u31, v31, bt31, E31⟩ := mul_step a3 b1 t22 (h30 + d30 + f30) ha3 hb1 bt22 ⟨by omega, by omega⟩
  obtain ⟨h32, l32, s32, d32, t32, f32, M32, A32, C32, ⟨p32, q32⟩, r32, u32, v32, bt32, E32⟩ := mul_step a3 b2 t23 (h31 + d31 + f31) ha3 hb2 bt23 ⟨by omega, by omega⟩
  obtain ⟨h33, l33, s33, d33, t33, f33, M33, A33, C33, ⟨p33, q33⟩, r33, u33, v33, bt33, E33⟩ := mul_step a3 b3 (h23 + d23 + f23) (h32 + d32 + f32) ha3 hb3 ⟨by omega, by omega⟩ ⟨by omega, by omega⟩
  have S := mul_sum _ _ _ _ _ _ _ _ _ _ _ _ _ _ _ _ _ _ _ _ _ _ _ _ _ _ _ _ _ _ _ _ _ _ _ _ _ _ _ _ _ _ _ _ _ _ _ _ _ _ _ _ _ _ _ _ _ _ _ _ _ _ _ _ _ _ _ _ _ _ _ _ _ _ _ _ _ _ _ _ (unhide E00) (unhide E01) (unhide E02) (unhide E03) (unhide E10) (unhide E11) (unhide E12) (unhide E13) (unhide E20) (unhide E21) (unhide E22) (unhide E23) (unhide E30) (unhide E31) (unhide E32) (unhide E33)
  have X := mul_expand a0 a1 a2 a3 b0 b1 b2 b3
  rw [← va, ← vb, S] at X
  have R := hide (mul_halves (a * b) (t00) (t10) (t20) (t30) (t31) (t32) (t33) ((h33 + d33 + f33)) bt00 bt10 bt20 bt30 bt31 bt32 bt33 ⟨by omega, by omega⟩ (by rw [← X]; simp))
  clear S X va vb
  have ia0 : ∀ w, (Instr.index 26 (.agg #[.int .u64 a0, .int .u64 a1, .int .u64 a2, .int .u64 a3]) (.int .i64 0)).run Try.prog w = .ok (.int .u64 a0) w := fun _ => by kernel_rfl
  have ib0 : ∀ w, (Instr.index 26 (.agg #[.int .u64 b0, .int .u64 b1, .int .u64 b2, .int .u64 b3]) (.int .i64 0)).run Try.prog w = .ok (.int .u64 b0) w := fun _ => by kernel_rfl
  have ia1 : ∀ w, (Instr.index 26 (.agg #[.int .u64 a0, .int .u64 a1, .int .u64 a2, .int .u64 a3]) (.int .i64 1)).run Try.prog w = .ok (.int .u64 a1) w := fun _ => by kernel_rfl
  have ib1 : ∀ w, (Instr.index 26 (.agg #[.int .u64 b0, .int .u64 b1, .int .u64 b2, .int .u64 b3]) (.int .i64 1)).run Try.prog w = .ok (.int .u64 b1) w := fun _ => by kernel_rfl
  have ia2 : ∀ w, (Instr.index 26 (.agg #[.int .u64 a0, .int .u64 a1, .int .u64 a2, .int .u64 a3]) (.int .i64 2)).run Try.prog w = .ok (.int .u64 a2) w := fun _ => by kernel_rfl
  have ib2 : ∀ w, (Instr.index 26 (.agg #[.int .u64 b0, .int .u64 b1, .int .u64 b2, .int .u64 b3]) (.int .i64 2)).run Try.prog w = .ok (.int .u64 b2) w := fun _ => by kernel_rfl
  have ia3 : ∀ w, (Instr.index 26 (.agg #[.int .u64 a0, .int .u64 a1, .int .u64 a2, .int .u64 a3]) (.int .i64 3)).run Try.prog w = .ok (.int .u64 a3) w := fun _ => by kernel_rfl
  have ib3 : ∀ w, (Instr.index 26 (.agg #[.int .u64 b0, .int .u64 b1, .int .u64 b2, .int .u64 b3]) (.int .i64 3)).run Try.prog w = .ok (.int .u64 b3) w := fun _ => by kernel_rfl
  go_enter Try.func24, Try.ntmps24
  go_wp2
  refine wp_loop_rounds 5 ?_
  rw [rounds_succ]; go_wp2
  refine wp_loop_rounds 5 ?_
  rw [rounds_succ]; go_wp2_with (go_at_call 34; refine (M00 _).mono ?_; rintro e w' ⟨rfl, rfl⟩)
  rw [rounds_succ]; go_wp2_with (go_at_call 34; refine (M01 _).mono ?_; rintro e w' ⟨rfl, rfl⟩)
  rw [rounds_succ]; go_wp2_with (go_at_call 34; refine (M02 _).mono ?_; rintro e w' ⟨rfl, rfl⟩)
  rw [rounds_succ]; go_wp2_with (go_at_call 34; refine (M03 _).mono ?_; rintro e w' ⟨rfl, rfl⟩)
  rw [rounds_succ]; go_wp2
  rw [rounds_succ]; go_wp2
  refine wp_loop_rounds 5 ?_
  rw [rounds_succ]; go_wp2_with (go_at_call 34; refine (M10 _).mono ?_; rintro e w' ⟨rfl, rfl⟩)
  rw [rounds_succ]; go_wp2_with (go_at_call 34; refine (M11 _).mono ?_; rintro e w' ⟨rfl, rfl⟩)
  rw [rounds_succ]; go_wp2_with (go_at_call 34; refine (M12 _).mono ?_; rintro e w' ⟨rfl, rfl⟩)
  rw [rounds_succ]; go_wp2_with (go_at_call 34; refine (M13 _).mono ?_; rintro e w' ⟨rfl, rfl⟩)
  rw [rounds_succ]; go_wp2
  rw [rounds_succ]; go_wp2
  refine wp_loop_rounds 5 ?_
  rw [rounds_succ]; go_wp2_with (go_at_call 34; refine (M20 _).mono ?_; rintro e w' ⟨rfl, rfl⟩)
  rw [rounds_succ]; go_wp2_with (go_at_call 34; refine (M21 _).mono ?_; rintro e w' ⟨rfl, rfl⟩)
  rw [rounds_succ]; go_wp2_with (go_at_call 34; refine (M22 _).mono ?_; rintro e w' ⟨rfl, rfl⟩)
  rw [rounds_succ]; go_wp2_with (go_at_call 34; refine (M23 _).mono ?_; rintro e w' ⟨rfl, rfl⟩)
  rw [rounds_succ]; go_wp2
  rw [rounds_succ]; go_wp2
  refine wp_loop_rounds 5 ?_
  rw [rounds_succ]; go_wp2_with (go_at_call 34; refine (M30 _).mono ?_; rintro e w' ⟨rfl, rfl⟩)
  rw [rounds_succ]; go_wp2_with (go_at_call 34; refine (M31 _).mono ?_; rintro e w' ⟨rfl, rfl⟩)
  rw [rounds_succ]; go_wp2_with (go_at_call 34; refine (M32 _).mono ?_; rintro e w' ⟨rfl, rfl⟩)
  rw [rounds_succ]; go_wp2_with (go_at_call 34; refine (M33 _).mono ?_; rintro e w' ⟨rfl, rfl⟩)
  rw [rounds_succ]; go_wp2
  rw [rounds_succ]; go_wp2
  clear E00 M00 A00 C00 E01 M01 A01 C01 E02 M02 A02 C02 E03 M03 A03 C03 E10 M10 A10 C10 E11 M11 A11 C11 E12 M12 A12 C12 E13 M13 A13 C13 E20 M20 A20 C20 E21 M21 A21 C21 E22 M22 A22 C22 E23 M23 A23 C23 E30 M30 A30 C30 E31 M31 A31 C31 E32 M32 A32 C32 E33 M33 A33 C33
  clear ia0 ib0 ia1 ib1 ia2 ib2 ia3 ib3
  generalize hW : World.alloc _ _ = W
  have B6 : Blk W (w.heap.size + 1 + 1 + 1 + 1) 58 #[.int .u64 (t00), .int .u64 (t10), .int .u64 (t20), .int .u64 (t30), .int .u64 (t31), .int .u64 (t32), .int .u64 (t33), .int .u64 ((h33 + d33 + f33))] := by rw [← hW]; exact Blk.new4 _ _ _ _ _ _ _
  have B5 : Blk W (w.heap.size + 1 + 1 + 1) 26 #[.int .u64 0, .int .u64 0, .int .u64 0, .int .u64 0] := by rw [← hW]; exact (Blk.new3 _ _ _ _ _ _).al _
  have B4 : Blk W (w.heap.size + 1 + 1) 26 #[.int .u64 0, .int .u64 0, .int .u64 0, .int .u64 0] := by rw [← hW]; exact ((Blk.new2 _ _ _ _ _).al _).al _
  have N : New w W := by rw [← hW]; (repeat' (first | with_reducible exact new_refl _ | with_reducible assumption | with_reducible refine new_drewN ?_ _ | with_reducible refine new_drew ?_ | with_reducible refine new_alloc ?_ _ | with_reducible refine new_set ?_ ?_ _ | with_reducible refine new_freeze ?_ ?_ _ | with_reducible refine new_trans ?_ (by assumption) | (simp; done) | (simp; omega)))
  have n54 : w.heap.size + 1 + 1 ≠ w.heap.size + 1 + 1 + 1 := by omega
  have n64 : w.heap.size + 1 + 1 + 1 + 1 ∉ [w.heap.size + 1 + 1, w.heap.size + 1 + 1 + 1] := by simp; omega
  have l4 : w.heap.size ≤ w.heap.size + 1 + 1 := by omega
  have l5 : w.heap.size ≤ w.heap.size + 1 + 1 + 1 := by omega
  clear hW
  generalize w.heap.size + 1 + 1 + 1 + 1 = g6 at *
  generalize w.heap.size + 1 + 1 + 1 = g5 at *
  generalize w.heap.size + 1 + 1 = g4 at *
  have hc6 : ∀ w', Keep [g4, g5] W w' → ∀ i, w'.cell? ⟨g6, i, none⟩ = #[.int .u64 (t00), .int .u64 (t10), .int .u64 (t20), .int .u64 (t30), .int .u64 (t31), .int .u64 (t32), .int .u64 (t33), .int .u64 ((h33 + d33 + f33))][i]? := fun w' h i => Blk.cell ((h.block g6 B6.lt n64).trans B6) i
  refine region_set (by kernel_rfl) [.inl (.pointer (some ⟨g6, 0, none⟩)), .inl (.int .u64 (t00)), .inl (.pointer (some ⟨g6, 1, none⟩)), .inl (.int .u64 (t10)), .inl (.pointer (some ⟨g6, 2, none⟩)), .inl (.int .u64 (t20)), .inl (.pointer (some ⟨g6, 3, none⟩)), .inl (.int .u64 (t30)), .inl (.agg #[.int .u64 (t00), .int .u64 (t10), .int .u64 (t20), .int .u64 (t30)]), .inl (.pointer (some ⟨g6, 4, none⟩)), .inl (.int .u64 (t31)), .inl (.pointer (some ⟨g6, 5, none⟩)), .inl (.int .u64 (t32)), .inl (.pointer (some ⟨g6, 6, none⟩)), .inl (.int .u64 (t33)), .inl (.pointer (some ⟨g6, 7, none⟩)), .inl (.int .u64 ((h33 + d33 + f33))), .inl (.agg #[.int .u64 (t31), .int .u64 (t32), .int .u64 (t33), .int .u64 ((h33 + d33 + f33))]), .inr (.inr (0, #[.int .u64 (t00), .int .u64 (t10), .int .u64 (t20), .int .u64 (t30)])), .inr (.inr (1, #[.int .u64 (t31), .int .u64 (t32), .int .u64 (t33), .int .u64 ((h33 + d33 + f33))]))] [g4, g5] (by simp [n54]) rfl (by kernel_rfl) rfl ?_ ?_
  · refine ⟨?_, ?_, ?_, ?_, ?_, ?_, ?_, ?_, ?_, ?_, ?_, ?_, ?_, ?_, ?_, ?_, ?_, ?_, ?_, ?_, trivial⟩
    · exact set_val _ fun ρ w' _ hc h0 _ => by have h : ρ (.tmp 6) = .pointer (some ⟨g6, 0, none⟩) := h0 6 rfl; simp [execOp, go_sem, hc, h]
    · exact set_val _ fun ρ w' hk _ _ hp => by have h := hp 0 _ _ rfl rfl rfl; have hc := hc6 w' hk; simp [execOp, go_sem, h, hc]
    · exact set_val _ fun ρ w' _ hc h0 _ => by have h : ρ (.tmp 6) = .pointer (some ⟨g6, 0, none⟩) := h0 6 rfl; simp [execOp, go_sem, hc, h]
    · exact set_val _ fun ρ w' hk _ _ hp => by have h := hp 2 _ _ rfl rfl rfl; have hc := hc6 w' hk; simp [execOp, go_sem, h, hc]
    · exact set_val _ fun ρ w' _ hc h0 _ => by have h : ρ (.tmp 6) = .pointer (some ⟨g6, 0, none⟩) := h0 6 rfl; simp [execOp, go_sem, hc, h]
    · exact set_val _ fun ρ w' hk _ _ hp => by have h := hp 4 _ _ rfl rfl rfl; have hc := hc6 w' hk; simp [execOp, go_sem, h, hc]
    · exact set_val _ fun ρ w' _ hc h0 _ => by have h : ρ (.tmp 6) = .pointer (some ⟨g6, 0, none⟩) := h0 6 rfl; simp [execOp, go_sem, hc, h]
    · exact set_val _ fun ρ w' hk _ _ hp => by have h := hp 6 _ _ rfl rfl rfl; have hc := hc6 w' hk; simp [execOp, go_sem, h, hc]
    · exact set_val _ fun ρ w' _ _ _ hp => by have h0 := hp 1 _ _ rfl rfl rfl; have h1 := hp 3 _ _ rfl rfl rfl; have h2 := hp 5 _ _ rfl rfl rfl; have h3 := hp 7 _ _ rfl rfl rfl; simp [execOp, go_sem, h0, h1, h2, h3]
    · exact set_val _ fun ρ w' _ hc h0 _ => by have h : ρ (.tmp 6) = .pointer (some ⟨g6, 0, none⟩) := h0 6 rfl; simp [execOp, go_sem, hc, h]
    · exact set_val _ fun ρ w' hk _ _ hp => by have h := hp 9 _ _ rfl rfl rfl; have hc := hc6 w' hk; simp [execOp, go_sem, h, hc]
    · exact set_val _ fun ρ w' _ hc h0 _ => by have h : ρ (.tmp 6) = .pointer (some ⟨g6, 0, none⟩) := h0 6 rfl; simp [execOp, go_sem, hc, h]
    · exact set_val _ fun ρ w' hk _ _ hp => by have h := hp 11 _ _ rfl rfl rfl; have hc := hc6 w' hk; simp [execOp, go_sem, h, hc]
    · exact set_val _ fun ρ w' _ hc h0 _ => by have h : ρ (.tmp 6) = .pointer (some ⟨g6, 0, none⟩) := h0 6 rfl; simp [execOp, go_sem, hc, h]
    · exact set_val _ fun ρ w' hk _ _ hp => by have h := hp 13 _ _ rfl rfl rfl; have hc := hc6 w' hk; simp [execOp, go_sem, h, hc]
    · exact set_val _ fun ρ w' _ hc h0 _ => by have h : ρ (.tmp 6) = .pointer (some ⟨g6, 0, none⟩) := h0 6 rfl; simp [execOp, go_sem, hc, h]
    · exact set_val _ fun ρ w' hk _ _ hp => by have h := hp 15 _ _ rfl rfl rfl; have hc := hc6 w' hk; simp [execOp, go_sem, h, hc]
    · exact set_val _ fun ρ w' _ _ _ hp => by have h0 := hp 10 _ _ rfl rfl rfl; have h1 := hp 12 _ _ rfl rfl rfl; have h2 := hp 14 _ _ rfl rfl rfl; have h3 := hp 16 _ _ rfl rfl rfl; simp [execOp, go_sem, h0, h1, h2, h3]
    · exact set_store 26 0 g4 4 72 8 _ _ _ rfl rfl rfl B4 rfl rfl rfl rfl rfl (by kernel_rfl) rfl (by simp [Value.oneCell'])
    · exact set_store 26 1 g5 5 81 17 _ _ _ rfl rfl rfl B5 rfl rfl rfl rfl rfl (by kernel_rfl) rfl (by simp [Value.oneCell'])
  · intro w' hK hB
    have N := hK.since N (by simp [l4, l5])
    have c4 := Blk.cell (hB 0 g4 18 _ _ _ rfl rfl B4)
    have c5 := Blk.cell (hB 1 g5 19 _ _ _ rfl rfl B5)
    simp [frame, gives, Act.put]
    go_wp2
    exact bodyPost_ret (v := .tuple #[.agg #[.int .u64 (t00), .int .u64 (t10), .int .u64 (t20), .int .u64 (t30)], .agg #[.int .u64 (t31), .int .u64 (t32), .int .u64 (t33), .int .u64 ((h33 + d33 + f33))]]) (by simp [results, Try.results24, go_sem, c4, c5]) rfl ⟨by rw [unhide R], N⟩

theorem mul_any (a b : Nat) (ha : a < M256) (hb : b < M256) (w : World) :
    Calls Try.prog 24 #[u a, u b] w fun e w' => e = .returned (.tuple #[u (a * b % M256), u (a * b / M256)]) ∧ New w w' :=
  mul_walk _ _ _ _ _ _ _ _ (lim_bd a 0) (lim_bd a 1) (lim_bd a 2) (lim_bd a 3) (lim_bd b 0) (lim_bd b 1) (lim_bd b 2) (lim_bd b 3) a b (val_lim a ha) (val_lim b hb) w

theorem mul_is (a b l h : Nat) (ha : a < M256) (hb : b < M256) (hl : a * b % M256 = l) (hh : a * b / M256 = h) (w : World) :
    Calls Try.prog 24 #[u a, u b] w fun e w' => e = .returned (.tuple #[u l, u h]) ∧ New w w' := hl ▸ hh ▸ mul_any a b ha hb w
end Go.Proofs.Ytcgdcnhggejgbaa

