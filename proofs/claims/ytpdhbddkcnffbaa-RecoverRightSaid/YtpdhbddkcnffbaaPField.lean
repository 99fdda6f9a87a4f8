/- What the functions of wide and field make of numbers, as contracts over data. Conditions: the numbers are below 2 to the 256, those of a ring below its modulus. -/
import Derived.Test.YtpdhbddkcnffbaaDNum
import Derived.Test.YtpdhbddkcnffbaaInv
namespace Go.Proofs.Ytpdhbddkcnffbaa
open Go.RowKit
set_option linter.unusedVariables false
set_option maxRecDepth 100000

theorem U_zero : U 0 = .agg [.int .u64 0, .int .u64 0, .int .u64 0, .int .u64 0] := rfl
theorem p_wadd (a b s : Nat) (o : Bool) (ha : a < M256) (hb : b < M256) (hs : (a + b) % M256 = s) (ho : decide (M256 ≤ a + b) = o) : Pur Try.prog 14 [U a, U b] (.tup [U s, .bool o]) :=
  pur_of_calls (vs := [u a, u b]) rfl rfl rfl (add_is a b s o ha hb hs ho)
theorem p_wsub (a b s : Nat) (o : Bool) (ha : a < M256) (hb : b < M256) (hs : (a + M256 - b) % M256 = s) (ho : decide (a < b) = o) : Pur Try.prog 38 [U a, U b] (.tup [U s, .bool o]) :=
  pur_of_calls (vs := [u a, u b]) rfl rfl rfl (sub_is a b s o ha hb hs ho)
theorem p_cmp (a b : Nat) (c : Int) (ha : a < M256) (hb : b < M256) (hc : cmpI a b = c) : Pur Try.prog 15 [U a, U b] (.int .i64 c) :=
  pur_of_calls (vs := [u a, u b]) rfl rfl rfl (cmp_is a b c ha hb hc)
theorem p_div (a b q r : Nat) (ha : a < M256) (hb : b < M256) (hb0 : 0 < b) (hq : a / b = q) (hr : a % b = r) : Pur Try.prog 34 [U a, U b] (.tup [U q, U r, .int .i64 0]) :=
  pur_of_calls (vs := [u a, u b]) rfl rfl rfl (div_to a b q r ha hb hb0 hq hr)
theorem p_fadd (a b m r : Nat) (hm : m < M256) (ha : a < m) (hb : b < m) (hr : (a + b) % m = r) : Pur Try.prog 45 [U a, U b, U m] (.tup [U r, .int .i64 0]) :=
  pur_of_calls (vs := [u a, u b, u m]) rfl rfl rfl (Add_to a b m r hm ha hb hr)
theorem p_fsub (a b m r : Nat) (hm : m < M256) (ha : a < m) (hb : b < m) (hr : (a + m - b) % m = r) : Pur Try.prog 21 [U a, U b, U m] (.tup [U r, .int .i64 0]) :=
  pur_of_calls (vs := [u a, u b, u m]) rfl rfl rfl (Sub_to a b m r hm ha hb hr)
theorem p_fmul (a b m r : Nat) (hm : m < M256) (ha : a < m) (hb : b < m) (hr : a * b % m = r) : Pur Try.prog 18 [U a, U b, U m] (.tup [U r, .int .i64 0]) :=
  pur_of_calls (vs := [u a, u b, u m]) rfl rfl rfl (Mul_to a b m r hm ha hb hr)
theorem p_fpow (a x m r : Nat) (hm : m < M256) (ha : a < m) (hx : x < M256) (er : a ^ x % m = r) : Pur Try.prog 36 [U a, U x, U m] (.tup [U r, .int .i64 0]) :=
  pur_of_calls (vs := [u a, u x, u m]) rfl rfl rfl (Pow_to a x m r hm ha hx er)
theorem p_finv (a m i : Nat) (hm : m < M256) (ha : a < m) (hi : i < m) (ei : i * a % m = 1 % m) (hg : Nat.gcd m a = 1) : Pur Try.prog 17 [U a, U m] (.tup [U i, .int .i64 0]) :=
  pur_of_calls (vs := [u a, u m]) rfl rfl rfl (inv_ok a m i hm ha hi ei hg)
theorem p_finv_none (a m : Nat) (hm : m < M256) (ha : a < m) (hg : Nat.gcd m a ≠ 1) : Pur Try.prog 17 [U a, U m] (.tup [U 0, .int .i64 5]) :=
  pur_of_calls (vs := [u a, u m]) rfl rfl rfl (inv_none a m hm ha hg)
end Go.Proofs.Ytpdhbddkcnffbaa
