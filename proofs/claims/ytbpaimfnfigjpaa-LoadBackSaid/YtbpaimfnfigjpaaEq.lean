/- '==' of 256-bit numbers. No program in sight but its types. -/
import Derived.Test.YtbpaimfnfigjpaaEq0
namespace Go.Proofs.Ytbpaimfnfigjpaa
open Go.RowKit
set_option linter.unusedVariables false

theorem u64_size : (Try.prog.info? 40).map (·.size) = some 1 := by kernel_rfl

/-- two 256-bit numbers are held against each other limb by limb -/
@[go_sem] theorem eq_u256 (x0 x1 x2 x3 y0 y1 y2 y3 : Int) (w : World) :
    (Op.equalIn 10000 42 (.agg #[.int .u64 x0, .int .u64 x1, .int .u64 x2, .int .u64 x3]) (.agg #[.int .u64 y0, .int .u64 y1, .int .u64 y2, .int .u64 y3])).run Try.prog w = .ok (x0 == y0 && (x1 == y1 && (x2 == y2 && x3 == y3))) w := by
  obtain ⟨i, hi, hs⟩ := Option.map_eq_some_iff.1 u64_size
  have h := run_equalIn_ints (P := Try.prog) 9998 42 40 4 .u64 Try.underlying42 Try.underlying40 i hi hs [x0, x1, x2, x3] [y0, y1, y2, y3] rfl rfl w
  have e : ([x0, x1, x2, x3] == [y0, y1, y2, y3]) = (x0 == y0 && (x1 == y1 && (x2 == y2 && x3 == y3))) := by simp
  rw [e] at h
  exact h

/-- the same number -/
theorem same_u (a : Nat) : (lim a 0 == lim a 0 && (lim a 1 == lim a 1 && (lim a 2 == lim a 2 && lim a 3 == lim a 3))) = true := by simp

theorem same_iff (a b : Nat) (ha : a < M256) (hb : b < M256) : (lim a 0 == lim b 0 && (lim a 1 == lim b 1 && (lim a 2 == lim b 2 && lim a 3 == lim b 3))) = decide (a = b) := by
  rw [Bool.eq_iff_iff]
  simp only [Bool.and_eq_true, beq_iff_eq, decide_eq_true_iff]
  constructor
  · rintro ⟨h0, h1, h2, h3⟩; exact lim_inj a b ha hb h0 h1 h2 h3
  · rintro rfl; exact ⟨rfl, rfl, rfl, rfl⟩

end Go.Proofs.Ytbpaimfnfigjpaa
