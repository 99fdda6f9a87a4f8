/- seen.marks: whoever ranges over a page's marks is handed each mark once, the lowest one first. Condition: words of 64 bits. -/
import Derived.RangeFuncNested
import Derived.RangeFuncBound
import Derived.RangeFuncCalls
import Derived.RangeFuncLeaves
import Derived.RangeFuncBox
import Derived.Maps.AppendAt
import Derived.Shelf.Abstract
import Derived.Shelf.RegionOpen
import Derived.WalkKit
import Derived.OwnWalkIn
import Derived.TacticsInMore
import Derived.LoopNIn
import Derived.LoopIn
import Derived.Shelf.Spec.TrailingZeros
import Derived.Test.YtdmlmcoeklgapaaDoorMarksP
import Derived.Test.YtdmlmcoeklgapaaDoorChecked
namespace Go.Proofs.YtdmlmcoeklgapaaDoor
open Go.RowKit Go.Shelf
set_option linter.unusedVariables false
attribute [local go_sem] Oper.semAt_some

def lays29_ren : Go.Shelf.Ren := ⟨fun | 29 => 9 | n => n, fun | 0 => 0 | 3 => 3 | 4 => 4 | 5 => 5 | 22 => 22 | 25 => 37 | 54 => 36 | n => n, fun | 1 => 0 | n => n⟩
theorem lays29 : Go.Proofs.Lays7.n29 Tryd.prog lays29_ren := {
  mixed := by kernel_rfl
  f29 := Tryd.func9.trans (congrArg some (by kernel_rfl))
  t0 := Tryd.underlying0
  a0 := Tryd.isAgg0
  z0 := Tryd.sizeOf0
  v0 := Tryd.zeroValue0
  i0 := by kernel_rfl
  t3 := Tryd.underlying3
  a3 := Tryd.isAgg3
  z3 := Tryd.sizeOf3
  v3 := Tryd.zeroValue3
  i3 := by kernel_rfl
  t4 := Tryd.underlying4
  a4 := Tryd.isAgg4
  z4 := Tryd.sizeOf4
  v4 := Tryd.zeroValue4
  i4 := by kernel_rfl
  t5 := Tryd.underlying5
  a5 := Tryd.isAgg5
  z5 := Tryd.sizeOf5
  v5 := Tryd.zeroValue5
  i5 := by kernel_rfl
  t22 := Tryd.underlying22
  a22 := Tryd.isAgg22
  z22 := Tryd.sizeOf22
  v22 := Tryd.zeroValue22
  i22 := by kernel_rfl
  t25 := Tryd.underlying37
  a25 := Tryd.isAgg37
  z25 := Tryd.sizeOf37
  v25 := Tryd.zeroValue37
  i25 := by kernel_rfl
  t54 := Tryd.underlying36
  a54 := Tryd.isAgg36
  z54 := Tryd.sizeOf36
  g1 := by kernel_rfl }
/-- the table lies in its block -/
def TabM (w : World) : Prop := TabAt 0 Go.Lib.deBruijn64tab w
theorem tz_in (n : Nat) (x : Nat) (hx : x < 18446744073709551616) (w : World) (hT : TabM w) : CallsIn Fence.wide n Tryd.prog 9 #[.int .u64 x] w fun e w' => e = .returned (.int .i64 (Go.Lib.ctz 64 x)) ∧ w' = w :=
  callsIn_wide.2 (Go.Proofs.Any7.bits_TrailingZeros64 lays29 x hx w fun _ => hT)

theorem ctz_spec (w : Nat) (h0 : w ≠ 0) (h : w < 18446744073709551616) : Go.Lib.ctz 64 w < 64 ∧ bitsL w = Go.Lib.ctz 64 w :: bitsL (w &&& (w - 1)) := by
  obtain ⟨m, hm, hk⟩ := Go.Lib.ctzFrom_spec 64 w (by omega) h
  have e : Go.Lib.ctz 64 w = Go.Lib.ctzFrom 64 w := by unfold Go.Lib.ctz; rw [if_neg h0]
  rw [e]
  generalize Go.Lib.ctzFrom 64 w = t at *
  refine ⟨hk, ?_⟩
  rw [hm, low_off, bitsL_step t m hk]
theorem ix_run (a b c d : Int) (W : World) :
    (Instr.index 29 (.agg #[.int .u64 a, .int .u64 b, .int .u64 c, .int .u64 d]) (.int .i64 0)).run Tryd.prog W = .ok (.int .u64 a) W ∧
    (Instr.index 29 (.agg #[.int .u64 a, .int .u64 b, .int .u64 c, .int .u64 d]) (.int .i64 1)).run Tryd.prog W = .ok (.int .u64 b) W ∧
    (Instr.index 29 (.agg #[.int .u64 a, .int .u64 b, .int .u64 c, .int .u64 d]) (.int .i64 2)).run Tryd.prog W = .ok (.int .u64 c) W ∧
    (Instr.index 29 (.agg #[.int .u64 a, .int .u64 b, .int .u64 c, .int .u64 d]) (.int .i64 3)).run Tryd.prog W = .ok (.int .u64 d) W := by
  refine ⟨?_, ?_, ?_, ?_⟩ <;> simp [Instr.index, Sem.run_bind, run_underlying Tryd.underlying29, Tryd.sizeOf22, Tryd.isAgg22, asIntOf, go_sem]
theorem bitsL_len (w : Nat) : (bitsL w).length ≤ 64 := by
  unfold bitsL; exact Nat.le_trans (List.length_filter_le _ _) (by simp)

set_option maxRecDepth 100000 in
set_option maxHeartbeats 4000000 in
/-- the iterator's own walk: for every loop body that keeps what lay below n₀ -/
theorem marks1_in (n : Nat) (hn : 1 ≤ n) (l Bn n₀ : Nat) (X : Nat → Nat) (hX : ∀ k, X k < 18446744073709551616) (J Jx : List Nat → World → Prop)
    (hY : ∀ pre x W, J pre W → pre.length < 256 → YieldAt Fence.wide (n - 1) Tryd.prog l #[.int .i64 ((x : Nat) : Int)] W fun e W' =>
      (e = .returned (.bool true) ∧ J (pre ++ [x]) W' ∧ Below n₀ W W') ∨ (e = .returned (.bool false) ∧ Jx (pre ++ [x]) W'))
    (W : World) (hp0 : W.cell? ⟨Bn, 0, none⟩ = some (.int .u64 (X 0))) (hp1 : W.cell? ⟨Bn, 1, none⟩ = some (.int .u64 (X 1))) (hp2 : W.cell? ⟨Bn, 2, none⟩ = some (.int .u64 (X 2))) (hp3 : W.cell? ⟨Bn, 3, none⟩ = some (.int .u64 (X 3)))
    (hT : TabM W) (hg : 0 < n₀) (h0 : J [] W) :
    CallsIn Fence.wide n Tryd.prog 8 #[.func (.yield l) #[] #[], .pointer (some ⟨Bn, 0, none⟩)] W fun e W' => (∃ v, e = .returned v) ∧
      ((∃ ys, ys = pageL 0 [X 0, X 1, X 2, X 3] ∧ J ys W') ∨ (∃ pre, pre <+: pageL 0 [X 0, X 1, X 2, X 3] ∧ Jx pre W')) := by
  have hTb : ∀ W', Below n₀ W W' → TabM W' := fun W' hb j hj => (hb.cell (p := ⟨0, j, none⟩) hg).trans (hT j hj)
  refine callsIn_of_wp Tryd.func8 rfl trivial ?_ rfl
  simp only [Tryd.ntmps8, List.size_toArray, List.length_cons, List.length_nil, Nat.reduceAdd, Nat.reduceSub, Array.replicate_succ, Array.replicate_zero, List.push_toArray, List.append_toArray, List.nil_append, List.cons_append]
  gi_wp2
  gi_loopw [6] (fun i wr => ∃ (k : Nat) (pre : List Nat), k ≤ 4 ∧ i = .int .i64 k ∧ pre ++ pageL k ([X 0, X 1, X 2, X 3].drop k) = pageL 0 [X 0, X 1, X 2, X 3] ∧ J pre wr ∧ Below n₀ W wr)
    (fun i _ => 4 - (intOf i).toNat)
  case atStart => exact ⟨0, [], by omega, rfl, rfl, h0, Below.refl _ _⟩
  case round =>
    obtain ⟨k, pre, hk, rfl, hpre, hJs, hnx⟩ := hrel
    by_cases hlt : k < 4
    · obtain rfl | rfl | rfl | rfl : k = 0 ∨ k = 1 ∨ k = 2 ∨ k = 3 := by omega
      · have hx := fun W => (ix_run (X 0) (X 1) (X 2) (X 3) W).1
        gi_wp2
        gi_loopw [4] (fun v wr => ∃ (w' : Nat) (pre' : List Nat), v = .int .u64 w' ∧ w' < 18446744073709551616 ∧ pre' ++ ((bitsL w').map (64 * 0 + ·) ++ pageL 1 [X 1, X 2, X 3]) = pageL 0 [X 0, X 1, X 2, X 3] ∧ J pre' wr ∧ Below n₀ W wr)
          (fun v _ => (bitsL (intOf v).toNat).length)
        case atStart => exact ⟨X 0, pre, rfl, hX 0, hpre, hJs, hnx⟩
        case round =>
          obtain ⟨w', pre', rfl, hw', hpre', hJ', hnx'⟩ := hrel
          by_cases h0 : w' = 0
          · subst h0
            gi_wp2
            go_roundw
            case rel => exact ⟨1, pre', by omega, rfl, by rw [bitsL_0] at hpre'; exact hpre', hJ', hnx'⟩
            case measure => decide
          · obtain ⟨ht, hb⟩ := ctz_spec w' h0 hw'
            have hT' := tz_in (n - 1) w' hw' wr (hTb _ hnx')
            have hneq : ((w' : Int) != 0) = true := by simp; omega
            generalize Go.Lib.ctz 64 w' = t at *
            have hlen : pre'.length < 256 := by
              have e := congrArg List.length hpre'
              rw [hb] at e
              have := bitsL_len (X 0); have := bitsL_len (X 1); have := bitsL_len (X 2); have := bitsL_len (X 3)
              simp [pageL] at e
              omega
            have hpre'' : (pre' ++ [64 * 0 + t]) ++ ((bitsL (w' &&& (w' - 1))).map (64 * 0 + ·) ++ pageL 1 [X 1, X 2, X 3]) = pageL 0 [X 0, X 1, X 2, X 3] := by
              rw [← hpre', hb]; simp
            have hmz : (bitsL (w' &&& (w' - 1))).length < (bitsL w').length := by rw [hb]; simp
            have hlt' : w' &&& (w' - 1) < 18446744073709551616 := Nat.lt_of_le_of_lt Nat.and_le_left hw'
            obtain ⟨fn, tmps, assign, body, hy, hR⟩ := hY pre' (64 * 0 + t) wr hJ' hlen
            have hyv : ((64 * 0 + t : Nat) : Int) = (t : Int) := by omega
            rw [hyv] at hy
            have hsub : IntKind.u64.wrap ((w' : Int) - 1) = ((w' - 1 : Nat) : Int) := by rw [IntKind.wrap_u64]; omega
            have hand := bits_and_u64_nat w' (w' - 1) hw' (by omega)
            gi_wp2_with (refine ⟨trivial, ?_⟩; gi_at_call 9; refine hT'.mono ?_; rintro e w2 ⟨rfl, rfl⟩)
            refine hR.mono ?_
            rintro e W3 (⟨rfl, hJ3, hk3⟩ | ⟨rfl, hJx3⟩)
            · gi_wp2
              refine ⟨⟨_, _, _, _, _, _, _, _, _, _, _, _, _, _, _, ⟨_, _, rfl, hlt', hpre'', hJ3, hnx'.trans hk3⟩, rfl⟩, ?_⟩
              simpa [intOf] using hmz
            · gi_wp2
              refine bodyPost_ret (results_none rfl _ _ _) rfl ?_
              exact ⟨⟨_, rfl⟩, .inr ⟨_, ⟨_, hpre''⟩, hJx3⟩⟩
      · have hx := fun W => (ix_run (X 0) (X 1) (X 2) (X 3) W).2.1
        gi_wp2
        gi_loopw [4] (fun v wr => ∃ (w' : Nat) (pre' : List Nat), v = .int .u64 w' ∧ w' < 18446744073709551616 ∧ pre' ++ ((bitsL w').map (64 * 1 + ·) ++ pageL 2 [X 2, X 3]) = pageL 0 [X 0, X 1, X 2, X 3] ∧ J pre' wr ∧ Below n₀ W wr)
          (fun v _ => (bitsL (intOf v).toNat).length)
        case atStart => exact ⟨X 1, pre, rfl, hX 1, hpre, hJs, hnx⟩
        case round =>
          obtain ⟨w', pre', rfl, hw', hpre', hJ', hnx'⟩ := hrel
          by_cases h0 : w' = 0
          · subst h0
            gi_wp2
            go_roundw
            case rel => exact ⟨2, pre', by omega, rfl, by rw [bitsL_0] at hpre'; exact hpre', hJ', hnx'⟩
            case measure => decide
          · obtain ⟨ht, hb⟩ := ctz_spec w' h0 hw'
            have hT' := tz_in (n - 1) w' hw' wr (hTb _ hnx')
            have hneq : ((w' : Int) != 0) = true := by simp; omega
            generalize Go.Lib.ctz 64 w' = t at *
            have hlen : pre'.length < 256 := by
              have e := congrArg List.length hpre'
              rw [hb] at e
              have := bitsL_len (X 0); have := bitsL_len (X 1); have := bitsL_len (X 2); have := bitsL_len (X 3)
              simp [pageL] at e
              omega
            have hpre'' : (pre' ++ [64 * 1 + t]) ++ ((bitsL (w' &&& (w' - 1))).map (64 * 1 + ·) ++ pageL 2 [X 2, X 3]) = pageL 0 [X 0, X 1, X 2, X 3] := by
              rw [← hpre', hb]; simp
            have hmz : (bitsL (w' &&& (w' - 1))).length < (bitsL w').length := by rw [hb]; simp
            have hlt' : w' &&& (w' - 1) < 18446744073709551616 := Nat.lt_of_le_of_lt Nat.and_le_left hw'
            obtain ⟨fn, tmps, assign, body, hy, hR⟩ := hY pre' (64 * 1 + t) wr hJ' hlen
            have hyv : ((64 * 1 + t : Nat) : Int) = 64 + (t : Int) := by omega
            rw [hyv] at hy
            have hsub : IntKind.u64.wrap ((w' : Int) - 1) = ((w' - 1 : Nat) : Int) := by rw [IntKind.wrap_u64]; omega
            have hand := bits_and_u64_nat w' (w' - 1) hw' (by omega)
            gi_wp2_with (refine ⟨trivial, ?_⟩; gi_at_call 9; refine hT'.mono ?_; rintro e w2 ⟨rfl, rfl⟩)
            refine hR.mono ?_
            rintro e W3 (⟨rfl, hJ3, hk3⟩ | ⟨rfl, hJx3⟩)
            · gi_wp2
              refine ⟨⟨_, _, _, _, _, _, _, _, _, _, _, _, _, _, _, ⟨_, _, rfl, hlt', hpre'', hJ3, hnx'.trans hk3⟩, rfl⟩, ?_⟩
              simpa [intOf] using hmz
            · gi_wp2
              refine bodyPost_ret (results_none rfl _ _ _) rfl ?_
              exact ⟨⟨_, rfl⟩, .inr ⟨_, ⟨_, hpre''⟩, hJx3⟩⟩
      · have hx := fun W => (ix_run (X 0) (X 1) (X 2) (X 3) W).2.2.1
        gi_wp2
        gi_loopw [4] (fun v wr => ∃ (w' : Nat) (pre' : List Nat), v = .int .u64 w' ∧ w' < 18446744073709551616 ∧ pre' ++ ((bitsL w').map (64 * 2 + ·) ++ pageL 3 [X 3]) = pageL 0 [X 0, X 1, X 2, X 3] ∧ J pre' wr ∧ Below n₀ W wr)
          (fun v _ => (bitsL (intOf v).toNat).length)
        case atStart => exact ⟨X 2, pre, rfl, hX 2, hpre, hJs, hnx⟩
        case round =>
          obtain ⟨w', pre', rfl, hw', hpre', hJ', hnx'⟩ := hrel
          by_cases h0 : w' = 0
          · subst h0
            gi_wp2
            go_roundw
            case rel => exact ⟨3, pre', by omega, rfl, by rw [bitsL_0] at hpre'; exact hpre', hJ', hnx'⟩
            case measure => decide
          · obtain ⟨ht, hb⟩ := ctz_spec w' h0 hw'
            have hT' := tz_in (n - 1) w' hw' wr (hTb _ hnx')
            have hneq : ((w' : Int) != 0) = true := by simp; omega
            generalize Go.Lib.ctz 64 w' = t at *
            have hlen : pre'.length < 256 := by
              have e := congrArg List.length hpre'
              rw [hb] at e
              have := bitsL_len (X 0); have := bitsL_len (X 1); have := bitsL_len (X 2); have := bitsL_len (X 3)
              simp [pageL] at e
              omega
            have hpre'' : (pre' ++ [64 * 2 + t]) ++ ((bitsL (w' &&& (w' - 1))).map (64 * 2 + ·) ++ pageL 3 [X 3]) = pageL 0 [X 0, X 1, X 2, X 3] := by
              rw [← hpre', hb]; simp
            have hmz : (bitsL (w' &&& (w' - 1))).length < (bitsL w').length := by rw [hb]; simp
            have hlt' : w' &&& (w' - 1) < 18446744073709551616 := Nat.lt_of_le_of_lt Nat.and_le_left hw'
            obtain ⟨fn, tmps, assign, body, hy, hR⟩ := hY pre' (64 * 2 + t) wr hJ' hlen
            have hyv : ((64 * 2 + t : Nat) : Int) = 128 + (t : Int) := by omega
            rw [hyv] at hy
            have hsub : IntKind.u64.wrap ((w' : Int) - 1) = ((w' - 1 : Nat) : Int) := by rw [IntKind.wrap_u64]; omega
            have hand := bits_and_u64_nat w' (w' - 1) hw' (by omega)
            gi_wp2_with (refine ⟨trivial, ?_⟩; gi_at_call 9; refine hT'.mono ?_; rintro e w2 ⟨rfl, rfl⟩)
            refine hR.mono ?_
            rintro e W3 (⟨rfl, hJ3, hk3⟩ | ⟨rfl, hJx3⟩)
            · gi_wp2
              refine ⟨⟨_, _, _, _, _, _, _, _, _, _, _, _, _, _, _, ⟨_, _, rfl, hlt', hpre'', hJ3, hnx'.trans hk3⟩, rfl⟩, ?_⟩
              simpa [intOf] using hmz
            · gi_wp2
              refine bodyPost_ret (results_none rfl _ _ _) rfl ?_
              exact ⟨⟨_, rfl⟩, .inr ⟨_, ⟨_, hpre''⟩, hJx3⟩⟩
      · have hx := fun W => (ix_run (X 0) (X 1) (X 2) (X 3) W).2.2.2
        gi_wp2
        gi_loopw [4] (fun v wr => ∃ (w' : Nat) (pre' : List Nat), v = .int .u64 w' ∧ w' < 18446744073709551616 ∧ pre' ++ ((bitsL w').map (64 * 3 + ·) ++ pageL 4 []) = pageL 0 [X 0, X 1, X 2, X 3] ∧ J pre' wr ∧ Below n₀ W wr)
          (fun v _ => (bitsL (intOf v).toNat).length)
        case atStart => exact ⟨X 3, pre, rfl, hX 3, hpre, hJs, hnx⟩
        case round =>
          obtain ⟨w', pre', rfl, hw', hpre', hJ', hnx'⟩ := hrel
          by_cases h0 : w' = 0
          · subst h0
            gi_wp2
            go_roundw
            case rel => exact ⟨4, pre', by omega, rfl, by rw [bitsL_0] at hpre'; exact hpre', hJ', hnx'⟩
            case measure => decide
          · obtain ⟨ht, hb⟩ := ctz_spec w' h0 hw'
            have hT' := tz_in (n - 1) w' hw' wr (hTb _ hnx')
            have hneq : ((w' : Int) != 0) = true := by simp; omega
            generalize Go.Lib.ctz 64 w' = t at *
            have hlen : pre'.length < 256 := by
              have e := congrArg List.length hpre'
              rw [hb] at e
              have := bitsL_len (X 0); have := bitsL_len (X 1); have := bitsL_len (X 2); have := bitsL_len (X 3)
              simp [pageL] at e
              omega
            have hpre'' : (pre' ++ [64 * 3 + t]) ++ ((bitsL (w' &&& (w' - 1))).map (64 * 3 + ·) ++ pageL 4 []) = pageL 0 [X 0, X 1, X 2, X 3] := by
              rw [← hpre', hb]; simp
            have hmz : (bitsL (w' &&& (w' - 1))).length < (bitsL w').length := by rw [hb]; simp
            have hlt' : w' &&& (w' - 1) < 18446744073709551616 := Nat.lt_of_le_of_lt Nat.and_le_left hw'
            obtain ⟨fn, tmps, assign, body, hy, hR⟩ := hY pre' (64 * 3 + t) wr hJ' hlen
            have hyv : ((64 * 3 + t : Nat) : Int) = 192 + (t : Int) := by omega
            rw [hyv] at hy
            have hsub : IntKind.u64.wrap ((w' : Int) - 1) = ((w' - 1 : Nat) : Int) := by rw [IntKind.wrap_u64]; omega
            have hand := bits_and_u64_nat w' (w' - 1) hw' (by omega)
            gi_wp2_with (refine ⟨trivial, ?_⟩; gi_at_call 9; refine hT'.mono ?_; rintro e w2 ⟨rfl, rfl⟩)
            refine hR.mono ?_
            rintro e W3 (⟨rfl, hJ3, hk3⟩ | ⟨rfl, hJx3⟩)
            · gi_wp2
              refine ⟨⟨_, _, _, _, _, _, _, _, _, _, _, _, _, _, _, ⟨_, _, rfl, hlt', hpre'', hJ3, hnx'.trans hk3⟩, rfl⟩, ?_⟩
              simpa [intOf] using hmz
            · gi_wp2
              refine bodyPost_ret (results_none rfl _ _ _) rfl ?_
              exact ⟨⟨_, rfl⟩, .inr ⟨_, ⟨_, hpre''⟩, hJx3⟩⟩
    · obtain rfl : k = 4 := by omega
      gi_wp2
      go_end0
      exact ⟨⟨_, rfl⟩, .inl ⟨_, rfl, by have e : pre ++ [] = pageL 0 [X 0, X 1, X 2, X 3] := hpre; rw [← e, List.append_nil]; exact hJs⟩⟩
end Go.Proofs.YtdmlmcoeklgapaaDoor
