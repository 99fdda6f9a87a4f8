/- Papers as bytes: Encode of one that may be. Conditions: its numbers are in their bounds; at most nineteen signatures. -/
import Derived.Test.YtbpaimfnfigjpaaDFunK
import Derived.Test.YtbpaimfnfigjpaaDMore
import Derived.Test.YtbpaimfnfigjpaaDMake
import Derived.Test.YtbpaimfnfigjpaaDSl
import Derived.Test.YtbpaimfnfigjpaaDPart
import Derived.Test.YtbpaimfnfigjpaaDApp
import Derived.Test.YtbpaimfnfigjpaaDCpy
import Derived.Test.YtbpaimfnfigjpaaBy32D
import Derived.Test.YtbpaimfnfigjpaaBel
import Derived.Test.YtbpaimfnfigjpaaBPut
import Derived.Test.YtbpaimfnfigjpaaDFix
import Derived.Test.YtbpaimfnfigjpaaDMs
import Derived.Test.YtbpaimfnfigjpaaFlat
import Derived.Test.YtbpaimfnfigjpaaDMi
import Derived.Test.YtbpaimfnfigjpaaWide2
import Derived.Test.YtbpaimfnfigjpaaWide1
namespace Go.Proofs.Ytbpaimfnfigjpaa
open Go.RowKit Go.Lib Go.IntWalk
set_option linter.unusedVariables false
set_option maxRecDepth 100000

/-- what an eye sees: bytes, and whether there were always enough -/
abbrev Ey := List UInt8 × Bool
def eyC (y : Ey) : List D := [.slice .frozen y.1.length (bs y.1), .bool y.2]
def eyM (y : Ey) : Mem := [(0, some (.var 72 (eyC y)))]
def takeE (y : Ey) (n : Nat) : List UInt8 × Ey := if y.1.length < n then (List.replicate n 0, ([], false)) else (y.1.take n, (y.1.drop n, y.2))
theorem takeE_len (y : Ey) (n : Nat) : (takeE y n).1.length = n := by
  unfold takeE
  split
  · simp
  · simp; omega
theorem take_ok (y : Ey) (n : Nat) (hn : n ≤ 100000) (hy : y.1.length ≤ 1000000) : Fn Try.prog 36 1 [.ptr 0 0, .int .i64 n] (eyM y) (.slice .frozen n (bs (takeE y n).1)) (eyM (takeE y n).2) := by
  obtain ⟨l, ok⟩ := y
  unfold takeE eyM eyC
  simp only at hy ⊢
  have hll : l.length * 1 = (bs l).length := by rw [bs_len]; omega
  by_cases h : l.length < n
  · rw [if_pos h]
    simp only [show bs [] = [] from rfl, List.length_nil]
    obtain ⟨L, hL⟩ : ∃ L, l.length = L := ⟨_, rfl⟩
    rw [hL] at h hll hy ⊢
    have hd : decide ((L : Int) < n) = true := by simp; omega
    generalize bs l = z at *
    refine fn_intro Try.func36 rfl Try.ntmps36 rfl fun B => ?_
    repeat (first | with_reducible (first | refine W_seq ?_ | refine q_then ?_ | refine q_thenr ?_ | refine q_thenx ?_ | refine W_block ?_ | refine q_block ?_ | refine q_blockr ?_ | refine q_blockx ?_ | refine W_ret ?_ | refine W_skip ?_ | refine W_label ?_ | refine W_exit ?_ | refine W_scope ?_ | refine q_scope ?_ | refine q_scoper ?_ | refine q_scopex ?_) | (with_reducible refine R_nil ?_; try dsimp only [slots0, slots_ud, cells_U, agg_ud, drop0, dropS, takeS, take0, ud_nil, take_ud, take_ud0, drop_ud, drop_ud0, take_udk, D.cells, D.fz, D.fzs, List.take_succ_cons, List.take_zero, List.drop_succ_cons, List.drop_zero, List.cons_append, List.nil_append, List.append_eq, List.length_cons, List.length_nil, Nat.reduceAdd, Nat.reduceMul, Nat.reduceSub, Int.reduceAdd, Int.reduceSub, Int.reduceToNat, Int.reduceNeg, Int.reduceMul]) | refine q_blocky rfl ?_ | refine W_plain rfl ?_ | refine W_drawn mixed rfl ?_ | refine and_chk (by kernel_rfl) ?_ | refine k_move rfl rfl ?_ | refine k_assign rfl rfl ?_ | refine k_load rfl rfl rfl rfl ?_ | refine k_store rfl rfl rfl rfl rfl rfl rfl ?_ | refine k_fieldAddr rfl rfl rfl ?_ | refine k_lss rfl rfl rfl hd ?_ | refine k_makeB rfl rfl rfl (by omega) rfl ?_ | refine k_append rfl rfl rfl (by first | rfl | exact trivial | (show 0 < _; omega)) (by first | rfl | (simp <;> omega)) (by first | rfl | (simp <;> omega)) rfl (by omega) rfl rfl rfl ?_ | refine k_slice rfl rfl rfl rfl ⟨by omega, by omega, by omega⟩ rfl rfl rfl ?_ | refine k_slice3 rfl rfl rfl rfl rfl ⟨by omega, by omega, by omega⟩ rfl rfl rfl ?_ | refine k_sliceA rfl rfl rfl rfl ⟨by omega, by omega, by omega, by omega⟩ rfl rfl ?_ | refine k_sliceE rfl rfl rfl rfl ⟨by omega, by omega, by omega, by omega⟩ rfl rfl rfl rfl ?_ | refine k_loade rfl rfl rfl ?_ | refine k_fieldAddre rfl rfl rfl rfl ?_ | refine k_len rfl rfl ?_ | refine k_nilCheck rfl rfl rfl ?_ | refine k_lssT rfl rfl rfl (by omega) ?_ | refine k_lssF rfl rfl rfl (by omega) ?_ | refine W_yes rfl ?_ | refine W_no rfl ?_)
    refine (q_endf (fun l => l) 1 (RetsF.r1 (RetV.tmp _ _ rfl) (Up.refl _)) rfl ?_ rfl rfl rfl).2
    refine ⟨⟨rfl, _, rfl, ?_, rfl⟩, trivial⟩
    show Ups [_, _] [_, _]
    refine Ups.cons (Up.nil _) ?_
    refine Ups.cons (Up.refl _) ?_
    exact Ups.nil
  · rw [if_neg h]
    simp only
    have hd : decide ((l.length : Int) < n) = false := by simp; omega
    have t1 : ((bs l).drop ((0 : Int).toNat * 1)).take (n * 1) = bs (l.take n) := by
      rw [show (0 : Int).toNat * 1 = 0 from rfl, List.drop_zero, Nat.mul_one]; unfold bs; rw [List.map_take]
    have t2 : ((bs l).drop (((n : Nat) : Int).toNat * 1)).take ((l.length - n) * 1) = bs (l.drop n) := by
      rw [Int.toNat_natCast, Nat.mul_one, Nat.mul_one]; unfold bs; rw [← List.map_drop, List.take_of_length_le (by simp)]
    have hdl : (l.drop n).length = l.length - n := List.length_drop
    have hnl : n ≤ l.length := by omega
    rw [hdl]
    generalize bs (l.drop n) = z2 at *
    generalize bs (l.take n) = z1 at *
    have k1 : ((n : Int) - 0).toNat = n := by omega
    have k2 : ((l.length : Int) - n).toNat = l.length - n := by omega
    generalize bs l = z at *
    generalize l.length = L at *
    refine fn_intro Try.func36 rfl Try.ntmps36 rfl fun B => ?_
    repeat (first | with_reducible (first | refine W_seq ?_ | refine q_then ?_ | refine q_thenr ?_ | refine q_thenx ?_ | refine W_block ?_ | refine q_block ?_ | refine q_blockr ?_ | refine q_blockx ?_ | refine W_ret ?_ | refine W_skip ?_ | refine W_label ?_ | refine W_exit ?_ | refine W_scope ?_ | refine q_scope ?_ | refine q_scoper ?_ | refine q_scopex ?_) | (with_reducible refine R_nil ?_; try dsimp only [slots0, slots_ud, cells_U, agg_ud, drop0, dropS, takeS, take0, ud_nil, take_ud, take_ud0, drop_ud, drop_ud0, take_udk, D.cells, D.fz, D.fzs, List.take_succ_cons, List.take_zero, List.drop_succ_cons, List.drop_zero, List.cons_append, List.nil_append, List.append_eq, List.length_cons, List.length_nil, Nat.reduceAdd, Nat.reduceMul, Nat.reduceSub, Int.reduceAdd, Int.reduceSub, Int.reduceToNat, Int.reduceNeg, Int.reduceMul]) | refine q_blocky rfl ?_ | refine W_plain rfl ?_ | refine W_drawn mixed rfl ?_ | refine and_chk (by kernel_rfl) ?_ | refine k_slice3 rfl rfl rfl rfl rfl ⟨by omega, by omega, by omega⟩ (by exact hll) (by exact k1) (by exact t1) ?_ | refine k_slice rfl rfl rfl rfl ⟨by omega, by omega, by omega⟩ (by exact hll) (by exact k2) (by exact t2) ?_ | refine k_move rfl rfl ?_ | refine k_assign rfl rfl ?_ | refine k_load rfl rfl rfl rfl ?_ | refine k_store rfl rfl rfl rfl rfl rfl rfl ?_ | refine k_fieldAddr rfl rfl rfl ?_ | refine k_lss rfl rfl rfl hd ?_ | refine k_append rfl rfl rfl (by first | rfl | exact trivial | (show 0 < _; omega)) (by first | rfl | (simp <;> omega)) (by first | rfl | (simp <;> omega)) rfl (by omega) rfl rfl rfl ?_ | refine k_slice rfl rfl rfl rfl ⟨by omega, by omega, by omega⟩ rfl rfl rfl ?_ | refine k_slice3 rfl rfl rfl rfl rfl ⟨by omega, by omega, by omega⟩ rfl rfl rfl ?_ | refine k_sliceA rfl rfl rfl rfl ⟨by omega, by omega, by omega, by omega⟩ rfl rfl ?_ | refine k_sliceE rfl rfl rfl rfl ⟨by omega, by omega, by omega, by omega⟩ rfl rfl rfl rfl ?_ | refine k_loade rfl rfl rfl ?_ | refine k_fieldAddre rfl rfl rfl rfl ?_ | refine k_len rfl rfl ?_ | refine k_nilCheck rfl rfl rfl ?_ | refine k_lssT rfl rfl rfl (by omega) ?_ | refine k_lssF rfl rfl rfl (by omega) ?_ | refine W_yes rfl ?_ | refine W_no rfl ?_)
    first | exact (q_endf (fun l => l) 1 (RetsF.r1 (by first | exact RetV.tmp _ _ rfl | exact RetV.cell _ _ _ _ _ _ _ _ inferInstance rfl rfl rfl) (by first | exact Up.refl _ | exact Up.fz _ _ _ | exact Up.nil _)) rfl (by repeat (first | exact trivial | refine ⟨⟨rfl, _, rfl, Ups.refl _, rfl⟩, ?_⟩ | refine ⟨⟨rfl, rfl⟩, ?_⟩)) rfl rfl rfl).2 | exact (q_endf (fun l => l) 1 (RetsF.r1 (by first | exact RetV.tmp _ _ rfl | exact RetV.cell _ _ _ _ _ _ _ _ inferInstance rfl rfl rfl) (by first | exact Up.refl _ | exact Up.fz _ _ _ | exact Up.nil _)) rfl (by repeat (first | exact trivial | refine ⟨⟨rfl, _, rfl, Ups.refl _, rfl⟩, ?_⟩ | refine ⟨⟨rfl, rfl⟩, ?_⟩)) rfl rfl rfl).1

theorem bs_dx (l : List UInt8) (i : Nat) (c : UInt8) (h : l[i]? = some c) (ze : List D) : cut ⟨false, 1, ze⟩ 0 ((bs l).drop (((i : Nat) : Int).toNat * 1)) = some (.int .u8 (c.toNat : Int)) := by
  rw [Int.toNat_natCast, Nat.mul_one]
  unfold cut
  simp only [cond_false, List.getElem?_drop, Nat.add_zero]
  exact bs_get l i c h
/-- a number out of bytes, as an int -/
def numI (l : List UInt8) : Int := IntKind.i64.wrap (nm l : Nat)
theorem or_byte (x : Nat) (c : UInt8) : bitw .or .i64 (IntKind.i64.wrap (IntKind.i64.wrap (x : Nat) * 2 ^ 8)) (c.toNat : Int) = IntKind.i64.wrap ((x * 256 + c.toNat : Nat) : Int) := by
  unfold bitw
  show IntKind.i64.wrap ((BitVec.ofInt 64 _ ||| BitVec.ofInt 64 _).toNat : Int) = _
  rw [BitVec.toNat_or, BitVec.toNat_ofInt, BitVec.toNat_ofInt]
  have hc := c.toNat_lt
  have e1 : ((IntKind.i64.wrap (IntKind.i64.wrap (x : Nat) * 2 ^ 8)) % ((2 ^ 64 : Nat) : Int)).toNat = (x % 72057594037927936) * 256 := by
    rw [IntKind.wrap_i64, IntKind.wrap_i64]; omega
  have e2 : ((c.toNat : Int) % ((2 ^ 64 : Nat) : Int)).toNat = c.toNat := by omega
  rw [e1, e2]
  have e3 : (x % 72057594037927936) * 256 ||| c.toNat = (x % 72057594037927936) * 256 + c.toNat := by
    have := Nat.shiftLeft_add_eq_or_of_lt (a := x % 72057594037927936) (i := 8) (b := c.toNat) (by omega)
    rw [Nat.shiftLeft_eq] at this
    exact this.symm
  rw [e3, IntKind.wrap_i64, IntKind.wrap_i64]
  omega
def numberE (y : Ey) (n : Nat) : Int × Ey := (numI (takeE y n).1, (takeE y n).2)
set_option maxHeartbeats 4000000 in
theorem eNumber_ok (y : Ey) (n : Nat) (hn : n ≤ 8) (hy : y.1.length ≤ 1000000) : Fn Try.prog 25 1 [.ptr 0 0, .int .i64 n] (eyM y) (.int .i64 (numberE y n).1) (eyM (numberE y n).2) := by
  have tk := take_ok y n (by omega) hy
  have tl := takeE_len y n
  unfold numberE
  simp only
  generalize takeE y n = r at *
  obtain ⟨w, y2⟩ := r
  simp only at tk tl ⊢
  unfold eyM eyC at tk ⊢
  generalize bs y2.1 = z2 at *
  generalize y2.1.length = L2 at *
  generalize y2.2 = ok2 at *
  generalize bs y.1 = z at *
  generalize y.1.length = L at *
  generalize y.2 = ok at *
  refine fn_intro Try.func25 rfl Try.ntmps25 rfl fun B => ?_
  repeat (first | with_reducible (first | refine W_seq ?_ | refine q_then ?_ | refine q_thenr ?_ | refine q_thenx ?_ | refine W_block ?_ | refine q_block ?_ | refine q_blockr ?_ | refine q_blockx ?_ | refine W_ret ?_ | refine W_skip ?_ | refine W_label ?_ | refine W_exit ?_ | refine W_scope ?_ | refine q_scope ?_ | refine q_scoper ?_ | refine q_scopex ?_) | (with_reducible refine R_nil ?_; try dsimp only [slots0, slots_ud, cells_U, agg_ud, drop0, dropS, takeS, take0, ud_nil, take_ud, take_ud0, drop_ud, drop_ud0, take_udk, D.cells, D.fz, D.fzs, List.take_succ_cons, List.take_zero, List.drop_succ_cons, List.drop_zero, List.cons_append, List.nil_append, List.append_eq, List.length_cons, List.length_nil, Nat.reduceAdd, Nat.reduceMul, Nat.reduceSub, Int.reduceAdd, Int.reduceSub, Int.reduceToNat, Int.reduceNeg, Int.reduceMul]) | refine q_blocky rfl ?_ | refine W_plain rfl ?_ | refine W_drawn mixed rfl ?_ | refine and_chk (by kernel_rfl) ?_ | refine k_move rfl rfl ?_ | refine k_assign rfl rfl ?_ | refine k_load rfl rfl rfl rfl ?_ | refine k_callf (fun l => l) [0] (1) rfl (tk) rfl (by first | exact Ups.refl _ | assumption | ((repeat refine Ups.cons (by first | exact Up.refl _ | exact Up.nil _ | exact Up.fz _ _ _) ?_); exact Ups.nil)) (rfl) (by (repeat (first | refine ⟨⟨rfl, _, rfl, (by first | exact Ups.refl _ | assumption | ((repeat refine Ups.cons (by first | exact Up.refl _ | exact Up.nil _ | exact Up.fz _ _ _) ?_); exact Ups.nil)), rfl⟩, ?_⟩ | refine ⟨⟨rfl, rfl⟩, ?_⟩)); exact trivial) rfl rfl rfl rfl (rfl) (rfl) rfl rfl rfl rfl ?_ | refine k_append rfl rfl rfl (by first | rfl | exact trivial | (show 0 < _; omega)) (by first | rfl | (simp <;> omega)) (by first | rfl | (simp <;> omega)) rfl (by omega) rfl rfl rfl ?_ | refine k_slice rfl rfl rfl rfl ⟨by omega, by omega, by omega⟩ rfl rfl rfl ?_ | refine k_slice3 rfl rfl rfl rfl rfl ⟨by omega, by omega, by omega⟩ rfl rfl rfl ?_ | refine k_sliceA rfl rfl rfl rfl ⟨by omega, by omega, by omega, by omega⟩ rfl rfl ?_ | refine k_sliceE rfl rfl rfl rfl ⟨by omega, by omega, by omega, by omega⟩ rfl rfl rfl rfl ?_ | refine k_indexAddr rfl rfl rfl ⟨by omega, by omega⟩ ?_ | refine k_indexAddrs rfl rfl rfl ⟨by omega, by omega⟩ rfl ?_ | refine k_loade rfl rfl rfl ?_ | refine k_len rfl rfl ?_ | refine k_addi rfl rfl rfl (by omega) ?_ | refine k_lssT rfl rfl rfl (by omega) ?_ | refine k_lssF rfl rfl rfl (by omega) ?_ | refine W_yes rfl ?_ | refine W_no rfl ?_)
  refine W_loopW (fun n' ρ m nx => ∃ (i : Nat) (e : Int), i ≤ n ∧ e = numI (w.take i) ∧ n' = n - i ∧ ρ = [(12, .int .i64 (i : Int)), (11, .int .i64 (n : Int)), (10, .slice .frozen n (bs w)), (5, .int .i64 e), (0, .ptr 0 0)] ∧ m = [(0, some (.var 72 [.slice .frozen L2 z2, .bool ok2]))] ∧ nx = 1)
    ⟨_, _, _, _, (weak_ren (fun l => l) (by repeat (first | exact trivial | refine ⟨⟨_, rfl, (by first | exact Up.refl _ | exact Up.fz _ _ _ | exact Up.nil _ | assumption), rfl⟩, ?_⟩)) (by repeat (first | exact trivial | refine ⟨⟨rfl, _, rfl, (by first | exact Ups.refl _ | assumption | ((repeat refine Ups.cons (by first | exact Up.refl _ | exact Up.nil _ | exact Up.fz _ _ _) ?_); exact Ups.nil)), rfl⟩, ?_⟩ | refine ⟨⟨rfl, rfl⟩, ?_⟩)) (by first | decide | simp) (by first | decide | omega) (fun l h => idB_id (f := fun l => l) rfl l h)), 0, 0, Nat.zero_le _, rfl, rfl, rfl, rfl, rfl⟩ ?_
  rintro n' ρ m nx ⟨i, e, hi, he, rfl, rfl, rfl, rfl⟩
  by_cases hlt : i < n
  · have hw : w[i]? = some (w[i]'(by omega)) := List.getElem?_eq_getElem _
    have hc := bs_dx w i _ hw
    have hnx : numI (w.take (i + 1)) = bitw .or .i64 (IntKind.i64.wrap (e * 2 ^ 8)) ((w[i]'(by omega)).toNat : Int) := by
      rw [he]
      unfold numI
      rw [List.take_add_one, hw, or_byte]
      show IntKind.i64.wrap ((nm (w.take i ++ [w[i]'(by omega)]) : Nat) : Int) = _
      rw [nm_snoc]
    generalize w[i]'(by omega) = c at *
    have hcv : IntKind.i64.wrap (c.toNat : Int) = (c.toNat : Int) := i64_in _ (by have := c.toNat_lt; omega)
    have hwl : n * 1 = (bs w).length := by rw [bs_len]; omega
    have hsh : IntKind.i64.wrap (e * 2 ^ (min (8 : Int).toNat IntKind.i64.bits)) = IntKind.i64.wrap (e * 2 ^ 8) := rfl
    generalize IntKind.i64.wrap (e * 2 ^ 8) = e1 at *
    have hnx' := hnx.symm
    repeat (first | with_reducible (first | refine W_seq ?_ | refine q_then ?_ | refine q_thenr ?_ | refine q_thenx ?_ | refine W_block ?_ | refine q_block ?_ | refine q_blockr ?_ | refine q_blockx ?_ | refine W_ret ?_ | refine W_skip ?_ | refine W_label ?_ | refine W_exit ?_ | refine W_scope ?_ | refine q_scope ?_ | refine q_scoper ?_ | refine q_scopex ?_) | (with_reducible refine R_nil ?_; try dsimp only [slots0, slots_ud, cells_U, agg_ud, drop0, dropS, takeS, take0, ud_nil, take_ud, take_ud0, drop_ud, drop_ud0, take_udk, D.cells, D.fz, D.fzs, List.take_succ_cons, List.take_zero, List.drop_succ_cons, List.drop_zero, List.cons_append, List.nil_append, List.append_eq, List.length_cons, List.length_nil, Nat.reduceAdd, Nat.reduceMul, Nat.reduceSub, Int.reduceAdd, Int.reduceSub, Int.reduceToNat, Int.reduceNeg, Int.reduceMul]) | refine q_blocky rfl ?_ | refine W_plain rfl ?_ | refine W_drawn mixed rfl ?_ | refine and_chk (by kernel_rfl) ?_ | refine k_loade rfl rfl (by exact hc _) ?_ | refine k_indexAddrs rfl rfl rfl ⟨by omega, by omega⟩ hwl ?_ | refine k_move rfl rfl ?_ | refine k_assign rfl rfl ?_ | refine k_load rfl rfl rfl rfl ?_ | refine k_shl rfl rfl rfl (by decide) hsh ?_ | refine k_conv rfl rfl hcv ?_ | refine k_bits rfl rfl rfl rfl hnx' ?_ | refine k_append rfl rfl rfl (by first | rfl | exact trivial | (show 0 < _; omega)) (by first | rfl | (simp <;> omega)) (by first | rfl | (simp <;> omega)) rfl (by omega) rfl rfl rfl ?_ | refine k_slice rfl rfl rfl rfl ⟨by omega, by omega, by omega⟩ rfl rfl rfl ?_ | refine k_slice3 rfl rfl rfl rfl rfl ⟨by omega, by omega, by omega⟩ rfl rfl rfl ?_ | refine k_sliceA rfl rfl rfl rfl ⟨by omega, by omega, by omega, by omega⟩ rfl rfl ?_ | refine k_sliceE rfl rfl rfl rfl ⟨by omega, by omega, by omega, by omega⟩ rfl rfl rfl rfl ?_ | refine k_indexAddr rfl rfl rfl ⟨by omega, by omega⟩ ?_ | refine k_indexAddrs rfl rfl rfl ⟨by omega, by omega⟩ rfl ?_ | refine k_loade rfl rfl rfl ?_ | refine k_len rfl rfl ?_ | refine k_addi rfl rfl rfl (by omega) ?_ | refine k_lssT rfl rfl rfl (by omega) ?_ | refine k_lssF rfl rfl rfl (by omega) ?_ | refine W_yes rfl ?_ | refine W_no rfl ?_)
    exact ⟨n - (i + 1), _, _, _, (weak_ren (fun l => l) (by repeat (first | exact trivial | refine ⟨⟨_, rfl, (by first | exact Up.refl _ | exact Up.fz _ _ _ | exact Up.nil _ | assumption), rfl⟩, ?_⟩)) (by repeat (first | exact trivial | refine ⟨⟨rfl, _, rfl, (by first | exact Ups.refl _ | assumption | ((repeat refine Ups.cons (by first | exact Up.refl _ | exact Up.nil _ | exact Up.fz _ _ _) ?_); exact Ups.nil)), rfl⟩, ?_⟩ | refine ⟨⟨rfl, rfl⟩, ?_⟩)) (by first | decide | simp) (by first | decide | omega) (fun l h => idB_id (f := fun l => l) rfl l h)), by omega, i + 1, _, by omega, rfl, rfl, rfl, rfl, rfl⟩
  · have ei : i = n := by omega
    subst ei
    have ew : w.take i = w := List.take_of_length_le (by omega)
    rw [ew] at he
    subst he
    repeat (first | with_reducible (first | refine W_seq ?_ | refine q_then ?_ | refine q_thenr ?_ | refine q_thenx ?_ | refine W_block ?_ | refine q_block ?_ | refine q_blockr ?_ | refine q_blockx ?_ | refine W_ret ?_ | refine W_skip ?_ | refine W_label ?_ | refine W_exit ?_ | refine W_scope ?_ | refine q_scope ?_ | refine q_scoper ?_ | refine q_scopex ?_) | (with_reducible refine R_nil ?_; try dsimp only [slots0, slots_ud, cells_U, agg_ud, drop0, dropS, takeS, take0, ud_nil, take_ud, take_ud0, drop_ud, drop_ud0, take_udk, D.cells, D.fz, D.fzs, List.take_succ_cons, List.take_zero, List.drop_succ_cons, List.drop_zero, List.cons_append, List.nil_append, List.append_eq, List.length_cons, List.length_nil, Nat.reduceAdd, Nat.reduceMul, Nat.reduceSub, Int.reduceAdd, Int.reduceSub, Int.reduceToNat, Int.reduceNeg, Int.reduceMul]) | refine q_blocky rfl ?_ | refine W_plain rfl ?_ | refine W_drawn mixed rfl ?_ | refine and_chk (by kernel_rfl) ?_ | refine k_move rfl rfl ?_ | refine k_assign rfl rfl ?_ | refine k_load rfl rfl rfl rfl ?_ | refine k_append rfl rfl rfl (by first | rfl | exact trivial | (show 0 < _; omega)) (by first | rfl | (simp <;> omega)) (by first | rfl | (simp <;> omega)) rfl (by omega) rfl rfl rfl ?_ | refine k_slice rfl rfl rfl rfl ⟨by omega, by omega, by omega⟩ rfl rfl rfl ?_ | refine k_slice3 rfl rfl rfl rfl rfl ⟨by omega, by omega, by omega⟩ rfl rfl rfl ?_ | refine k_sliceA rfl rfl rfl rfl ⟨by omega, by omega, by omega, by omega⟩ rfl rfl ?_ | refine k_sliceE rfl rfl rfl rfl ⟨by omega, by omega, by omega, by omega⟩ rfl rfl rfl rfl ?_ | refine k_indexAddr rfl rfl rfl ⟨by omega, by omega⟩ ?_ | refine k_indexAddrs rfl rfl rfl ⟨by omega, by omega⟩ rfl ?_ | refine k_loade rfl rfl rfl ?_ | refine k_len rfl rfl ?_ | refine k_addi rfl rfl rfl (by omega) ?_ | refine k_lssT rfl rfl rfl (by omega) ?_ | refine k_lssF rfl rfl rfl (by omega) ?_ | refine W_yes rfl ?_ | refine W_no rfl ?_)
    first | exact (q_endf (fun l => l) 1 (RetsF.r1 (by first | exact RetV.tmp _ _ rfl | exact RetV.cell _ _ _ _ _ _ _ _ inferInstance rfl rfl rfl) (by first | exact Up.refl _ | exact Up.fz _ _ _ | exact Up.nil _)) rfl (by repeat (first | exact trivial | refine ⟨⟨rfl, _, rfl, Ups.refl _, rfl⟩, ?_⟩ | refine ⟨⟨rfl, rfl⟩, ?_⟩)) rfl rfl rfl).2 | exact (q_endf (fun l => l) 1 (RetsF.r1 (by first | exact RetV.tmp _ _ rfl | exact RetV.cell _ _ _ _ _ _ _ _ inferInstance rfl rfl rfl) (by first | exact Up.refl _ | exact Up.fz _ _ _ | exact Up.nil _)) rfl (by repeat (first | exact trivial | refine ⟨⟨rfl, _, rfl, Ups.refl _, rfl⟩, ?_⟩ | refine ⟨⟨rfl, rfl⟩, ?_⟩)) rfl rfl rfl).1

theorem eWord_ok (y : Ey) (hy : y.1.length ≤ 1000000) : Fn Try.prog 27 1 [.ptr 0 0] (eyM y) (.agg (bs (takeE y 32).1)) (eyM (takeE y 32).2) := by
  have tk := take_ok y 32 (by decide) hy
  have tl := takeE_len y 32
  generalize takeE y 32 = r at *
  obtain ⟨w, y2⟩ := r
  simp only at tk tl ⊢
  unfold eyM eyC at tk ⊢
  generalize bs y2.1 = z2 at *
  generalize y2.1.length = L2 at *
  generalize y2.2 = ok2 at *
  generalize bs y.1 = z at *
  generalize y.1.length = L at *
  generalize y.2 = ok at *
  have hsp := b_put tl
  have hwz := b_cut tl
  have ht : (bs w).take 32 = bs w := List.take_of_length_le (by rw [bs_len, tl]; exact Nat.le_refl _)
  refine fn_intro Try.func27 rfl Try.ntmps27 rfl fun B => ?_
  repeat (first | with_reducible (first | refine W_seq ?_ | refine q_then ?_ | refine q_thenr ?_ | refine q_thenx ?_ | refine W_block ?_ | refine q_block ?_ | refine q_blockr ?_ | refine q_blockx ?_ | refine W_ret ?_ | refine W_skip ?_ | refine W_label ?_ | refine W_exit ?_ | refine W_scope ?_ | refine q_scope ?_ | refine q_scoper ?_ | refine q_scopex ?_) | (with_reducible refine R_nil ?_; try dsimp only [slots0, slots_ud, cells_U, agg_ud, drop0, dropS, takeS, take0, ud_nil, take_ud, take_ud0, drop_ud, drop_ud0, take_udk, D.cells, D.fz, D.fzs, List.take_succ_cons, List.take_zero, List.drop_succ_cons, List.drop_zero, List.cons_append, List.nil_append, List.append_eq, List.length_cons, List.length_nil, Nat.reduceAdd, Nat.reduceMul, Nat.reduceSub, Int.reduceAdd, Int.reduceSub, Int.reduceToNat, Int.reduceNeg, Int.reduceMul]) | refine q_blocky rfl ?_ | refine W_plain rfl ?_ | refine W_drawn mixed rfl ?_ | refine and_chk (by kernel_rfl) ?_ | refine k_load rfl rfl rfl (by exact hwz _) ?_ | refine k_store rfl rfl rfl rfl (b_len tl) (b_fits _) (by exact hsp _ rfl) ?_ | refine k_move rfl rfl ?_ | refine k_load rfl rfl rfl rfl ?_ | refine k_alloc rfl ?_ | refine k_store rfl rfl rfl rfl rfl rfl rfl ?_ | refine k_callf (fun l => l) [0] (3) rfl (tk) rfl (by first | exact Ups.refl _ | assumption | ((repeat refine Ups.cons (by first | exact Up.refl _ | exact Up.nil _ | exact Up.fz _ _ _) ?_); exact Ups.nil)) (rfl) (by (repeat (first | refine ⟨⟨rfl, _, rfl, (by first | exact Ups.refl _ | assumption | ((repeat refine Ups.cons (by first | exact Up.refl _ | exact Up.nil _ | exact Up.fz _ _ _) ?_); exact Ups.nil)), rfl⟩, ?_⟩ | refine ⟨⟨rfl, rfl⟩, ?_⟩)); exact trivial) rfl rfl rfl rfl (rfl) (rfl) rfl rfl rfl rfl ?_ | refine k_copyd rfl rfl rfl rfl rfl rfl ht tl (by exact hsp _ rfl) ?_ | refine k_append rfl rfl rfl (by first | rfl | exact trivial | (show 0 < _; omega)) (by first | rfl | (simp <;> omega)) (by first | rfl | (simp <;> omega)) rfl (by omega) rfl rfl rfl ?_ | refine k_slice rfl rfl rfl rfl ⟨by omega, by omega, by omega⟩ rfl rfl rfl ?_ | refine k_slice3 rfl rfl rfl rfl rfl ⟨by omega, by omega, by omega⟩ rfl rfl rfl ?_ | refine k_sliceA rfl rfl rfl rfl ⟨by omega, by omega, by omega, by omega⟩ rfl rfl ?_ | refine k_sliceE rfl rfl rfl rfl ⟨by omega, by omega, by omega, by omega⟩ rfl rfl rfl rfl ?_ | refine k_loade rfl rfl rfl ?_ | refine W_yes rfl ?_ | refine W_no rfl ?_)
  have hcl : D.cl (.agg (bs w)) = true := bs_cl _
  have hren : ∀ f : Nat → Nat, Up (.agg (bs w)) (D.ren f (.agg (bs w))) := fun f => by rw [(D.cl_ren f (fun _ => true) _ hcl).1]; exact Up.refl _
  refine (q_endf (fun l => l) 3 (RetsF.r1 (RetV.cell _ _ _ _ _ _ _ _ inferInstance rfl rfl (by exact hwz _)) (hren _)) (D.cl_ren (fun l => l) _ _ hcl).2 ?_ rfl rfl rfl).2
  refine ⟨⟨rfl, _, rfl, ?_, rfl⟩, trivial⟩
  show Ups [_, _] [_, _]
  exact Ups.refl _
end Go.Proofs.Ytbpaimfnfigjpaa

namespace Go.Proofs.Ytbpaimfnfigjpaa
open Go.RowKit Go.Lib Go.IntWalk
set_option linter.unusedVariables false
set_option maxRecDepth 100000

theorem shr_nat (n i : Nat) (hi : 8 * i ≤ 63) : ((n : Int)).fdiv (2 ^ (min ((8 * i : Nat) : Int).toNat IntKind.i64.bits)) = ((n / 256 ^ i : Nat) : Int) := by
  rw [Int.toNat_natCast, show min (8 * i) IntKind.i64.bits = 8 * i from Nat.min_eq_left (by show 8 * i ≤ 64; omega)]
  rw [Int.fdiv_eq_ediv_of_nonneg _ (by exact_mod_cast Nat.zero_le _)]
  rw [show (256 : Nat) ^ i = 2 ^ (8 * i) from by rw [Nat.pow_mul]]
  push_cast
  rfl
theorem toB_snoc (k n j : Nat) (h : j < k) : (toB k n).take j ++ [UInt8.ofNat (n / 256 ^ (k - 1 - j))] = (toB k n).take (j + 1) := by
  have h1 := toB_get k n j h
  rw [List.take_add_one, h1]; rfl
theorem conv_byte (n i : Nat) : IntKind.u8.wrap ((n / 256 ^ i : Nat) : Int) = ((UInt8.ofNat (n / 256 ^ i)).toNat : Int) := by
  rw [IntKind.wrap_u8, UInt8.toNat_ofNat']; omega

/-- a pen that has written l -/
def penM (t : Nat) (L : Nat) (z : List D) : Mem := [(0, some (.var 65 [.slice (.own t) L z])), (t, some (.tok 5 1))]
set_option maxHeartbeats 4000000 in
theorem number_ok (l : List UInt8) (L : Nat) (hL : l.length = L) (n sz L2 : Nat) (h0 : 0 < sz) (hs : sz ≤ 8) (hn : n < 9223372036854775808) (hsm : L ≤ 10000000) (hL2 : L + sz = L2) (z z2 : List D) (hz : bs l = z) (hz2 : bs (l ++ toB sz n) = z2) :
    Fn Try.prog 21 2 [.ptr 0 0, .int .i64 n, .int .i64 sz] (penM 1 L z) (.tup []) (penM 2 L2 z2) := by
  unfold penM
  refine fn_intro Try.func21 rfl Try.ntmps21 rfl fun B => ?_
  repeat (first | with_reducible (first | refine W_seq ?_ | refine q_then ?_ | refine q_thenr ?_ | refine q_thenx ?_ | refine W_block ?_ | refine q_block ?_ | refine q_blockr ?_ | refine q_blockx ?_ | refine W_ret ?_ | refine W_skip ?_ | refine W_label ?_ | refine W_exit ?_ | refine W_scope ?_ | refine q_scope ?_ | refine q_scoper ?_ | refine q_scopex ?_) | (with_reducible refine R_nil ?_; try dsimp only [slots0, slots_ud, cells_U, agg_ud, drop0, dropS, takeS, take0, ud_nil, take_ud, take_ud0, drop_ud, drop_ud0, take_udk, D.cells, D.fz, D.fzs, List.take_succ_cons, List.take_zero, List.drop_succ_cons, List.drop_zero, List.cons_append, List.nil_append, List.append_eq, List.length_cons, List.length_nil, Nat.reduceAdd, Nat.reduceMul, Nat.reduceSub, Int.reduceAdd, Int.reduceSub, Int.reduceToNat, Int.reduceNeg, Int.reduceMul]) | refine q_blocky rfl ?_ | refine W_plain rfl ?_ | refine W_drawn mixed rfl ?_ | refine and_chk (by kernel_rfl) ?_ | refine k_move rfl rfl ?_ | refine k_assign rfl rfl ?_ | refine k_load rfl rfl rfl rfl ?_ | refine k_store rfl rfl rfl rfl rfl rfl rfl ?_ | refine k_fieldAddr rfl rfl rfl ?_ | refine k_append rfl rfl rfl (by first | rfl | exact trivial | (show 0 < _; omega)) (by first | rfl | (simp <;> omega)) (by first | rfl | (simp <;> omega)) rfl (by omega) rfl rfl rfl ?_ | refine k_slice rfl rfl rfl rfl ⟨by omega, by omega, by omega⟩ rfl rfl rfl ?_ | refine k_slice3 rfl rfl rfl rfl rfl ⟨by omega, by omega, by omega⟩ rfl rfl rfl ?_ | refine k_sliceA rfl rfl rfl rfl ⟨by omega, by omega, by omega, by omega⟩ rfl rfl ?_ | refine k_sliceE rfl rfl rfl rfl ⟨by omega, by omega, by omega, by omega⟩ rfl rfl rfl rfl ?_ | refine k_buildSlice (cs := []) rfl rfl rfl rfl rfl rfl rfl ?_ | refine k_buildSlice rfl rfl rfl rfl rfl rfl rfl ?_ | refine k_loade rfl rfl rfl ?_ | refine k_fieldAddre rfl rfl rfl rfl ?_ | refine k_nilCheck rfl rfl rfl ?_ | refine k_subi rfl rfl rfl (by omega) ?_ | refine k_geqT rfl rfl rfl (by omega) ?_ | refine k_geqF rfl rfl rfl (by omega) ?_ | refine W_yes rfl ?_ | refine W_no rfl ?_)
  refine W_loopW (fun n' ρ m nx => ∃ (j q : Nat) (x : List D) (e : Int), j ≤ sz ∧ e = (sz : Int) - 1 - j ∧ q = L + j ∧ x = bs (l ++ (toB sz n).take j) ∧ n' = sz - j ∧ ρ = [(6, .int .i64 e), (0, .ptr 0 0), (1, .int .i64 n)] ∧ m = [(0, some (.var 65 [.slice (.own 2) q x])), (2, some (.tok 5 1))] ∧ nx = 3)
    ⟨_, _, _, _, (weak_ren (fun l => if l = 2 then 1 else l) (by repeat (first | exact trivial | refine ⟨⟨_, rfl, (by first | exact Up.refl _ | exact Up.fz _ _ _ | exact Up.nil _ | assumption), rfl⟩, ?_⟩)) (by repeat (first | exact trivial | refine ⟨⟨rfl, _, rfl, (by first | exact Ups.refl _ | assumption | ((repeat refine Ups.cons (by first | exact Up.refl _ | exact Up.nil _ | exact Up.fz _ _ _) ?_); exact Ups.nil)), rfl⟩, ?_⟩ | refine ⟨⟨rfl, rfl⟩, ?_⟩)) (by first | decide | simp) (by first | decide | omega) (fun l h => idB_id (f := fun l => if l = 2 then 1 else l) rfl l h)), 0, L, z, (sz : Int) - 1, Nat.zero_le _, by simp, rfl, by simp [hz], rfl, rfl, rfl, rfl⟩ ?_
  rintro n' ρ m nx ⟨j, q, x, e, hj, he, hq, hx, rfl, rfl, rfl, rfl⟩
  by_cases hlt : j < sz
  · have e1 : IntKind.i64.wrap (8 * e) = ((8 * (sz - 1 - j) : Nat) : Int) := by rw [i64_in _ (by omega)]; omega
    have e2 := shr_nat n (sz - 1 - j) (by omega)
    have e3 := conv_byte n (sz - 1 - j)
    have hxl : q * 1 = x.length := by rw [hx, bs_len, List.length_append, List.length_take, toB_len]; omega
    have hx2 : x ++ [D.int .u8 ((UInt8.ofNat (n / 256 ^ (sz - 1 - j))).toNat : Int)] = bs (l ++ (toB sz n).take (j + 1)) := by
      rw [hx, ← toB_snoc sz n j hlt, ← List.append_assoc]; unfold bs; rw [List.map_append (l₁ := l ++ _)]; rfl
    generalize (UInt8.ofNat (n / 256 ^ (sz - 1 - j))).toNat = c at *
    generalize n / 256 ^ (sz - 1 - j) = v at *
    repeat (first | with_reducible (first | refine W_seq ?_ | refine q_then ?_ | refine q_thenr ?_ | refine q_thenx ?_ | refine W_block ?_ | refine q_block ?_ | refine q_blockr ?_ | refine q_blockx ?_ | refine W_ret ?_ | refine W_skip ?_ | refine W_label ?_ | refine W_exit ?_ | refine W_scope ?_ | refine q_scope ?_ | refine q_scoper ?_ | refine q_scopex ?_) | (with_reducible refine R_nil ?_; try dsimp only [slots0, slots_ud, cells_U, agg_ud, drop0, dropS, takeS, take0, ud_nil, take_ud, take_ud0, drop_ud, drop_ud0, take_udk, D.cells, D.fz, D.fzs, List.take_succ_cons, List.take_zero, List.drop_succ_cons, List.drop_zero, List.cons_append, List.nil_append, List.append_eq, List.length_cons, List.length_nil, Nat.reduceAdd, Nat.reduceMul, Nat.reduceSub, Int.reduceAdd, Int.reduceSub, Int.reduceToNat, Int.reduceNeg, Int.reduceMul]) | refine q_blocky rfl ?_ | refine W_plain rfl ?_ | refine W_drawn mixed rfl ?_ | refine and_chk (by kernel_rfl) ?_ | refine k_buildSlice (cs := [.int .u8 (c : Int)]) rfl rfl rfl rfl rfl rfl rfl ?_ | refine k_append rfl rfl rfl (by rfl) hxl rfl rfl (by omega) rfl rfl hx2 ?_ | refine k_move rfl rfl ?_ | refine k_assign rfl rfl ?_ | refine k_load rfl rfl rfl rfl ?_ | refine k_store rfl rfl rfl rfl rfl rfl rfl ?_ | refine k_fieldAddr rfl rfl rfl ?_ | refine k_mul rfl rfl rfl e1 ?_ | refine k_shr rfl rfl rfl (by omega) e2 ?_ | refine k_conv rfl rfl e3 ?_ | refine k_append rfl rfl rfl (by first | rfl | exact trivial | (show 0 < _; omega)) (by first | rfl | (simp <;> omega)) (by first | rfl | (simp <;> omega)) rfl (by omega) rfl rfl rfl ?_ | refine k_slice rfl rfl rfl rfl ⟨by omega, by omega, by omega⟩ rfl rfl rfl ?_ | refine k_slice3 rfl rfl rfl rfl rfl ⟨by omega, by omega, by omega⟩ rfl rfl rfl ?_ | refine k_sliceA rfl rfl rfl rfl ⟨by omega, by omega, by omega, by omega⟩ rfl rfl ?_ | refine k_sliceE rfl rfl rfl rfl ⟨by omega, by omega, by omega, by omega⟩ rfl rfl rfl rfl ?_ | refine k_buildSlice (cs := []) rfl rfl rfl rfl rfl rfl rfl ?_ | refine k_buildSlice rfl rfl rfl rfl rfl rfl rfl ?_ | refine k_loade rfl rfl rfl ?_ | refine k_fieldAddre rfl rfl rfl rfl ?_ | refine k_nilCheck rfl rfl rfl ?_ | refine k_subi rfl rfl rfl (by omega) ?_ | refine k_geqT rfl rfl rfl (by omega) ?_ | refine k_geqF rfl rfl rfl (by omega) ?_ | refine W_yes rfl ?_ | refine W_no rfl ?_)
    exact ⟨sz - (j + 1), _, _, _, (weak_ren (fun l => if l = 2 then 4 else l) (by repeat (first | exact trivial | refine ⟨⟨_, rfl, (by first | exact Up.refl _ | exact Up.fz _ _ _ | exact Up.nil _ | assumption), rfl⟩, ?_⟩)) (by repeat (first | exact trivial | refine ⟨⟨rfl, _, rfl, (by first | exact Ups.refl _ | assumption | ((repeat refine Ups.cons (by first | exact Up.refl _ | exact Up.nil _ | exact Up.fz _ _ _) ?_); exact Ups.nil)), rfl⟩, ?_⟩ | refine ⟨⟨rfl, rfl⟩, ?_⟩)) (by first | decide | simp) (by first | decide | omega) (fun l h => idB_id (f := fun l => if l = 2 then 4 else l) rfl l h)), by omega, j + 1, q + 1, _, e - 1, by omega, by omega, by omega, rfl, rfl, rfl, rfl, rfl⟩
  · have ej : j = sz := by omega
    subst ej
    have hx' : x = z2 := by rw [hx, ← hz2, List.take_of_length_le (by rw [toB_len]; exact Nat.le_refl _)]
    have hq' : q = L2 := by omega
    subst hx' hq'
    repeat (first | with_reducible (first | refine W_seq ?_ | refine q_then ?_ | refine q_thenr ?_ | refine q_thenx ?_ | refine W_block ?_ | refine q_block ?_ | refine q_blockr ?_ | refine q_blockx ?_ | refine W_ret ?_ | refine W_skip ?_ | refine W_label ?_ | refine W_exit ?_ | refine W_scope ?_ | refine q_scope ?_ | refine q_scoper ?_ | refine q_scopex ?_) | (with_reducible refine R_nil ?_; try dsimp only [slots0, slots_ud, cells_U, agg_ud, drop0, dropS, takeS, take0, ud_nil, take_ud, take_ud0, drop_ud, drop_ud0, take_udk, D.cells, D.fz, D.fzs, List.take_succ_cons, List.take_zero, List.drop_succ_cons, List.drop_zero, List.cons_append, List.nil_append, List.append_eq, List.length_cons, List.length_nil, Nat.reduceAdd, Nat.reduceMul, Nat.reduceSub, Int.reduceAdd, Int.reduceSub, Int.reduceToNat, Int.reduceNeg, Int.reduceMul]) | refine q_blocky rfl ?_ | refine W_plain rfl ?_ | refine W_drawn mixed rfl ?_ | refine and_chk (by kernel_rfl) ?_ | refine k_move rfl rfl ?_ | refine k_assign rfl rfl ?_ | refine k_load rfl rfl rfl rfl ?_ | refine k_store rfl rfl rfl rfl rfl rfl rfl ?_ | refine k_fieldAddr rfl rfl rfl ?_ | refine k_append rfl rfl rfl (by first | rfl | exact trivial | (show 0 < _; omega)) (by first | rfl | (simp <;> omega)) (by first | rfl | (simp <;> omega)) rfl (by omega) rfl rfl rfl ?_ | refine k_slice rfl rfl rfl rfl ⟨by omega, by omega, by omega⟩ rfl rfl rfl ?_ | refine k_slice3 rfl rfl rfl rfl rfl ⟨by omega, by omega, by omega⟩ rfl rfl rfl ?_ | refine k_sliceA rfl rfl rfl rfl ⟨by omega, by omega, by omega, by omega⟩ rfl rfl ?_ | refine k_sliceE rfl rfl rfl rfl ⟨by omega, by omega, by omega, by omega⟩ rfl rfl rfl rfl ?_ | refine k_buildSlice (cs := []) rfl rfl rfl rfl rfl rfl rfl ?_ | refine k_buildSlice rfl rfl rfl rfl rfl rfl rfl ?_ | refine k_loade rfl rfl rfl ?_ | refine k_fieldAddre rfl rfl rfl rfl ?_ | refine k_nilCheck rfl rfl rfl ?_ | refine k_subi rfl rfl rfl (by omega) ?_ | refine k_geqT rfl rfl rfl (by omega) ?_ | refine k_geqF rfl rfl rfl (by omega) ?_ | refine W_yes rfl ?_ | refine W_no rfl ?_)
    first | exact (q_endf (fun l => l) 3 (RetsF.r0 ) rfl (by repeat (first | exact trivial | refine ⟨⟨rfl, _, rfl, Ups.refl _, rfl⟩, ?_⟩ | refine ⟨⟨rfl, rfl⟩, ?_⟩)) rfl rfl rfl).2 | exact (q_endf (fun l => l) 3 (RetsF.r0 ) rfl (by repeat (first | exact trivial | refine ⟨⟨rfl, _, rfl, Ups.refl _, rfl⟩, ?_⟩ | refine ⟨⟨rfl, rfl⟩, ?_⟩)) rfl rfl rfl).1
theorem bytes_ok (l c : List UInt8) (L m : Nat) (hL : l.length = L) (hm : c.length = m) (hsm : L ≤ 8000000) (hsm2 : m ≤ 8000000) (L2 : Nat) (hL2 : L + m = L2) (z z2 : List D) (hz : bs l = z) (hz2 : bs (l ++ c) = z2) :
    Fn Try.prog 23 2 [.ptr 0 0, .slice .frozen m (bs c)] (penM 1 L z) (.tup []) (penM 2 L2 z2) := by
  unfold penM
  have hxl : L * 1 = z.length := by rw [← hz, bs_len, hL]; omega
  have hcl : m * 1 = (bs c).length := by rw [bs_len, hm]; omega
  have hcc : z ++ bs c = z2 := by rw [← hz, ← hz2]; unfold bs; rw [List.map_append]
  refine fn_intro Try.func23 rfl Try.ntmps23 rfl fun B => ?_
  repeat (first | with_reducible (first | refine W_seq ?_ | refine q_then ?_ | refine q_thenr ?_ | refine q_thenx ?_ | refine W_block ?_ | refine q_block ?_ | refine q_blockr ?_ | refine q_blockx ?_ | refine W_ret ?_ | refine W_skip ?_ | refine W_label ?_ | refine W_exit ?_ | refine W_scope ?_ | refine q_scope ?_ | refine q_scoper ?_ | refine q_scopex ?_) | (with_reducible refine R_nil ?_; try dsimp only [slots0, slots_ud, cells_U, agg_ud, drop0, dropS, takeS, take0, ud_nil, take_ud, take_ud0, drop_ud, drop_ud0, take_udk, D.cells, D.fz, D.fzs, List.take_succ_cons, List.take_zero, List.drop_succ_cons, List.drop_zero, List.cons_append, List.nil_append, List.append_eq, List.length_cons, List.length_nil, Nat.reduceAdd, Nat.reduceMul, Nat.reduceSub, Int.reduceAdd, Int.reduceSub, Int.reduceToNat, Int.reduceNeg, Int.reduceMul]) | refine q_blocky rfl ?_ | refine W_plain rfl ?_ | refine W_drawn mixed rfl ?_ | refine and_chk (by kernel_rfl) ?_ | refine k_append rfl rfl rfl (by rfl) hxl hcl rfl (by omega) rfl hL2 hcc ?_ | refine k_move rfl rfl ?_ | refine k_load rfl rfl rfl rfl ?_ | refine k_store rfl rfl rfl rfl rfl rfl rfl ?_ | refine k_fieldAddr rfl rfl rfl ?_ | refine k_append rfl rfl rfl (by first | rfl | exact trivial | (show 0 < _; omega)) (by first | rfl | (simp <;> omega)) (by first | rfl | (simp <;> omega)) rfl (by omega) rfl rfl rfl ?_ | refine k_slice rfl rfl rfl rfl ⟨by omega, by omega, by omega⟩ rfl rfl rfl ?_ | refine k_slice3 rfl rfl rfl rfl rfl ⟨by omega, by omega, by omega⟩ rfl rfl rfl ?_ | refine k_sliceA rfl rfl rfl rfl ⟨by omega, by omega, by omega, by omega⟩ rfl rfl ?_ | refine k_sliceE rfl rfl rfl rfl ⟨by omega, by omega, by omega, by omega⟩ rfl rfl rfl rfl ?_ | refine k_loade rfl rfl rfl ?_ | refine k_fieldAddre rfl rfl rfl rfl ?_ | refine k_nilCheck rfl rfl rfl ?_ | refine W_yes rfl ?_ | refine W_no rfl ?_)
  first | exact (q_endf (fun l => l) 3 (RetsF.r0 ) rfl (by repeat (first | exact trivial | refine ⟨⟨rfl, _, rfl, Ups.refl _, rfl⟩, ?_⟩ | refine ⟨⟨rfl, rfl⟩, ?_⟩)) rfl rfl rfl).2 | exact (q_endf (fun l => l) 3 (RetsF.r0 ) rfl (by repeat (first | exact trivial | refine ⟨⟨rfl, _, rfl, Ups.refl _, rfl⟩, ?_⟩ | refine ⟨⟨rfl, rfl⟩, ?_⟩)) rfl rfl rfl).1
end Go.Proofs.Ytbpaimfnfigjpaa

namespace Go.Proofs.Ytbpaimfnfigjpaa
open Go.RowKit Go.Lib Go.IntWalk
set_option linter.unusedVariables false
set_option maxRecDepth 100000

/-- a message -/
structure BodyT where
  t : Nat
  n : Nat
  c : Nat
  e : List UInt8
  u : Nat
  v : Nat
  l : List UInt8
/-- one that may be -/
structure BodyT.ok (b : BodyT) : Prop where
  t : b.t ≤ 1099511627776
  n : b.n ≤ 4294967295
  c : b.c ≤ 65535
  e : b.e.length = 32
  u : b.u ≤ 1099511627776
  v : b.v ≤ 255
  l : b.l.length ≤ 300
def BodyT.cells (b : BodyT) : List D := .int .i64 b.t :: .int .i64 b.n :: .int .i64 b.c :: (bs b.e ++ [.int .i64 b.u, .int .i64 b.v, .slice .frozen b.l.length (bs b.l)])
/-- its bytes -/
def BodyT.out (b : BodyT) : List UInt8 := toB 8 b.t ++ toB 4 b.n ++ toB 2 b.c ++ b.e ++ toB 8 b.u ++ toB 1 b.v ++ b.l
theorem BodyT.out_len (b : BodyT) (h : b.ok) : b.out.length = 55 + b.l.length := by
  unfold BodyT.out
  simp only [List.length_append, toB_len, h.e]
section
variable {b : BodyT} (h : b.e.length = 32)
include h
theorem bd_len : b.cells.length = 38 := by
  unfold BodyT.cells
  simp only [List.length_cons, List.length_append, bs_len, h, List.length_nil]
theorem bd_all (ze : List D) : cut ⟨true, 38, ze⟩ 0 b.cells = some (.agg b.cells) := by
  unfold cut
  simp only [cond_true, Nat.zero_add, List.drop_zero]
  rw [bd_len h, List.take_of_length_le (by rw [bd_len h]; exact Nat.le_refl _)]
  rfl
theorem bd_put (cs : List D) (hc : cs.length = 38) : splice 0 b.cells cs = some b.cells := by
  unfold splice
  rw [Nat.ble_eq_true_of_le (by rw [bd_len h, hc]; exact Nat.le_refl _), cond_true, Nat.zero_add, List.drop_of_length_le (by rw [bd_len h, hc]; exact Nat.le_refl _)]
  simp
theorem bd_at (i : Nat) (d : D) (hd : [D.int .i64 b.u, .int .i64 b.v, .slice .frozen b.l.length (bs b.l)][i]? = some d) (ze : List D) (j : Nat) (hj : j = 35 + i) : cut ⟨false, 1, ze⟩ j b.cells = some d := by
  subst hj
  unfold cut BodyT.cells
  simp only [cond_false]
  rw [show 35 + i = 32 + i + 1 + 1 + 1 from by omega, List.getElem?_cons_succ, List.getElem?_cons_succ, List.getElem?_cons_succ, List.getElem?_append_right (by rw [bs_len, h]; omega), bs_len, h, Nat.add_sub_cancel_left]
  exact hd
theorem bd_e (ze : List D) : cut ⟨true, 32, ze⟩ 3 b.cells = some (.agg (bs b.e)) := by
  unfold cut
  simp only [cond_true]
  rw [bd_len h]
  have e2 : (b.cells.drop 3).take 32 = bs b.e := by
    unfold BodyT.cells
    rw [List.drop_succ_cons, List.drop_succ_cons, List.drop_succ_cons, List.drop_zero, List.take_append_of_le_length (by rw [bs_len, h]; exact Nat.le_refl _), List.take_of_length_le (by rw [bs_len, h]; exact Nat.le_refl _)]
  rw [e2]; rfl
theorem bd_dat (i : Nat) (d : D) (hd : [D.int .i64 b.u, .int .i64 b.v, .slice .frozen b.l.length (bs b.l)][i]? = some d) (ze : List D) (j : Nat) (hj : j = 35 + i) : cut ⟨false, 1, ze⟩ 0 (b.cells.drop j) = some d := by
  have := bd_at h i d hd ze j hj
  unfold cut at this ⊢
  simp only [cond_false, List.getElem?_drop, Nat.add_zero] at this ⊢
  exact this
omit h in
theorem bd_sl (h : b.e.length = 32) : ((b.cells.drop 3).drop ((0 : Int).toNat * 1)).take (32 * 1) = bs b.e := by
  unfold BodyT.cells
  rw [List.drop_succ_cons, List.drop_succ_cons, List.drop_succ_cons, List.drop_zero]
  show (List.drop 0 _).take 32 = _
  rw [List.drop_zero, List.take_append_of_le_length (by rw [bs_len, h]; exact Nat.le_refl _), List.take_of_length_le (by rw [bs_len, h]; exact Nat.le_refl _)]
end
theorem bs_frz (l : List UInt8) (r : List D) : D.fzs (bs l ++ r) = bs l ++ D.fzs r := by
  induction l with
  | nil => rfl
  | cons a l ih => show D.int .u8 _ :: D.fzs (bs l ++ r) = _; rw [ih]; rfl
theorem bs_cls_app (l : List UInt8) (r : List D) : D.cls (bs l ++ r) = D.cls r := by
  induction l with
  | nil => rfl
  | cons a l ih => show (true && D.cls (bs l ++ r)) = _; rw [ih]; rfl
theorem bd_fz (b : BodyT) : D.fzs [D.agg b.cells] = [D.agg b.cells] := by
  show [D.agg (_ :: _ :: _ :: D.fzs (bs b.e ++ _))] = _
  rw [bs_frz]; rfl
theorem bd_cls (b : BodyT) : D.cls b.cells = true := by
  show (true && (true && (true && D.cls (bs b.e ++ _)))) = true
  rw [bs_cls_app]; rfl
theorem bd_cl (b : BodyT) : D.cls [D.agg b.cells] = true := by
  show (D.cls b.cells && true) = true
  rw [bd_cls]; rfl

/-- names at a call of a pen's function: its memory is a, and b behind it -/
abbrev ff (a b : Nat) : Nat → Nat := fun l => cond (Nat.beq l 2) b (cond (Nat.beq l 1) a l)
theorem in_ok (n m : Int) (h0 : 0 ≤ n) (h1 : n ≤ m) : Pur Try.prog 37 [.int .i64 n, .int .i64 m] (.bool true) := by
  have e1 : decide (n ≥ 0) = true := by simp; omega
  have e2 : decide (n ≤ m) = true := by simp; omega
  refine pur_intro Try.func37 rfl Try.ntmps37 rfl (by first | rfl | assumption | exact bs_cl _) fun B => ?_
  repeat (first | with_reducible (first | refine W_seq ?_ | refine q_then ?_ | refine q_thenr ?_ | refine q_thenx ?_ | refine W_block ?_ | refine q_block ?_ | refine q_blockr ?_ | refine q_blockx ?_ | refine W_ret ?_ | refine W_skip ?_ | refine W_label ?_ | refine W_exit ?_ | refine W_scope ?_ | refine q_scope ?_ | refine q_scoper ?_ | refine q_scopex ?_) | (with_reducible refine R_nil ?_; try dsimp only [slots0, slots_ud, cells_U, agg_ud, drop0, dropS, takeS, take0, ud_nil, take_ud, take_ud0, drop_ud, drop_ud0, take_udk, D.cells, D.fz, D.fzs, List.take_succ_cons, List.take_zero, List.drop_succ_cons, List.drop_zero, List.cons_append, List.nil_append, List.append_eq, List.length_cons, List.length_nil, Nat.reduceAdd, Nat.reduceMul, Nat.reduceSub, Int.reduceAdd, Int.reduceSub, Int.reduceToNat, Int.reduceNeg, Int.reduceMul]) | refine q_blocky rfl ?_ | refine W_plain rfl ?_ | refine W_drawn mixed rfl ?_ | refine and_chk (by kernel_rfl) ?_ | refine k_move rfl rfl ?_ | refine k_assign rfl rfl ?_ | refine k_geq rfl rfl rfl e1 ?_ | refine k_leq rfl rfl rfl e2 ?_ | refine k_pickT rfl rfl rfl ?_ | refine k_pickF rfl rfl rfl ?_ | refine k_leqT rfl rfl rfl (by omega) ?_ | refine k_leqF rfl rfl rfl (by omega) ?_ | refine k_geqT rfl rfl rfl (by omega) ?_ | refine k_geqF rfl rfl rfl (by omega) ?_ | refine k_skip rfl ?_ | refine k_skip0 rfl ?_ | refine k_pick rfl rfl rfl rfl rfl ?_ | refine W_yes rfl ?_ | refine W_no rfl ?_)
  (first | with_reducible refine q_endr ?_ | with_reducible refine q_endn ?_); refine rets1 Try.results37 (by first | exact RetV.tmp _ _ rfl | exact RetV.cell _ _ _ _ _ _ _ _ inferInstance rfl rfl rfl) ?_
  rfl
theorem bCheck_ok (b : BodyT) (h : b.ok) : Pur Try.prog 35 [.agg b.cells] (.int .i64 0) := by
  have i1 := in_ok b.t 1099511627776 (by omega) (by have := h.t; omega)
  have i2 := in_ok b.n 4294967295 (by omega) (by have := h.n; omega)
  have i3 := in_ok b.c 65535 (by omega) (by have := h.c; omega)
  have i4 := in_ok b.u 1099511627776 (by omega) (by have := h.u; omega)
  have i5 := in_ok b.v 255 (by omega) (by have := h.v; omega)
  have hl := h.l
  have hu := bd_at h.e 0 _ rfl
  have hv := bd_at h.e 1 _ rfl
  have hld := bd_at h.e 2 _ rfl
  have hcl : D.cl (.agg b.cells) = true := bd_cls b
  have hlen := bd_len h.e
  refine pur_intro Try.func35 rfl Try.ntmps35 rfl (by first | rfl | assumption | exact bs_cl _) fun B => ?_
  repeat (first | with_reducible (first | refine W_seq ?_ | refine q_then ?_ | refine q_thenr ?_ | refine q_thenx ?_ | refine W_block ?_ | refine q_block ?_ | refine q_blockr ?_ | refine q_blockx ?_ | refine W_ret ?_ | refine W_skip ?_ | refine W_label ?_ | refine W_exit ?_ | refine W_scope ?_ | refine q_scope ?_ | refine q_scoper ?_ | refine q_scopex ?_) | (with_reducible refine R_nil ?_; try dsimp only [slots0, slots_ud, cells_U, agg_ud, drop0, dropS, takeS, take0, ud_nil, take_ud, take_ud0, drop_ud, drop_ud0, take_udk, D.cells, D.fz, D.fzs, List.take_succ_cons, List.take_zero, List.drop_succ_cons, List.drop_zero, List.cons_append, List.nil_append, List.append_eq, List.length_cons, List.length_nil, Nat.reduceAdd, Nat.reduceMul, Nat.reduceSub, Int.reduceAdd, Int.reduceSub, Int.reduceToNat, Int.reduceNeg, Int.reduceMul]) | refine q_blocky rfl ?_ | refine W_plain rfl ?_ | refine W_drawn mixed rfl ?_ | refine and_chk (by kernel_rfl) ?_ | refine k_load rfl rfl rfl (by exact hu _ _ rfl) ?_ | refine k_load rfl rfl rfl (by exact hv _ _ rfl) ?_ | refine k_load rfl rfl rfl (by exact hld _ _ rfl) ?_ | refine k_move rfl rfl ?_ | refine k_assign rfl rfl ?_ | refine k_load rfl rfl rfl rfl ?_ | refine k_box rfl rfl rfl ?_ | refine k_fieldAddr rfl rfl rfl ?_ | refine k_callv rfl i1 rfl rfl rfl rfl rfl ?_ | refine k_callv rfl i2 rfl rfl rfl rfl rfl ?_ | refine k_callv rfl i3 rfl rfl rfl rfl rfl ?_ | refine k_callv rfl i4 rfl rfl rfl rfl rfl ?_ | refine k_callv rfl i5 rfl rfl rfl rfl rfl ?_ | refine k_loade rfl rfl rfl ?_ | refine k_fieldAddre rfl rfl rfl rfl ?_ | refine k_len rfl rfl ?_ | refine k_pickT rfl rfl rfl ?_ | refine k_pickF rfl rfl rfl ?_ | refine k_not rfl rfl rfl ?_ | refine k_gtrT rfl rfl rfl (by omega) ?_ | refine k_gtrF rfl rfl rfl (by omega) ?_ | refine k_skip rfl ?_ | refine k_skip0 rfl ?_ | refine k_pick rfl rfl rfl rfl rfl ?_ | refine W_yes rfl ?_ | refine W_no rfl ?_)
  (first | with_reducible refine q_endr ?_ | with_reducible refine q_endn ?_); refine rets1 Try.results35 (by first | exact RetV.tmp _ _ rfl | exact RetV.cell _ _ _ _ _ _ _ _ inferInstance rfl rfl rfl) ?_
  rfl

set_option maxHeartbeats 4000000 in
theorem body_ok (l : List UInt8) (L : Nat) (hL : l.length = L) (hsm : L ≤ 1000000) (b : BodyT) (h : b.ok) (L2 : Nat) (hL2 : L + (55 + b.l.length) = L2) (z z2 : List D) (hz : bs l = z) (hz2 : bs (l ++ b.out) = z2) :
    Fn Try.prog 24 2 [.ptr 0 0, .agg b.cells] (penM 1 L z) (.tup []) (penM 2 L2 z2) := by
  have c1 := number_ok l L hL b.t 8 (L + 8) (by decide) (by decide) (by have := h.t; omega) (by omega) rfl z _ hz rfl
  have c2 := number_ok (l ++ toB 8 b.t) (L + 8) (by simp [hL, toB_len]) b.n 4 (L + 8 + 4) (by decide) (by decide) (by have := h.n; omega) (by omega) rfl _ _ rfl rfl
  have c3 := number_ok (l ++ toB 8 b.t ++ toB 4 b.n) (L + 8 + 4) (by simp [hL, toB_len] <;> omega) b.c 2 (L + 8 + 4 + 2) (by decide) (by decide) (by have := h.c; omega) (by omega) rfl _ _ rfl rfl
  have c4 := bytes_ok (l ++ toB 8 b.t ++ toB 4 b.n ++ toB 2 b.c) b.e (L + 8 + 4 + 2) 32 (by simp [hL, toB_len] <;> omega) h.e (by omega) (by decide) (L + 8 + 4 + 2 + 32) rfl _ _ rfl rfl
  have c5 := number_ok (l ++ toB 8 b.t ++ toB 4 b.n ++ toB 2 b.c ++ b.e) (L + 8 + 4 + 2 + 32) (by simp [hL, toB_len, h.e] <;> omega) b.u 8 (L + 8 + 4 + 2 + 32 + 8) (by decide) (by decide) (by have := h.u; omega) (by omega) rfl _ _ rfl rfl
  have c6 := number_ok (l ++ toB 8 b.t ++ toB 4 b.n ++ toB 2 b.c ++ b.e ++ toB 8 b.u) (L + 8 + 4 + 2 + 32 + 8) (by simp [hL, toB_len, h.e] <;> omega) b.v 1 (L + 8 + 4 + 2 + 32 + 8 + 1) (by decide) (by decide) (by have := h.v; omega) (by omega) rfl _ _ rfl rfl
  have c7 := bytes_ok (l ++ toB 8 b.t ++ toB 4 b.n ++ toB 2 b.c ++ b.e ++ toB 8 b.u ++ toB 1 b.v) b.l (L + 8 + 4 + 2 + 32 + 8 + 1) b.l.length (by simp [hL, toB_len, h.e] <;> omega) rfl (by omega) (by have := h.l; omega) L2 (by omega) _ z2 rfl (by rw [← hz2]; unfold BodyT.out; simp only [List.append_assoc])
  generalize bs (l ++ toB 8 b.t ++ toB 4 b.n ++ toB 2 b.c ++ b.e ++ toB 8 b.u ++ toB 1 b.v) = z6 at *
  generalize bs (l ++ toB 8 b.t ++ toB 4 b.n ++ toB 2 b.c ++ b.e ++ toB 8 b.u) = z5 at *
  generalize bs (l ++ toB 8 b.t ++ toB 4 b.n ++ toB 2 b.c ++ b.e) = z4 at *
  generalize bs (l ++ toB 8 b.t ++ toB 4 b.n ++ toB 2 b.c) = z3 at *
  generalize bs (l ++ toB 8 b.t ++ toB 4 b.n) = z2' at *
  generalize bs (l ++ toB 8 b.t) = z1 at *
  unfold penM at *
  have hlen := bd_len h.e
  have hu := bd_dat h.e 0 _ rfl
  have hv := bd_dat h.e 1 _ rfl
  have hld := bd_dat h.e 2 _ rfl
  have hsl := bd_sl h.e
  have hcle : D.cls (bs b.e) = true := bs_cl _
  have hdl : Nat.ble (32 * 1) (b.cells.drop 3).length = true := by rw [List.length_drop, hlen]; rfl
  refine fn_intro Try.func24 rfl Try.ntmps24 rfl fun B => ?_
  iterate 4 (first | with_reducible (first | refine W_seq ?_ | refine q_then ?_ | refine q_thenr ?_ | refine q_thenx ?_ | refine W_block ?_ | refine q_block ?_ | refine q_blockr ?_ | refine q_blockx ?_ | refine W_ret ?_ | refine W_skip ?_ | refine W_label ?_ | refine W_exit ?_ | refine W_scope ?_ | refine q_scope ?_ | refine q_scoper ?_ | refine q_scopex ?_) | (with_reducible refine R_nil ?_; try dsimp only [slots0, slots_ud, cells_U, agg_ud, drop0, dropS, takeS, take0, ud_nil, take_ud, take_ud0, drop_ud, drop_ud0, take_udk, D.cells, D.fz, D.fzs, List.take_succ_cons, List.take_zero, List.drop_succ_cons, List.drop_zero, List.cons_append, List.nil_append, List.append_eq, List.length_cons, List.length_nil, Nat.reduceAdd, Nat.reduceMul, Nat.reduceSub, Int.reduceAdd, Int.reduceSub, Int.reduceToNat, Int.reduceNeg, Int.reduceMul]) | refine q_blocky rfl ?_ | refine W_plain rfl ?_ | refine W_drawn mixed rfl ?_ | refine and_chk (by kernel_rfl) ?_ | refine k_move rfl rfl ?_ | refine k_load rfl rfl rfl rfl ?_ | refine k_box rfl rfl rfl ?_ | refine k_fieldAddr rfl rfl rfl ?_ | refine k_append rfl rfl rfl (by first | rfl | exact trivial | (show 0 < _; omega)) (by first | rfl | (simp <;> omega)) (by first | rfl | (simp <;> omega)) rfl (by omega) rfl rfl rfl ?_ | refine k_slice rfl rfl rfl rfl ⟨by omega, by omega, by omega⟩ rfl rfl rfl ?_ | refine k_slice3 rfl rfl rfl rfl rfl ⟨by omega, by omega, by omega⟩ rfl rfl rfl ?_ | refine k_sliceA rfl rfl rfl rfl ⟨by omega, by omega, by omega, by omega⟩ rfl rfl ?_ | refine k_sliceE rfl rfl rfl rfl ⟨by omega, by omega, by omega, by omega⟩ rfl rfl rfl rfl ?_ | refine k_loade rfl rfl rfl ?_ | refine k_fieldAddre rfl rfl rfl rfl ?_ | refine W_yes rfl ?_ | refine W_no rfl ?_)
  refine W_of_weak (weak_fix 2 b.cells rfl (bd_cls b) (by repeat (first | exact trivial | refine ⟨⟨_, rfl, .ptr0⟩, ?_⟩ | refine ⟨⟨_, rfl, .refl _⟩, ?_⟩ | refine ⟨⟨_, rfl, .ptr _ rfl⟩, ?_⟩ | refine ⟨⟨_, rfl, .ms _ _ _ rfl⟩, ?_⟩)) (by repeat (first | exact trivial | refine ⟨⟨rfl, rfl, rfl⟩, ?_⟩)) (ρ1 := [(3, .eptr b.cells), (0, .ptr 0 0)]) (m1 := [(0, some (.var 65 [.slice (.own 1) L z])), (1, some (.tok 5 1))])) ?_
  repeat (first | with_reducible (first | refine W_seq ?_ | refine q_then ?_ | refine q_thenr ?_ | refine q_thenx ?_ | refine W_block ?_ | refine q_block ?_ | refine q_blockr ?_ | refine q_blockx ?_ | refine W_ret ?_ | refine W_skip ?_ | refine W_label ?_ | refine W_exit ?_ | refine W_scope ?_ | refine q_scope ?_ | refine q_scoper ?_ | refine q_scopex ?_) | (with_reducible refine R_nil ?_; try dsimp only [slots0, slots_ud, cells_U, agg_ud, drop0, dropS, takeS, take0, ud_nil, take_ud, take_ud0, drop_ud, drop_ud0, take_udk, D.cells, D.fz, D.fzs, List.take_succ_cons, List.take_zero, List.drop_succ_cons, List.drop_zero, List.cons_append, List.nil_append, List.append_eq, List.length_cons, List.length_nil, Nat.reduceAdd, Nat.reduceMul, Nat.reduceSub, Int.reduceAdd, Int.reduceSub, Int.reduceToNat, Int.reduceNeg, Int.reduceMul]) | refine q_blocky rfl ?_ | refine W_plain rfl ?_ | refine W_drawn mixed rfl ?_ | refine and_chk (by kernel_rfl) ?_ | refine k_fieldAddre rfl rfl rfl (by rw [hlen]; rfl) ?_ | refine k_loade rfl rfl (by exact hu _ _ rfl) ?_ | refine k_loade rfl rfl (by exact hv _ _ rfl) ?_ | refine k_loade rfl rfl (by exact hld _ _ rfl) ?_ | refine k_sliceEt rfl rfl rfl ⟨by decide, by decide⟩ rfl (by exact hdl) rfl (by exact hsl) ?_ | refine k_move rfl rfl ?_ | refine k_load rfl rfl rfl rfl ?_ | refine k_box rfl rfl rfl ?_ | refine k_fieldAddr rfl rfl rfl ?_ | refine k_callf (ff 1 3) [0, 1, 2] (4) rfl (c1) rfl (by first | exact Ups.refl _ | assumption | ((repeat refine Ups.cons (by first | exact Up.refl _ | exact Up.nil _ | exact Up.fz _ _ _) ?_); exact Ups.nil)) (rfl) (by (repeat (first | refine ⟨⟨rfl, _, rfl, (by first | exact Ups.refl _ | assumption | ((repeat refine Ups.cons (by first | exact Up.refl _ | exact Up.nil _ | exact Up.fz _ _ _) ?_); exact Ups.nil)), rfl⟩, ?_⟩ | refine ⟨⟨rfl, rfl⟩, ?_⟩)); exact trivial) rfl rfl rfl rfl (rfl) (rfl) rfl rfl rfl rfl ?_ | refine k_callf (ff 3 4) [0, 1, 2] (5) rfl (c2) rfl (by first | exact Ups.refl _ | assumption | ((repeat refine Ups.cons (by first | exact Up.refl _ | exact Up.nil _ | exact Up.fz _ _ _) ?_); exact Ups.nil)) (rfl) (by (repeat (first | refine ⟨⟨rfl, _, rfl, (by first | exact Ups.refl _ | assumption | ((repeat refine Ups.cons (by first | exact Up.refl _ | exact Up.nil _ | exact Up.fz _ _ _) ?_); exact Ups.nil)), rfl⟩, ?_⟩ | refine ⟨⟨rfl, rfl⟩, ?_⟩)); exact trivial) rfl rfl rfl rfl (rfl) (rfl) rfl rfl rfl rfl ?_ | refine k_callf (ff 4 5) [0, 1, 2] (6) rfl (c3) rfl (by first | exact Ups.refl _ | assumption | ((repeat refine Ups.cons (by first | exact Up.refl _ | exact Up.nil _ | exact Up.fz _ _ _) ?_); exact Ups.nil)) (rfl) (by (repeat (first | refine ⟨⟨rfl, _, rfl, (by first | exact Ups.refl _ | assumption | ((repeat refine Ups.cons (by first | exact Up.refl _ | exact Up.nil _ | exact Up.fz _ _ _) ?_); exact Ups.nil)), rfl⟩, ?_⟩ | refine ⟨⟨rfl, rfl⟩, ?_⟩)); exact trivial) rfl rfl rfl rfl (rfl) (rfl) rfl rfl rfl rfl ?_ | refine k_callf (ff 5 6) [0, 1, 2] (7) rfl (c4) rfl (by first | exact Ups.refl _ | assumption | ((repeat refine Ups.cons (by first | exact Up.refl _ | exact Up.nil _ | exact Up.fz _ _ _) ?_); exact Ups.nil)) (rfl) (by (repeat (first | refine ⟨⟨rfl, _, rfl, (by first | exact Ups.refl _ | assumption | ((repeat refine Ups.cons (by first | exact Up.refl _ | exact Up.nil _ | exact Up.fz _ _ _) ?_); exact Ups.nil)), rfl⟩, ?_⟩ | refine ⟨⟨rfl, rfl⟩, ?_⟩)); exact trivial) rfl rfl rfl rfl (rfl) (rfl) rfl rfl rfl rfl ?_ | refine k_callf (ff 6 7) [0, 1, 2] (8) rfl (c5) rfl (by first | exact Ups.refl _ | assumption | ((repeat refine Ups.cons (by first | exact Up.refl _ | exact Up.nil _ | exact Up.fz _ _ _) ?_); exact Ups.nil)) (rfl) (by (repeat (first | refine ⟨⟨rfl, _, rfl, (by first | exact Ups.refl _ | assumption | ((repeat refine Ups.cons (by first | exact Up.refl _ | exact Up.nil _ | exact Up.fz _ _ _) ?_); exact Ups.nil)), rfl⟩, ?_⟩ | refine ⟨⟨rfl, rfl⟩, ?_⟩)); exact trivial) rfl rfl rfl rfl (rfl) (rfl) rfl rfl rfl rfl ?_ | refine k_callf (ff 7 8) [0, 1, 2] (9) rfl (c6) rfl (by first | exact Ups.refl _ | assumption | ((repeat refine Ups.cons (by first | exact Up.refl _ | exact Up.nil _ | exact Up.fz _ _ _) ?_); exact Ups.nil)) (rfl) (by (repeat (first | refine ⟨⟨rfl, _, rfl, (by first | exact Ups.refl _ | assumption | ((repeat refine Ups.cons (by first | exact Up.refl _ | exact Up.nil _ | exact Up.fz _ _ _) ?_); exact Ups.nil)), rfl⟩, ?_⟩ | refine ⟨⟨rfl, rfl⟩, ?_⟩)); exact trivial) rfl rfl rfl rfl (rfl) (rfl) rfl rfl rfl rfl ?_ | refine k_callf (ff 8 9) [0, 1, 2] (10) rfl (c7) rfl (by first | exact Ups.refl _ | assumption | ((repeat refine Ups.cons (by first | exact Up.refl _ | exact Up.nil _ | exact Up.fz _ _ _) ?_); exact Ups.nil)) (rfl) (by (repeat (first | refine ⟨⟨rfl, _, rfl, (by first | exact Ups.refl _ | assumption | ((repeat refine Ups.cons (by first | exact Up.refl _ | exact Up.nil _ | exact Up.fz _ _ _) ?_); exact Ups.nil)), rfl⟩, ?_⟩ | refine ⟨⟨rfl, rfl⟩, ?_⟩)); exact trivial) rfl rfl rfl rfl (rfl) (rfl) rfl rfl rfl rfl ?_ | refine k_append rfl rfl rfl (by first | rfl | exact trivial | (show 0 < _; omega)) (by first | rfl | (simp <;> omega)) (by first | rfl | (simp <;> omega)) rfl (by omega) rfl rfl rfl ?_ | refine k_slice rfl rfl rfl rfl ⟨by omega, by omega, by omega⟩ rfl rfl rfl ?_ | refine k_slice3 rfl rfl rfl rfl rfl ⟨by omega, by omega, by omega⟩ rfl rfl rfl ?_ | refine k_sliceA rfl rfl rfl rfl ⟨by omega, by omega, by omega, by omega⟩ rfl rfl ?_ | refine k_sliceE rfl rfl rfl rfl ⟨by omega, by omega, by omega, by omega⟩ rfl rfl rfl rfl ?_ | refine k_loade rfl rfl rfl ?_ | refine k_fieldAddre rfl rfl rfl rfl ?_ | refine W_yes rfl ?_ | refine W_no rfl ?_)
  first | exact (q_endf (ff 1 9) 10 (RetsF.r0 ) rfl (by repeat (first | exact trivial | refine ⟨⟨rfl, _, rfl, Ups.refl _, rfl⟩, ?_⟩ | refine ⟨⟨rfl, rfl⟩, ?_⟩)) rfl rfl rfl).2 | exact (q_endf (ff 1 9) 10 (RetsF.r0 ) rfl (by repeat (first | exact trivial | refine ⟨⟨rfl, _, rfl, Ups.refl _, rfl⟩, ?_⟩ | refine ⟨⟨rfl, rfl⟩, ?_⟩)) rfl rfl rfl).1
theorem ren2 (f : Nat → Nat) {a : D} {ds : List D} (h : D.cls ds = true) : Ups (a.ren f :: ds) (D.rens f (a :: ds)) := by
  show Ups _ (_ :: D.rens f ds)
  rw [(D.cls_ren f (fun _ => true) ds h).1]; exact Ups.refl _
theorem lal2 (p : Nat → Bool) {a : D} {ds : List D} (ha : a.lall p = true) (h : D.cls ds = true) : D.lalls p (a :: ds) = true := by
  show (a.lall p && D.lalls p ds) = true
  rw [ha, (D.cls_ren (fun l => l) p ds h).2]; rfl
/-- names at a call of a pen's function: the pen, its memory, and what comes behind it -/
abbrev fp (p a b : Nat) : Nat → Nat := fun l => cond (Nat.beq l 2) b (cond (Nat.beq l 1) a (cond (Nat.beq l 0) p l))
end Go.Proofs.Ytbpaimfnfigjpaa

namespace Go.Proofs.Ytbpaimfnfigjpaa
open Go.RowKit Go.Lib Go.IntWalk
set_option linter.unusedVariables false
set_option maxRecDepth 100000

/-- a message that was read: its numbers may be any -/
structure BodyI where
  t : Int
  n : Int
  c : Int
  e : List UInt8
  u : Int
  v : Int
  l : List UInt8
/-- a message's cells, the last three by themselves -/
def bx (t n c : Int) (e : List UInt8) (tl : List D) : List D := .int .i64 t :: .int .i64 n :: .int .i64 c :: (bs e ++ tl)
def BodyI.cells (b : BodyI) : List D := bx b.t b.n b.c b.e [.int .i64 b.u, .int .i64 b.v, .slice .frozen b.l.length (bs b.l)]
section
variable {t n c : Int} {e : List UInt8} (h : e.length = 32)
include h
theorem bx_len (tl : List D) (ht : tl.length = 3) : (bx t n c e tl).length = 38 := by
  unfold bx
  simp only [List.length_cons, List.length_append, bs_len, h, ht]
theorem bx_all (tl : List D) (ht : tl.length = 3) (ze : List D) : cut ⟨true, 38, ze⟩ 0 (bx t n c e tl) = some (.agg (bx t n c e tl)) := by
  unfold cut
  simp only [cond_true, Nat.zero_add, List.drop_zero]
  rw [bx_len h tl ht, List.take_of_length_le (by rw [bx_len h tl ht]; exact Nat.le_refl _)]
  rfl
theorem bx_lay (tl : List D) (ht : tl.length = 3) (cs : List D) (hc : cs.length = 38) : splice 0 (bx t n c e tl) cs = some (bx t n c e tl) := by
  unfold splice
  rw [Nat.ble_eq_true_of_le (by rw [bx_len h tl ht, hc]; exact Nat.le_refl _), cond_true, Nat.zero_add, List.drop_of_length_le (by rw [bx_len h tl ht, hc]; exact Nat.le_refl _)]
  simp
theorem bx_put (a b d x : D) (i : Nat) (tl : List D) (hi : (i = 0 ∧ tl = [x, b, d]) ∨ (i = 1 ∧ tl = [a, x, d]) ∨ (i = 2 ∧ tl = [a, b, x])) (j : Nat) (hj : j = 35 + i) : splice j [x] (bx t n c e [a, b, d]) = some (bx t n c e tl) := by
  subst hj
  unfold splice
  rw [Nat.ble_eq_true_of_le (by rw [bx_len h _ rfl]; simp; omega), cond_true]
  congr 1
  unfold bx
  rw [show 35 + i = 32 + i + 1 + 1 + 1 from by omega, show 32 + i + 1 + 1 + 1 + [x].length = (32 + (i + 1)) + 1 + 1 + 1 from by simp; omega]
  simp only [List.take_succ_cons, List.drop_succ_cons]
  rw [List.take_append, List.drop_append, List.take_of_length_le (by rw [bs_len, h]; omega), List.drop_of_length_le (by rw [bs_len, h]; omega), bs_len, h, Nat.add_sub_cancel_left, Nat.add_sub_cancel_left]
  rcases hi with ⟨rfl, rfl⟩ | ⟨rfl, rfl⟩ | ⟨rfl, rfl⟩ <;> simp
theorem bx_e (a b d : D) : splice 3 (bs e) (.int .i64 t :: .int .i64 n :: .int .i64 c :: (List.replicate 32 (.int .u8 0) ++ [a, b, d])) = some (bx t n c e [a, b, d]) := by
  unfold splice bx
  rw [Nat.ble_eq_true_of_le (by rw [bs_len, h]; exact (by decide : 3 + 32 ≤ 38)), cond_true, bs_len, h]
  rfl
end
theorem bx_fz (t n c : Int) (e : List UInt8) (a b : D) (k : Tok) (m : Nat) (z : List D) : Up (.agg (bx t n c e [a, b, .slice k m z])) (.agg (bx t n c e [a, b, .slice .frozen m z])) := by
  refine Up.agg _ _ (by unfold bx; simp) fun i d d' hd hd' => ?_
  have e1 : ∀ s : D, bx t n c e [a, b, s] = bx t n c e [a, b] ++ [s] := fun s => by unfold bx; simp
  rw [e1] at hd hd'
  rcases Nat.lt_or_ge i (bx t n c e [a, b]).length with h | h
  · rw [List.getElem?_append_left h] at hd hd'
    rw [hd] at hd'
    cases hd'
    exact Up.refl _
  · rw [List.getElem?_append_right h] at hd hd'
    generalize i - _ = j at hd hd'
    match j with
    | 0 =>
      simp at hd hd'
      subst hd; subst hd'
      exact Up.fz _ _ _
    | j + 1 => simp at hd
theorem BodyI.cl (b : BodyI) : D.cl (.agg b.cells) = true := by
  show (true && (true && (true && D.cls (bs b.e ++ _)))) = true
  rw [bs_cls_app]; rfl

/-- what an eye reads of a message, and what it sees then -/
def bodyE (y : Ey) : BodyI × Ey :=
  let r1 := numberE y 8
  let r2 := numberE r1.2 4
  let r3 := numberE r2.2 2
  let r4 := takeE r3.2 32
  let r5 := numberE r4.2 8
  let r6 := numberE r5.2 1
  (⟨r1.1, r2.1, r3.1, r4.1, r5.1, r6.1, r6.2.1⟩, r6.2)
theorem takeE_le (y : Ey) (n : Nat) : (takeE y n).2.1.length ≤ y.1.length := by
  unfold takeE
  split
  · simp
  · simp
theorem numberE_le (y : Ey) (n : Nat) : (numberE y n).2.1.length ≤ y.1.length := takeE_le y n
set_option maxHeartbeats 8000000 in
theorem eBody_ok (y : Ey) (hy : y.1.length ≤ 1000000) : Fn Try.prog 28 1 [.ptr 0 0] (eyM y) (.agg (bodyE y).1.cells) (eyM (bodyE y).2) := by
  unfold bodyE
  dsimp only
  have c1 := eNumber_ok y 8 (by decide) hy
  have l1 := numberE_le y 8
  generalize numberE y 8 = r1 at *
  obtain ⟨t, y1⟩ := r1
  dsimp only at c1 l1 ⊢
  have c2 := eNumber_ok y1 4 (by decide) (by omega)
  have l2 := numberE_le y1 4
  generalize numberE y1 4 = r2 at *
  obtain ⟨n, y2⟩ := r2
  dsimp only at c2 l2 ⊢
  have c3 := eNumber_ok y2 2 (by decide) (by omega)
  have l3 := numberE_le y2 2
  generalize numberE y2 2 = r3 at *
  obtain ⟨c, y3⟩ := r3
  dsimp only at c3 l3 ⊢
  have c4 := eWord_ok y3 (by omega)
  have l4 := takeE_le y3 32
  have w4 := takeE_len y3 32
  generalize takeE y3 32 = r4 at *
  obtain ⟨e, y4⟩ := r4
  dsimp only at c4 l4 w4 ⊢
  have c5 := eNumber_ok y4 8 (by decide) (by omega)
  have l5 := numberE_le y4 8
  generalize numberE y4 8 = r5 at *
  obtain ⟨u, y5⟩ := r5
  dsimp only at c5 l5 ⊢
  have c6 := eNumber_ok y5 1 (by decide) (by omega)
  have l6 := numberE_le y5 1
  generalize numberE y5 1 = r6 at *
  obtain ⟨v, y6⟩ := r6
  dsimp only at c6 l6 ⊢
  have l6' : y6.1.length ≤ 1000000 := by omega
  clear l1 l2 l3 l4 l5 l6
  have hcl := BodyI.cl ⟨t, n, c, e, u, v, y6.1⟩
  unfold BodyI.cells at hcl ⊢
  dsimp only at hcl ⊢
  have hL6 : y6.1.length * 1 = (bs y6.1).length := by rw [bs_len]; omega
  unfold eyM eyC at *
  generalize bs y6.1 = z6 at *
  generalize y6.1.length = L6 at *
  generalize y6.2 = k6 at *
  generalize bs y5.1 = z5 at *
  generalize y5.1.length = L5 at *
  generalize y5.2 = k5 at *
  generalize bs y4.1 = z4 at *
  generalize y4.1.length = L4 at *
  generalize y4.2 = k4 at *
  generalize bs y3.1 = z3 at *
  generalize y3.1.length = L3 at *
  generalize y3.2 = k3 at *
  generalize bs y2.1 = z2 at *
  generalize y2.1.length = L2 at *
  generalize y2.2 = k2 at *
  generalize bs y1.1 = z1 at *
  generalize y1.1.length = L1 at *
  generalize y1.2 = k1 at *
  generalize bs y.1 = z at *
  generalize y.1.length = L at *
  generalize y.2 = k0 at *
  have p1 : splice 0 [.int .i64 t] (bx 0 0 0 (List.replicate 32 0) [.int .i64 0, .int .i64 0, .slice .nil 0 []]) = some (bx t 0 0 (List.replicate 32 0) [.int .i64 0, .int .i64 0, .slice .nil 0 []]) := rfl
  have p2 : splice 1 [.int .i64 n] (bx t 0 0 (List.replicate 32 0) [.int .i64 0, .int .i64 0, .slice .nil 0 []]) = some (bx t n 0 (List.replicate 32 0) [.int .i64 0, .int .i64 0, .slice .nil 0 []]) := rfl
  have p3 : splice 2 [.int .i64 c] (bx t n 0 (List.replicate 32 0) [.int .i64 0, .int .i64 0, .slice .nil 0 []]) = some (bx t n c (List.replicate 32 0) [.int .i64 0, .int .i64 0, .slice .nil 0 []]) := rfl
  have p4 : splice 3 (bs e) (bx t n c (List.replicate 32 0) [.int .i64 0, .int .i64 0, .slice .nil 0 []]) = some (bx t n c e [.int .i64 0, .int .i64 0, .slice .nil 0 []]) := bx_e (t := t) (n := n) (c := c) w4 (.int .i64 0) (.int .i64 0) (.slice .nil 0 [])
  have p5 := bx_put (t := t) (n := n) (c := c) w4 (.int .i64 0) (.int .i64 0) (.slice .nil 0 []) (.int .i64 u) 0 _ (.inl ⟨rfl, rfl⟩)
  have p6 := bx_put (t := t) (n := n) (c := c) w4 (.int .i64 u) (.int .i64 0) (.slice .nil 0 []) (.int .i64 v) 1 _ (.inr (.inl ⟨rfl, rfl⟩))
  have p7 := bx_put (t := t) (n := n) (c := c) w4 (.int .i64 u) (.int .i64 v) (.slice .nil 0 []) (.slice (.own 4) L6 z6) 2 _ (.inr (.inr ⟨rfl, rfl⟩))
  have lall := bx_all (t := t) (n := n) (c := c) w4 [.int .i64 u, .int .i64 v, .slice (.own 4) L6 z6] rfl
  have llay := bx_lay (t := t) (n := n) (c := c) w4 [.int .i64 u, .int .i64 v, .slice (.own 4) L6 z6] rfl
  have llen := bx_len (t := t) (n := n) (c := c) w4 [.int .i64 u, .int .i64 v, .slice (.own 4) L6 z6] rfl
  have hup := bx_fz t n c e (.int .i64 u) (.int .i64 v) (.own 4) L6 z6
  have hfull := (D.cl_ren (fun l => l) (below 5) _ hcl).2
  have hren := (D.cl_ren (fun l => l) (fun _ => true) _ hcl).1
  generalize bx t n c e [.int .i64 u, .int .i64 v, .slice (.own 4) L6 z6] = X7 at *
  generalize bx t n c e [.int .i64 u, .int .i64 v, .slice .frozen L6 z6] = X8 at *
  generalize bx t n c e [.int .i64 u, .int .i64 v, .slice .nil 0 []] = X6 at *
  generalize bx t n c e [.int .i64 u, .int .i64 0, .slice .nil 0 []] = X5 at *
  generalize bx t n c e [.int .i64 0, .int .i64 0, .slice .nil 0 []] = X4 at *
  generalize bx t n c (List.replicate 32 0) [.int .i64 0, .int .i64 0, .slice .nil 0 []] = X3 at *
  generalize bx t n 0 (List.replicate 32 0) [.int .i64 0, .int .i64 0, .slice .nil 0 []] = X2 at *
  generalize bx t 0 0 (List.replicate 32 0) [.int .i64 0, .int .i64 0, .slice .nil 0 []] = X1 at *
  have hce : D.cl (.agg (bs e)) = true := bs_cl _
  have hbe : ∀ p : Nat → Bool, D.lall p (.agg (bs e)) = true := fun p => (D.cl_ren (fun l => l) p _ hce).2
  have hbr : D.ren (fun l => l) (.agg (bs e)) = .agg (bs e) := (D.cl_ren (fun l => l) (fun _ => true) _ hce).1
  refine fn_intro Try.func28 rfl Try.ntmps28 rfl fun B => ?_
  repeat (first | with_reducible (first | refine W_seq ?_ | refine q_then ?_ | refine q_thenr ?_ | refine q_thenx ?_ | refine W_block ?_ | refine q_block ?_ | refine q_blockr ?_ | refine q_blockx ?_ | refine W_ret ?_ | refine W_skip ?_ | refine W_label ?_ | refine W_exit ?_ | refine W_scope ?_ | refine q_scope ?_ | refine q_scoper ?_ | refine q_scopex ?_) | (with_reducible refine R_nil ?_; try dsimp only [slots0, slots_ud, cells_U, agg_ud, drop0, dropS, takeS, take0, ud_nil, take_ud, take_ud0, drop_ud, drop_ud0, take_udk, D.cells, D.fz, D.fzs, List.take_succ_cons, List.take_zero, List.drop_succ_cons, List.drop_zero, List.cons_append, List.nil_append, List.append_eq, List.length_cons, List.length_nil, Nat.reduceAdd, Nat.reduceMul, Nat.reduceSub, Int.reduceAdd, Int.reduceSub, Int.reduceToNat, Int.reduceNeg, Int.reduceMul]) | refine q_blocky rfl ?_ | refine W_plain rfl ?_ | refine W_drawn mixed rfl ?_ | refine and_chk (by kernel_rfl) ?_ | refine k_store rfl rfl rfl rfl rfl rfl (by exact p1) ?_ | refine k_move rfl rfl ?_ | refine k_load rfl rfl rfl rfl ?_ | refine k_alloc rfl ?_ | refine k_store rfl rfl rfl rfl rfl rfl rfl ?_ | refine k_fieldAddr rfl rfl rfl ?_ | refine k_callf (fun l => l) [0] (3) rfl (c1) rfl (by first | exact Ups.refl _ | assumption | ((repeat refine Ups.cons (by first | exact Up.refl _ | exact Up.nil _ | exact Up.fz _ _ _) ?_); exact Ups.nil)) (rfl) (by (repeat (first | refine ⟨⟨rfl, _, rfl, (by first | exact Ups.refl _ | assumption | ((repeat refine Ups.cons (by first | exact Up.refl _ | exact Up.nil _ | exact Up.fz _ _ _) ?_); exact Ups.nil)), rfl⟩, ?_⟩ | refine ⟨⟨rfl, rfl⟩, ?_⟩)); exact trivial) rfl rfl rfl rfl (rfl) (rfl) rfl rfl rfl rfl ?_ | refine k_append rfl rfl rfl (by first | rfl | exact trivial | (show 0 < _; omega)) (by first | rfl | (simp <;> omega)) (by first | rfl | (simp <;> omega)) rfl (by omega) rfl rfl rfl ?_ | refine k_slice rfl rfl rfl rfl ⟨by omega, by omega, by omega⟩ rfl rfl rfl ?_ | refine k_slice3 rfl rfl rfl rfl rfl ⟨by omega, by omega, by omega⟩ rfl rfl rfl ?_ | refine k_sliceA rfl rfl rfl rfl ⟨by omega, by omega, by omega, by omega⟩ rfl rfl ?_ | refine k_sliceE rfl rfl rfl rfl ⟨by omega, by omega, by omega, by omega⟩ rfl rfl rfl rfl ?_ | refine k_buildSlice (cs := []) rfl rfl rfl rfl rfl rfl rfl ?_ | refine k_buildSlice rfl rfl rfl rfl rfl rfl rfl ?_ | refine k_loade rfl rfl rfl ?_ | refine k_fieldAddre rfl rfl rfl rfl ?_ | refine k_nilCheck rfl rfl rfl ?_ | refine W_yes rfl ?_ | refine W_no rfl ?_)
  repeat (first | with_reducible (first | refine W_seq ?_ | refine q_then ?_ | refine q_thenr ?_ | refine q_thenx ?_ | refine W_block ?_ | refine q_block ?_ | refine q_blockr ?_ | refine q_blockx ?_ | refine W_ret ?_ | refine W_skip ?_ | refine W_label ?_ | refine W_exit ?_ | refine W_scope ?_ | refine q_scope ?_ | refine q_scoper ?_ | refine q_scopex ?_) | (with_reducible refine R_nil ?_; try dsimp only [slots0, slots_ud, cells_U, agg_ud, drop0, dropS, takeS, take0, ud_nil, take_ud, take_ud0, drop_ud, drop_ud0, take_udk, D.cells, D.fz, D.fzs, List.take_succ_cons, List.take_zero, List.drop_succ_cons, List.drop_zero, List.cons_append, List.nil_append, List.append_eq, List.length_cons, List.length_nil, Nat.reduceAdd, Nat.reduceMul, Nat.reduceSub, Int.reduceAdd, Int.reduceSub, Int.reduceToNat, Int.reduceNeg, Int.reduceMul]) | refine q_blocky rfl ?_ | refine W_plain rfl ?_ | refine W_drawn mixed rfl ?_ | refine and_chk (by kernel_rfl) ?_ | refine k_store rfl rfl rfl rfl rfl rfl (by exact p2) ?_ | refine k_move rfl rfl ?_ | refine k_load rfl rfl rfl rfl ?_ | refine k_alloc rfl ?_ | refine k_store rfl rfl rfl rfl rfl rfl rfl ?_ | refine k_fieldAddr rfl rfl rfl ?_ | refine k_callf (fun l => l) [0] (3) rfl (c2) rfl (by first | exact Ups.refl _ | assumption | ((repeat refine Ups.cons (by first | exact Up.refl _ | exact Up.nil _ | exact Up.fz _ _ _) ?_); exact Ups.nil)) (rfl) (by (repeat (first | refine ⟨⟨rfl, _, rfl, (by first | exact Ups.refl _ | assumption | ((repeat refine Ups.cons (by first | exact Up.refl _ | exact Up.nil _ | exact Up.fz _ _ _) ?_); exact Ups.nil)), rfl⟩, ?_⟩ | refine ⟨⟨rfl, rfl⟩, ?_⟩)); exact trivial) rfl rfl rfl rfl (rfl) (rfl) rfl rfl rfl rfl ?_ | refine k_append rfl rfl rfl (by first | rfl | exact trivial | (show 0 < _; omega)) (by first | rfl | (simp <;> omega)) (by first | rfl | (simp <;> omega)) rfl (by omega) rfl rfl rfl ?_ | refine k_slice rfl rfl rfl rfl ⟨by omega, by omega, by omega⟩ rfl rfl rfl ?_ | refine k_slice3 rfl rfl rfl rfl rfl ⟨by omega, by omega, by omega⟩ rfl rfl rfl ?_ | refine k_sliceA rfl rfl rfl rfl ⟨by omega, by omega, by omega, by omega⟩ rfl rfl ?_ | refine k_sliceE rfl rfl rfl rfl ⟨by omega, by omega, by omega, by omega⟩ rfl rfl rfl rfl ?_ | refine k_buildSlice (cs := []) rfl rfl rfl rfl rfl rfl rfl ?_ | refine k_buildSlice rfl rfl rfl rfl rfl rfl rfl ?_ | refine k_loade rfl rfl rfl ?_ | refine k_fieldAddre rfl rfl rfl rfl ?_ | refine k_nilCheck rfl rfl rfl ?_ | refine W_yes rfl ?_ | refine W_no rfl ?_)
  repeat (first | with_reducible (first | refine W_seq ?_ | refine q_then ?_ | refine q_thenr ?_ | refine q_thenx ?_ | refine W_block ?_ | refine q_block ?_ | refine q_blockr ?_ | refine q_blockx ?_ | refine W_ret ?_ | refine W_skip ?_ | refine W_label ?_ | refine W_exit ?_ | refine W_scope ?_ | refine q_scope ?_ | refine q_scoper ?_ | refine q_scopex ?_) | (with_reducible refine R_nil ?_; try dsimp only [slots0, slots_ud, cells_U, agg_ud, drop0, dropS, takeS, take0, ud_nil, take_ud, take_ud0, drop_ud, drop_ud0, take_udk, D.cells, D.fz, D.fzs, List.take_succ_cons, List.take_zero, List.drop_succ_cons, List.drop_zero, List.cons_append, List.nil_append, List.append_eq, List.length_cons, List.length_nil, Nat.reduceAdd, Nat.reduceMul, Nat.reduceSub, Int.reduceAdd, Int.reduceSub, Int.reduceToNat, Int.reduceNeg, Int.reduceMul]) | refine q_blocky rfl ?_ | refine W_plain rfl ?_ | refine W_drawn mixed rfl ?_ | refine and_chk (by kernel_rfl) ?_ | refine k_store rfl rfl rfl rfl rfl rfl (by exact p3) ?_ | refine k_move rfl rfl ?_ | refine k_load rfl rfl rfl rfl ?_ | refine k_alloc rfl ?_ | refine k_store rfl rfl rfl rfl rfl rfl rfl ?_ | refine k_fieldAddr rfl rfl rfl ?_ | refine k_callf (fun l => l) [0] (3) rfl (c3) rfl (by first | exact Ups.refl _ | assumption | ((repeat refine Ups.cons (by first | exact Up.refl _ | exact Up.nil _ | exact Up.fz _ _ _) ?_); exact Ups.nil)) (rfl) (by (repeat (first | refine ⟨⟨rfl, _, rfl, (by first | exact Ups.refl _ | assumption | ((repeat refine Ups.cons (by first | exact Up.refl _ | exact Up.nil _ | exact Up.fz _ _ _) ?_); exact Ups.nil)), rfl⟩, ?_⟩ | refine ⟨⟨rfl, rfl⟩, ?_⟩)); exact trivial) rfl rfl rfl rfl (rfl) (rfl) rfl rfl rfl rfl ?_ | refine k_append rfl rfl rfl (by first | rfl | exact trivial | (show 0 < _; omega)) (by first | rfl | (simp <;> omega)) (by first | rfl | (simp <;> omega)) rfl (by omega) rfl rfl rfl ?_ | refine k_slice rfl rfl rfl rfl ⟨by omega, by omega, by omega⟩ rfl rfl rfl ?_ | refine k_slice3 rfl rfl rfl rfl rfl ⟨by omega, by omega, by omega⟩ rfl rfl rfl ?_ | refine k_sliceA rfl rfl rfl rfl ⟨by omega, by omega, by omega, by omega⟩ rfl rfl ?_ | refine k_sliceE rfl rfl rfl rfl ⟨by omega, by omega, by omega, by omega⟩ rfl rfl rfl rfl ?_ | refine k_buildSlice (cs := []) rfl rfl rfl rfl rfl rfl rfl ?_ | refine k_buildSlice rfl rfl rfl rfl rfl rfl rfl ?_ | refine k_loade rfl rfl rfl ?_ | refine k_fieldAddre rfl rfl rfl rfl ?_ | refine k_nilCheck rfl rfl rfl ?_ | refine W_yes rfl ?_ | refine W_no rfl ?_)
  repeat (first | with_reducible (first | refine W_seq ?_ | refine q_then ?_ | refine q_thenr ?_ | refine q_thenx ?_ | refine W_block ?_ | refine q_block ?_ | refine q_blockr ?_ | refine q_blockx ?_ | refine W_ret ?_ | refine W_skip ?_ | refine W_label ?_ | refine W_exit ?_ | refine W_scope ?_ | refine q_scope ?_ | refine q_scoper ?_ | refine q_scopex ?_) | (with_reducible refine R_nil ?_; try dsimp only [slots0, slots_ud, cells_U, agg_ud, drop0, dropS, takeS, take0, ud_nil, take_ud, take_ud0, drop_ud, drop_ud0, take_udk, D.cells, D.fz, D.fzs, List.take_succ_cons, List.take_zero, List.drop_succ_cons, List.drop_zero, List.cons_append, List.nil_append, List.append_eq, List.length_cons, List.length_nil, Nat.reduceAdd, Nat.reduceMul, Nat.reduceSub, Int.reduceAdd, Int.reduceSub, Int.reduceToNat, Int.reduceNeg, Int.reduceMul]) | refine q_blocky rfl ?_ | refine W_plain rfl ?_ | refine W_drawn mixed rfl ?_ | refine and_chk (by kernel_rfl) ?_ | refine k_store rfl rfl rfl rfl (b_len w4) (b_fits _) (by exact p4) ?_ | refine k_move rfl rfl ?_ | refine k_load rfl rfl rfl rfl ?_ | refine k_alloc rfl ?_ | refine k_store rfl rfl rfl rfl rfl rfl rfl ?_ | refine k_fieldAddr rfl rfl rfl ?_ | refine k_callf (fun l => l) [0] (3) rfl (c4) rfl (by first | exact Ups.refl _ | assumption | ((repeat refine Ups.cons (by first | exact Up.refl _ | exact Up.nil _ | exact Up.fz _ _ _) ?_); exact Ups.nil)) (rfl) (by (repeat (first | refine ⟨⟨rfl, _, rfl, (by first | exact Ups.refl _ | assumption | ((repeat refine Ups.cons (by first | exact Up.refl _ | exact Up.nil _ | exact Up.fz _ _ _) ?_); exact Ups.nil)), rfl⟩, ?_⟩ | refine ⟨⟨rfl, rfl⟩, ?_⟩)); exact trivial) rfl rfl rfl rfl (hbe _) (hbr) rfl rfl rfl rfl ?_ | refine k_append rfl rfl rfl (by first | rfl | exact trivial | (show 0 < _; omega)) (by first | rfl | (simp <;> omega)) (by first | rfl | (simp <;> omega)) rfl (by omega) rfl rfl rfl ?_ | refine k_slice rfl rfl rfl rfl ⟨by omega, by omega, by omega⟩ rfl rfl rfl ?_ | refine k_slice3 rfl rfl rfl rfl rfl ⟨by omega, by omega, by omega⟩ rfl rfl rfl ?_ | refine k_sliceA rfl rfl rfl rfl ⟨by omega, by omega, by omega, by omega⟩ rfl rfl ?_ | refine k_sliceE rfl rfl rfl rfl ⟨by omega, by omega, by omega, by omega⟩ rfl rfl rfl rfl ?_ | refine k_buildSlice (cs := []) rfl rfl rfl rfl rfl rfl rfl ?_ | refine k_buildSlice rfl rfl rfl rfl rfl rfl rfl ?_ | refine k_loade rfl rfl rfl ?_ | refine k_fieldAddre rfl rfl rfl rfl ?_ | refine k_nilCheck rfl rfl rfl ?_ | refine W_yes rfl ?_ | refine W_no rfl ?_)
  repeat (first | with_reducible (first | refine W_seq ?_ | refine q_then ?_ | refine q_thenr ?_ | refine q_thenx ?_ | refine W_block ?_ | refine q_block ?_ | refine q_blockr ?_ | refine q_blockx ?_ | refine W_ret ?_ | refine W_skip ?_ | refine W_label ?_ | refine W_exit ?_ | refine W_scope ?_ | refine q_scope ?_ | refine q_scoper ?_ | refine q_scopex ?_) | (with_reducible refine R_nil ?_; try dsimp only [slots0, slots_ud, cells_U, agg_ud, drop0, dropS, takeS, take0, ud_nil, take_ud, take_ud0, drop_ud, drop_ud0, take_udk, D.cells, D.fz, D.fzs, List.take_succ_cons, List.take_zero, List.drop_succ_cons, List.drop_zero, List.cons_append, List.nil_append, List.append_eq, List.length_cons, List.length_nil, Nat.reduceAdd, Nat.reduceMul, Nat.reduceSub, Int.reduceAdd, Int.reduceSub, Int.reduceToNat, Int.reduceNeg, Int.reduceMul]) | refine q_blocky rfl ?_ | refine W_plain rfl ?_ | refine W_drawn mixed rfl ?_ | refine and_chk (by kernel_rfl) ?_ | refine k_store rfl rfl rfl rfl rfl rfl (by exact p5 _ rfl) ?_ | refine k_move rfl rfl ?_ | refine k_load rfl rfl rfl rfl ?_ | refine k_alloc rfl ?_ | refine k_store rfl rfl rfl rfl rfl rfl rfl ?_ | refine k_fieldAddr rfl rfl rfl ?_ | refine k_callf (fun l => l) [0] (3) rfl (c5) rfl (by first | exact Ups.refl _ | assumption | ((repeat refine Ups.cons (by first | exact Up.refl _ | exact Up.nil _ | exact Up.fz _ _ _) ?_); exact Ups.nil)) (rfl) (by (repeat (first | refine ⟨⟨rfl, _, rfl, (by first | exact Ups.refl _ | assumption | ((repeat refine Ups.cons (by first | exact Up.refl _ | exact Up.nil _ | exact Up.fz _ _ _) ?_); exact Ups.nil)), rfl⟩, ?_⟩ | refine ⟨⟨rfl, rfl⟩, ?_⟩)); exact trivial) rfl rfl rfl rfl (rfl) (rfl) rfl rfl rfl rfl ?_ | refine k_append rfl rfl rfl (by first | rfl | exact trivial | (show 0 < _; omega)) (by first | rfl | (simp <;> omega)) (by first | rfl | (simp <;> omega)) rfl (by omega) rfl rfl rfl ?_ | refine k_slice rfl rfl rfl rfl ⟨by omega, by omega, by omega⟩ rfl rfl rfl ?_ | refine k_slice3 rfl rfl rfl rfl rfl ⟨by omega, by omega, by omega⟩ rfl rfl rfl ?_ | refine k_sliceA rfl rfl rfl rfl ⟨by omega, by omega, by omega, by omega⟩ rfl rfl ?_ | refine k_sliceE rfl rfl rfl rfl ⟨by omega, by omega, by omega, by omega⟩ rfl rfl rfl rfl ?_ | refine k_buildSlice (cs := []) rfl rfl rfl rfl rfl rfl rfl ?_ | refine k_buildSlice rfl rfl rfl rfl rfl rfl rfl ?_ | refine k_loade rfl rfl rfl ?_ | refine k_fieldAddre rfl rfl rfl rfl ?_ | refine k_nilCheck rfl rfl rfl ?_ | refine W_yes rfl ?_ | refine W_no rfl ?_)
  repeat (first | with_reducible (first | refine W_seq ?_ | refine q_then ?_ | refine q_thenr ?_ | refine q_thenx ?_ | refine W_block ?_ | refine q_block ?_ | refine q_blockr ?_ | refine q_blockx ?_ | refine W_ret ?_ | refine W_skip ?_ | refine W_label ?_ | refine W_exit ?_ | refine W_scope ?_ | refine q_scope ?_ | refine q_scoper ?_ | refine q_scopex ?_) | (with_reducible refine R_nil ?_; try dsimp only [slots0, slots_ud, cells_U, agg_ud, drop0, dropS, takeS, take0, ud_nil, take_ud, take_ud0, drop_ud, drop_ud0, take_udk, D.cells, D.fz, D.fzs, List.take_succ_cons, List.take_zero, List.drop_succ_cons, List.drop_zero, List.cons_append, List.nil_append, List.append_eq, List.length_cons, List.length_nil, Nat.reduceAdd, Nat.reduceMul, Nat.reduceSub, Int.reduceAdd, Int.reduceSub, Int.reduceToNat, Int.reduceNeg, Int.reduceMul]) | refine q_blocky rfl ?_ | refine W_plain rfl ?_ | refine W_drawn mixed rfl ?_ | refine and_chk (by kernel_rfl) ?_ | refine k_store rfl rfl rfl rfl rfl rfl (by exact p6 _ rfl) ?_ | refine k_append rfl rfl rfl (by rfl) rfl hL6 rfl (by omega) rfl (Nat.zero_add _) rfl ?_ | refine k_store rfl rfl rfl rfl rfl rfl (by exact p7 _ rfl) ?_ | refine k_load rfl rfl rfl (by exact lall _) ?_ | refine k_store rfl rfl rfl rfl (by exact llen) rfl (by exact llay _ rfl) ?_ | refine k_move rfl rfl ?_ | refine k_load rfl rfl rfl rfl ?_ | refine k_alloc rfl ?_ | refine k_store rfl rfl rfl rfl rfl rfl rfl ?_ | refine k_fieldAddr rfl rfl rfl ?_ | refine k_callf (fun l => l) [0] (3) rfl (c6) rfl (by first | exact Ups.refl _ | assumption | ((repeat refine Ups.cons (by first | exact Up.refl _ | exact Up.nil _ | exact Up.fz _ _ _) ?_); exact Ups.nil)) (rfl) (by (repeat (first | refine ⟨⟨rfl, _, rfl, (by first | exact Ups.refl _ | assumption | ((repeat refine Ups.cons (by first | exact Up.refl _ | exact Up.nil _ | exact Up.fz _ _ _) ?_); exact Ups.nil)), rfl⟩, ?_⟩ | refine ⟨⟨rfl, rfl⟩, ?_⟩)); exact trivial) rfl rfl rfl rfl (rfl) (rfl) rfl rfl rfl rfl ?_ | refine k_append rfl rfl rfl (by first | rfl | exact trivial | (show 0 < _; omega)) (by first | rfl | (simp <;> omega)) (by first | rfl | (simp <;> omega)) rfl (by omega) rfl rfl rfl ?_ | refine k_slice rfl rfl rfl rfl ⟨by omega, by omega, by omega⟩ rfl rfl rfl ?_ | refine k_slice3 rfl rfl rfl rfl rfl ⟨by omega, by omega, by omega⟩ rfl rfl rfl ?_ | refine k_sliceA rfl rfl rfl rfl ⟨by omega, by omega, by omega, by omega⟩ rfl rfl ?_ | refine k_sliceE rfl rfl rfl rfl ⟨by omega, by omega, by omega, by omega⟩ rfl rfl rfl rfl ?_ | refine k_buildSlice (cs := []) rfl rfl rfl rfl rfl rfl rfl ?_ | refine k_buildSlice rfl rfl rfl rfl rfl rfl rfl ?_ | refine k_loade rfl rfl rfl ?_ | refine k_fieldAddre rfl rfl rfl rfl ?_ | refine k_nilCheck rfl rfl rfl ?_ | refine W_yes rfl ?_ | refine W_no rfl ?_)
  refine (q_endf (fun l => l) 5 (RetsF.r1 (RetV.cell _ _ _ _ _ _ _ _ inferInstance rfl rfl (by exact lall _)) (by rw [hren]; exact hup)) hfull ?_ rfl rfl rfl).2
  refine ⟨⟨rfl, _, rfl, ?_, rfl⟩, trivial⟩
  show Ups [_, _] [_, _]
  exact Ups.refl _
end Go.Proofs.Ytbpaimfnfigjpaa

namespace Go.Proofs.Ytbpaimfnfigjpaa
open Go.RowKit Go.Lib Go.IntWalk
set_option linter.unusedVariables false
set_option maxRecDepth 100000

/-- a signature on a paper -/
structure SgT where
  w : Nat
  r : Nat
  s : Nat
  o : Nat
structure SgT.ok (x : SgT) : Prop where
  w : x.w ≤ 255
  r : x.r < M256
  s : x.s < M256
  o : x.o ≤ 255
def sgC (w : Int) (r s : Nat) (o : Int) : List D := .int .i64 w :: (ud r ++ (ud s ++ [.int .i64 o]))
theorem sgC_len (w : Int) (r s : Nat) (o : Int) : (sgC w r s o).length = 10 := rfl
def SgT.cells (s : SgT) : List D := sgC s.w s.r s.s s.o
def SgT.out (s : SgT) : List UInt8 := toB 1 s.w ++ b32 s.r ++ b32 s.s ++ toB 1 s.o
theorem SgT.out_len (s : SgT) : s.out.length = 66 := by
  unfold SgT.out b32
  simp only [List.length_append, toB_len]
def sgsC (l : List SgT) : List D := l.flatMap SgT.cells
theorem sgsC_len (l : List SgT) : (sgsC l).length = l.length * 10 := fl_len (f := SgT.cells) (s := 10) (fun _ => rfl) l
theorem sgsC_cut (l : List SgT) (k : Nat) (e : SgT) (h : l[k]? = some e) (ze : List D) : cut ⟨true, 10, ze⟩ 0 ((sgsC l).drop ((k : Int).toNat * 10)) = some (.agg e.cells) := by
  have hlt := (List.getElem?_eq_some_iff.1 h).1
  unfold cut
  simp only [cond_true, Int.toNat_natCast, Nat.zero_add, List.length_drop, sgsC_len, List.drop_zero]
  rw [Nat.ble_eq_true_of_le (by omega), cond_true]
  unfold sgsC
  rw [fl_at (f := SgT.cells) (s := 10) (fun _ => rfl) l k e h]
/-- a paper's cells: its set, its signatures, its message -/
def ppC (set : Int) (n : Nat) (z : List D) (x : List D) : List D := .int .i64 set :: .slice .frozen n z :: x
structure PapT where
  set : Nat
  sg : List SgT
  b : BodyT
structure PapT.ok (p : PapT) : Prop where
  set : p.set ≤ 4294967295
  n : p.sg.length ≤ 19
  sg : ∀ s ∈ p.sg, s.ok
  b : p.b.ok
def PapT.cells (p : PapT) : List D := ppC p.set p.sg.length (sgsC p.sg) p.b.cells
def sgOut (l : List SgT) : List UInt8 := l.flatMap SgT.out
theorem sgOut_len (l : List SgT) : (sgOut l).length = l.length * 66 := fl_len (f := SgT.out) (s := 66) SgT.out_len l
def PapT.out (p : PapT) : List UInt8 := toB 1 1 ++ toB 4 p.set ++ toB 1 p.sg.length ++ sgOut p.sg ++ p.b.out

section
variable {x : List D} (hx : x.length = 38)
include hx
theorem pp_len (set : Int) (n : Nat) (z : List D) : (ppC set n z x).length = 40 := by unfold ppC; simp [hx]
theorem pp_all (set : Int) (n : Nat) (z : List D) (ze : List D) : cut ⟨true, 40, ze⟩ 0 (ppC set n z x) = some (.agg (ppC set n z x)) := by
  unfold cut
  simp only [cond_true, Nat.zero_add, List.drop_zero]
  rw [pp_len hx, List.take_of_length_le (by rw [pp_len hx]; exact Nat.le_refl _)]
  rfl
theorem pp_b (set : Int) (n : Nat) (z : List D) (ze : List D) : cut ⟨true, 38, ze⟩ 2 (ppC set n z x) = some (.agg x) := by
  unfold cut
  simp only [cond_true]
  rw [pp_len hx]
  have : ((ppC set n z x).drop 2).take 38 = x := by
    unfold ppC
    rw [List.drop_succ_cons, List.drop_succ_cons, List.drop_zero, List.take_of_length_le (by omega)]
  rw [this]; rfl
end
theorem pp_cl (set : Int) (n : Nat) (z x : List D) (h : D.cls x = true) : D.cls (ppC set n z x) = true := by
  show (true && (true && D.cls x)) = true
  rw [h]; rfl

set_option maxHeartbeats 8000000 in
theorem fault_ok (q : PapT) (h : q.ok) : Pur Try.prog 20 [.agg q.cells] (.int .i64 0) := by
  have hb := bCheck_ok q.b h.b
  have hbl := bd_len h.b.e
  have hfz := bd_fz q.b
  have hcl := bd_cl q.b
  have hcx := bd_cls q.b
  have hset := h.set
  have hn := h.n
  have hsg := h.sg
  have hcut := sgsC_cut q.sg
  have hzl : q.sg.length * 10 = (sgsC q.sg).length := by rw [sgsC_len]
  have hall := pp_all hbl q.set q.sg.length (sgsC q.sg)
  have hpb := pp_b hbl q.set q.sg.length (sgsC q.sg)
  have h0 : ∀ ze, cut ⟨false, 1, ze⟩ 0 (ppC q.set q.sg.length (sgsC q.sg) q.b.cells) = some (.int .i64 q.set) := fun _ => rfl
  have h1 : ∀ ze, cut ⟨false, 1, ze⟩ 1 (ppC q.set q.sg.length (sgsC q.sg) q.b.cells) = some (.slice .frozen q.sg.length (sgsC q.sg)) := fun _ => rfl
  have hcp := pp_cl q.set q.sg.length (sgsC q.sg) q.b.cells hcx
  have hpl := pp_len hbl q.set q.sg.length (sgsC q.sg)
  unfold PapT.cells
  generalize ppC q.set q.sg.length (sgsC q.sg) q.b.cells = X at *
  generalize q.b.cells = x at *
  generalize sgsC q.sg = z at *
  obtain ⟨l, hl⟩ : ∃ l, q.sg = l := ⟨_, rfl⟩
  rw [hl] at hn hsg hcut hzl h1
  obtain ⟨L, hL⟩ : ∃ L, l.length = L := ⟨_, rfl⟩
  rw [hL] at hn hzl h1
  refine pur_intro Try.func20 rfl Try.ntmps20 rfl (by first | rfl | assumption | exact bs_cl _) fun B => ?_
  repeat (first | with_reducible (first | refine W_seq ?_ | refine q_then ?_ | refine q_thenr ?_ | refine q_thenx ?_ | refine W_block ?_ | refine q_block ?_ | refine q_blockr ?_ | refine q_blockx ?_ | refine W_ret ?_ | refine W_skip ?_ | refine W_label ?_ | refine W_exit ?_ | refine W_scope ?_ | refine q_scope ?_ | refine q_scoper ?_ | refine q_scopex ?_) | (with_reducible refine R_nil ?_; try dsimp only [slots0, slots_ud, cells_U, agg_ud, drop0, dropS, takeS, take0, ud_nil, take_ud, take_ud0, drop_ud, drop_ud0, take_udk, D.cells, D.fz, D.fzs, List.take_succ_cons, List.take_zero, List.drop_succ_cons, List.drop_zero, List.cons_append, List.nil_append, List.append_eq, List.length_cons, List.length_nil, Nat.reduceAdd, Nat.reduceMul, Nat.reduceSub, Int.reduceAdd, Int.reduceSub, Int.reduceToNat, Int.reduceNeg, Int.reduceMul]) | refine q_blocky rfl ?_ | refine W_plain rfl ?_ | refine W_drawn mixed rfl ?_ | refine and_chk (by kernel_rfl) ?_ | refine k_load rfl rfl rfl (by exact h0 _) ?_ | refine k_load rfl rfl rfl (by exact h1 _) ?_ | refine k_move rfl rfl ?_ | refine k_assign rfl rfl ?_ | refine k_load rfl rfl rfl rfl ?_ | refine k_alloc rfl ?_ | refine k_box rfl rfl rfl ?_ | refine k_store rfl rfl rfl rfl rfl rfl rfl ?_ | refine k_fieldAddr rfl rfl rfl ?_ | refine k_append rfl rfl rfl (by first | rfl | exact trivial | (show 0 < _; omega)) (by first | rfl | (simp <;> omega)) (by first | rfl | (simp <;> omega)) rfl (by omega) rfl rfl rfl ?_ | refine k_slice rfl rfl rfl rfl ⟨by omega, by omega, by omega⟩ rfl rfl rfl ?_ | refine k_slice3 rfl rfl rfl rfl rfl ⟨by omega, by omega, by omega⟩ rfl rfl rfl ?_ | refine k_sliceA rfl rfl rfl rfl ⟨by omega, by omega, by omega, by omega⟩ rfl rfl ?_ | refine k_sliceE rfl rfl rfl rfl ⟨by omega, by omega, by omega, by omega⟩ rfl rfl rfl rfl ?_ | refine k_indexAddr rfl rfl rfl ⟨by omega, by omega⟩ ?_ | refine k_indexAddrs rfl rfl rfl ⟨by omega, by omega⟩ rfl ?_ | refine k_loade rfl rfl rfl ?_ | refine k_fieldAddre rfl rfl rfl rfl ?_ | refine k_len rfl rfl ?_ | refine k_pickT rfl rfl rfl ?_ | refine k_pickF rfl rfl rfl ?_ | refine k_addi rfl rfl rfl (by omega) ?_ | refine k_lssT rfl rfl rfl (by omega) ?_ | refine k_lssF rfl rfl rfl (by omega) ?_ | refine k_gtrT rfl rfl rfl (by omega) ?_ | refine k_gtrF rfl rfl rfl (by omega) ?_ | refine k_skip rfl ?_ | refine k_skip0 rfl ?_ | refine k_pick rfl rfl rfl rfl rfl ?_ | refine W_yes rfl ?_ | refine W_no rfl ?_)
  refine W_loop (fun n' ρ m nx => ∃ j : Nat, j ≤ L ∧ n' = L - j ∧ ρ = [(20, .int .i64 (j : Int)), (19, .int .i64 (L : Int)), (18, .slice .frozen L z), (2, .int .i64 0), (1, .ptr 0 0)] ∧ m = [(0, some (.var 31 X))] ∧ nx = 1)
    ⟨_, _, _, _, (by repeat (first | exact trivial | refine ⟨⟨rfl, rfl⟩, ?_⟩ | refine ⟨⟨rfl, bs_bel _ _⟩, ?_⟩ | refine ⟨⟨rfl, arr_bels _ _ _⟩, ?_⟩)), (by exact ⟨⟨rfl, rfl, bels_cls _ _ hcp⟩, trivial⟩), 0, Nat.zero_le _, rfl, rfl, rfl, rfl⟩ ?_
  rintro n' ρ m nx ⟨j, hj, rfl, rfl, rfl, rfl⟩
  by_cases hlt : j < L
  · obtain ⟨e, he⟩ : ∃ e, l[j]? = some e := ⟨_, List.getElem?_eq_getElem (by omega)⟩
    have hc := hcut j e he
    have ho := hsg e (List.mem_of_getElem? he)
    obtain ⟨w, r, s, o⟩ := e
    have hc : ∀ ze, cut ⟨true, 10, ze⟩ 0 (z.drop ((j : Int).toNat * 10)) = some (.agg (sgC w r s o)) := hc
    have b1 : w ≤ 255 := ho.w
    have b2 : o ≤ 255 := ho.o
    repeat (first | with_reducible (first | refine W_seq ?_ | refine q_then ?_ | refine q_thenr ?_ | refine q_thenx ?_ | refine W_block ?_ | refine q_block ?_ | refine q_blockr ?_ | refine q_blockx ?_ | refine W_ret ?_ | refine W_skip ?_ | refine W_label ?_ | refine W_exit ?_ | refine W_scope ?_ | refine q_scope ?_ | refine q_scoper ?_ | refine q_scopex ?_) | (with_reducible refine R_nil ?_; try dsimp only [slots0, slots_ud, cells_U, agg_ud, drop0, dropS, takeS, take0, ud_nil, take_ud, take_ud0, drop_ud, drop_ud0, take_udk, D.cells, D.fz, D.fzs, List.take_succ_cons, List.take_zero, List.drop_succ_cons, List.drop_zero, List.cons_append, List.nil_append, List.append_eq, List.length_cons, List.length_nil, Nat.reduceAdd, Nat.reduceMul, Nat.reduceSub, Int.reduceAdd, Int.reduceSub, Int.reduceToNat, Int.reduceNeg, Int.reduceMul]) | refine q_blocky rfl ?_ | refine W_plain rfl ?_ | refine W_drawn mixed rfl ?_ | refine and_chk (by kernel_rfl) ?_ | refine k_indexAddrs rfl rfl rfl ⟨by omega, by omega⟩ hzl ?_ | refine k_loade rfl rfl (by exact hc _) ?_ | refine k_move rfl rfl ?_ | refine k_assign rfl rfl ?_ | refine k_load rfl rfl rfl rfl ?_ | refine k_alloc rfl ?_ | refine k_box rfl rfl rfl ?_ | refine k_store rfl rfl rfl rfl rfl rfl rfl ?_ | refine k_fieldAddr rfl rfl rfl ?_ | refine k_append rfl rfl rfl (by first | rfl | exact trivial | (show 0 < _; omega)) (by first | rfl | (simp <;> omega)) (by first | rfl | (simp <;> omega)) rfl (by omega) rfl rfl rfl ?_ | refine k_slice rfl rfl rfl rfl ⟨by omega, by omega, by omega⟩ rfl rfl rfl ?_ | refine k_slice3 rfl rfl rfl rfl rfl ⟨by omega, by omega, by omega⟩ rfl rfl rfl ?_ | refine k_sliceA rfl rfl rfl rfl ⟨by omega, by omega, by omega, by omega⟩ rfl rfl ?_ | refine k_sliceE rfl rfl rfl rfl ⟨by omega, by omega, by omega, by omega⟩ rfl rfl rfl rfl ?_ | refine k_indexAddr rfl rfl rfl ⟨by omega, by omega⟩ ?_ | refine k_indexAddrs rfl rfl rfl ⟨by omega, by omega⟩ rfl ?_ | refine k_loade rfl rfl rfl ?_ | refine k_fieldAddre rfl rfl rfl rfl ?_ | refine k_len rfl rfl ?_ | refine k_pickT rfl rfl rfl ?_ | refine k_pickF rfl rfl rfl ?_ | refine k_addi rfl rfl rfl (by omega) ?_ | refine k_lssT rfl rfl rfl (by omega) ?_ | refine k_lssF rfl rfl rfl (by omega) ?_ | refine k_gtrT rfl rfl rfl (by omega) ?_ | refine k_gtrF rfl rfl rfl (by omega) ?_ | refine k_skip rfl ?_ | refine k_skip0 rfl ?_ | refine k_pick rfl rfl rfl rfl rfl ?_ | refine W_yes rfl ?_ | refine W_no rfl ?_)
    exact ⟨L - (j + 1), _, _, _, (by repeat (first | exact trivial | refine ⟨⟨rfl, rfl⟩, ?_⟩ | refine ⟨⟨rfl, bs_bel _ _⟩, ?_⟩ | refine ⟨⟨rfl, arr_bels _ _ _⟩, ?_⟩)), (by exact ⟨⟨rfl, rfl, bels_cls _ _ hcp⟩, trivial⟩), by omega, j + 1, by omega, rfl, rfl, rfl, rfl⟩
  · have ej : j = L := by omega
    subst ej
    repeat (first | with_reducible (first | refine W_seq ?_ | refine q_then ?_ | refine q_thenr ?_ | refine q_thenx ?_ | refine W_block ?_ | refine q_block ?_ | refine q_blockr ?_ | refine q_blockx ?_ | refine W_ret ?_ | refine W_skip ?_ | refine W_label ?_ | refine W_exit ?_ | refine W_scope ?_ | refine q_scope ?_ | refine q_scoper ?_ | refine q_scopex ?_) | (with_reducible refine R_nil ?_; try dsimp only [slots0, slots_ud, cells_U, agg_ud, drop0, dropS, takeS, take0, ud_nil, take_ud, take_ud0, drop_ud, drop_ud0, take_udk, D.cells, D.fz, D.fzs, List.take_succ_cons, List.take_zero, List.drop_succ_cons, List.drop_zero, List.cons_append, List.nil_append, List.append_eq, List.length_cons, List.length_nil, Nat.reduceAdd, Nat.reduceMul, Nat.reduceSub, Int.reduceAdd, Int.reduceSub, Int.reduceToNat, Int.reduceNeg, Int.reduceMul]) | refine q_blocky rfl ?_ | refine W_plain rfl ?_ | refine W_drawn mixed rfl ?_ | refine and_chk (by kernel_rfl) ?_ | refine k_load rfl rfl rfl (by exact hpb _) ?_ | refine k_move rfl rfl ?_ | refine k_assign rfl rfl ?_ | refine k_load rfl rfl rfl rfl ?_ | refine k_alloc rfl ?_ | refine k_box rfl rfl rfl ?_ | refine k_store rfl rfl rfl rfl rfl rfl rfl ?_ | refine k_fieldAddr rfl rfl rfl ?_ | refine k_call rfl hb rfl hfz hcl rfl ?_ | refine k_append rfl rfl rfl (by first | rfl | exact trivial | (show 0 < _; omega)) (by first | rfl | (simp <;> omega)) (by first | rfl | (simp <;> omega)) rfl (by omega) rfl rfl rfl ?_ | refine k_slice rfl rfl rfl rfl ⟨by omega, by omega, by omega⟩ rfl rfl rfl ?_ | refine k_slice3 rfl rfl rfl rfl rfl ⟨by omega, by omega, by omega⟩ rfl rfl rfl ?_ | refine k_sliceA rfl rfl rfl rfl ⟨by omega, by omega, by omega, by omega⟩ rfl rfl ?_ | refine k_sliceE rfl rfl rfl rfl ⟨by omega, by omega, by omega, by omega⟩ rfl rfl rfl rfl ?_ | refine k_indexAddr rfl rfl rfl ⟨by omega, by omega⟩ ?_ | refine k_indexAddrs rfl rfl rfl ⟨by omega, by omega⟩ rfl ?_ | refine k_loade rfl rfl rfl ?_ | refine k_fieldAddre rfl rfl rfl rfl ?_ | refine k_len rfl rfl ?_ | refine k_pickT rfl rfl rfl ?_ | refine k_pickF rfl rfl rfl ?_ | refine k_addi rfl rfl rfl (by omega) ?_ | refine k_lssT rfl rfl rfl (by omega) ?_ | refine k_lssF rfl rfl rfl (by omega) ?_ | refine k_gtrT rfl rfl rfl (by omega) ?_ | refine k_gtrF rfl rfl rfl (by omega) ?_ | refine k_skip rfl ?_ | refine k_skip0 rfl ?_ | refine k_pick rfl rfl rfl rfl rfl ?_ | refine W_yes rfl ?_ | refine W_no rfl ?_)
    (first | with_reducible refine q_endr ?_ | with_reducible refine q_endn ?_); refine rets1 Try.results20 (by first | exact RetV.tmp _ _ rfl | exact RetV.cell _ _ _ _ _ _ _ _ inferInstance rfl rfl rfl) ?_
    rfl
end Go.Proofs.Ytbpaimfnfigjpaa

namespace Go.Proofs.Ytbpaimfnfigjpaa
open Go.RowKit Go.Lib Go.IntWalk
set_option linter.unusedVariables false
set_option maxRecDepth 100000

/-- a signature that was read -/
abbrev SgI := Int × Nat × Nat × Int
def sgI (s : SgI) : List D := sgC s.1 s.2.1 s.2.2.1 s.2.2.2
def sgnE (y : Ey) : SgI × Ey :=
  (((numberE y 1).1, nm (takeE (numberE y 1).2 32).1, nm (takeE (takeE (numberE y 1).2 32).2 32).1, (numberE (takeE (takeE (numberE y 1).2 32).2 32).2 1).1), (numberE (takeE (takeE (numberE y 1).2 32).2 32).2 1).2)
def sgnsE : Nat → Ey → List SgI × Ey
  | 0, y => ([], y)
  | k + 1, y => ((sgnsE k y).1 ++ [(sgnE (sgnsE k y).2).1], (sgnE (sgnsE k y).2).2)
theorem sgnE_le (y : Ey) : (sgnE y).2.1.length ≤ y.1.length := by
  unfold sgnE
  exact Nat.le_trans (numberE_le _ _) (Nat.le_trans (takeE_le _ _) (Nat.le_trans (takeE_le _ _) (numberE_le _ _)))
theorem sgnsE_le : ∀ (k : Nat) (y : Ey), (sgnsE k y).2.1.length ≤ y.1.length
  | 0, y => Nat.le_refl _
  | k + 1, y => Nat.le_trans (sgnE_le _) (sgnsE_le k y)
theorem sgnsE_len : ∀ (k : Nat) (y : Ey), (sgnsE k y).1.length = k
  | 0, y => rfl
  | k + 1, y => by simp [sgnsE, sgnsE_len k y]
def sgsI (l : List SgI) : List D := l.flatMap sgI
theorem sgsI_len (l : List SgI) : (sgsI l).length = l.length * 10 := fl_len (f := sgI) (s := 10) (fun _ => rfl) l
/-- nothing of a message as yet -/
abbrev bx0 : List D := bx 0 0 0 (List.replicate 32 0) [.int .i64 0, .int .i64 0, .slice .nil 0 []]
abbrev pp0 : List D := .int .i64 0 :: .slice .nil 0 [] :: bx0

theorem wh_put {x : List D} (hx : x.length = 38) (y : List D) (hy : y.length = 38) (a c : D) : splice 2 x (a :: c :: y) = some (a :: c :: x) := by
  unfold splice
  rw [Nat.ble_eq_true_of_le (by simp [hx, hy]), cond_true]
  simp only [List.take_succ_cons, List.take_zero]
  rw [hx, List.drop_of_length_le (by simp [hy])]
  simp
theorem wh_all {x : List D} (hx : x.length = 38) (a c : D) (ze : List D) : cut ⟨true, 40, ze⟩ 0 (a :: c :: x) = some (.agg (a :: c :: x)) := by
  unfold cut
  simp only [cond_true, Nat.zero_add, List.drop_zero]
  rw [List.take_of_length_le (by simp [hx]), show (a :: c :: x).length = 40 from by simp [hx]]
  rfl
theorem wh_lay {x : List D} (hx : x.length = 38) (a c : D) (cs : List D) (hc : cs.length = 40) : splice 0 (a :: c :: x) cs = some (a :: c :: x) := by
  unfold splice
  rw [Nat.ble_eq_true_of_le (by simp [hx, hc]), cond_true, Nat.zero_add, List.drop_of_length_le (by simp [hx, hc])]
  simp
set_option maxHeartbeats 16000000 in
theorem Decode_walk (b : List UInt8) (hb : b.length ≤ 900000) (v set : Int) (y1 y2 y3 y4 y5 : Ey) (n : Nat) (l : List SgI) (bd : BodyI) (e1 : numberE (b, true) 1 = (v, y1)) (e2 : numberE y1 4 = (set, y2)) (e3 : numberE y2 1 = ((n : Int), y3)) (hv : y1.2 = true → v = 1) (hn : n ≤ 19)
    (e4 : sgnsE n y3 = (l, y4)) (e5 : bodyE y4 = (bd, y5)) (R : D) (hR : (y5.2 = false ∧ R = .tup [.agg pp0, .int .i64 4]) ∨ (y5.2 = true ∧ R = .tup [.agg (ppC set n (sgsI l) bd.cells), .int .i64 0] ∧ Pur Try.prog 20 [.agg (ppC set n (sgsI l) bd.cells)] (.int .i64 0))) :
    Pur Try.prog 9 [.slice .frozen b.length (bs b)] R := by
  have c1 := eNumber_ok (b, true) 1 (by decide) (by simp; omega)
  have l1 := numberE_le (b, true) 1
  rw [e1] at c1 l1
  dsimp only at c1 l1
  have c2 := eNumber_ok y1 4 (by decide) (by omega)
  have l2 := numberE_le y1 4
  rw [e2] at c2 l2
  dsimp only at c2 l2
  have c3 := eNumber_ok y2 1 (by decide) (by omega)
  have l3 := numberE_le y2 1
  rw [e3] at c3 l3
  dsimp only at c3 l3
  have l4 := sgnsE_le n y3
  rw [e4] at l4
  dsimp only at l4
  have c5 := eBody_ok y4 (by omega)
  rw [e5] at c5
  dsimp only at c5
  have hxl : bd.cells.length = 38 := by
    have : bd.e.length = 32 := by
      have h32 : (bodyE y4).1.e.length = 32 := by unfold bodyE; exact takeE_len _ _
      rw [e5] at h32; exact h32
    exact bx_len this _ rfl
  have hxc : D.cls bd.cells = true := BodyI.cl bd
  have hxf : D.fzs bd.cells = bd.cells := by
    show _ :: _ :: _ :: D.fzs (bs bd.e ++ _) = _
    rw [bs_frz]; rfl
  have hcl : D.cl R = true := by
    rcases hR with ⟨_, rfl⟩ | ⟨_, rfl, _⟩
    · rfl
    · show (D.cls (ppC set n (sgsI l) bd.cells) && true) = true
      rw [pp_cl _ _ _ _ hxc]; rfl
  unfold eyM eyC at c1 c2 c3 c5
  dsimp only at c1
  have hlast : sgnsE n y3 = (l, y4) := e4
  have hy3 : y3.1.length ≤ 900000 := by omega
  obtain ⟨zl3, hzl3⟩ : ∃ z, bs y3.1 = z := ⟨_, rfl⟩
  obtain ⟨L3, hL3⟩ : ∃ z, y3.1.length = z := ⟨_, rfl⟩
  obtain ⟨k3, hk3⟩ : ∃ z, y3.2 = z := ⟨_, rfl⟩
  rw [hzl3, hL3, hk3] at c3
  obtain ⟨zl4, hzl4⟩ : ∃ z, bs y4.1 = z := ⟨_, rfl⟩
  obtain ⟨L4, hL4⟩ : ∃ z, y4.1.length = z := ⟨_, rfl⟩
  obtain ⟨k4, hk4⟩ : ∃ z, y4.2 = z := ⟨_, rfl⟩
  rw [hzl4, hL4, hk4] at c5
  generalize bs b = z0 at *
  generalize b.length = L0 at *
  generalize bs y1.1 = z1 at *
  generalize bs y2.1 = z2 at *
  generalize bs y5.1 = z5 at *
  generalize y5.1.length = L5 at *
  generalize y5.2 = k5 at *
  obtain ⟨q1, k1⟩ := y1
  obtain ⟨q2, k2⟩ := y2
  dsimp only at *
  have hv1 : k1 = false ∨ (k1 = true ∧ v = 1) := by
    cases k1
    · exact .inl rfl
    · exact .inr ⟨rfl, hv rfl⟩
  clear hv e1 e2 e3 e4 e5 l1 l2 l3 l4
  generalize q1.length = L1 at *
  generalize q2.length = L2 at *
  have hbe : ∀ p : Nat → Bool, D.lall p (.agg bd.cells) = true := fun p => (D.cl_ren (fun l => l) p _ (BodyI.cl bd)).2
  have hbr : ∀ f : Nat → Nat, D.ren f (.agg bd.cells) = .agg bd.cells := fun f => (D.cl_ren f (fun _ => true) _ (BodyI.cl bd)).1
  generalize bd.cells = xb at *
  have hsp : ∀ a c : D, splice 2 xb (a :: c :: bx0) = some (a :: c :: xb) := fun a c => by
    have := wh_put hxl bx0 rfl a c
    exact this
  have hwa : ∀ (a c : D) ze, cut ⟨true, 40, ze⟩ 0 (a :: c :: xb) = some (.agg (a :: c :: xb)) := fun a c ze => wh_all hxl a c ze
  have hwl : ∀ a c : D, (D.agg (a :: c :: xb)).cells.length = 40 := fun a c => by show (a :: c :: xb).length = 40; simp [hxl]
  have hws : ∀ (a c : D) (cs : List D), cs.length = 40 → splice 0 (a :: c :: xb) cs = some (a :: c :: xb) := fun a c cs hc => wh_lay hxl a c cs hc
  have hfz : ∀ (k : Nat) (m : Nat) (zz : List D), D.fzs [.agg (.int .i64 set :: .slice (.own k) m zz :: xb)] = [.agg (ppC set m zz xb)] := fun k m zz => by
    show [D.agg (_ :: _ :: D.fzs xb)] = _
    rw [hxf]; rfl
  have hcz : ∀ (m : Nat) (zz : List D), D.cls [.agg (ppC set m zz xb)] = true := fun m zz => by
    show (D.cls (ppC set m zz xb) && true) = true
    rw [pp_cl _ _ _ _ hxc]; rfl
  rcases hv1 with rfl | ⟨rfl, rfl⟩ <;> cases k3
  all_goals
    refine pur_intro Try.func9 rfl Try.ntmps9 rfl hcl fun B => ?_
    repeat (first | with_reducible (first | refine W_seq ?_ | refine q_then ?_ | refine q_thenr ?_ | refine q_thenx ?_ | refine W_block ?_ | refine q_block ?_ | refine q_blockr ?_ | refine q_blockx ?_ | refine W_ret ?_ | refine W_skip ?_ | refine W_label ?_ | refine W_exit ?_ | refine W_scope ?_ | refine q_scope ?_ | refine q_scoper ?_ | refine q_scopex ?_) | (with_reducible refine R_nil ?_; try dsimp only [slots0, slots_ud, cells_U, agg_ud, drop0, dropS, takeS, take0, ud_nil, take_ud, take_ud0, drop_ud, drop_ud0, take_udk, D.cells, D.fz, D.fzs, List.take_succ_cons, List.take_zero, List.drop_succ_cons, List.drop_zero, List.cons_append, List.nil_append, List.append_eq, List.length_cons, List.length_nil, Nat.reduceAdd, Nat.reduceMul, Nat.reduceSub, Int.reduceAdd, Int.reduceSub, Int.reduceToNat, Int.reduceNeg, Int.reduceMul]) | refine q_blocky rfl ?_ | refine W_plain rfl ?_ | refine W_drawn mixed rfl ?_ | refine and_chk (by kernel_rfl) ?_ | refine k_move rfl rfl ?_ | refine k_assign rfl rfl ?_ | refine k_load rfl rfl rfl rfl ?_ | refine k_alloc rfl ?_ | refine k_box rfl rfl rfl ?_ | refine k_store rfl rfl rfl rfl rfl rfl rfl ?_ | refine k_extract rfl rfl rfl ?_ | refine k_fieldAddr rfl rfl rfl ?_ | refine k_field rfl rfl rfl ?_ | refine k_build rfl rfl rfl ?_ | refine k_callf (fun l => l + 1) [0] (2) rfl (c1) rfl (by first | exact Ups.refl _ | assumption | ((repeat refine Ups.cons (by first | exact Up.refl _ | exact Up.nil _ | exact Up.fz _ _ _) ?_); exact Ups.nil)) (rfl) (by (repeat (first | refine ⟨⟨rfl, _, rfl, (by first | exact Ups.refl _ | assumption | ((repeat refine Ups.cons (by first | exact Up.refl _ | exact Up.nil _ | exact Up.fz _ _ _) ?_); exact Ups.nil)), rfl⟩, ?_⟩ | refine ⟨⟨rfl, rfl⟩, ?_⟩)); exact trivial) rfl rfl rfl rfl (rfl) (rfl) rfl rfl rfl rfl ?_ | refine k_append rfl rfl rfl (by first | rfl | exact trivial | (show 0 < _; omega)) (by first | rfl | (simp <;> omega)) (by first | rfl | (simp <;> omega)) rfl (by omega) rfl rfl rfl ?_ | refine k_slice rfl rfl rfl rfl ⟨by omega, by omega, by omega⟩ rfl rfl rfl ?_ | refine k_slice3 rfl rfl rfl rfl rfl ⟨by omega, by omega, by omega⟩ rfl rfl rfl ?_ | refine k_sliceA rfl rfl rfl rfl ⟨by omega, by omega, by omega, by omega⟩ rfl rfl ?_ | refine k_sliceE rfl rfl rfl rfl ⟨by omega, by omega, by omega, by omega⟩ rfl rfl rfl rfl ?_ | refine k_buildSlice (cs := []) rfl rfl rfl rfl rfl rfl rfl ?_ | refine k_buildSlice rfl rfl rfl rfl rfl rfl rfl ?_ | refine k_indexAddr rfl rfl rfl ⟨by omega, by omega⟩ ?_ | refine k_indexAddrs rfl rfl rfl ⟨by omega, by omega⟩ rfl ?_ | refine k_index rfl rfl rfl ⟨by omega, by omega⟩ rfl ?_ | refine k_loade rfl rfl rfl ?_ | refine k_fieldAddre rfl rfl rfl rfl ?_ | refine k_len rfl rfl ?_ | refine k_nilCheck rfl rfl rfl ?_ | refine k_pickT rfl rfl rfl ?_ | refine k_pickF rfl rfl rfl ?_ | refine k_addi rfl rfl rfl (by omega) ?_ | refine k_subi rfl rfl rfl (by omega) ?_ | refine k_negi rfl rfl (by omega) ?_ | refine k_not rfl rfl rfl ?_ | refine k_lssT rfl rfl rfl (by omega) ?_ | refine k_lssF rfl rfl rfl (by omega) ?_ | refine k_leqT rfl rfl rfl (by omega) ?_ | refine k_leqF rfl rfl rfl (by omega) ?_ | refine k_gtrT rfl rfl rfl (by omega) ?_ | refine k_gtrF rfl rfl rfl (by omega) ?_ | refine k_geqT rfl rfl rfl (by omega) ?_ | refine k_geqF rfl rfl rfl (by omega) ?_ | refine k_eqlT rfl rfl rfl (by omega) ?_ | refine k_eqlF rfl rfl rfl (by omega) ?_ | refine k_neqT rfl rfl rfl (by omega) ?_ | refine k_neqF rfl rfl rfl (by omega) ?_ | refine k_eqa rfl rfl rfl rfl rfl rfl ?_ | refine k_nea rfl rfl rfl rfl rfl rfl ?_ | refine k_makeFunc rfl rfl rfl ?_ | refine k_skip rfl ?_ | refine k_skip0 rfl ?_ | refine k_pick rfl rfl rfl rfl rfl ?_ | refine W_yes rfl ?_ | refine W_no rfl ?_)
    repeat (first | with_reducible (first | refine W_seq ?_ | refine q_then ?_ | refine q_thenr ?_ | refine q_thenx ?_ | refine W_block ?_ | refine q_block ?_ | refine q_blockr ?_ | refine q_blockx ?_ | refine W_ret ?_ | refine W_skip ?_ | refine W_label ?_ | refine W_exit ?_ | refine W_scope ?_ | refine q_scope ?_ | refine q_scoper ?_ | refine q_scopex ?_) | (with_reducible refine R_nil ?_; try dsimp only [slots0, slots_ud, cells_U, agg_ud, drop0, dropS, takeS, take0, ud_nil, take_ud, take_ud0, drop_ud, drop_ud0, take_udk, D.cells, D.fz, D.fzs, List.take_succ_cons, List.take_zero, List.drop_succ_cons, List.drop_zero, List.cons_append, List.nil_append, List.append_eq, List.length_cons, List.length_nil, Nat.reduceAdd, Nat.reduceMul, Nat.reduceSub, Int.reduceAdd, Int.reduceSub, Int.reduceToNat, Int.reduceNeg, Int.reduceMul]) | refine q_blocky rfl ?_ | refine W_plain rfl ?_ | refine W_drawn mixed rfl ?_ | refine and_chk (by kernel_rfl) ?_ | refine k_move rfl rfl ?_ | refine k_assign rfl rfl ?_ | refine k_load rfl rfl rfl rfl ?_ | refine k_alloc rfl ?_ | refine k_box rfl rfl rfl ?_ | refine k_store rfl rfl rfl rfl rfl rfl rfl ?_ | refine k_extract rfl rfl rfl ?_ | refine k_fieldAddr rfl rfl rfl ?_ | refine k_field rfl rfl rfl ?_ | refine k_build rfl rfl rfl ?_ | refine k_callf (fun l => l + 1) [0] (3) rfl (c2) rfl (by first | exact Ups.refl _ | assumption | ((repeat refine Ups.cons (by first | exact Up.refl _ | exact Up.nil _ | exact Up.fz _ _ _) ?_); exact Ups.nil)) (rfl) (by (repeat (first | refine ⟨⟨rfl, _, rfl, (by first | exact Ups.refl _ | assumption | ((repeat refine Ups.cons (by first | exact Up.refl _ | exact Up.nil _ | exact Up.fz _ _ _) ?_); exact Ups.nil)), rfl⟩, ?_⟩ | refine ⟨⟨rfl, rfl⟩, ?_⟩)); exact trivial) rfl rfl rfl rfl (rfl) (rfl) rfl rfl rfl rfl ?_ | refine k_append rfl rfl rfl (by first | rfl | exact trivial | (show 0 < _; omega)) (by first | rfl | (simp <;> omega)) (by first | rfl | (simp <;> omega)) rfl (by omega) rfl rfl rfl ?_ | refine k_slice rfl rfl rfl rfl ⟨by omega, by omega, by omega⟩ rfl rfl rfl ?_ | refine k_slice3 rfl rfl rfl rfl rfl ⟨by omega, by omega, by omega⟩ rfl rfl rfl ?_ | refine k_sliceA rfl rfl rfl rfl ⟨by omega, by omega, by omega, by omega⟩ rfl rfl ?_ | refine k_sliceE rfl rfl rfl rfl ⟨by omega, by omega, by omega, by omega⟩ rfl rfl rfl rfl ?_ | refine k_buildSlice (cs := []) rfl rfl rfl rfl rfl rfl rfl ?_ | refine k_buildSlice rfl rfl rfl rfl rfl rfl rfl ?_ | refine k_indexAddr rfl rfl rfl ⟨by omega, by omega⟩ ?_ | refine k_indexAddrs rfl rfl rfl ⟨by omega, by omega⟩ rfl ?_ | refine k_index rfl rfl rfl ⟨by omega, by omega⟩ rfl ?_ | refine k_loade rfl rfl rfl ?_ | refine k_fieldAddre rfl rfl rfl rfl ?_ | refine k_len rfl rfl ?_ | refine k_nilCheck rfl rfl rfl ?_ | refine k_pickT rfl rfl rfl ?_ | refine k_pickF rfl rfl rfl ?_ | refine k_addi rfl rfl rfl (by omega) ?_ | refine k_subi rfl rfl rfl (by omega) ?_ | refine k_negi rfl rfl (by omega) ?_ | refine k_not rfl rfl rfl ?_ | refine k_lssT rfl rfl rfl (by omega) ?_ | refine k_lssF rfl rfl rfl (by omega) ?_ | refine k_leqT rfl rfl rfl (by omega) ?_ | refine k_leqF rfl rfl rfl (by omega) ?_ | refine k_gtrT rfl rfl rfl (by omega) ?_ | refine k_gtrF rfl rfl rfl (by omega) ?_ | refine k_geqT rfl rfl rfl (by omega) ?_ | refine k_geqF rfl rfl rfl (by omega) ?_ | refine k_eqlT rfl rfl rfl (by omega) ?_ | refine k_eqlF rfl rfl rfl (by omega) ?_ | refine k_neqT rfl rfl rfl (by omega) ?_ | refine k_neqF rfl rfl rfl (by omega) ?_ | refine k_eqa rfl rfl rfl rfl rfl rfl ?_ | refine k_nea rfl rfl rfl rfl rfl rfl ?_ | refine k_makeFunc rfl rfl rfl ?_ | refine k_skip rfl ?_ | refine k_skip0 rfl ?_ | refine k_pick rfl rfl rfl rfl rfl ?_ | refine W_yes rfl ?_ | refine W_no rfl ?_)
    repeat (first | with_reducible (first | refine W_seq ?_ | refine q_then ?_ | refine q_thenr ?_ | refine q_thenx ?_ | refine W_block ?_ | refine q_block ?_ | refine q_blockr ?_ | refine q_blockx ?_ | refine W_ret ?_ | refine W_skip ?_ | refine W_label ?_ | refine W_exit ?_ | refine W_scope ?_ | refine q_scope ?_ | refine q_scoper ?_ | refine q_scopex ?_) | (with_reducible refine R_nil ?_; try dsimp only [slots0, slots_ud, cells_U, agg_ud, drop0, dropS, takeS, take0, ud_nil, take_ud, take_ud0, drop_ud, drop_ud0, take_udk, D.cells, D.fz, D.fzs, List.take_succ_cons, List.take_zero, List.drop_succ_cons, List.drop_zero, List.cons_append, List.nil_append, List.append_eq, List.length_cons, List.length_nil, Nat.reduceAdd, Nat.reduceMul, Nat.reduceSub, Int.reduceAdd, Int.reduceSub, Int.reduceToNat, Int.reduceNeg, Int.reduceMul]) | refine q_blocky rfl ?_ | refine W_plain rfl ?_ | refine W_drawn mixed rfl ?_ | refine and_chk (by kernel_rfl) ?_ | refine k_move rfl rfl ?_ | refine k_assign rfl rfl ?_ | refine k_load rfl rfl rfl rfl ?_ | refine k_alloc rfl ?_ | refine k_box rfl rfl rfl ?_ | refine k_store rfl rfl rfl rfl rfl rfl rfl ?_ | refine k_extract rfl rfl rfl ?_ | refine k_fieldAddr rfl rfl rfl ?_ | refine k_field rfl rfl rfl ?_ | refine k_build rfl rfl rfl ?_ | refine k_callf (fun l => l + 1) [0] (3) rfl (c3) rfl (by first | exact Ups.refl _ | assumption | ((repeat refine Ups.cons (by first | exact Up.refl _ | exact Up.nil _ | exact Up.fz _ _ _) ?_); exact Ups.nil)) (rfl) (by (repeat (first | refine ⟨⟨rfl, _, rfl, (by first | exact Ups.refl _ | assumption | ((repeat refine Ups.cons (by first | exact Up.refl _ | exact Up.nil _ | exact Up.fz _ _ _) ?_); exact Ups.nil)), rfl⟩, ?_⟩ | refine ⟨⟨rfl, rfl⟩, ?_⟩)); exact trivial) rfl rfl rfl rfl (rfl) (rfl) rfl rfl rfl rfl ?_ | refine k_append rfl rfl rfl (by first | rfl | exact trivial | (show 0 < _; omega)) (by first | rfl | (simp <;> omega)) (by first | rfl | (simp <;> omega)) rfl (by omega) rfl rfl rfl ?_ | refine k_slice rfl rfl rfl rfl ⟨by omega, by omega, by omega⟩ rfl rfl rfl ?_ | refine k_slice3 rfl rfl rfl rfl rfl ⟨by omega, by omega, by omega⟩ rfl rfl rfl ?_ | refine k_sliceA rfl rfl rfl rfl ⟨by omega, by omega, by omega, by omega⟩ rfl rfl ?_ | refine k_sliceE rfl rfl rfl rfl ⟨by omega, by omega, by omega, by omega⟩ rfl rfl rfl rfl ?_ | refine k_buildSlice (cs := []) rfl rfl rfl rfl rfl rfl rfl ?_ | refine k_buildSlice rfl rfl rfl rfl rfl rfl rfl ?_ | refine k_indexAddr rfl rfl rfl ⟨by omega, by omega⟩ ?_ | refine k_indexAddrs rfl rfl rfl ⟨by omega, by omega⟩ rfl ?_ | refine k_index rfl rfl rfl ⟨by omega, by omega⟩ rfl ?_ | refine k_loade rfl rfl rfl ?_ | refine k_fieldAddre rfl rfl rfl rfl ?_ | refine k_len rfl rfl ?_ | refine k_nilCheck rfl rfl rfl ?_ | refine k_pickT rfl rfl rfl ?_ | refine k_pickF rfl rfl rfl ?_ | refine k_addi rfl rfl rfl (by omega) ?_ | refine k_subi rfl rfl rfl (by omega) ?_ | refine k_negi rfl rfl (by omega) ?_ | refine k_not rfl rfl rfl ?_ | refine k_lssT rfl rfl rfl (by omega) ?_ | refine k_lssF rfl rfl rfl (by omega) ?_ | refine k_leqT rfl rfl rfl (by omega) ?_ | refine k_leqF rfl rfl rfl (by omega) ?_ | refine k_gtrT rfl rfl rfl (by omega) ?_ | refine k_gtrF rfl rfl rfl (by omega) ?_ | refine k_geqT rfl rfl rfl (by omega) ?_ | refine k_geqF rfl rfl rfl (by omega) ?_ | refine k_eqlT rfl rfl rfl (by omega) ?_ | refine k_eqlF rfl rfl rfl (by omega) ?_ | refine k_neqT rfl rfl rfl (by omega) ?_ | refine k_neqF rfl rfl rfl (by omega) ?_ | refine k_eqa rfl rfl rfl rfl rfl rfl ?_ | refine k_nea rfl rfl rfl rfl rfl rfl ?_ | refine k_makeFunc rfl rfl rfl ?_ | refine k_skip rfl ?_ | refine k_skip0 rfl ?_ | refine k_pick rfl rfl rfl rfl rfl ?_ | refine W_yes rfl ?_ | refine W_no rfl ?_)
    refine W_of_weak (weak_tok 46 10) ?_
    refine W_loopW (fun n' ρ m nx => ∃ (j q Lq : Nat) (zz zq : List D) (okq : Bool), j ≤ n ∧ q = j ∧ zz = sgsI (sgnsE j y3).1 ∧ Lq = (sgnsE j y3).2.1.length ∧ zq = bs (sgnsE j y3).2.1 ∧ okq = (sgnsE j y3).2.2 ∧ n' = n - j ∧ ρ = [(39, .int .i64 (j : Int)), (38, .int .i64 (n : Int)), (6, .ptr 2 0), (4, .ptr 1 0), (3, .int .i64 0), (2, .ptr 0 0)] ∧ m = [(2, some (.var 31 (.int .i64 set :: .slice (.own 3) q zz :: bx0))), (1, some (.var 72 [.slice .frozen Lq zq, .bool okq])), (0, some (.var 31 pp0)), (3, some (.tok 46 10))] ∧ nx = 4)
      ⟨_, _, _, _, (weak_ren (fun l => l) (by repeat (first | exact trivial | refine ⟨⟨_, rfl, (by first | exact Up.refl _ | exact Up.fz _ _ _ | exact Up.nil _ | assumption), rfl⟩, ?_⟩)) (by repeat (first | exact trivial | refine ⟨⟨rfl, _, rfl, (by first | exact Ups.refl _ | assumption | ((repeat refine Ups.cons (by first | exact Up.refl _ | exact Up.nil _ | exact Up.fz _ _ _) ?_); exact Ups.nil)), rfl⟩, ?_⟩ | refine ⟨⟨rfl, rfl⟩, ?_⟩)) (by first | decide | simp) (Nat.zero_le _) (fun _ h => absurd h (Nat.not_lt_zero _))), 0, 0, L3, [], zl3, _, Nat.zero_le _, rfl, rfl, hL3.symm, hzl3.symm, hk3.symm, rfl, rfl, rfl, rfl⟩ ?_
    rintro n' ρ m nx ⟨j, q, Lq, zz, zq, okq, hj, hq, hzz, hLq, hzq, hokq, rfl, rfl, rfl, rfl⟩
    subst hq
    by_cases hlt : q < n
    · have hsucc : sgnsE (q + 1) y3 = ((sgnsE q y3).1 ++ [(sgnE (sgnsE q y3).2).1], (sgnE (sgnsE q y3).2).2) := rfl
      have hlen := sgnsE_len q y3
      have hle := sgnsE_le q y3
      generalize sgnsE q y3 = rq at *
      obtain ⟨lq, y⟩ := rq
      dsimp only at hsucc hlen hle hzz hLq hzq hokq
      unfold sgnE at hsucc
      have d1 := eNumber_ok y 1 (by decide) (by omega)
      have m1 := numberE_le y 1
      generalize numberE y 1 = a at *
      obtain ⟨w, ya⟩ := a
      dsimp only at d1 m1 hsucc
      have d2 := eWord_ok ya (by omega)
      have m2 := takeE_le ya 32
      have w2 := takeE_len ya 32
      generalize takeE ya 32 = a at *
      obtain ⟨r, yb⟩ := a
      dsimp only at d2 m2 w2 hsucc
      have d3 := eWord_ok yb (by omega)
      have m3 := takeE_le yb 32
      have w3 := takeE_len yb 32
      generalize takeE yb 32 = a at *
      obtain ⟨s, yc⟩ := a
      dsimp only at d3 m3 w3 hsucc
      have d4 := eNumber_ok yc 1 (by decide) (by omega)
      generalize numberE yc 1 = a at *
      obtain ⟨o, yd⟩ := a
      dsimp only at d4 hsucc
      have fr := From_ok r w2
      have fs := From_ok s w3
      have hzl : q * 10 = zz.length := by rw [hzz, sgsI_len, hlen]
      have hz2 : zz ++ sgC w (nm r) (nm s) o = sgsI (sgnsE (q + 1) y3).1 := by rw [hsucc, hzz]; unfold sgsI; rw [List.flatMap_append]; simp [sgI]
      have hb2 : ∀ p : Nat → Bool, D.lall p (.agg (bs r)) = true := fun p => (D.cl_ren (fun l => l) p _ (show D.cl (.agg (bs r)) = true from bs_cl r)).2
      have hr2 : ∀ f : Nat → Nat, D.ren f (.agg (bs r)) = .agg (bs r) := fun f => (D.cl_ren f (fun _ => true) _ (show D.cl (.agg (bs r)) = true from bs_cl r)).1
      have hb3 : ∀ p : Nat → Bool, D.lall p (.agg (bs s)) = true := fun p => (D.cl_ren (fun l => l) p _ (show D.cl (.agg (bs s)) = true from bs_cl s)).2
      have hr3 : ∀ f : Nat → Nat, D.ren f (.agg (bs s)) = .agg (bs s) := fun f => (D.cl_ren f (fun _ => true) _ (show D.cl (.agg (bs s)) = true from bs_cl s)).1
      have hLd : yd.1.length = (sgnsE (q + 1) y3).2.1.length := by rw [hsucc]
      have hzd : bs yd.1 = bs (sgnsE (q + 1) y3).2.1 := by rw [hsucc]
      have hkd : yd.2 = (sgnsE (q + 1) y3).2.2 := by rw [hsucc]
      unfold eyM eyC at d1 d2 d3 d4
      rw [← hzq, ← hLq, ← hokq] at d1
      clear hsucc m1 m2 m3 hle hzq hLq hokq hzz w2 w3
      generalize bs yd.1 = zd at *
      generalize yd.1.length = Ld at *
      generalize yd.2 = kd at *
      generalize bs yc.1 = zc at *
      generalize yc.1.length = Lc at *
      generalize yc.2 = kc at *
      generalize bs yb.1 = zb at *
      generalize yb.1.length = Lb at *
      generalize yb.2 = kb at *
      generalize bs ya.1 = za at *
      generalize ya.1.length = La at *
      generalize ya.2 = ka at *
      generalize nm r = rn at *
      generalize nm s = sn at *
      have hgz : sgC w rn sn o = [.int .i64 w, .int .u64 (lim rn 0), .int .u64 (lim rn 1), .int .u64 (lim rn 2), .int .u64 (lim rn 3), .int .u64 (lim sn 0), .int .u64 (lim sn 1), .int .u64 (lim sn 2), .int .u64 (lim sn 3), .int .i64 o] := rfl
      repeat (first | with_reducible (first | refine W_seq ?_ | refine q_then ?_ | refine q_thenr ?_ | refine q_thenx ?_ | refine W_block ?_ | refine q_block ?_ | refine q_blockr ?_ | refine q_blockx ?_ | refine W_ret ?_ | refine W_skip ?_ | refine W_label ?_ | refine W_exit ?_ | refine W_scope ?_ | refine q_scope ?_ | refine q_scoper ?_ | refine q_scopex ?_) | (with_reducible refine R_nil ?_; try dsimp only [slots0, slots_ud, cells_U, agg_ud, drop0, dropS, takeS, take0, ud_nil, take_ud, take_ud0, drop_ud, drop_ud0, take_udk, D.cells, D.fz, D.fzs, List.take_succ_cons, List.take_zero, List.drop_succ_cons, List.drop_zero, List.cons_append, List.nil_append, List.append_eq, List.length_cons, List.length_nil, Nat.reduceAdd, Nat.reduceMul, Nat.reduceSub, Int.reduceAdd, Int.reduceSub, Int.reduceToNat, Int.reduceNeg, Int.reduceMul]) | refine q_blocky rfl ?_ | refine W_plain rfl ?_ | refine W_drawn mixed rfl ?_ | refine and_chk (by kernel_rfl) ?_ | refine k_move rfl rfl ?_ | refine k_assign rfl rfl ?_ | refine k_load rfl rfl rfl rfl ?_ | refine k_alloc rfl ?_ | refine k_box rfl rfl rfl ?_ | refine k_store rfl rfl rfl rfl rfl rfl rfl ?_ | refine k_extract rfl rfl rfl ?_ | refine k_fieldAddr rfl rfl rfl ?_ | refine k_field rfl rfl rfl ?_ | refine k_build rfl rfl rfl ?_ | refine k_callf (fun l => l + 1) [0] (5) rfl (d1) rfl (by first | exact Ups.refl _ | assumption | ((repeat refine Ups.cons (by first | exact Up.refl _ | exact Up.nil _ | exact Up.fz _ _ _) ?_); exact Ups.nil)) (rfl) (by (repeat (first | refine ⟨⟨rfl, _, rfl, (by first | exact Ups.refl _ | assumption | ((repeat refine Ups.cons (by first | exact Up.refl _ | exact Up.nil _ | exact Up.fz _ _ _) ?_); exact Ups.nil)), rfl⟩, ?_⟩ | refine ⟨⟨rfl, rfl⟩, ?_⟩)); exact trivial) rfl rfl rfl rfl (rfl) (rfl) rfl rfl rfl rfl ?_ | refine k_append rfl rfl rfl (by first | rfl | exact trivial | (show 0 < _; omega)) (by first | rfl | (simp <;> omega)) (by first | rfl | (simp <;> omega)) rfl (by omega) rfl rfl rfl ?_ | refine k_slice rfl rfl rfl rfl ⟨by omega, by omega, by omega⟩ rfl rfl rfl ?_ | refine k_slice3 rfl rfl rfl rfl rfl ⟨by omega, by omega, by omega⟩ rfl rfl rfl ?_ | refine k_sliceA rfl rfl rfl rfl ⟨by omega, by omega, by omega, by omega⟩ rfl rfl ?_ | refine k_sliceE rfl rfl rfl rfl ⟨by omega, by omega, by omega, by omega⟩ rfl rfl rfl rfl ?_ | refine k_buildSlice (cs := []) rfl rfl rfl rfl rfl rfl rfl ?_ | refine k_buildSlice rfl rfl rfl rfl rfl rfl rfl ?_ | refine k_indexAddr rfl rfl rfl ⟨by omega, by omega⟩ ?_ | refine k_indexAddrs rfl rfl rfl ⟨by omega, by omega⟩ rfl ?_ | refine k_index rfl rfl rfl ⟨by omega, by omega⟩ rfl ?_ | refine k_loade rfl rfl rfl ?_ | refine k_fieldAddre rfl rfl rfl rfl ?_ | refine k_len rfl rfl ?_ | refine k_nilCheck rfl rfl rfl ?_ | refine k_pickT rfl rfl rfl ?_ | refine k_pickF rfl rfl rfl ?_ | refine k_addi rfl rfl rfl (by omega) ?_ | refine k_subi rfl rfl rfl (by omega) ?_ | refine k_negi rfl rfl (by omega) ?_ | refine k_not rfl rfl rfl ?_ | refine k_lssT rfl rfl rfl (by omega) ?_ | refine k_lssF rfl rfl rfl (by omega) ?_ | refine k_leqT rfl rfl rfl (by omega) ?_ | refine k_leqF rfl rfl rfl (by omega) ?_ | refine k_gtrT rfl rfl rfl (by omega) ?_ | refine k_gtrF rfl rfl rfl (by omega) ?_ | refine k_geqT rfl rfl rfl (by omega) ?_ | refine k_geqF rfl rfl rfl (by omega) ?_ | refine k_eqlT rfl rfl rfl (by omega) ?_ | refine k_eqlF rfl rfl rfl (by omega) ?_ | refine k_neqT rfl rfl rfl (by omega) ?_ | refine k_neqF rfl rfl rfl (by omega) ?_ | refine k_eqa rfl rfl rfl rfl rfl rfl ?_ | refine k_nea rfl rfl rfl rfl rfl rfl ?_ | refine k_makeFunc rfl rfl rfl ?_ | refine k_skip rfl ?_ | refine k_skip0 rfl ?_ | refine k_pick rfl rfl rfl rfl rfl ?_ | refine W_yes rfl ?_ | refine W_no rfl ?_)
      repeat (first | with_reducible (first | refine W_seq ?_ | refine q_then ?_ | refine q_thenr ?_ | refine q_thenx ?_ | refine W_block ?_ | refine q_block ?_ | refine q_blockr ?_ | refine q_blockx ?_ | refine W_ret ?_ | refine W_skip ?_ | refine W_label ?_ | refine W_exit ?_ | refine W_scope ?_ | refine q_scope ?_ | refine q_scoper ?_ | refine q_scopex ?_) | (with_reducible refine R_nil ?_; try dsimp only [slots0, slots_ud, cells_U, agg_ud, drop0, dropS, takeS, take0, ud_nil, take_ud, take_ud0, drop_ud, drop_ud0, take_udk, D.cells, D.fz, D.fzs, List.take_succ_cons, List.take_zero, List.drop_succ_cons, List.drop_zero, List.cons_append, List.nil_append, List.append_eq, List.length_cons, List.length_nil, Nat.reduceAdd, Nat.reduceMul, Nat.reduceSub, Int.reduceAdd, Int.reduceSub, Int.reduceToNat, Int.reduceNeg, Int.reduceMul]) | refine q_blocky rfl ?_ | refine W_plain rfl ?_ | refine W_drawn mixed rfl ?_ | refine and_chk (by kernel_rfl) ?_ | refine k_move rfl rfl ?_ | refine k_assign rfl rfl ?_ | refine k_load rfl rfl rfl rfl ?_ | refine k_alloc rfl ?_ | refine k_box rfl rfl rfl ?_ | refine k_store rfl rfl rfl rfl rfl rfl rfl ?_ | refine k_extract rfl rfl rfl ?_ | refine k_fieldAddr rfl rfl rfl ?_ | refine k_field rfl rfl rfl ?_ | refine k_build rfl rfl rfl ?_ | refine k_callf (fun l => l + 1) [0] (5) rfl (d2) rfl (by first | exact Ups.refl _ | assumption | ((repeat refine Ups.cons (by first | exact Up.refl _ | exact Up.nil _ | exact Up.fz _ _ _) ?_); exact Ups.nil)) (rfl) (by (repeat (first | refine ⟨⟨rfl, _, rfl, (by first | exact Ups.refl _ | assumption | ((repeat refine Ups.cons (by first | exact Up.refl _ | exact Up.nil _ | exact Up.fz _ _ _) ?_); exact Ups.nil)), rfl⟩, ?_⟩ | refine ⟨⟨rfl, rfl⟩, ?_⟩)); exact trivial) rfl rfl rfl rfl (hb2 _) (hr2 _) rfl rfl rfl rfl ?_ | refine k_call rfl fr rfl (b_fz1 _) (b_cl1 _) rfl ?_ | refine k_append rfl rfl rfl (by first | rfl | exact trivial | (show 0 < _; omega)) (by first | rfl | (simp <;> omega)) (by first | rfl | (simp <;> omega)) rfl (by omega) rfl rfl rfl ?_ | refine k_slice rfl rfl rfl rfl ⟨by omega, by omega, by omega⟩ rfl rfl rfl ?_ | refine k_slice3 rfl rfl rfl rfl rfl ⟨by omega, by omega, by omega⟩ rfl rfl rfl ?_ | refine k_sliceA rfl rfl rfl rfl ⟨by omega, by omega, by omega, by omega⟩ rfl rfl ?_ | refine k_sliceE rfl rfl rfl rfl ⟨by omega, by omega, by omega, by omega⟩ rfl rfl rfl rfl ?_ | refine k_buildSlice (cs := []) rfl rfl rfl rfl rfl rfl rfl ?_ | refine k_buildSlice rfl rfl rfl rfl rfl rfl rfl ?_ | refine k_indexAddr rfl rfl rfl ⟨by omega, by omega⟩ ?_ | refine k_indexAddrs rfl rfl rfl ⟨by omega, by omega⟩ rfl ?_ | refine k_index rfl rfl rfl ⟨by omega, by omega⟩ rfl ?_ | refine k_loade rfl rfl rfl ?_ | refine k_fieldAddre rfl rfl rfl rfl ?_ | refine k_len rfl rfl ?_ | refine k_nilCheck rfl rfl rfl ?_ | refine k_pickT rfl rfl rfl ?_ | refine k_pickF rfl rfl rfl ?_ | refine k_addi rfl rfl rfl (by omega) ?_ | refine k_subi rfl rfl rfl (by omega) ?_ | refine k_negi rfl rfl (by omega) ?_ | refine k_not rfl rfl rfl ?_ | refine k_lssT rfl rfl rfl (by omega) ?_ | refine k_lssF rfl rfl rfl (by omega) ?_ | refine k_leqT rfl rfl rfl (by omega) ?_ | refine k_leqF rfl rfl rfl (by omega) ?_ | refine k_gtrT rfl rfl rfl (by omega) ?_ | refine k_gtrF rfl rfl rfl (by omega) ?_ | refine k_geqT rfl rfl rfl (by omega) ?_ | refine k_geqF rfl rfl rfl (by omega) ?_ | refine k_eqlT rfl rfl rfl (by omega) ?_ | refine k_eqlF rfl rfl rfl (by omega) ?_ | refine k_neqT rfl rfl rfl (by omega) ?_ | refine k_neqF rfl rfl rfl (by omega) ?_ | refine k_eqa rfl rfl rfl rfl rfl rfl ?_ | refine k_nea rfl rfl rfl rfl rfl rfl ?_ | refine k_makeFunc rfl rfl rfl ?_ | refine k_skip rfl ?_ | refine k_skip0 rfl ?_ | refine k_pick rfl rfl rfl rfl rfl ?_ | refine W_yes rfl ?_ | refine W_no rfl ?_)
      repeat (first | with_reducible (first | refine W_seq ?_ | refine q_then ?_ | refine q_thenr ?_ | refine q_thenx ?_ | refine W_block ?_ | refine q_block ?_ | refine q_blockr ?_ | refine q_blockx ?_ | refine W_ret ?_ | refine W_skip ?_ | refine W_label ?_ | refine W_exit ?_ | refine W_scope ?_ | refine q_scope ?_ | refine q_scoper ?_ | refine q_scopex ?_) | (with_reducible refine R_nil ?_; try dsimp only [slots0, slots_ud, cells_U, agg_ud, drop0, dropS, takeS, take0, ud_nil, take_ud, take_ud0, drop_ud, drop_ud0, take_udk, D.cells, D.fz, D.fzs, List.take_succ_cons, List.take_zero, List.drop_succ_cons, List.drop_zero, List.cons_append, List.nil_append, List.append_eq, List.length_cons, List.length_nil, Nat.reduceAdd, Nat.reduceMul, Nat.reduceSub, Int.reduceAdd, Int.reduceSub, Int.reduceToNat, Int.reduceNeg, Int.reduceMul]) | refine q_blocky rfl ?_ | refine W_plain rfl ?_ | refine W_drawn mixed rfl ?_ | refine and_chk (by kernel_rfl) ?_ | refine k_move rfl rfl ?_ | refine k_assign rfl rfl ?_ | refine k_load rfl rfl rfl rfl ?_ | refine k_alloc rfl ?_ | refine k_box rfl rfl rfl ?_ | refine k_store rfl rfl rfl rfl rfl rfl rfl ?_ | refine k_extract rfl rfl rfl ?_ | refine k_fieldAddr rfl rfl rfl ?_ | refine k_field rfl rfl rfl ?_ | refine k_build rfl rfl rfl ?_ | refine k_callf (fun l => l + 1) [0] (5) rfl (d3) rfl (by first | exact Ups.refl _ | assumption | ((repeat refine Ups.cons (by first | exact Up.refl _ | exact Up.nil _ | exact Up.fz _ _ _) ?_); exact Ups.nil)) (rfl) (by (repeat (first | refine ⟨⟨rfl, _, rfl, (by first | exact Ups.refl _ | assumption | ((repeat refine Ups.cons (by first | exact Up.refl _ | exact Up.nil _ | exact Up.fz _ _ _) ?_); exact Ups.nil)), rfl⟩, ?_⟩ | refine ⟨⟨rfl, rfl⟩, ?_⟩)); exact trivial) rfl rfl rfl rfl (hb3 _) (hr3 _) rfl rfl rfl rfl ?_ | refine k_call rfl fs rfl (b_fz1 _) (b_cl1 _) rfl ?_ | refine k_append rfl rfl rfl (by first | rfl | exact trivial | (show 0 < _; omega)) (by first | rfl | (simp <;> omega)) (by first | rfl | (simp <;> omega)) rfl (by omega) rfl rfl rfl ?_ | refine k_slice rfl rfl rfl rfl ⟨by omega, by omega, by omega⟩ rfl rfl rfl ?_ | refine k_slice3 rfl rfl rfl rfl rfl ⟨by omega, by omega, by omega⟩ rfl rfl rfl ?_ | refine k_sliceA rfl rfl rfl rfl ⟨by omega, by omega, by omega, by omega⟩ rfl rfl ?_ | refine k_sliceE rfl rfl rfl rfl ⟨by omega, by omega, by omega, by omega⟩ rfl rfl rfl rfl ?_ | refine k_buildSlice (cs := []) rfl rfl rfl rfl rfl rfl rfl ?_ | refine k_buildSlice rfl rfl rfl rfl rfl rfl rfl ?_ | refine k_indexAddr rfl rfl rfl ⟨by omega, by omega⟩ ?_ | refine k_indexAddrs rfl rfl rfl ⟨by omega, by omega⟩ rfl ?_ | refine k_index rfl rfl rfl ⟨by omega, by omega⟩ rfl ?_ | refine k_loade rfl rfl rfl ?_ | refine k_fieldAddre rfl rfl rfl rfl ?_ | refine k_len rfl rfl ?_ | refine k_nilCheck rfl rfl rfl ?_ | refine k_pickT rfl rfl rfl ?_ | refine k_pickF rfl rfl rfl ?_ | refine k_addi rfl rfl rfl (by omega) ?_ | refine k_subi rfl rfl rfl (by omega) ?_ | refine k_negi rfl rfl (by omega) ?_ | refine k_not rfl rfl rfl ?_ | refine k_lssT rfl rfl rfl (by omega) ?_ | refine k_lssF rfl rfl rfl (by omega) ?_ | refine k_leqT rfl rfl rfl (by omega) ?_ | refine k_leqF rfl rfl rfl (by omega) ?_ | refine k_gtrT rfl rfl rfl (by omega) ?_ | refine k_gtrF rfl rfl rfl (by omega) ?_ | refine k_geqT rfl rfl rfl (by omega) ?_ | refine k_geqF rfl rfl rfl (by omega) ?_ | refine k_eqlT rfl rfl rfl (by omega) ?_ | refine k_eqlF rfl rfl rfl (by omega) ?_ | refine k_neqT rfl rfl rfl (by omega) ?_ | refine k_neqF rfl rfl rfl (by omega) ?_ | refine k_eqa rfl rfl rfl rfl rfl rfl ?_ | refine k_nea rfl rfl rfl rfl rfl rfl ?_ | refine k_makeFunc rfl rfl rfl ?_ | refine k_skip rfl ?_ | refine k_skip0 rfl ?_ | refine k_pick rfl rfl rfl rfl rfl ?_ | refine W_yes rfl ?_ | refine W_no rfl ?_)
      repeat (first | with_reducible (first | refine W_seq ?_ | refine q_then ?_ | refine q_thenr ?_ | refine q_thenx ?_ | refine W_block ?_ | refine q_block ?_ | refine q_blockr ?_ | refine q_blockx ?_ | refine W_ret ?_ | refine W_skip ?_ | refine W_label ?_ | refine W_exit ?_ | refine W_scope ?_ | refine q_scope ?_ | refine q_scoper ?_ | refine q_scopex ?_) | (with_reducible refine R_nil ?_; try dsimp only [slots0, slots_ud, cells_U, agg_ud, drop0, dropS, takeS, take0, ud_nil, take_ud, take_ud0, drop_ud, drop_ud0, take_udk, D.cells, D.fz, D.fzs, List.take_succ_cons, List.take_zero, List.drop_succ_cons, List.drop_zero, List.cons_append, List.nil_append, List.append_eq, List.length_cons, List.length_nil, Nat.reduceAdd, Nat.reduceMul, Nat.reduceSub, Int.reduceAdd, Int.reduceSub, Int.reduceToNat, Int.reduceNeg, Int.reduceMul]) | refine q_blocky rfl ?_ | refine W_plain rfl ?_ | refine W_drawn mixed rfl ?_ | refine and_chk (by kernel_rfl) ?_ | refine k_buildSlice (cs := sgC w rn sn o) rfl rfl rfl rfl rfl rfl rfl ?_ | refine k_append rfl rfl rfl (by rfl) hzl rfl rfl (by omega) rfl rfl hz2 ?_ | refine k_move rfl rfl ?_ | refine k_assign rfl rfl ?_ | refine k_load rfl rfl rfl rfl ?_ | refine k_alloc rfl ?_ | refine k_box rfl rfl rfl ?_ | refine k_store rfl rfl rfl rfl rfl rfl rfl ?_ | refine k_extract rfl rfl rfl ?_ | refine k_fieldAddr rfl rfl rfl ?_ | refine k_field rfl rfl rfl ?_ | refine k_build rfl rfl rfl ?_ | refine k_callf (fun l => l + 1) [0] (5) rfl (d4) rfl (by first | exact Ups.refl _ | assumption | ((repeat refine Ups.cons (by first | exact Up.refl _ | exact Up.nil _ | exact Up.fz _ _ _) ?_); exact Ups.nil)) (rfl) (by (repeat (first | refine ⟨⟨rfl, _, rfl, (by first | exact Ups.refl _ | assumption | ((repeat refine Ups.cons (by first | exact Up.refl _ | exact Up.nil _ | exact Up.fz _ _ _) ?_); exact Ups.nil)), rfl⟩, ?_⟩ | refine ⟨⟨rfl, rfl⟩, ?_⟩)); exact trivial) rfl rfl rfl rfl (rfl) (rfl) rfl rfl rfl rfl ?_ | refine k_append rfl rfl rfl (by first | rfl | exact trivial | (show 0 < _; omega)) (by first | rfl | (simp <;> omega)) (by first | rfl | (simp <;> omega)) rfl (by omega) rfl rfl rfl ?_ | refine k_slice rfl rfl rfl rfl ⟨by omega, by omega, by omega⟩ rfl rfl rfl ?_ | refine k_slice3 rfl rfl rfl rfl rfl ⟨by omega, by omega, by omega⟩ rfl rfl rfl ?_ | refine k_sliceA rfl rfl rfl rfl ⟨by omega, by omega, by omega, by omega⟩ rfl rfl ?_ | refine k_sliceE rfl rfl rfl rfl ⟨by omega, by omega, by omega, by omega⟩ rfl rfl rfl rfl ?_ | refine k_buildSlice (cs := []) rfl rfl rfl rfl rfl rfl rfl ?_ | refine k_buildSlice rfl rfl rfl rfl rfl rfl rfl ?_ | refine k_indexAddr rfl rfl rfl ⟨by omega, by omega⟩ ?_ | refine k_indexAddrs rfl rfl rfl ⟨by omega, by omega⟩ rfl ?_ | refine k_index rfl rfl rfl ⟨by omega, by omega⟩ rfl ?_ | refine k_loade rfl rfl rfl ?_ | refine k_fieldAddre rfl rfl rfl rfl ?_ | refine k_len rfl rfl ?_ | refine k_nilCheck rfl rfl rfl ?_ | refine k_pickT rfl rfl rfl ?_ | refine k_pickF rfl rfl rfl ?_ | refine k_addi rfl rfl rfl (by omega) ?_ | refine k_subi rfl rfl rfl (by omega) ?_ | refine k_negi rfl rfl (by omega) ?_ | refine k_not rfl rfl rfl ?_ | refine k_lssT rfl rfl rfl (by omega) ?_ | refine k_lssF rfl rfl rfl (by omega) ?_ | refine k_leqT rfl rfl rfl (by omega) ?_ | refine k_leqF rfl rfl rfl (by omega) ?_ | refine k_gtrT rfl rfl rfl (by omega) ?_ | refine k_gtrF rfl rfl rfl (by omega) ?_ | refine k_geqT rfl rfl rfl (by omega) ?_ | refine k_geqF rfl rfl rfl (by omega) ?_ | refine k_eqlT rfl rfl rfl (by omega) ?_ | refine k_eqlF rfl rfl rfl (by omega) ?_ | refine k_neqT rfl rfl rfl (by omega) ?_ | refine k_neqF rfl rfl rfl (by omega) ?_ | refine k_eqa rfl rfl rfl rfl rfl rfl ?_ | refine k_nea rfl rfl rfl rfl rfl rfl ?_ | refine k_makeFunc rfl rfl rfl ?_ | refine k_skip rfl ?_ | refine k_skip0 rfl ?_ | refine k_pick rfl rfl rfl rfl rfl ?_ | refine W_yes rfl ?_ | refine W_no rfl ?_)
      exact ⟨n - (q + 1), _, _, _, (weak_ren (fun l => if l = 3 then 6 else l) (by repeat (first | exact trivial | refine ⟨⟨_, rfl, (by first | exact Up.refl _ | exact Up.fz _ _ _ | exact Up.nil _ | assumption), rfl⟩, ?_⟩)) (by repeat (first | exact trivial | refine ⟨⟨rfl, _, rfl, (by first | exact Ups.refl _ | assumption | ((repeat refine Ups.cons (by first | exact Up.refl _ | exact Up.nil _ | exact Up.fz _ _ _) ?_); exact Ups.nil)), rfl⟩, ?_⟩ | refine ⟨⟨rfl, rfl⟩, ?_⟩)) (by first | decide | simp) (Nat.zero_le _) (fun _ h => absurd h (Nat.not_lt_zero _))), by omega, q + 1, q + 1, Ld, _, zd, kd, by omega, rfl, rfl, hLd, hzd, hkd, rfl, rfl, rfl, rfl⟩
    · have eq : q = n := by omega
      subst eq
      rw [hlast] at hzz hLq hzq hokq
      dsimp only at hzz hLq hzq hokq
      rw [hL4] at hLq
      rw [hzl4] at hzq
      rw [hk4] at hokq
      subst hLq hzq hokq hzz
      clear hlast
      rcases hR with ⟨rfl, rfl⟩ | ⟨rfl, rfl, hf⟩
      · repeat (first | with_reducible (first | refine W_seq ?_ | refine q_then ?_ | refine q_thenr ?_ | refine q_thenx ?_ | refine W_block ?_ | refine q_block ?_ | refine q_blockr ?_ | refine q_blockx ?_ | refine W_ret ?_ | refine W_skip ?_ | refine W_label ?_ | refine W_exit ?_ | refine W_scope ?_ | refine q_scope ?_ | refine q_scoper ?_ | refine q_scopex ?_) | (with_reducible refine R_nil ?_; try dsimp only [slots0, slots_ud, cells_U, agg_ud, drop0, dropS, takeS, take0, ud_nil, take_ud, take_ud0, drop_ud, drop_ud0, take_udk, D.cells, D.fz, D.fzs, List.take_succ_cons, List.take_zero, List.drop_succ_cons, List.drop_zero, List.cons_append, List.nil_append, List.append_eq, List.length_cons, List.length_nil, Nat.reduceAdd, Nat.reduceMul, Nat.reduceSub, Int.reduceAdd, Int.reduceSub, Int.reduceToNat, Int.reduceNeg, Int.reduceMul]) | refine q_blocky rfl ?_ | refine W_plain rfl ?_ | refine W_drawn mixed rfl ?_ | refine and_chk (by kernel_rfl) ?_ | refine k_store rfl rfl rfl rfl (by exact hxl) rfl (by exact hsp _ _) ?_ | refine k_move rfl rfl ?_ | refine k_assign rfl rfl ?_ | refine k_load rfl rfl rfl rfl ?_ | refine k_alloc rfl ?_ | refine k_box rfl rfl rfl ?_ | refine k_store rfl rfl rfl rfl rfl rfl rfl ?_ | refine k_extract rfl rfl rfl ?_ | refine k_fieldAddr rfl rfl rfl ?_ | refine k_field rfl rfl rfl ?_ | refine k_build rfl rfl rfl ?_ | refine k_callf (fun l => l + 1) [0] (4) rfl (c5) rfl (by first | exact Ups.refl _ | assumption | ((repeat refine Ups.cons (by first | exact Up.refl _ | exact Up.nil _ | exact Up.fz _ _ _) ?_); exact Ups.nil)) (rfl) (by (repeat (first | refine ⟨⟨rfl, _, rfl, (by first | exact Ups.refl _ | assumption | ((repeat refine Ups.cons (by first | exact Up.refl _ | exact Up.nil _ | exact Up.fz _ _ _) ?_); exact Ups.nil)), rfl⟩, ?_⟩ | refine ⟨⟨rfl, rfl⟩, ?_⟩)); exact trivial) rfl rfl rfl rfl (hbe _) (hbr _) rfl rfl rfl rfl ?_ | refine k_append rfl rfl rfl (by first | rfl | exact trivial | (show 0 < _; omega)) (by first | rfl | (simp <;> omega)) (by first | rfl | (simp <;> omega)) rfl (by omega) rfl rfl rfl ?_ | refine k_slice rfl rfl rfl rfl ⟨by omega, by omega, by omega⟩ rfl rfl rfl ?_ | refine k_slice3 rfl rfl rfl rfl rfl ⟨by omega, by omega, by omega⟩ rfl rfl rfl ?_ | refine k_sliceA rfl rfl rfl rfl ⟨by omega, by omega, by omega, by omega⟩ rfl rfl ?_ | refine k_sliceE rfl rfl rfl rfl ⟨by omega, by omega, by omega, by omega⟩ rfl rfl rfl rfl ?_ | refine k_buildSlice (cs := []) rfl rfl rfl rfl rfl rfl rfl ?_ | refine k_buildSlice rfl rfl rfl rfl rfl rfl rfl ?_ | refine k_indexAddr rfl rfl rfl ⟨by omega, by omega⟩ ?_ | refine k_indexAddrs rfl rfl rfl ⟨by omega, by omega⟩ rfl ?_ | refine k_index rfl rfl rfl ⟨by omega, by omega⟩ rfl ?_ | refine k_loade rfl rfl rfl ?_ | refine k_fieldAddre rfl rfl rfl rfl ?_ | refine k_len rfl rfl ?_ | refine k_nilCheck rfl rfl rfl ?_ | refine k_pickT rfl rfl rfl ?_ | refine k_pickF rfl rfl rfl ?_ | refine k_addi rfl rfl rfl (by omega) ?_ | refine k_subi rfl rfl rfl (by omega) ?_ | refine k_negi rfl rfl (by omega) ?_ | refine k_not rfl rfl rfl ?_ | refine k_lssT rfl rfl rfl (by omega) ?_ | refine k_lssF rfl rfl rfl (by omega) ?_ | refine k_leqT rfl rfl rfl (by omega) ?_ | refine k_leqF rfl rfl rfl (by omega) ?_ | refine k_gtrT rfl rfl rfl (by omega) ?_ | refine k_gtrF rfl rfl rfl (by omega) ?_ | refine k_geqT rfl rfl rfl (by omega) ?_ | refine k_geqF rfl rfl rfl (by omega) ?_ | refine k_eqlT rfl rfl rfl (by omega) ?_ | refine k_eqlF rfl rfl rfl (by omega) ?_ | refine k_neqT rfl rfl rfl (by omega) ?_ | refine k_neqF rfl rfl rfl (by omega) ?_ | refine k_eqa rfl rfl rfl rfl rfl rfl ?_ | refine k_nea rfl rfl rfl rfl rfl rfl ?_ | refine k_makeFunc rfl rfl rfl ?_ | refine k_skip rfl ?_ | refine k_skip0 rfl ?_ | refine k_pick rfl rfl rfl rfl rfl ?_ | refine W_yes rfl ?_ | refine W_no rfl ?_)
        (first | with_reducible refine q_endr ?_ | with_reducible refine q_endn ?_); refine rets2 Try.results9 (by first | exact RetV.tmp _ _ rfl | exact RetV.cell _ _ _ _ _ _ _ _ inferInstance rfl rfl rfl) (by first | exact RetV.tmp _ _ rfl | exact RetV.cell _ _ _ _ _ _ _ _ inferInstance rfl rfl rfl) ?_ ?_
        · rfl
        · rfl
      · repeat (first | with_reducible (first | refine W_seq ?_ | refine q_then ?_ | refine q_thenr ?_ | refine q_thenx ?_ | refine W_block ?_ | refine q_block ?_ | refine q_blockr ?_ | refine q_blockx ?_ | refine W_ret ?_ | refine W_skip ?_ | refine W_label ?_ | refine W_exit ?_ | refine W_scope ?_ | refine q_scope ?_ | refine q_scoper ?_ | refine q_scopex ?_) | (with_reducible refine R_nil ?_; try dsimp only [slots0, slots_ud, cells_U, agg_ud, drop0, dropS, takeS, take0, ud_nil, take_ud, take_ud0, drop_ud, drop_ud0, take_udk, D.cells, D.fz, D.fzs, List.take_succ_cons, List.take_zero, List.drop_succ_cons, List.drop_zero, List.cons_append, List.nil_append, List.append_eq, List.length_cons, List.length_nil, Nat.reduceAdd, Nat.reduceMul, Nat.reduceSub, Int.reduceAdd, Int.reduceSub, Int.reduceToNat, Int.reduceNeg, Int.reduceMul]) | refine q_blocky rfl ?_ | refine W_plain rfl ?_ | refine W_drawn mixed rfl ?_ | refine and_chk (by kernel_rfl) ?_ | refine k_store rfl rfl rfl rfl (by exact hxl) rfl (by exact hsp _ _) ?_ | refine k_load rfl rfl rfl (by exact hwa _ _ _) ?_ | refine k_store rfl rfl rfl rfl (by exact hwl _ _) rfl (by exact hws _ _ _ rfl) ?_ | refine k_move rfl rfl ?_ | refine k_assign rfl rfl ?_ | refine k_load rfl rfl rfl rfl ?_ | refine k_alloc rfl ?_ | refine k_box rfl rfl rfl ?_ | refine k_store rfl rfl rfl rfl rfl rfl rfl ?_ | refine k_extract rfl rfl rfl ?_ | refine k_fieldAddr rfl rfl rfl ?_ | refine k_field rfl rfl rfl ?_ | refine k_build rfl rfl rfl ?_ | refine k_callf (fun l => l + 1) [0] (4) rfl (c5) rfl (by first | exact Ups.refl _ | assumption | ((repeat refine Ups.cons (by first | exact Up.refl _ | exact Up.nil _ | exact Up.fz _ _ _) ?_); exact Ups.nil)) (rfl) (by (repeat (first | refine ⟨⟨rfl, _, rfl, (by first | exact Ups.refl _ | assumption | ((repeat refine Ups.cons (by first | exact Up.refl _ | exact Up.nil _ | exact Up.fz _ _ _) ?_); exact Ups.nil)), rfl⟩, ?_⟩ | refine ⟨⟨rfl, rfl⟩, ?_⟩)); exact trivial) rfl rfl rfl rfl (hbe _) (hbr _) rfl rfl rfl rfl ?_ | refine k_call rfl hf rfl (hfz _ _ _) (hcz _ _) rfl ?_ | refine k_append rfl rfl rfl (by first | rfl | exact trivial | (show 0 < _; omega)) (by first | rfl | (simp <;> omega)) (by first | rfl | (simp <;> omega)) rfl (by omega) rfl rfl rfl ?_ | refine k_slice rfl rfl rfl rfl ⟨by omega, by omega, by omega⟩ rfl rfl rfl ?_ | refine k_slice3 rfl rfl rfl rfl rfl ⟨by omega, by omega, by omega⟩ rfl rfl rfl ?_ | refine k_sliceA rfl rfl rfl rfl ⟨by omega, by omega, by omega, by omega⟩ rfl rfl ?_ | refine k_sliceE rfl rfl rfl rfl ⟨by omega, by omega, by omega, by omega⟩ rfl rfl rfl rfl ?_ | refine k_buildSlice (cs := []) rfl rfl rfl rfl rfl rfl rfl ?_ | refine k_buildSlice rfl rfl rfl rfl rfl rfl rfl ?_ | refine k_indexAddr rfl rfl rfl ⟨by omega, by omega⟩ ?_ | refine k_indexAddrs rfl rfl rfl ⟨by omega, by omega⟩ rfl ?_ | refine k_index rfl rfl rfl ⟨by omega, by omega⟩ rfl ?_ | refine k_loade rfl rfl rfl ?_ | refine k_fieldAddre rfl rfl rfl rfl ?_ | refine k_len rfl rfl ?_ | refine k_nilCheck rfl rfl rfl ?_ | refine k_pickT rfl rfl rfl ?_ | refine k_pickF rfl rfl rfl ?_ | refine k_addi rfl rfl rfl (by omega) ?_ | refine k_subi rfl rfl rfl (by omega) ?_ | refine k_negi rfl rfl (by omega) ?_ | refine k_not rfl rfl rfl ?_ | refine k_lssT rfl rfl rfl (by omega) ?_ | refine k_lssF rfl rfl rfl (by omega) ?_ | refine k_leqT rfl rfl rfl (by omega) ?_ | refine k_leqF rfl rfl rfl (by omega) ?_ | refine k_gtrT rfl rfl rfl (by omega) ?_ | refine k_gtrF rfl rfl rfl (by omega) ?_ | refine k_geqT rfl rfl rfl (by omega) ?_ | refine k_geqF rfl rfl rfl (by omega) ?_ | refine k_eqlT rfl rfl rfl (by omega) ?_ | refine k_eqlF rfl rfl rfl (by omega) ?_ | refine k_neqT rfl rfl rfl (by omega) ?_ | refine k_neqF rfl rfl rfl (by omega) ?_ | refine k_eqa rfl rfl rfl rfl rfl rfl ?_ | refine k_nea rfl rfl rfl rfl rfl rfl ?_ | refine k_makeFunc rfl rfl rfl ?_ | refine k_skip rfl ?_ | refine k_skip0 rfl ?_ | refine k_pick rfl rfl rfl rfl rfl ?_ | refine W_yes rfl ?_ | refine W_no rfl ?_)
        (first | with_reducible refine q_endr ?_ | with_reducible refine q_endn ?_); refine rets2 Try.results9 (RetV.cell _ _ _ _ _ _ _ _ inferInstance rfl rfl (by exact hwa _ _ _)) (RetV.tmp _ _ rfl) ?_ rfl
        show D.agg (_ :: _ :: D.fzs xb) = _
        rw [hxf]; rfl
end Go.Proofs.Ytbpaimfnfigjpaa

namespace Go.Proofs.Ytbpaimfnfigjpaa
open Go.RowKit Go.Lib Go.IntWalk
set_option linter.unusedVariables false
set_option maxRecDepth 100000

theorem takeE_app (a r : List UInt8) (ok : Bool) (n : Nat) (h : a.length = n) : takeE (a ++ r, ok) n = (a, (r, ok)) := by
  unfold takeE
  rw [if_neg (by simp; omega)]
  subst h
  simp
theorem numI_toB (k n : Nat) (h : n < 256 ^ k) (h2 : n < 9223372036854775808) : numI (toB k n) = (n : Int) := by
  unfold numI
  rw [nm_toB, Nat.mod_eq_of_lt h, i64_in _ (by omega)]
theorem numberE_app (k n : Nat) (r : List UInt8) (ok : Bool) (h : n < 256 ^ k) (h2 : n < 9223372036854775808) : numberE (toB k n ++ r, ok) k = ((n : Int), (r, ok)) := by
  unfold numberE
  rw [takeE_app _ r ok k (toB_len k n)]
  simp only [numI_toB k n h h2]
def SgT.i (e : SgT) : SgI := ((e.w : Int), e.r, e.s, (e.o : Int))
theorem sgnE_app (e : SgT) (h : e.ok) (r : List UInt8) (ok : Bool) : sgnE (e.out ++ r, ok) = (e.i, (r, ok)) := by
  unfold sgnE SgT.out
  have hw := h.w
  have ho := h.o
  simp only [List.append_assoc]
  rw [numberE_app 1 e.w _ ok (by omega) (by omega)]
  dsimp only
  rw [takeE_app (b32 e.r) _ ok 32 (b32_len _)]
  dsimp only
  rw [takeE_app (b32 e.s) _ ok 32 (b32_len _)]
  dsimp only
  rw [numberE_app 1 e.o _ ok (by omega) (by omega), nm_b32 _ h.r, nm_b32 _ h.s]
  rfl
theorem sgnsE_app (l : List SgT) (h : ∀ e ∈ l, e.ok) (r : List UInt8) (ok : Bool) : ∀ j, j ≤ l.length → sgnsE j (sgOut l ++ r, ok) = ((l.take j).map SgT.i, (sgOut (l.drop j) ++ r, ok))
  | 0, _ => by simp [sgnsE]
  | j + 1, hj => by
    have hlt : j < l.length := by omega
    rw [sgnsE, sgnsE_app l h r ok j (by omega)]
    dsimp only
    rw [List.drop_eq_getElem_cons hlt]
    have e1 : sgOut (l[j] :: l.drop (j + 1)) = l[j].out ++ sgOut (l.drop (j + 1)) := by unfold sgOut; rw [List.flatMap_cons]
    rw [e1, List.append_assoc, sgnE_app _ (h _ (List.getElem_mem hlt))]
    dsimp only
    rw [List.take_add_one, List.getElem?_eq_getElem hlt, List.map_append]
    rfl
def BodyT.i (b : BodyT) : BodyI := ⟨b.t, b.n, b.c, b.e, b.u, b.v, b.l⟩
theorem BodyT.i_cells (b : BodyT) : b.i.cells = b.cells := rfl
theorem bodyE_app (b : BodyT) (h : b.ok) (ok : Bool) : bodyE (b.out, ok) = (b.i, (b.l, ok)) := by
  have h1 := h.t; have h2 := h.n; have h3 := h.c; have h4 := h.u; have h5 := h.v
  unfold bodyE BodyT.out
  simp only [List.append_assoc]
  rw [numberE_app 8 b.t _ ok (by omega) (by omega)]
  dsimp only
  rw [numberE_app 4 b.n _ ok (by omega) (by omega)]
  dsimp only
  rw [numberE_app 2 b.c _ ok (by omega) (by omega)]
  dsimp only
  rw [takeE_app b.e _ ok 32 h.e]
  dsimp only
  rw [numberE_app 8 b.u _ ok (by omega) (by omega)]
  dsimp only
  rw [numberE_app 1 b.v _ ok (by omega) (by omega)]
  rfl

/-- nothing more is seen -/
def Blind (y : Ey) : Prop := y.2 = false ∧ y.1 = []
theorem Blind.take {y : Ey} (h : Blind y) (n : Nat) : Blind (takeE y n).2 ∧ (takeE y n).1 = List.replicate n 0 := by
  obtain ⟨l, ok⟩ := y
  obtain ⟨rfl, rfl⟩ := h
  unfold takeE
  split
  · exact ⟨⟨rfl, rfl⟩, rfl⟩
  · rename_i hn
    have : n = 0 := by simp at hn; exact hn
    subst this
    exact ⟨⟨rfl, rfl⟩, rfl⟩
theorem Blind.num {y : Ey} (h : Blind y) (n : Nat) : Blind (numberE y n).2 := (h.take n).1
theorem Blind.sgn {y : Ey} (h : Blind y) : Blind (sgnE y).2 := by
  have h1 := h.num 1
  have h2 := (h1.take 32).1
  have h3 := (h2.take 32).1
  have h4 := h3.num 1
  unfold sgnE
  exact h4
theorem Blind.body {y : Ey} (h : Blind y) : Blind (bodyE y).2 := by
  have h1 := h.num 8
  have h2 := h1.num 4
  have h3 := h2.num 2
  have h4 := (h3.take 32).1
  have h5 := h4.num 8
  have h6 := h5.num 1
  unfold bodyE
  dsimp only
  exact h6
/-- the one sees so much less than the other, or nothing more -/
def Pre (k : Nat) (y' y : Ey) : Prop := Blind y' ∨ (y'.2 = true ∧ y.2 = true ∧ ∃ t, t.length = k ∧ y.1 = y'.1 ++ t)
theorem Pre.take {k : Nat} {y' y : Ey} (h : Pre k y' y) (n : Nat) : Pre k (takeE y' n).2 (takeE y n).2 ∧ ((takeE y' n).2.2 = true → (takeE y' n).1 = (takeE y n).1) := by
  rcases h with h | ⟨h1, h2, t, ht, he⟩
  · have hb := h.take n
    exact ⟨.inl hb.1, fun hk => by rw [hb.1.1] at hk; cases hk⟩
  · obtain ⟨l', ok'⟩ := y'
    obtain ⟨l, ok⟩ := y
    dsimp only at h1 h2 he
    subst h1 h2 he
    unfold takeE
    by_cases hn : l'.length < n
    · simp only [if_pos hn]
      exact ⟨.inl ⟨rfl, rfl⟩, fun hk => by cases hk⟩
    · have hn2 : ¬ (l' ++ t).length < n := by rw [List.length_append]; omega
      simp only [if_neg hn, if_neg hn2]
      refine ⟨.inr ⟨rfl, rfl, t, ht, ?_⟩, fun _ => ?_⟩
      · rw [List.drop_append_of_le_length (by omega)]
      · rw [List.take_append_of_le_length (by omega)]
theorem Pre.num {k : Nat} {y' y : Ey} (h : Pre k y' y) (n : Nat) : Pre k (numberE y' n).2 (numberE y n).2 := (h.take n).1
theorem Pre.numv {k : Nat} {y' y : Ey} (h : Pre k y' y) (n : Nat) (hk : (numberE y' n).2.2 = true) : (numberE y' n).1 = (numberE y n).1 := by
  have h2 := (h.take n).2 hk
  show numI (takeE y' n).1 = numI (takeE y n).1
  rw [h2]
theorem Pre.sgn {k : Nat} {y' y : Ey} (h : Pre k y' y) : Pre k (sgnE y').2 (sgnE y).2 := by
  have h1 := h.num 1
  have h2 := (h1.take 32).1
  have h3 := (h2.take 32).1
  have h4 := h3.num 1
  unfold sgnE
  exact h4
theorem Pre.sgns {k : Nat} {y' y : Ey} (h : Pre k y' y) : ∀ j, Pre k (sgnsE j y').2 (sgnsE j y).2
  | 0 => h
  | j + 1 => (Pre.sgns h j).sgn
theorem Pre.body {k : Nat} {y' y : Ey} (h : Pre k y' y) : Pre k (bodyE y').2 (bodyE y).2 := by
  have h1 := h.num 8
  have h2 := h1.num 4
  have h3 := h2.num 2
  have h4 := (h3.take 32).1
  have h5 := h4.num 8
  have h6 := h5.num 1
  unfold bodyE
  dsimp only
  exact h6

/-- a paper is read as it was written -/
theorem Decode_out (q : PapT) (h : q.ok) (no : Nat) (hno : q.out.length = no) : Pur Try.prog 9 [.slice .frozen no (bs q.out)] (.tup [.agg q.cells, .int .i64 0]) := by
  subst hno
  have hn := h.n
  have hset := h.set
  have hbl := h.b.l
  have hlen : q.out.length ≤ 900000 := by unfold PapT.out; simp only [List.length_append, toB_len, sgOut_len, q.b.out_len h.b]; omega
  have hout : q.out = toB 1 1 ++ (toB 4 q.set ++ (toB 1 q.sg.length ++ (sgOut q.sg ++ q.b.out))) := by unfold PapT.out; simp only [List.append_assoc]
  have e4 := sgnsE_app q.sg h.sg q.b.out true q.sg.length (Nat.le_refl _)
  rw [List.take_length, List.drop_length] at e4
  have e4 : sgnsE q.sg.length (sgOut q.sg ++ q.b.out, true) = (q.sg.map SgT.i, (q.b.out, true)) := e4
  have hc : ppC (q.set : Int) q.sg.length (sgsI (q.sg.map SgT.i)) q.b.i.cells = q.cells := by
    unfold PapT.cells
    have : sgsI (q.sg.map SgT.i) = sgsC q.sg := by unfold sgsI sgsC; rw [List.flatMap_map]; rfl
    rw [this]; rfl
  refine Decode_walk q.out hlen 1 q.set _ _ _ _ _ q.sg.length _ _ (by rw [hout]; exact numberE_app 1 1 _ true (by decide) (by decide)) (numberE_app 4 q.set _ true (by omega) (by omega)) (numberE_app 1 q.sg.length _ true (by omega) (by omega)) (fun _ => rfl) hn e4 (bodyE_app q.b h.b true) _ (.inr ⟨rfl, ?_, ?_⟩)
  · rw [hc]
  · rw [hc]; exact fault_ok q h
/-- cut in its head it is none -/
theorem Decode_cut (q : PapT) (h : q.ok) (k : Nat) (hk : k < 61 + 66 * q.sg.length) : Pur Try.prog 9 [.slice .frozen k (bs (q.out.take k))] (.tup [.agg pp0, .int .i64 4]) := by
  have hn := h.n
  have hset := h.set
  have hbl := h.b.l
  have hol : q.out.length = 61 + 66 * q.sg.length + q.b.l.length := by unfold PapT.out; simp only [List.length_append, toB_len, sgOut_len, q.b.out_len h.b]; omega
  have hout : q.out = toB 1 1 ++ (toB 4 q.set ++ (toB 1 q.sg.length ++ (sgOut q.sg ++ q.b.out))) := by unfold PapT.out; simp only [List.append_assoc]
  have hkl : (q.out.take k).length = k := by rw [List.length_take]; omega
  have p0 : Pre (q.out.length - k) (q.out.take k, true) (q.out, true) := .inr ⟨rfl, rfl, q.out.drop k, by rw [List.length_drop], (List.take_append_drop k q.out).symm⟩
  have f1 : numberE (q.out, true) 1 = (1, (toB 4 q.set ++ (toB 1 q.sg.length ++ (sgOut q.sg ++ q.b.out)), true)) := by rw [hout]; exact numberE_app 1 1 _ true (by decide) (by decide)
  have f2 := numberE_app 4 q.set (toB 1 q.sg.length ++ (sgOut q.sg ++ q.b.out)) true (by omega) (by omega)
  have f3 := numberE_app 1 q.sg.length (sgOut q.sg ++ q.b.out) true (by omega) (by omega)
  have e4 := sgnsE_app q.sg h.sg q.b.out true q.sg.length (Nat.le_refl _)
  rw [List.take_length, List.drop_length] at e4
  have e4 : sgnsE q.sg.length (sgOut q.sg ++ q.b.out, true) = (q.sg.map SgT.i, (q.b.out, true)) := e4
  have f5 := bodyE_app q.b h.b true
  have p1 := p0.num 1
  have v1 := p0.numv 1
  obtain ⟨v, y1, g1⟩ : ∃ v y1, numberE (q.out.take k, true) 1 = (v, y1) := ⟨_, _, rfl⟩
  rw [g1, f1] at p1 v1
  dsimp only at p1 v1
  have p2 := p1.num 4
  obtain ⟨set', y2, g2⟩ : ∃ v y, numberE y1 4 = (v, y) := ⟨_, _, rfl⟩
  rw [g2, f2] at p2
  dsimp only at p2
  have p3 := p2.num 1
  have v3 := p2.numv 1
  have hz3 : Blind (numberE y2 1).2 → (numberE y2 1).1 = ((0 : Nat) : Int) := by
    intro hb
    have hz : (takeE y2 1).1 = List.replicate 1 0 := by
      rcases p2 with hb2 | ⟨h1, h2, t, ht, he⟩
      · exact (hb2.take 1).2
      · have h3 : (takeE y2 1).2.2 = false := hb.1
        unfold takeE at h3 ⊢
        split at h3
        · rename_i hlt
          rw [if_pos hlt]
        · rw [h1] at h3; cases h3
    show numI (takeE y2 1).1 = _
    rw [hz]; rfl
  obtain ⟨nv, y3, g3⟩ : ∃ v y, numberE y2 1 = (v, y) := ⟨_, _, rfl⟩
  rw [g3, f3] at p3 v3
  rw [g3] at hz3
  dsimp only at p3 v3 hz3
  have hw : ∀ (n' : Nat) (e3 : nv = (n' : Int)) (hn' : n' ≤ 19) (hfin : (bodyE (sgnsE n' y3).2).2.2 = false), Pur Try.prog 9 [.slice .frozen k (bs (q.out.take k))] (.tup [.agg pp0, .int .i64 4]) := by
    intro n' e3 hn' hfin
    obtain ⟨l', y4, g4⟩ : ∃ v y, sgnsE n' y3 = (v, y) := ⟨_, _, rfl⟩
    rw [g4] at hfin
    dsimp only at hfin
    obtain ⟨bd, y5, g5⟩ : ∃ v y, bodyE y4 = (v, y) := ⟨_, _, rfl⟩
    rw [g5] at hfin
    dsimp only at hfin
    subst e3
    have := Decode_walk (q.out.take k) (by omega) v set' y1 y2 y3 y4 y5 n' l' bd g1 g2 g3 v1 hn' g4 g5 _ (.inl ⟨hfin, rfl⟩)
    rw [hkl] at this
    exact this
  by_cases hk3 : y3.2 = true
  · refine hw q.sg.length (v3 hk3) hn ?_
    have p5 := (p3.sgns q.sg.length).body
    rw [e4] at p5
    dsimp only at p5
    rw [f5] at p5
    rcases p5 with hb | ⟨_, _, t, ht, he⟩
    · exact hb.1
    · exfalso
      have := congrArg List.length he
      rw [List.length_append] at this
      dsimp only at this
      omega
  · have hbl3 : Blind y3 := by
      rcases p3 with hb | ⟨h1, _⟩
      · exact hb
      · exact absurd h1 hk3
    have hb5 := hbl3.body
    refine hw 0 (hz3 hbl3) (by decide) ?_
    have e0 : (sgnsE 0 y3).2 = y3 := rfl
    rw [e0]
    exact hb5.1
end Go.Proofs.Ytbpaimfnfigjpaa

namespace Go.Proofs.Ytbpaimfnfigjpaa
open Go.RowKit Go.Lib Go.IntWalk
set_option linter.unusedVariables false
set_option maxRecDepth 100000

/-- names at a call of a pen's function: the pen, its memory, and what comes behind it -/
abbrev fq (p a b : Nat) : Nat → Nat := fun l => cond (Nat.beq l 2) b (cond (Nat.beq l 1) a (cond (Nat.beq l 0) p l))
theorem ren2' (f : Nat → Nat) {a : D} {ds : List D} (h : D.cls ds = true) : Ups (a.ren f :: ds) (D.rens f (a :: ds)) := by
  show Ups _ (_ :: D.rens f ds)
  rw [(D.cls_ren f (fun _ => true) ds h).1]; exact Ups.refl _
theorem lal2' (p : Nat → Bool) {a : D} {ds : List D} (ha : a.lall p = true) (h : D.cls ds = true) : D.lalls p (a :: ds) = true := by
  show (a.lall p && D.lalls p ds) = true
  rw [ha, (D.cls_ren (fun l => l) p ds h).2]; rfl
theorem sgOut_succ (l : List SgT) (j : Nat) (e : SgT) (h : l[j]? = some e) : sgOut (l.take (j + 1)) = sgOut (l.take j) ++ e.out := by
  unfold sgOut
  rw [List.take_add_one, h, List.flatMap_append]
  simp
set_option maxHeartbeats 16000000 in
theorem Encode_ok (q : PapT) (h : q.ok) (no : Nat) (hno : q.out.length = no) : Pur Try.prog 8 [.agg q.cells] (.tup [.slice .frozen no (bs q.out), .int .i64 0]) := by
  have hf := fault_ok q h
  have hbl := bd_len h.b.e
  have hbn := h.b.l
  have hcx := bd_cls q.b
  have hset := h.set
  have hn := h.n
  have hsg := h.sg
  have hcut := sgsC_cut q.sg
  have hzl : q.sg.length * 10 = (sgsC q.sg).length := by rw [sgsC_len]
  have hcp := pp_cl q.set q.sg.length (sgsC q.sg) q.b.cells hcx
  have hall := pp_all hbl q.set q.sg.length (sgsC q.sg)
  have hpb : ∀ ze, cut ⟨true, 38, ze⟩ 0 ((ppC q.set q.sg.length (sgsC q.sg) q.b.cells).drop 2) = some (.agg q.b.cells) := fun ze => by
    have := pp_b hbl q.set q.sg.length (sgsC q.sg) ze
    unfold cut at this ⊢
    simp only [cond_true, List.length_drop, List.drop_zero, Nat.zero_add] at this ⊢
    have e := pp_len hbl q.set q.sg.length (sgsC q.sg)
    rw [e] at this ⊢
    exact this
  have h0 : ∀ ze, cut ⟨false, 1, ze⟩ 0 ((ppC q.set q.sg.length (sgsC q.sg) q.b.cells).drop 0) = some (.int .i64 q.set) := fun _ => rfl
  have h1 : ∀ ze, cut ⟨false, 1, ze⟩ 0 ((ppC q.set q.sg.length (sgsC q.sg) q.b.cells).drop 1) = some (.slice .frozen q.sg.length (sgsC q.sg)) := fun _ => rfl
  have hpl := pp_len hbl q.set q.sg.length (sgsC q.sg)
  have hfx : D.fzs [D.agg (ppC q.set q.sg.length (sgsC q.sg) q.b.cells)] = [D.agg (ppC q.set q.sg.length (sgsC q.sg) q.b.cells)] := by
    have e1 : D.fzs q.b.cells = q.b.cells := by have := bd_fz q.b; simpa [D.fzs, D.fz] using this
    show [D.agg (_ :: _ :: D.fzs q.b.cells)] = _
    rw [e1]; rfl
  have hcx1 : D.cls [D.agg (ppC q.set q.sg.length (sgsC q.sg) q.b.cells)] = true := by
    show (D.cls (ppC q.set q.sg.length (sgsC q.sg) q.b.cells) && true) = true
    rw [hcp]; rfl
  have hbc : D.cls [D.agg q.b.cells] = true := bd_cl q.b
  obtain ⟨l, hl⟩ : ∃ l, q.sg = l := ⟨_, rfl⟩
  have c1 := number_ok [] 0 rfl 1 1 1 (by decide) (by decide) (by decide) (by decide) rfl _ _ rfl rfl
  have c2 := number_ok ([] ++ toB 1 1) 1 rfl q.set 4 5 (by decide) (by decide) (by omega) (by decide) rfl _ _ rfl rfl
  have c3 := number_ok ([] ++ toB 1 1 ++ toB 4 q.set) 5 (by simp [toB_len]) q.sg.length 1 6 (by decide) (by decide) (by omega) (by decide) rfl _ _ rfl rfl
  have c8 := body_ok (toB 1 1 ++ toB 4 q.set ++ toB 1 q.sg.length ++ sgOut q.sg) (6 + 66 * q.sg.length) (by simp [toB_len, sgOut_len]; omega) (by omega) q.b h.b no (by rw [← hno]; unfold PapT.out; simp [toB_len, sgOut_len, q.b.out_len h.b]; omega) _ (bs q.out) rfl rfl
  obtain ⟨hd, hhd⟩ : ∃ hd, toB 1 1 ++ toB 4 q.set ++ toB 1 q.sg.length = hd := ⟨_, rfl⟩
  have hhl : hd.length = 6 := by rw [← hhd]; simp [toB_len]
  have c3' : penM 2 6 (bs ([] ++ toB 1 1 ++ toB 4 q.set ++ toB 1 q.sg.length)) = penM 2 6 (bs hd) := by rw [← hhd]; rfl
  rw [c3'] at c3
  rw [hhd] at c8
  unfold PapT.cells at hf ⊢
  generalize bs q.out = zo at *
  generalize bs ([] ++ toB 1 1 ++ toB 4 q.set) = z2 at *
  generalize bs ([] ++ toB 1 1) = z1 at *
  generalize ppC q.set q.sg.length (sgsC q.sg) q.b.cells = X at *
  generalize q.b.cells = x at *
  generalize sgsC q.sg = z at *
  rw [hl] at hn hsg hcut hzl h1 c3 c8
  obtain ⟨L, hL⟩ : ∃ L, l.length = L := ⟨_, rfl⟩
  rw [hL] at hn hzl h1 c3 c8
  clear c3' hhd hno
  unfold penM at *
  refine pur_intro Try.func8 rfl Try.ntmps8 rfl (by first | rfl | assumption | exact bs_cl _) fun B => ?_
  refine W_of_weak (weak_tok 5 1) ?_
  iterate 7 (first | with_reducible (first | refine W_seq ?_ | refine q_then ?_ | refine q_thenr ?_ | refine q_thenx ?_ | refine W_block ?_ | refine q_block ?_ | refine q_blockr ?_ | refine q_blockx ?_ | refine W_ret ?_ | refine W_skip ?_ | refine W_label ?_ | refine W_exit ?_ | refine W_scope ?_ | refine q_scope ?_ | refine q_scoper ?_ | refine q_scopex ?_) | (with_reducible refine R_nil ?_; try dsimp only [slots0, slots_ud, cells_U, agg_ud, drop0, dropS, takeS, take0, ud_nil, take_ud, take_ud0, drop_ud, drop_ud0, take_udk, D.cells, D.fz, D.fzs, List.take_succ_cons, List.take_zero, List.drop_succ_cons, List.drop_zero, List.cons_append, List.nil_append, List.append_eq, List.length_cons, List.length_nil, Nat.reduceAdd, Nat.reduceMul, Nat.reduceSub, Int.reduceAdd, Int.reduceSub, Int.reduceToNat, Int.reduceNeg, Int.reduceMul]) | refine q_blocky rfl ?_ | refine W_plain rfl ?_ | refine W_drawn mixed rfl ?_ | refine and_chk (by kernel_rfl) ?_ | refine k_move rfl rfl ?_ | refine k_assign rfl rfl ?_ | refine k_load rfl rfl rfl rfl ?_ | refine k_alloc rfl ?_ | refine k_box rfl rfl rfl ?_ | refine k_store rfl rfl rfl rfl rfl rfl rfl ?_ | refine k_fieldAddr rfl rfl rfl ?_ | refine k_build rfl rfl rfl ?_ | refine k_append rfl rfl rfl (by first | rfl | exact trivial | (show 0 < _; omega)) (by first | rfl | (simp <;> omega)) (by first | rfl | (simp <;> omega)) rfl (by omega) rfl rfl rfl ?_ | refine k_slice rfl rfl rfl rfl ⟨by omega, by omega, by omega⟩ rfl rfl rfl ?_ | refine k_slice3 rfl rfl rfl rfl rfl ⟨by omega, by omega, by omega⟩ rfl rfl rfl ?_ | refine k_sliceA rfl rfl rfl rfl ⟨by omega, by omega, by omega, by omega⟩ rfl rfl ?_ | refine k_sliceE rfl rfl rfl rfl ⟨by omega, by omega, by omega, by omega⟩ rfl rfl rfl rfl ?_ | refine k_indexAddr rfl rfl rfl ⟨by omega, by omega⟩ ?_ | refine k_indexAddrs rfl rfl rfl ⟨by omega, by omega⟩ rfl ?_ | refine k_loade rfl rfl rfl ?_ | refine k_fieldAddre rfl rfl rfl rfl ?_ | refine k_len rfl rfl ?_ | refine k_nilCheck rfl rfl rfl ?_ | refine k_addi rfl rfl rfl (by omega) ?_ | refine k_lssT rfl rfl rfl (by omega) ?_ | refine k_lssF rfl rfl rfl (by omega) ?_ | refine k_neqT rfl rfl rfl (by omega) ?_ | refine k_neqF rfl rfl rfl (by omega) ?_ | refine k_nea rfl rfl rfl rfl rfl rfl ?_ | refine W_yes rfl ?_ | refine W_no rfl ?_)
  refine W_of_weak (weak_fix 1 X rfl hcp (by repeat (first | exact trivial | refine ⟨⟨_, rfl, .ptr0⟩, ?_⟩ | refine ⟨⟨_, rfl, .refl _⟩, ?_⟩ | refine ⟨⟨_, rfl, .ptr _ rfl⟩, ?_⟩ | refine ⟨⟨_, rfl, .ms _ _ _ rfl⟩, ?_⟩)) (by repeat (first | exact trivial | refine ⟨⟨rfl, rfl, rfl⟩, ?_⟩)) (ρ1 := [(3, .int .i64 0), (2, .slice .nil 0 []), (1, .eptr X)]) (m1 := [(0, some (.tok 5 1))])) ?_
  repeat (first | with_reducible (first | refine W_seq ?_ | refine q_then ?_ | refine q_thenr ?_ | refine q_thenx ?_ | refine W_block ?_ | refine q_block ?_ | refine q_blockr ?_ | refine q_blockx ?_ | refine W_ret ?_ | refine W_skip ?_ | refine W_label ?_ | refine W_exit ?_ | refine W_scope ?_ | refine q_scope ?_ | refine q_scoper ?_ | refine q_scopex ?_) | (with_reducible refine R_nil ?_; try dsimp only [slots0, slots_ud, cells_U, agg_ud, drop0, dropS, takeS, take0, ud_nil, take_ud, take_ud0, drop_ud, drop_ud0, take_udk, D.cells, D.fz, D.fzs, List.take_succ_cons, List.take_zero, List.drop_succ_cons, List.drop_zero, List.cons_append, List.nil_append, List.append_eq, List.length_cons, List.length_nil, Nat.reduceAdd, Nat.reduceMul, Nat.reduceSub, Int.reduceAdd, Int.reduceSub, Int.reduceToNat, Int.reduceNeg, Int.reduceMul]) | refine q_blocky rfl ?_ | refine W_plain rfl ?_ | refine W_drawn mixed rfl ?_ | refine and_chk (by kernel_rfl) ?_ | refine k_loade rfl rfl (by exact hall _) ?_ | refine k_move rfl rfl ?_ | refine k_assign rfl rfl ?_ | refine k_load rfl rfl rfl rfl ?_ | refine k_alloc rfl ?_ | refine k_box rfl rfl rfl ?_ | refine k_store rfl rfl rfl rfl rfl rfl rfl ?_ | refine k_fieldAddr rfl rfl rfl ?_ | refine k_build rfl rfl rfl ?_ | refine k_call rfl hf rfl hfx hcx1 rfl ?_ | refine k_callf (fq 2 0 3) [0, 1, 2] (4) rfl (c1) rfl (by first | exact Ups.refl _ | assumption | ((repeat refine Ups.cons (by first | exact Up.refl _ | exact Up.nil _ | exact Up.fz _ _ _) ?_); exact Ups.nil)) (rfl) (by (repeat (first | refine ⟨⟨rfl, _, rfl, (by first | exact Ups.refl _ | assumption | ((repeat refine Ups.cons (by first | exact Up.refl _ | exact Up.nil _ | exact Up.fz _ _ _) ?_); exact Ups.nil)), rfl⟩, ?_⟩ | refine ⟨⟨rfl, rfl⟩, ?_⟩)); exact trivial) rfl rfl rfl rfl (rfl) (rfl) rfl rfl rfl rfl ?_ | refine k_append rfl rfl rfl (by first | rfl | exact trivial | (show 0 < _; omega)) (by first | rfl | (simp <;> omega)) (by first | rfl | (simp <;> omega)) rfl (by omega) rfl rfl rfl ?_ | refine k_slice rfl rfl rfl rfl ⟨by omega, by omega, by omega⟩ rfl rfl rfl ?_ | refine k_slice3 rfl rfl rfl rfl rfl ⟨by omega, by omega, by omega⟩ rfl rfl rfl ?_ | refine k_sliceA rfl rfl rfl rfl ⟨by omega, by omega, by omega, by omega⟩ rfl rfl ?_ | refine k_sliceE rfl rfl rfl rfl ⟨by omega, by omega, by omega, by omega⟩ rfl rfl rfl rfl ?_ | refine k_indexAddr rfl rfl rfl ⟨by omega, by omega⟩ ?_ | refine k_indexAddrs rfl rfl rfl ⟨by omega, by omega⟩ rfl ?_ | refine k_loade rfl rfl rfl ?_ | refine k_fieldAddre rfl rfl rfl rfl ?_ | refine k_len rfl rfl ?_ | refine k_nilCheck rfl rfl rfl ?_ | refine k_addi rfl rfl rfl (by omega) ?_ | refine k_lssT rfl rfl rfl (by omega) ?_ | refine k_lssF rfl rfl rfl (by omega) ?_ | refine k_neqT rfl rfl rfl (by omega) ?_ | refine k_neqF rfl rfl rfl (by omega) ?_ | refine k_nea rfl rfl rfl rfl rfl rfl ?_ | refine W_yes rfl ?_ | refine W_no rfl ?_)
  repeat (first | with_reducible (first | refine W_seq ?_ | refine q_then ?_ | refine q_thenr ?_ | refine q_thenx ?_ | refine W_block ?_ | refine q_block ?_ | refine q_blockr ?_ | refine q_blockx ?_ | refine W_ret ?_ | refine W_skip ?_ | refine W_label ?_ | refine W_exit ?_ | refine W_scope ?_ | refine q_scope ?_ | refine q_scoper ?_ | refine q_scopex ?_) | (with_reducible refine R_nil ?_; try dsimp only [slots0, slots_ud, cells_U, agg_ud, drop0, dropS, takeS, take0, ud_nil, take_ud, take_ud0, drop_ud, drop_ud0, take_udk, D.cells, D.fz, D.fzs, List.take_succ_cons, List.take_zero, List.drop_succ_cons, List.drop_zero, List.cons_append, List.nil_append, List.append_eq, List.length_cons, List.length_nil, Nat.reduceAdd, Nat.reduceMul, Nat.reduceSub, Int.reduceAdd, Int.reduceSub, Int.reduceToNat, Int.reduceNeg, Int.reduceMul]) | refine q_blocky rfl ?_ | refine W_plain rfl ?_ | refine W_drawn mixed rfl ?_ | refine and_chk (by kernel_rfl) ?_ | refine k_loade rfl rfl (by exact h0 _) ?_ | refine k_fieldAddre rfl rfl rfl (by rw [hpl]; rfl) ?_ | refine k_move rfl rfl ?_ | refine k_assign rfl rfl ?_ | refine k_load rfl rfl rfl rfl ?_ | refine k_alloc rfl ?_ | refine k_box rfl rfl rfl ?_ | refine k_store rfl rfl rfl rfl rfl rfl rfl ?_ | refine k_fieldAddr rfl rfl rfl ?_ | refine k_build rfl rfl rfl ?_ | refine k_callf (fq 2 3 4) [0, 1, 2] (5) rfl (c2) rfl (by first | exact Ups.refl _ | assumption | ((repeat refine Ups.cons (by first | exact Up.refl _ | exact Up.nil _ | exact Up.fz _ _ _) ?_); exact Ups.nil)) (rfl) (by (repeat (first | refine ⟨⟨rfl, _, rfl, (by first | exact Ups.refl _ | assumption | ((repeat refine Ups.cons (by first | exact Up.refl _ | exact Up.nil _ | exact Up.fz _ _ _) ?_); exact Ups.nil)), rfl⟩, ?_⟩ | refine ⟨⟨rfl, rfl⟩, ?_⟩)); exact trivial) rfl rfl rfl rfl (rfl) (rfl) rfl rfl rfl rfl ?_ | refine k_append rfl rfl rfl (by first | rfl | exact trivial | (show 0 < _; omega)) (by first | rfl | (simp <;> omega)) (by first | rfl | (simp <;> omega)) rfl (by omega) rfl rfl rfl ?_ | refine k_slice rfl rfl rfl rfl ⟨by omega, by omega, by omega⟩ rfl rfl rfl ?_ | refine k_slice3 rfl rfl rfl rfl rfl ⟨by omega, by omega, by omega⟩ rfl rfl rfl ?_ | refine k_sliceA rfl rfl rfl rfl ⟨by omega, by omega, by omega, by omega⟩ rfl rfl ?_ | refine k_sliceE rfl rfl rfl rfl ⟨by omega, by omega, by omega, by omega⟩ rfl rfl rfl rfl ?_ | refine k_indexAddr rfl rfl rfl ⟨by omega, by omega⟩ ?_ | refine k_indexAddrs rfl rfl rfl ⟨by omega, by omega⟩ rfl ?_ | refine k_loade rfl rfl rfl ?_ | refine k_fieldAddre rfl rfl rfl rfl ?_ | refine k_len rfl rfl ?_ | refine k_nilCheck rfl rfl rfl ?_ | refine k_addi rfl rfl rfl (by omega) ?_ | refine k_lssT rfl rfl rfl (by omega) ?_ | refine k_lssF rfl rfl rfl (by omega) ?_ | refine k_neqT rfl rfl rfl (by omega) ?_ | refine k_neqF rfl rfl rfl (by omega) ?_ | refine k_nea rfl rfl rfl rfl rfl rfl ?_ | refine W_yes rfl ?_ | refine W_no rfl ?_)
  repeat (first | with_reducible (first | refine W_seq ?_ | refine q_then ?_ | refine q_thenr ?_ | refine q_thenx ?_ | refine W_block ?_ | refine q_block ?_ | refine q_blockr ?_ | refine q_blockx ?_ | refine W_ret ?_ | refine W_skip ?_ | refine W_label ?_ | refine W_exit ?_ | refine W_scope ?_ | refine q_scope ?_ | refine q_scoper ?_ | refine q_scopex ?_) | (with_reducible refine R_nil ?_; try dsimp only [slots0, slots_ud, cells_U, agg_ud, drop0, dropS, takeS, take0, ud_nil, take_ud, take_ud0, drop_ud, drop_ud0, take_udk, D.cells, D.fz, D.fzs, List.take_succ_cons, List.take_zero, List.drop_succ_cons, List.drop_zero, List.cons_append, List.nil_append, List.append_eq, List.length_cons, List.length_nil, Nat.reduceAdd, Nat.reduceMul, Nat.reduceSub, Int.reduceAdd, Int.reduceSub, Int.reduceToNat, Int.reduceNeg, Int.reduceMul]) | refine q_blocky rfl ?_ | refine W_plain rfl ?_ | refine W_drawn mixed rfl ?_ | refine and_chk (by kernel_rfl) ?_ | refine k_loade rfl rfl (by exact h1 _) ?_ | refine k_fieldAddre rfl rfl rfl (by rw [hpl]; rfl) ?_ | refine k_move rfl rfl ?_ | refine k_assign rfl rfl ?_ | refine k_load rfl rfl rfl rfl ?_ | refine k_alloc rfl ?_ | refine k_box rfl rfl rfl ?_ | refine k_store rfl rfl rfl rfl rfl rfl rfl ?_ | refine k_fieldAddr rfl rfl rfl ?_ | refine k_build rfl rfl rfl ?_ | refine k_callf (fq 2 4 5) [0, 1, 2] (6) rfl (c3) rfl (by first | exact Ups.refl _ | assumption | ((repeat refine Ups.cons (by first | exact Up.refl _ | exact Up.nil _ | exact Up.fz _ _ _) ?_); exact Ups.nil)) (rfl) (by (repeat (first | refine ⟨⟨rfl, _, rfl, (by first | exact Ups.refl _ | assumption | ((repeat refine Ups.cons (by first | exact Up.refl _ | exact Up.nil _ | exact Up.fz _ _ _) ?_); exact Ups.nil)), rfl⟩, ?_⟩ | refine ⟨⟨rfl, rfl⟩, ?_⟩)); exact trivial) rfl rfl rfl rfl (rfl) (rfl) rfl rfl rfl rfl ?_ | refine k_append rfl rfl rfl (by first | rfl | exact trivial | (show 0 < _; omega)) (by first | rfl | (simp <;> omega)) (by first | rfl | (simp <;> omega)) rfl (by omega) rfl rfl rfl ?_ | refine k_slice rfl rfl rfl rfl ⟨by omega, by omega, by omega⟩ rfl rfl rfl ?_ | refine k_slice3 rfl rfl rfl rfl rfl ⟨by omega, by omega, by omega⟩ rfl rfl rfl ?_ | refine k_sliceA rfl rfl rfl rfl ⟨by omega, by omega, by omega, by omega⟩ rfl rfl ?_ | refine k_sliceE rfl rfl rfl rfl ⟨by omega, by omega, by omega, by omega⟩ rfl rfl rfl rfl ?_ | refine k_indexAddr rfl rfl rfl ⟨by omega, by omega⟩ ?_ | refine k_indexAddrs rfl rfl rfl ⟨by omega, by omega⟩ rfl ?_ | refine k_loade rfl rfl rfl ?_ | refine k_fieldAddre rfl rfl rfl rfl ?_ | refine k_len rfl rfl ?_ | refine k_nilCheck rfl rfl rfl ?_ | refine k_addi rfl rfl rfl (by omega) ?_ | refine k_lssT rfl rfl rfl (by omega) ?_ | refine k_lssF rfl rfl rfl (by omega) ?_ | refine k_neqT rfl rfl rfl (by omega) ?_ | refine k_neqF rfl rfl rfl (by omega) ?_ | refine k_nea rfl rfl rfl rfl rfl rfl ?_ | refine W_yes rfl ?_ | refine W_no rfl ?_)
  refine W_loopW (fun n' ρ m nx => ∃ (j q : Nat) (zz : List D), j ≤ L ∧ q = 6 + 66 * j ∧ zz = bs (hd ++ sgOut (l.take j)) ∧ n' = L - j ∧ ρ = [(31, .int .i64 (j : Int)), (30, .int .i64 (L : Int)), (29, .slice .frozen L z), (5, .ptr 2 0), (1, .eptr X)] ∧ m = [(2, some (.var 65 [.slice (.own 3) q zz])), (3, some (.tok 5 1))] ∧ nx = 4)
    ⟨_, _, _, _, (weak_ren (fun l => if l = 3 then 5 else l) (by repeat (first | exact trivial | refine ⟨⟨_, rfl, (by first | exact Up.refl _ | exact Up.fz _ _ _ | exact Up.nil _ | assumption), rfl⟩, ?_⟩)) (by repeat (first | exact trivial | refine ⟨⟨rfl, _, rfl, (by first | exact Ups.refl _ | assumption | ((repeat refine Ups.cons (by first | exact Up.refl _ | exact Up.nil _ | exact Up.fz _ _ _) ?_); exact Ups.nil)), rfl⟩, ?_⟩ | refine ⟨⟨rfl, rfl⟩, ?_⟩)) (by first | decide | simp) (Nat.zero_le _) (fun _ h => absurd h (Nat.not_lt_zero _))), 0, 6, bs hd, Nat.zero_le _, rfl, by simp [sgOut], rfl, rfl, rfl, rfl⟩ ?_
  rintro n' ρ m nx ⟨j, qq, zz, hj, hq, hzz, rfl, rfl, rfl, rfl⟩
  by_cases hlt : j < L
  · obtain ⟨e, he⟩ : ∃ e, l[j]? = some e := ⟨_, List.getElem?_eq_getElem (by omega)⟩
    have hc := hcut j e he
    have ho := hsg e (List.mem_of_getElem? he)
    have hsucc := sgOut_succ l j e he
    have hl0 : (hd ++ sgOut (l.take j)).length = qq := by rw [List.length_append, hhl, sgOut_len, List.length_take]; omega
    obtain ⟨l0, hl0'⟩ : ∃ l0, hd ++ sgOut (l.take j) = l0 := ⟨_, rfl⟩
    rw [hl0'] at hzz hl0
    have hfin : hd ++ sgOut (l.take (j + 1)) = l0 ++ e.out := by rw [hsucc, ← List.append_assoc, hl0']
    obtain ⟨w, r, s, o⟩ := e
    have hc : ∀ ze, cut ⟨true, 10, ze⟩ 0 (z.drop ((j : Int).toNat * 10)) = some (.agg (sgC w r s o)) := hc
    have b1 : w ≤ 255 := ho.w
    have b2 : o ≤ 255 := ho.o
    have br := Bytes_ok r
    have bt := Bytes_ok s
    have hfin : l0 ++ toB 1 w ++ b32 r ++ b32 s ++ toB 1 o = hd ++ sgOut (l.take (j + 1)) := by rw [hfin]; unfold SgT.out; simp
    have lr := b32_len r
    have ls := b32_len s
    have d1 := number_ok l0 qq hl0 w 1 (qq + 1) (by decide) (by decide) (by omega) (by omega) rfl zz _ hzz.symm rfl
    have d2 := bytes_ok (l0 ++ toB 1 w) (b32 r) (qq + 1) 32 (by simp [hl0, toB_len]) lr (by omega) (by decide) (qq + 1 + 32) rfl _ _ rfl rfl
    have d3 := bytes_ok (l0 ++ toB 1 w ++ b32 r) (b32 s) (qq + 1 + 32) 32 (by simp [hl0, toB_len, lr]) ls (by omega) (by decide) (qq + 1 + 32 + 32) rfl _ _ rfl rfl
    have d4 := number_ok (l0 ++ toB 1 w ++ b32 r ++ b32 s) (qq + 1 + 32 + 32) (by simp [hl0, toB_len, lr, ls]) o 1 (qq + 1 + 32 + 32 + 1) (by decide) (by decide) (by omega) (by omega) rfl _ (bs (hd ++ sgOut (l.take (j + 1)))) rfl (by rw [hfin])
    generalize hzf : bs (hd ++ sgOut (l.take (j + 1))) = zf at *
    generalize bs (l0 ++ toB 1 w ++ b32 r ++ b32 s) = y3 at *
    generalize bs (l0 ++ toB 1 w ++ b32 r) = y2 at *
    generalize bs (l0 ++ toB 1 w) = y1 at *
    generalize b32 r = R at *
    generalize b32 s = S at *
    have hm1 : 32 * 1 = (bs R).length := by rw [bs_len, lr]
    have hm2 : 32 * 1 = (bs S).length := by rw [bs_len, ls]
    have t1 : ((bs R).drop ((0 : Int).toNat * 1)).take (32 * 1) = bs R := by rw [hm1]; exact List.take_length
    have t2 : ((bs S).drop ((0 : Int).toNat * 1)).take (32 * 1) = bs S := by rw [hm2]; exact List.take_length
    have n1 : Nat.ble (32 * 1) (bs R).length = true := by rw [hm1]; exact Nat.ble_self_eq_true _
    have n2 : Nat.ble (32 * 1) (bs S).length = true := by rw [hm2]; exact Nat.ble_self_eq_true _
    have cR : D.cls (bs R) = true := bs_cl _
    have cS : D.cls (bs S) = true := bs_cl _
    clear hfin hl0' hsucc hl0 hzz
    unfold penM at *
    iterate 36 (first | with_reducible (first | refine W_seq ?_ | refine q_then ?_ | refine q_thenr ?_ | refine q_thenx ?_ | refine W_block ?_ | refine q_block ?_ | refine q_blockr ?_ | refine q_blockx ?_ | refine W_ret ?_ | refine W_skip ?_ | refine W_label ?_ | refine W_exit ?_ | refine W_scope ?_ | refine q_scope ?_ | refine q_scoper ?_ | refine q_scopex ?_) | (with_reducible refine R_nil ?_; try dsimp only [slots0, slots_ud, cells_U, agg_ud, drop0, dropS, takeS, take0, ud_nil, take_ud, take_ud0, drop_ud, drop_ud0, take_udk, D.cells, D.fz, D.fzs, List.take_succ_cons, List.take_zero, List.drop_succ_cons, List.drop_zero, List.cons_append, List.nil_append, List.append_eq, List.length_cons, List.length_nil, Nat.reduceAdd, Nat.reduceMul, Nat.reduceSub, Int.reduceAdd, Int.reduceSub, Int.reduceToNat, Int.reduceNeg, Int.reduceMul]) | refine q_blocky rfl ?_ | refine W_plain rfl ?_ | refine W_drawn mixed rfl ?_ | refine and_chk (by kernel_rfl) ?_ | refine k_indexAddrs rfl rfl rfl ⟨by omega, by omega⟩ hzl ?_ | refine k_loade rfl rfl (by exact hc _) ?_ | refine k_store rfl rfl rfl rfl (b_len lr) (b_fits _) (by exact b_put lr _ rfl) ?_ | refine k_store rfl rfl rfl rfl (b_len ls) (b_fits _) (by exact b_put ls _ rfl) ?_ | refine k_move rfl rfl ?_ | refine k_assign rfl rfl ?_ | refine k_load rfl rfl rfl rfl ?_ | refine k_alloc rfl ?_ | refine k_box rfl rfl rfl ?_ | refine k_store rfl rfl rfl rfl rfl rfl rfl ?_ | refine k_fieldAddr rfl rfl rfl ?_ | refine k_build rfl rfl rfl ?_ | refine k_call rfl br rfl rfl rfl (bs_cl _) ?_ | refine k_call rfl bt rfl rfl rfl (bs_cl _) ?_ | refine k_append rfl rfl rfl (by first | rfl | exact trivial | (show 0 < _; omega)) (by first | rfl | (simp <;> omega)) (by first | rfl | (simp <;> omega)) rfl (by omega) rfl rfl rfl ?_ | refine k_slice rfl rfl rfl rfl ⟨by omega, by omega, by omega⟩ rfl rfl rfl ?_ | refine k_slice3 rfl rfl rfl rfl rfl ⟨by omega, by omega, by omega⟩ rfl rfl rfl ?_ | refine k_sliceA rfl rfl rfl rfl ⟨by omega, by omega, by omega, by omega⟩ rfl rfl ?_ | refine k_sliceE rfl rfl rfl rfl ⟨by omega, by omega, by omega, by omega⟩ rfl rfl rfl rfl ?_ | refine k_indexAddr rfl rfl rfl ⟨by omega, by omega⟩ ?_ | refine k_indexAddrs rfl rfl rfl ⟨by omega, by omega⟩ rfl ?_ | refine k_loade rfl rfl rfl ?_ | refine k_fieldAddre rfl rfl rfl rfl ?_ | refine k_len rfl rfl ?_ | refine k_nilCheck rfl rfl rfl ?_ | refine k_addi rfl rfl rfl (by omega) ?_ | refine k_lssT rfl rfl rfl (by omega) ?_ | refine k_lssF rfl rfl rfl (by omega) ?_ | refine k_neqT rfl rfl rfl (by omega) ?_ | refine k_neqF rfl rfl rfl (by omega) ?_ | refine k_nea rfl rfl rfl rfl rfl rfl ?_ | refine W_yes rfl ?_ | refine W_no rfl ?_)
    refine W_of_weak (weak_fix 5 (bs R) rfl cR (by repeat (first | exact trivial | refine ⟨⟨_, rfl, .ptr0⟩, ?_⟩ | refine ⟨⟨_, rfl, .refl _⟩, ?_⟩ | refine ⟨⟨_, rfl, .ptr _ rfl⟩, ?_⟩ | refine ⟨⟨_, rfl, .ms _ _ _ rfl⟩, ?_⟩)) (by repeat (first | exact trivial | refine ⟨⟨rfl, rfl, rfl⟩, ?_⟩)) (ρ1 := [(31, .int .i64 (j : Int)), (30, .int .i64 (L : Int)), (29, .slice .frozen L z), (9, .ptr 6 0), (8, .eptr (bs R)), (7, .ptr 4 0), (5, .ptr 2 0), (1, .eptr X)]) (m1 := [(6, some (.var 26 (bs S))), (4, some (.var 46 (sgC w r s o))), (2, some (.var 65 [.slice (.own 3) qq zz])), (3, some (.tok 5 1))])) ?_
    refine W_of_weak (weak_fix 6 (bs S) rfl cS (by repeat (first | exact trivial | refine ⟨⟨_, rfl, .ptr0⟩, ?_⟩ | refine ⟨⟨_, rfl, .refl _⟩, ?_⟩ | refine ⟨⟨_, rfl, .ptr _ rfl⟩, ?_⟩ | refine ⟨⟨_, rfl, .ms _ _ _ rfl⟩, ?_⟩)) (by repeat (first | exact trivial | refine ⟨⟨rfl, rfl, rfl⟩, ?_⟩)) (ρ1 := [(31, .int .i64 (j : Int)), (30, .int .i64 (L : Int)), (29, .slice .frozen L z), (9, .eptr (bs S)), (8, .eptr (bs R)), (7, .ptr 4 0), (5, .ptr 2 0), (1, .eptr X)]) (m1 := [(4, some (.var 46 (sgC w r s o))), (2, some (.var 65 [.slice (.own 3) qq zz])), (3, some (.tok 5 1))])) ?_
    repeat (first | with_reducible (first | refine W_seq ?_ | refine q_then ?_ | refine q_thenr ?_ | refine q_thenx ?_ | refine W_block ?_ | refine q_block ?_ | refine q_blockr ?_ | refine q_blockx ?_ | refine W_ret ?_ | refine W_skip ?_ | refine W_label ?_ | refine W_exit ?_ | refine W_scope ?_ | refine q_scope ?_ | refine q_scoper ?_ | refine q_scopex ?_) | (with_reducible refine R_nil ?_; try dsimp only [slots0, slots_ud, cells_U, agg_ud, drop0, dropS, takeS, take0, ud_nil, take_ud, take_ud0, drop_ud, drop_ud0, take_udk, D.cells, D.fz, D.fzs, List.take_succ_cons, List.take_zero, List.drop_succ_cons, List.drop_zero, List.cons_append, List.nil_append, List.append_eq, List.length_cons, List.length_nil, Nat.reduceAdd, Nat.reduceMul, Nat.reduceSub, Int.reduceAdd, Int.reduceSub, Int.reduceToNat, Int.reduceNeg, Int.reduceMul]) | refine q_blocky rfl ?_ | refine W_plain rfl ?_ | refine W_drawn mixed rfl ?_ | refine and_chk (by kernel_rfl) ?_ | refine k_move rfl rfl ?_ | refine k_assign rfl rfl ?_ | refine k_load rfl rfl rfl rfl ?_ | refine k_alloc rfl ?_ | refine k_box rfl rfl rfl ?_ | refine k_store rfl rfl rfl rfl rfl rfl rfl ?_ | refine k_fieldAddr rfl rfl rfl ?_ | refine k_build rfl rfl rfl ?_ | refine k_callf (fq 2 3 7) [0, 1, 2] (8) rfl (d1) rfl (by first | exact Ups.refl _ | assumption | ((repeat refine Ups.cons (by first | exact Up.refl _ | exact Up.nil _ | exact Up.fz _ _ _) ?_); exact Ups.nil)) (rfl) (by (repeat (first | refine ⟨⟨rfl, _, rfl, (by first | exact Ups.refl _ | assumption | ((repeat refine Ups.cons (by first | exact Up.refl _ | exact Up.nil _ | exact Up.fz _ _ _) ?_); exact Ups.nil)), rfl⟩, ?_⟩ | refine ⟨⟨rfl, rfl⟩, ?_⟩)); exact trivial) rfl rfl rfl rfl (rfl) (rfl) rfl rfl rfl rfl ?_ | refine k_append rfl rfl rfl (by first | rfl | exact trivial | (show 0 < _; omega)) (by first | rfl | (simp <;> omega)) (by first | rfl | (simp <;> omega)) rfl (by omega) rfl rfl rfl ?_ | refine k_slice rfl rfl rfl rfl ⟨by omega, by omega, by omega⟩ rfl rfl rfl ?_ | refine k_slice3 rfl rfl rfl rfl rfl ⟨by omega, by omega, by omega⟩ rfl rfl rfl ?_ | refine k_sliceA rfl rfl rfl rfl ⟨by omega, by omega, by omega, by omega⟩ rfl rfl ?_ | refine k_sliceE rfl rfl rfl rfl ⟨by omega, by omega, by omega, by omega⟩ rfl rfl rfl rfl ?_ | refine k_indexAddr rfl rfl rfl ⟨by omega, by omega⟩ ?_ | refine k_indexAddrs rfl rfl rfl ⟨by omega, by omega⟩ rfl ?_ | refine k_loade rfl rfl rfl ?_ | refine k_fieldAddre rfl rfl rfl rfl ?_ | refine k_len rfl rfl ?_ | refine k_nilCheck rfl rfl rfl ?_ | refine k_addi rfl rfl rfl (by omega) ?_ | refine k_lssT rfl rfl rfl (by omega) ?_ | refine k_lssF rfl rfl rfl (by omega) ?_ | refine k_neqT rfl rfl rfl (by omega) ?_ | refine k_neqF rfl rfl rfl (by omega) ?_ | refine k_nea rfl rfl rfl rfl rfl rfl ?_ | refine W_yes rfl ?_ | refine W_no rfl ?_)
    repeat (first | with_reducible (first | refine W_seq ?_ | refine q_then ?_ | refine q_thenr ?_ | refine q_thenx ?_ | refine W_block ?_ | refine q_block ?_ | refine q_blockr ?_ | refine q_blockx ?_ | refine W_ret ?_ | refine W_skip ?_ | refine W_label ?_ | refine W_exit ?_ | refine W_scope ?_ | refine q_scope ?_ | refine q_scoper ?_ | refine q_scopex ?_) | (with_reducible refine R_nil ?_; try dsimp only [slots0, slots_ud, cells_U, agg_ud, drop0, dropS, takeS, take0, ud_nil, take_ud, take_ud0, drop_ud, drop_ud0, take_udk, D.cells, D.fz, D.fzs, List.take_succ_cons, List.take_zero, List.drop_succ_cons, List.drop_zero, List.cons_append, List.nil_append, List.append_eq, List.length_cons, List.length_nil, Nat.reduceAdd, Nat.reduceMul, Nat.reduceSub, Int.reduceAdd, Int.reduceSub, Int.reduceToNat, Int.reduceNeg, Int.reduceMul]) | refine q_blocky rfl ?_ | refine W_plain rfl ?_ | refine W_drawn mixed rfl ?_ | refine and_chk (by kernel_rfl) ?_ | refine k_sliceEt (nn := 32) rfl rfl rfl ⟨by decide, by decide⟩ rfl (by exact n1) rfl (by exact t1) ?_ | refine k_sliceEt (nn := 32) rfl rfl rfl ⟨by decide, by decide⟩ rfl (by exact n2) rfl (by exact t2) ?_ | refine k_move rfl rfl ?_ | refine k_assign rfl rfl ?_ | refine k_load rfl rfl rfl rfl ?_ | refine k_alloc rfl ?_ | refine k_box rfl rfl rfl ?_ | refine k_store rfl rfl rfl rfl rfl rfl rfl ?_ | refine k_fieldAddr rfl rfl rfl ?_ | refine k_build rfl rfl rfl ?_ | refine k_callf (fq 2 7 8) [0, 1, 2] (9) rfl (d2) rfl (by first | exact Ups.refl _ | assumption | ((repeat refine Ups.cons (by first | exact Up.refl _ | exact Up.nil _ | exact Up.fz _ _ _) ?_); exact Ups.nil)) (rfl) (by (repeat (first | refine ⟨⟨rfl, _, rfl, (by first | exact Ups.refl _ | assumption | ((repeat refine Ups.cons (by first | exact Up.refl _ | exact Up.nil _ | exact Up.fz _ _ _) ?_); exact Ups.nil)), rfl⟩, ?_⟩ | refine ⟨⟨rfl, rfl⟩, ?_⟩)); exact trivial) rfl rfl rfl rfl (rfl) (rfl) rfl rfl rfl rfl ?_ | refine k_append rfl rfl rfl (by first | rfl | exact trivial | (show 0 < _; omega)) (by first | rfl | (simp <;> omega)) (by first | rfl | (simp <;> omega)) rfl (by omega) rfl rfl rfl ?_ | refine k_slice rfl rfl rfl rfl ⟨by omega, by omega, by omega⟩ rfl rfl rfl ?_ | refine k_slice3 rfl rfl rfl rfl rfl ⟨by omega, by omega, by omega⟩ rfl rfl rfl ?_ | refine k_sliceA rfl rfl rfl rfl ⟨by omega, by omega, by omega, by omega⟩ rfl rfl ?_ | refine k_sliceE rfl rfl rfl rfl ⟨by omega, by omega, by omega, by omega⟩ rfl rfl rfl rfl ?_ | refine k_indexAddr rfl rfl rfl ⟨by omega, by omega⟩ ?_ | refine k_indexAddrs rfl rfl rfl ⟨by omega, by omega⟩ rfl ?_ | refine k_loade rfl rfl rfl ?_ | refine k_fieldAddre rfl rfl rfl rfl ?_ | refine k_len rfl rfl ?_ | refine k_nilCheck rfl rfl rfl ?_ | refine k_addi rfl rfl rfl (by omega) ?_ | refine k_lssT rfl rfl rfl (by omega) ?_ | refine k_lssF rfl rfl rfl (by omega) ?_ | refine k_neqT rfl rfl rfl (by omega) ?_ | refine k_neqF rfl rfl rfl (by omega) ?_ | refine k_nea rfl rfl rfl rfl rfl rfl ?_ | refine W_yes rfl ?_ | refine W_no rfl ?_)
    repeat (first | with_reducible (first | refine W_seq ?_ | refine q_then ?_ | refine q_thenr ?_ | refine q_thenx ?_ | refine W_block ?_ | refine q_block ?_ | refine q_blockr ?_ | refine q_blockx ?_ | refine W_ret ?_ | refine W_skip ?_ | refine W_label ?_ | refine W_exit ?_ | refine W_scope ?_ | refine q_scope ?_ | refine q_scoper ?_ | refine q_scopex ?_) | (with_reducible refine R_nil ?_; try dsimp only [slots0, slots_ud, cells_U, agg_ud, drop0, dropS, takeS, take0, ud_nil, take_ud, take_ud0, drop_ud, drop_ud0, take_udk, D.cells, D.fz, D.fzs, List.take_succ_cons, List.take_zero, List.drop_succ_cons, List.drop_zero, List.cons_append, List.nil_append, List.append_eq, List.length_cons, List.length_nil, Nat.reduceAdd, Nat.reduceMul, Nat.reduceSub, Int.reduceAdd, Int.reduceSub, Int.reduceToNat, Int.reduceNeg, Int.reduceMul]) | refine q_blocky rfl ?_ | refine W_plain rfl ?_ | refine W_drawn mixed rfl ?_ | refine and_chk (by kernel_rfl) ?_ | refine k_sliceEt (nn := 32) rfl rfl rfl ⟨by decide, by decide⟩ rfl (by exact n1) rfl (by exact t1) ?_ | refine k_sliceEt (nn := 32) rfl rfl rfl ⟨by decide, by decide⟩ rfl (by exact n2) rfl (by exact t2) ?_ | refine k_move rfl rfl ?_ | refine k_assign rfl rfl ?_ | refine k_load rfl rfl rfl rfl ?_ | refine k_alloc rfl ?_ | refine k_box rfl rfl rfl ?_ | refine k_store rfl rfl rfl rfl rfl rfl rfl ?_ | refine k_fieldAddr rfl rfl rfl ?_ | refine k_build rfl rfl rfl ?_ | refine k_callf (fq 2 8 9) [0, 1, 2] (10) rfl (d3) rfl (by first | exact Ups.refl _ | assumption | ((repeat refine Ups.cons (by first | exact Up.refl _ | exact Up.nil _ | exact Up.fz _ _ _) ?_); exact Ups.nil)) (rfl) (by (repeat (first | refine ⟨⟨rfl, _, rfl, (by first | exact Ups.refl _ | assumption | ((repeat refine Ups.cons (by first | exact Up.refl _ | exact Up.nil _ | exact Up.fz _ _ _) ?_); exact Ups.nil)), rfl⟩, ?_⟩ | refine ⟨⟨rfl, rfl⟩, ?_⟩)); exact trivial) rfl rfl rfl rfl (rfl) (rfl) rfl rfl rfl rfl ?_ | refine k_append rfl rfl rfl (by first | rfl | exact trivial | (show 0 < _; omega)) (by first | rfl | (simp <;> omega)) (by first | rfl | (simp <;> omega)) rfl (by omega) rfl rfl rfl ?_ | refine k_slice rfl rfl rfl rfl ⟨by omega, by omega, by omega⟩ rfl rfl rfl ?_ | refine k_slice3 rfl rfl rfl rfl rfl ⟨by omega, by omega, by omega⟩ rfl rfl rfl ?_ | refine k_sliceA rfl rfl rfl rfl ⟨by omega, by omega, by omega, by omega⟩ rfl rfl ?_ | refine k_sliceE rfl rfl rfl rfl ⟨by omega, by omega, by omega, by omega⟩ rfl rfl rfl rfl ?_ | refine k_indexAddr rfl rfl rfl ⟨by omega, by omega⟩ ?_ | refine k_indexAddrs rfl rfl rfl ⟨by omega, by omega⟩ rfl ?_ | refine k_loade rfl rfl rfl ?_ | refine k_fieldAddre rfl rfl rfl rfl ?_ | refine k_len rfl rfl ?_ | refine k_nilCheck rfl rfl rfl ?_ | refine k_addi rfl rfl rfl (by omega) ?_ | refine k_lssT rfl rfl rfl (by omega) ?_ | refine k_lssF rfl rfl rfl (by omega) ?_ | refine k_neqT rfl rfl rfl (by omega) ?_ | refine k_neqF rfl rfl rfl (by omega) ?_ | refine k_nea rfl rfl rfl rfl rfl rfl ?_ | refine W_yes rfl ?_ | refine W_no rfl ?_)
    repeat (first | with_reducible (first | refine W_seq ?_ | refine q_then ?_ | refine q_thenr ?_ | refine q_thenx ?_ | refine W_block ?_ | refine q_block ?_ | refine q_blockr ?_ | refine q_blockx ?_ | refine W_ret ?_ | refine W_skip ?_ | refine W_label ?_ | refine W_exit ?_ | refine W_scope ?_ | refine q_scope ?_ | refine q_scoper ?_ | refine q_scopex ?_) | (with_reducible refine R_nil ?_; try dsimp only [slots0, slots_ud, cells_U, agg_ud, drop0, dropS, takeS, take0, ud_nil, take_ud, take_ud0, drop_ud, drop_ud0, take_udk, D.cells, D.fz, D.fzs, List.take_succ_cons, List.take_zero, List.drop_succ_cons, List.drop_zero, List.cons_append, List.nil_append, List.append_eq, List.length_cons, List.length_nil, Nat.reduceAdd, Nat.reduceMul, Nat.reduceSub, Int.reduceAdd, Int.reduceSub, Int.reduceToNat, Int.reduceNeg, Int.reduceMul]) | refine q_blocky rfl ?_ | refine W_plain rfl ?_ | refine W_drawn mixed rfl ?_ | refine and_chk (by kernel_rfl) ?_ | refine k_move rfl rfl ?_ | refine k_assign rfl rfl ?_ | refine k_load rfl rfl rfl rfl ?_ | refine k_alloc rfl ?_ | refine k_box rfl rfl rfl ?_ | refine k_store rfl rfl rfl rfl rfl rfl rfl ?_ | refine k_fieldAddr rfl rfl rfl ?_ | refine k_build rfl rfl rfl ?_ | refine k_callf (fq 2 9 10) [0, 1, 2] (11) rfl (d4) rfl (by first | exact Ups.refl _ | assumption | ((repeat refine Ups.cons (by first | exact Up.refl _ | exact Up.nil _ | exact Up.fz _ _ _) ?_); exact Ups.nil)) (rfl) (by (repeat (first | refine ⟨⟨rfl, _, rfl, (by first | exact Ups.refl _ | assumption | ((repeat refine Ups.cons (by first | exact Up.refl _ | exact Up.nil _ | exact Up.fz _ _ _) ?_); exact Ups.nil)), rfl⟩, ?_⟩ | refine ⟨⟨rfl, rfl⟩, ?_⟩)); exact trivial) rfl rfl rfl rfl (rfl) (rfl) rfl rfl rfl rfl ?_ | refine k_append rfl rfl rfl (by first | rfl | exact trivial | (show 0 < _; omega)) (by first | rfl | (simp <;> omega)) (by first | rfl | (simp <;> omega)) rfl (by omega) rfl rfl rfl ?_ | refine k_slice rfl rfl rfl rfl ⟨by omega, by omega, by omega⟩ rfl rfl rfl ?_ | refine k_slice3 rfl rfl rfl rfl rfl ⟨by omega, by omega, by omega⟩ rfl rfl rfl ?_ | refine k_sliceA rfl rfl rfl rfl ⟨by omega, by omega, by omega, by omega⟩ rfl rfl ?_ | refine k_sliceE rfl rfl rfl rfl ⟨by omega, by omega, by omega, by omega⟩ rfl rfl rfl rfl ?_ | refine k_indexAddr rfl rfl rfl ⟨by omega, by omega⟩ ?_ | refine k_indexAddrs rfl rfl rfl ⟨by omega, by omega⟩ rfl ?_ | refine k_loade rfl rfl rfl ?_ | refine k_fieldAddre rfl rfl rfl rfl ?_ | refine k_len rfl rfl ?_ | refine k_nilCheck rfl rfl rfl ?_ | refine k_addi rfl rfl rfl (by omega) ?_ | refine k_lssT rfl rfl rfl (by omega) ?_ | refine k_lssF rfl rfl rfl (by omega) ?_ | refine k_neqT rfl rfl rfl (by omega) ?_ | refine k_neqF rfl rfl rfl (by omega) ?_ | refine k_nea rfl rfl rfl rfl rfl rfl ?_ | refine W_yes rfl ?_ | refine W_no rfl ?_)
    exact ⟨L - (j + 1), _, _, _, (weak_ren (fun l => if l = 3 then 10 else l) (by repeat (first | exact trivial | refine ⟨⟨_, rfl, (by first | exact Up.refl _ | exact Up.fz _ _ _ | exact Up.nil _ | assumption), rfl⟩, ?_⟩)) (by repeat (first | exact trivial | refine ⟨⟨rfl, _, rfl, (by first | exact Ups.refl _ | assumption | ((repeat refine Ups.cons (by first | exact Up.refl _ | exact Up.nil _ | exact Up.fz _ _ _) ?_); exact Ups.nil)), rfl⟩, ?_⟩ | refine ⟨⟨rfl, rfl⟩, ?_⟩)) (by first | decide | simp) (Nat.zero_le _) (fun _ h => absurd h (Nat.not_lt_zero _))), by omega, j + 1, qq + 1 + 32 + 32 + 1, zf, by omega, by omega, hzf.symm, rfl, rfl, rfl, rfl⟩
  · have ej : j = L := by omega
    subst ej
    have e8 : bs (hd ++ sgOut l) = zz := by rw [hzz, List.take_of_length_le (by omega)]
    rw [e8] at c8
    have eq' : 6 + 66 * j = qq := hq.symm
    rw [eq'] at c8
    repeat (first | with_reducible (first | refine W_seq ?_ | refine q_then ?_ | refine q_thenr ?_ | refine q_thenx ?_ | refine W_block ?_ | refine q_block ?_ | refine q_blockr ?_ | refine q_blockx ?_ | refine W_ret ?_ | refine W_skip ?_ | refine W_label ?_ | refine W_exit ?_ | refine W_scope ?_ | refine q_scope ?_ | refine q_scoper ?_ | refine q_scopex ?_) | (with_reducible refine R_nil ?_; try dsimp only [slots0, slots_ud, cells_U, agg_ud, drop0, dropS, takeS, take0, ud_nil, take_ud, take_ud0, drop_ud, drop_ud0, take_udk, D.cells, D.fz, D.fzs, List.take_succ_cons, List.take_zero, List.drop_succ_cons, List.drop_zero, List.cons_append, List.nil_append, List.append_eq, List.length_cons, List.length_nil, Nat.reduceAdd, Nat.reduceMul, Nat.reduceSub, Int.reduceAdd, Int.reduceSub, Int.reduceToNat, Int.reduceNeg, Int.reduceMul]) | refine q_blocky rfl ?_ | refine W_plain rfl ?_ | refine W_drawn mixed rfl ?_ | refine and_chk (by kernel_rfl) ?_ | refine k_fieldAddre rfl rfl rfl (by rw [hpl]; rfl) ?_ | refine k_loade rfl rfl (by exact hpb _) ?_ | refine k_move rfl rfl ?_ | refine k_assign rfl rfl ?_ | refine k_load rfl rfl rfl rfl ?_ | refine k_alloc rfl ?_ | refine k_box rfl rfl rfl ?_ | refine k_store rfl rfl rfl rfl rfl rfl rfl ?_ | refine k_fieldAddr rfl rfl rfl ?_ | refine k_build rfl rfl rfl ?_ | refine k_callf (fq 2 3 4) [0, 1, 2] (5) rfl (c8) rfl (ren2' (a := .ptr 0 0) (fq 2 3 4) hbc) (lal2' (a := .ptr 0 0) _ rfl hbc) (by (repeat (first | refine ⟨⟨rfl, _, rfl, (by first | exact Ups.refl _ | assumption | ((repeat refine Ups.cons (by first | exact Up.refl _ | exact Up.nil _ | exact Up.fz _ _ _) ?_); exact Ups.nil)), rfl⟩, ?_⟩ | refine ⟨⟨rfl, rfl⟩, ?_⟩)); exact trivial) rfl rfl rfl rfl (rfl) (rfl) rfl rfl rfl rfl ?_ | refine k_append rfl rfl rfl (by first | rfl | exact trivial | (show 0 < _; omega)) (by first | rfl | (simp <;> omega)) (by first | rfl | (simp <;> omega)) rfl (by omega) rfl rfl rfl ?_ | refine k_slice rfl rfl rfl rfl ⟨by omega, by omega, by omega⟩ rfl rfl rfl ?_ | refine k_slice3 rfl rfl rfl rfl rfl ⟨by omega, by omega, by omega⟩ rfl rfl rfl ?_ | refine k_sliceA rfl rfl rfl rfl ⟨by omega, by omega, by omega, by omega⟩ rfl rfl ?_ | refine k_sliceE rfl rfl rfl rfl ⟨by omega, by omega, by omega, by omega⟩ rfl rfl rfl rfl ?_ | refine k_indexAddr rfl rfl rfl ⟨by omega, by omega⟩ ?_ | refine k_indexAddrs rfl rfl rfl ⟨by omega, by omega⟩ rfl ?_ | refine k_loade rfl rfl rfl ?_ | refine k_fieldAddre rfl rfl rfl rfl ?_ | refine k_len rfl rfl ?_ | refine k_nilCheck rfl rfl rfl ?_ | refine k_addi rfl rfl rfl (by omega) ?_ | refine k_lssT rfl rfl rfl (by omega) ?_ | refine k_lssF rfl rfl rfl (by omega) ?_ | refine k_neqT rfl rfl rfl (by omega) ?_ | refine k_neqF rfl rfl rfl (by omega) ?_ | refine k_nea rfl rfl rfl rfl rfl rfl ?_ | refine W_yes rfl ?_ | refine W_no rfl ?_)
    (first | with_reducible refine q_endr ?_ | with_reducible refine q_endn ?_); refine rets2 Try.results8 (by first | exact RetV.tmp _ _ rfl | exact RetV.cell _ _ _ _ _ _ _ _ inferInstance rfl rfl rfl) (by first | exact RetV.tmp _ _ rfl | exact RetV.cell _ _ _ _ _ _ _ _ inferInstance rfl rfl rfl) ?_ ?_
    · rfl
    · rfl
end Go.Proofs.Ytbpaimfnfigjpaa
