/- The eye: bytes are taken from the front, as long as there are some. Conditions: at most 8 bytes a number; what is read is short. -/
import Derived.Test.YtbpaimfnfigjpaaDFunK
import Derived.Test.YtbpaimfnfigjpaaDMore
import Derived.Test.YtbpaimfnfigjpaaDMake
import Derived.Test.YtbpaimfnfigjpaaDSl
import Derived.Test.YtbpaimfnfigjpaaDPart
import Derived.Test.YtbpaimfnfigjpaaDApp
import Derived.Test.YtbpaimfnfigjpaaDCpy
import Derived.Test.YtbpaimfnfigjpaaBy32D
import Derived.Test.YtbpaimfnfigjpaaBel
import Derived.Test.YtbpaimfnfigjpaaBPut
namespace Go.Proofs.Ytbpaimfnfigjpaa
open Go.RowKit Go.Lib Go.IntWalk
set_option linter.unusedVariables false
set_option maxRecDepth 100000

/-- what an eye sees: bytes, and whether there were always enough -/
abbrev Ey := List UInt8 × Bool
def eyC (y : Ey) : List D := [.slice .frozen y.1.length (bs y.1), .bool y.2]
def eyM (y : Ey) : Mem := [(0, some (.var 72 (eyC y)))]
def takeE (y : Ey) (n : Nat) : List UInt8 × Ey := if y.1.length < n then (List.replicate n 0, ([], false)) else (y.1.take n, (y.1.drop n, y.2))
theorem takeE_len (y : Ey) (n : Nat) : (takeE y n).1.length = n := by
  unfold takeE
  split
  · simp
  · simp; omega
theorem take_ok (y : Ey) (n : Nat) (hn : n ≤ 100000) (hy : y.1.length ≤ 140737488351232) : Fn Try.prog 36 1 [.ptr 0 0, .int .i64 n] (eyM y) (.slice .frozen n (bs (takeE y n).1)) (eyM (takeE y n).2) := by
  obtain ⟨l, ok⟩ := y
  unfold takeE eyM eyC
  simp only at hy ⊢
  have hll : l.length * 1 = (bs l).length := by rw [bs_len]; omega
  by_cases h : l.length < n
  · rw [if_pos h]
    simp only [show bs [] = [] from rfl, List.length_nil]
    obtain ⟨L, hL⟩ : ∃ L, l.length = L := ⟨_, rfl⟩
    rw [hL] at h hll hy ⊢
    have hd : decide ((L : Int) < n) = true := by simp; omega
    generalize bs l = z at *
    refine fn_intro Try.func36 rfl Try.ntmps36 rfl fun B => ?_
    repeat (first | with_reducible (first | refine W_seq ?_ | refine q_then ?_ | refine q_thenr ?_ | refine q_thenx ?_ | refine W_block ?_ | refine q_block ?_ | refine q_blockr ?_ | refine q_blockx ?_ | refine W_ret ?_ | refine W_skip ?_ | refine W_label ?_ | refine W_exit ?_ | refine W_scope ?_ | refine q_scope ?_ | refine q_scoper ?_ | refine q_scopex ?_) | (with_reducible refine R_nil ?_; try dsimp only [slots0, slots_ud, cells_U, agg_ud, drop0, dropS, takeS, take0, ud_nil, take_ud, take_ud0, drop_ud, drop_ud0, take_udk, D.cells, D.fz, D.fzs, List.take_succ_cons, List.take_zero, List.drop_succ_cons, List.drop_zero, List.cons_append, List.nil_append, List.append_eq, List.length_cons, List.length_nil, Nat.reduceAdd, Nat.reduceMul, Nat.reduceSub, Int.reduceAdd, Int.reduceSub, Int.reduceToNat, Int.reduceNeg, Int.reduceMul]) | refine q_blocky rfl ?_ | refine W_plain rfl ?_ | refine W_drawn mixed rfl ?_ | refine and_chk (by kernel_rfl) ?_ | refine k_move rfl rfl ?_ | refine k_assign rfl rfl ?_ | refine k_load rfl rfl rfl rfl ?_ | refine k_store rfl rfl rfl rfl rfl rfl rfl ?_ | refine k_fieldAddr rfl rfl rfl ?_ | refine k_lss rfl rfl rfl hd ?_ | refine k_makeB rfl rfl rfl (by omega) rfl ?_ | refine k_append rfl rfl rfl (by first | rfl | exact trivial | (show 0 < _; omega)) (by first | rfl | (simp <;> omega)) (by first | rfl | (simp <;> omega)) rfl (by omega) rfl rfl rfl ?_ | refine k_slice rfl rfl rfl rfl ⟨by omega, by omega, by omega⟩ rfl rfl rfl ?_ | refine k_slice3 rfl rfl rfl rfl rfl ⟨by omega, by omega, by omega⟩ rfl rfl rfl ?_ | refine k_sliceA rfl rfl rfl rfl ⟨by omega, by omega, by omega, by omega⟩ rfl rfl ?_ | refine k_sliceE rfl rfl rfl rfl ⟨by omega, by omega, by omega, by omega⟩ rfl rfl rfl rfl ?_ | refine k_loade rfl rfl rfl ?_ | refine k_fieldAddre rfl rfl rfl rfl ?_ | refine k_len rfl rfl ?_ | refine k_nilCheck rfl rfl rfl ?_ | refine k_lssT rfl rfl rfl (by omega) ?_ | refine k_lssF rfl rfl rfl (by omega) ?_ | refine W_yes rfl ?_ | refine W_no rfl ?_)
    refine (q_endf (fun l => l) 1 (RetsF.r1 (RetV.tmp _ _ rfl) (Up.refl _)) rfl ?_ rfl rfl rfl).2
    refine ⟨⟨rfl, _, rfl, ?_, rfl⟩, trivial⟩
    show Ups [_, _] [_, _]
    refine Ups.cons (Up.nil _) ?_
    refine Ups.cons (Up.refl _) ?_
    exact Ups.nil
  · rw [if_neg h]
    simp only
    have hd : decide ((l.length : Int) < n) = false := by simp; omega
    have t1 : ((bs l).drop ((0 : Int).toNat * 1)).take (n * 1) = bs (l.take n) := by
      rw [show (0 : Int).toNat * 1 = 0 from rfl, List.drop_zero, Nat.mul_one]; unfold bs; rw [List.map_take]
    have t2 : ((bs l).drop (((n : Nat) : Int).toNat * 1)).take ((l.length - n) * 1) = bs (l.drop n) := by
      rw [Int.toNat_natCast, Nat.mul_one, Nat.mul_one]; unfold bs; rw [← List.map_drop, List.take_of_length_le (by simp)]
    have hdl : (l.drop n).length = l.length - n := List.length_drop
    have hnl : n ≤ l.length := by omega
    rw [hdl]
    generalize bs (l.drop n) = z2 at *
    generalize bs (l.take n) = z1 at *
    have k1 : ((n : Int) - 0).toNat = n := by omega
    have k2 : ((l.length : Int) - n).toNat = l.length - n := by omega
    generalize bs l = z at *
    generalize l.length = L at *
    refine fn_intro Try.func36 rfl Try.ntmps36 rfl fun B => ?_
    repeat (first | with_reducible (first | refine W_seq ?_ | refine q_then ?_ | refine q_thenr ?_ | refine q_thenx ?_ | refine W_block ?_ | refine q_block ?_ | refine q_blockr ?_ | refine q_blockx ?_ | refine W_ret ?_ | refine W_skip ?_ | refine W_label ?_ | refine W_exit ?_ | refine W_scope ?_ | refine q_scope ?_ | refine q_scoper ?_ | refine q_scopex ?_) | (with_reducible refine R_nil ?_; try dsimp only [slots0, slots_ud, cells_U, agg_ud, drop0, dropS, takeS, take0, ud_nil, take_ud, take_ud0, drop_ud, drop_ud0, take_udk, D.cells, D.fz, D.fzs, List.take_succ_cons, List.take_zero, List.drop_succ_cons, List.drop_zero, List.cons_append, List.nil_append, List.append_eq, List.length_cons, List.length_nil, Nat.reduceAdd, Nat.reduceMul, Nat.reduceSub, Int.reduceAdd, Int.reduceSub, Int.reduceToNat, Int.reduceNeg, Int.reduceMul]) | refine q_blocky rfl ?_ | refine W_plain rfl ?_ | refine W_drawn mixed rfl ?_ | refine and_chk (by kernel_rfl) ?_ | refine k_slice3 rfl rfl rfl rfl rfl ⟨by omega, by omega, by omega⟩ (by exact hll) (by exact k1) (by exact t1) ?_ | refine k_slice rfl rfl rfl rfl ⟨by omega, by omega, by omega⟩ (by exact hll) (by exact k2) (by exact t2) ?_ | refine k_move rfl rfl ?_ | refine k_assign rfl rfl ?_ | refine k_load rfl rfl rfl rfl ?_ | refine k_store rfl rfl rfl rfl rfl rfl rfl ?_ | refine k_fieldAddr rfl rfl rfl ?_ | refine k_lss rfl rfl rfl hd ?_ | refine k_append rfl rfl rfl (by first | rfl | exact trivial | (show 0 < _; omega)) (by first | rfl | (simp <;> omega)) (by first | rfl | (simp <;> omega)) rfl (by omega) rfl rfl rfl ?_ | refine k_slice rfl rfl rfl rfl ⟨by omega, by omega, by omega⟩ rfl rfl rfl ?_ | refine k_slice3 rfl rfl rfl rfl rfl ⟨by omega, by omega, by omega⟩ rfl rfl rfl ?_ | refine k_sliceA rfl rfl rfl rfl ⟨by omega, by omega, by omega, by omega⟩ rfl rfl ?_ | refine k_sliceE rfl rfl rfl rfl ⟨by omega, by omega, by omega, by omega⟩ rfl rfl rfl rfl ?_ | refine k_loade rfl rfl rfl ?_ | refine k_fieldAddre rfl rfl rfl rfl ?_ | refine k_len rfl rfl ?_ | refine k_nilCheck rfl rfl rfl ?_ | refine k_lssT rfl rfl rfl (by omega) ?_ | refine k_lssF rfl rfl rfl (by omega) ?_ | refine W_yes rfl ?_ | refine W_no rfl ?_)
    first | exact (q_endf (fun l => l) 1 (RetsF.r1 (by first | exact RetV.tmp _ _ rfl | exact RetV.cell _ _ _ _ _ _ _ _ inferInstance rfl rfl rfl) (by first | exact Up.refl _ | exact Up.fz _ _ _ | exact Up.nil _)) rfl (by repeat (first | exact trivial | refine ⟨⟨rfl, _, rfl, Ups.refl _, rfl⟩, ?_⟩ | refine ⟨⟨rfl, rfl⟩, ?_⟩)) rfl rfl rfl).2 | exact (q_endf (fun l => l) 1 (RetsF.r1 (by first | exact RetV.tmp _ _ rfl | exact RetV.cell _ _ _ _ _ _ _ _ inferInstance rfl rfl rfl) (by first | exact Up.refl _ | exact Up.fz _ _ _ | exact Up.nil _)) rfl (by repeat (first | exact trivial | refine ⟨⟨rfl, _, rfl, Ups.refl _, rfl⟩, ?_⟩ | refine ⟨⟨rfl, rfl⟩, ?_⟩)) rfl rfl rfl).1

theorem bs_dx (l : List UInt8) (i : Nat) (c : UInt8) (h : l[i]? = some c) (ze : List D) : cut ⟨false, 1, ze⟩ 0 ((bs l).drop (((i : Nat) : Int).toNat * 1)) = some (.int .u8 (c.toNat : Int)) := by
  rw [Int.toNat_natCast, Nat.mul_one]
  unfold cut
  simp only [cond_false, List.getElem?_drop, Nat.add_zero]
  exact bs_get l i c h
/-- a number out of bytes, as an int -/
def numI (l : List UInt8) : Int := IntKind.i64.wrap (nm l : Nat)
theorem or_byte (x : Nat) (c : UInt8) : bitw .or .i64 (IntKind.i64.wrap (IntKind.i64.wrap (x : Nat) * 2 ^ 8)) (c.toNat : Int) = IntKind.i64.wrap ((x * 256 + c.toNat : Nat) : Int) := by
  unfold bitw
  show IntKind.i64.wrap ((BitVec.ofInt 64 _ ||| BitVec.ofInt 64 _).toNat : Int) = _
  rw [BitVec.toNat_or, BitVec.toNat_ofInt, BitVec.toNat_ofInt]
  have hc := c.toNat_lt
  have e1 : ((IntKind.i64.wrap (IntKind.i64.wrap (x : Nat) * 2 ^ 8)) % ((2 ^ 64 : Nat) : Int)).toNat = (x % 72057594037927936) * 256 := by
    rw [IntKind.wrap_i64, IntKind.wrap_i64]; omega
  have e2 : ((c.toNat : Int) % ((2 ^ 64 : Nat) : Int)).toNat = c.toNat := by omega
  rw [e1, e2]
  have e3 : (x % 72057594037927936) * 256 ||| c.toNat = (x % 72057594037927936) * 256 + c.toNat := by
    have := Nat.shiftLeft_add_eq_or_of_lt (a := x % 72057594037927936) (i := 8) (b := c.toNat) (by omega)
    rw [Nat.shiftLeft_eq] at this
    exact this.symm
  rw [e3, IntKind.wrap_i64, IntKind.wrap_i64]
  omega
def numberE (y : Ey) (n : Nat) : Int × Ey := (numI (takeE y n).1, (takeE y n).2)
set_option maxHeartbeats 4000000 in
theorem eNumber_ok (y : Ey) (n : Nat) (hn : n ≤ 8) (hy : y.1.length ≤ 140737488351232) : Fn Try.prog 25 1 [.ptr 0 0, .int .i64 n] (eyM y) (.int .i64 (numberE y n).1) (eyM (numberE y n).2) := by
  have tk := take_ok y n (by omega) hy
  have tl := takeE_len y n
  unfold numberE
  simp only
  generalize takeE y n = r at *
  obtain ⟨w, y2⟩ := r
  simp only at tk tl ⊢
  unfold eyM eyC at tk ⊢
  generalize bs y2.1 = z2 at *
  generalize y2.1.length = L2 at *
  generalize y2.2 = ok2 at *
  generalize bs y.1 = z at *
  generalize y.1.length = L at *
  generalize y.2 = ok at *
  refine fn_intro Try.func25 rfl Try.ntmps25 rfl fun B => ?_
  repeat (first | with_reducible (first | refine W_seq ?_ | refine q_then ?_ | refine q_thenr ?_ | refine q_thenx ?_ | refine W_block ?_ | refine q_block ?_ | refine q_blockr ?_ | refine q_blockx ?_ | refine W_ret ?_ | refine W_skip ?_ | refine W_label ?_ | refine W_exit ?_ | refine W_scope ?_ | refine q_scope ?_ | refine q_scoper ?_ | refine q_scopex ?_) | (with_reducible refine R_nil ?_; try dsimp only [slots0, slots_ud, cells_U, agg_ud, drop0, dropS, takeS, take0, ud_nil, take_ud, take_ud0, drop_ud, drop_ud0, take_udk, D.cells, D.fz, D.fzs, List.take_succ_cons, List.take_zero, List.drop_succ_cons, List.drop_zero, List.cons_append, List.nil_append, List.append_eq, List.length_cons, List.length_nil, Nat.reduceAdd, Nat.reduceMul, Nat.reduceSub, Int.reduceAdd, Int.reduceSub, Int.reduceToNat, Int.reduceNeg, Int.reduceMul]) | refine q_blocky rfl ?_ | refine W_plain rfl ?_ | refine W_drawn mixed rfl ?_ | refine and_chk (by kernel_rfl) ?_ | refine k_move rfl rfl ?_ | refine k_assign rfl rfl ?_ | refine k_load rfl rfl rfl rfl ?_ | refine k_callf (fun l => l) [0] (1) rfl (tk) rfl (by first | exact Ups.refl _ | assumption | ((repeat refine Ups.cons (by first | exact Up.refl _ | exact Up.nil _ | exact Up.fz _ _ _) ?_); exact Ups.nil)) (rfl) (by (repeat (first | refine ⟨⟨rfl, _, rfl, (by first | exact Ups.refl _ | assumption | ((repeat refine Ups.cons (by first | exact Up.refl _ | exact Up.nil _ | exact Up.fz _ _ _) ?_); exact Ups.nil)), rfl⟩, ?_⟩ | refine ⟨⟨rfl, rfl⟩, ?_⟩)); exact trivial) rfl rfl rfl rfl (rfl) (rfl) rfl rfl rfl rfl ?_ | refine k_append rfl rfl rfl (by first | rfl | exact trivial | (show 0 < _; omega)) (by first | rfl | (simp <;> omega)) (by first | rfl | (simp <;> omega)) rfl (by omega) rfl rfl rfl ?_ | refine k_slice rfl rfl rfl rfl ⟨by omega, by omega, by omega⟩ rfl rfl rfl ?_ | refine k_slice3 rfl rfl rfl rfl rfl ⟨by omega, by omega, by omega⟩ rfl rfl rfl ?_ | refine k_sliceA rfl rfl rfl rfl ⟨by omega, by omega, by omega, by omega⟩ rfl rfl ?_ | refine k_sliceE rfl rfl rfl rfl ⟨by omega, by omega, by omega, by omega⟩ rfl rfl rfl rfl ?_ | refine k_indexAddr rfl rfl rfl ⟨by omega, by omega⟩ ?_ | refine k_indexAddrs rfl rfl rfl ⟨by omega, by omega⟩ rfl ?_ | refine k_loade rfl rfl rfl ?_ | refine k_len rfl rfl ?_ | refine k_addi rfl rfl rfl (by omega) ?_ | refine k_lssT rfl rfl rfl (by omega) ?_ | refine k_lssF rfl rfl rfl (by omega) ?_ | refine W_yes rfl ?_ | refine W_no rfl ?_)
  refine W_loopW (fun n' ρ m nx => ∃ (i : Nat) (e : Int), i ≤ n ∧ e = numI (w.take i) ∧ n' = n - i ∧ ρ = [(12, .int .i64 (i : Int)), (11, .int .i64 (n : Int)), (10, .slice .frozen n (bs w)), (5, .int .i64 e), (0, .ptr 0 0)] ∧ m = [(0, some (.var 72 [.slice .frozen L2 z2, .bool ok2]))] ∧ nx = 1)
    ⟨_, _, _, _, (weak_ren (fun l => l) (by repeat (first | exact trivial | refine ⟨⟨_, rfl, (by first | exact Up.refl _ | exact Up.fz _ _ _ | exact Up.nil _ | assumption), rfl⟩, ?_⟩)) (by repeat (first | exact trivial | refine ⟨⟨rfl, _, rfl, (by first | exact Ups.refl _ | assumption | ((repeat refine Ups.cons (by first | exact Up.refl _ | exact Up.nil _ | exact Up.fz _ _ _) ?_); exact Ups.nil)), rfl⟩, ?_⟩ | refine ⟨⟨rfl, rfl⟩, ?_⟩)) (by first | decide | simp) (by first | decide | omega) (fun l h => idB_id (f := fun l => l) rfl l h)), 0, 0, Nat.zero_le _, rfl, rfl, rfl, rfl, rfl⟩ ?_
  rintro n' ρ m nx ⟨i, e, hi, he, rfl, rfl, rfl, rfl⟩
  by_cases hlt : i < n
  · have hw : w[i]? = some (w[i]'(by omega)) := List.getElem?_eq_getElem _
    have hc := bs_dx w i _ hw
    have hnx : numI (w.take (i + 1)) = bitw .or .i64 (IntKind.i64.wrap (e * 2 ^ 8)) ((w[i]'(by omega)).toNat : Int) := by
      rw [he]
      unfold numI
      rw [List.take_add_one, hw, or_byte]
      show IntKind.i64.wrap ((nm (w.take i ++ [w[i]'(by omega)]) : Nat) : Int) = _
      rw [nm_snoc]
    generalize w[i]'(by omega) = c at *
    have hcv : IntKind.i64.wrap (c.toNat : Int) = (c.toNat : Int) := i64_in _ (by have := c.toNat_lt; omega)
    have hwl : n * 1 = (bs w).length := by rw [bs_len]; omega
    have hsh : IntKind.i64.wrap (e * 2 ^ (min (8 : Int).toNat IntKind.i64.bits)) = IntKind.i64.wrap (e * 2 ^ 8) := rfl
    generalize IntKind.i64.wrap (e * 2 ^ 8) = e1 at *
    have hnx' := hnx.symm
    repeat (first | with_reducible (first | refine W_seq ?_ | refine q_then ?_ | refine q_thenr ?_ | refine q_thenx ?_ | refine W_block ?_ | refine q_block ?_ | refine q_blockr ?_ | refine q_blockx ?_ | refine W_ret ?_ | refine W_skip ?_ | refine W_label ?_ | refine W_exit ?_ | refine W_scope ?_ | refine q_scope ?_ | refine q_scoper ?_ | refine q_scopex ?_) | (with_reducible refine R_nil ?_; try dsimp only [slots0, slots_ud, cells_U, agg_ud, drop0, dropS, takeS, take0, ud_nil, take_ud, take_ud0, drop_ud, drop_ud0, take_udk, D.cells, D.fz, D.fzs, List.take_succ_cons, List.take_zero, List.drop_succ_cons, List.drop_zero, List.cons_append, List.nil_append, List.append_eq, List.length_cons, List.length_nil, Nat.reduceAdd, Nat.reduceMul, Nat.reduceSub, Int.reduceAdd, Int.reduceSub, Int.reduceToNat, Int.reduceNeg, Int.reduceMul]) | refine q_blocky rfl ?_ | refine W_plain rfl ?_ | refine W_drawn mixed rfl ?_ | refine and_chk (by kernel_rfl) ?_ | refine k_loade rfl rfl (by exact hc _) ?_ | refine k_indexAddrs rfl rfl rfl ⟨by omega, by omega⟩ hwl ?_ | refine k_move rfl rfl ?_ | refine k_assign rfl rfl ?_ | refine k_load rfl rfl rfl rfl ?_ | refine k_shl rfl rfl rfl (by decide) hsh ?_ | refine k_conv rfl rfl hcv ?_ | refine k_bits rfl rfl rfl rfl hnx' ?_ | refine k_append rfl rfl rfl (by first | rfl | exact trivial | (show 0 < _; omega)) (by first | rfl | (simp <;> omega)) (by first | rfl | (simp <;> omega)) rfl (by omega) rfl rfl rfl ?_ | refine k_slice rfl rfl rfl rfl ⟨by omega, by omega, by omega⟩ rfl rfl rfl ?_ | refine k_slice3 rfl rfl rfl rfl rfl ⟨by omega, by omega, by omega⟩ rfl rfl rfl ?_ | refine k_sliceA rfl rfl rfl rfl ⟨by omega, by omega, by omega, by omega⟩ rfl rfl ?_ | refine k_sliceE rfl rfl rfl rfl ⟨by omega, by omega, by omega, by omega⟩ rfl rfl rfl rfl ?_ | refine k_indexAddr rfl rfl rfl ⟨by omega, by omega⟩ ?_ | refine k_indexAddrs rfl rfl rfl ⟨by omega, by omega⟩ rfl ?_ | refine k_loade rfl rfl rfl ?_ | refine k_len rfl rfl ?_ | refine k_addi rfl rfl rfl (by omega) ?_ | refine k_lssT rfl rfl rfl (by omega) ?_ | refine k_lssF rfl rfl rfl (by omega) ?_ | refine W_yes rfl ?_ | refine W_no rfl ?_)
    exact ⟨n - (i + 1), _, _, _, (weak_ren (fun l => l) (by repeat (first | exact trivial | refine ⟨⟨_, rfl, (by first | exact Up.refl _ | exact Up.fz _ _ _ | exact Up.nil _ | assumption), rfl⟩, ?_⟩)) (by repeat (first | exact trivial | refine ⟨⟨rfl, _, rfl, (by first | exact Ups.refl _ | assumption | ((repeat refine Ups.cons (by first | exact Up.refl _ | exact Up.nil _ | exact Up.fz _ _ _) ?_); exact Ups.nil)), rfl⟩, ?_⟩ | refine ⟨⟨rfl, rfl⟩, ?_⟩)) (by first | decide | simp) (by first | decide | omega) (fun l h => idB_id (f := fun l => l) rfl l h)), by omega, i + 1, _, by omega, rfl, rfl, rfl, rfl, rfl⟩
  · have ei : i = n := by omega
    subst ei
    have ew : w.take i = w := List.take_of_length_le (by omega)
    rw [ew] at he
    subst he
    repeat (first | with_reducible (first | refine W_seq ?_ | refine q_then ?_ | refine q_thenr ?_ | refine q_thenx ?_ | refine W_block ?_ | refine q_block ?_ | refine q_blockr ?_ | refine q_blockx ?_ | refine W_ret ?_ | refine W_skip ?_ | refine W_label ?_ | refine W_exit ?_ | refine W_scope ?_ | refine q_scope ?_ | refine q_scoper ?_ | refine q_scopex ?_) | (with_reducible refine R_nil ?_; try dsimp only [slots0, slots_ud, cells_U, agg_ud, drop0, dropS, takeS, take0, ud_nil, take_ud, take_ud0, drop_ud, drop_ud0, take_udk, D.cells, D.fz, D.fzs, List.take_succ_cons, List.take_zero, List.drop_succ_cons, List.drop_zero, List.cons_append, List.nil_append, List.append_eq, List.length_cons, List.length_nil, Nat.reduceAdd, Nat.reduceMul, Nat.reduceSub, Int.reduceAdd, Int.reduceSub, Int.reduceToNat, Int.reduceNeg, Int.reduceMul]) | refine q_blocky rfl ?_ | refine W_plain rfl ?_ | refine W_drawn mixed rfl ?_ | refine and_chk (by kernel_rfl) ?_ | refine k_move rfl rfl ?_ | refine k_assign rfl rfl ?_ | refine k_load rfl rfl rfl rfl ?_ | refine k_append rfl rfl rfl (by first | rfl | exact trivial | (show 0 < _; omega)) (by first | rfl | (simp <;> omega)) (by first | rfl | (simp <;> omega)) rfl (by omega) rfl rfl rfl ?_ | refine k_slice rfl rfl rfl rfl ⟨by omega, by omega, by omega⟩ rfl rfl rfl ?_ | refine k_slice3 rfl rfl rfl rfl rfl ⟨by omega, by omega, by omega⟩ rfl rfl rfl ?_ | refine k_sliceA rfl rfl rfl rfl ⟨by omega, by omega, by omega, by omega⟩ rfl rfl ?_ | refine k_sliceE rfl rfl rfl rfl ⟨by omega, by omega, by omega, by omega⟩ rfl rfl rfl rfl ?_ | refine k_indexAddr rfl rfl rfl ⟨by omega, by omega⟩ ?_ | refine k_indexAddrs rfl rfl rfl ⟨by omega, by omega⟩ rfl ?_ | refine k_loade rfl rfl rfl ?_ | refine k_len rfl rfl ?_ | refine k_addi rfl rfl rfl (by omega) ?_ | refine k_lssT rfl rfl rfl (by omega) ?_ | refine k_lssF rfl rfl rfl (by omega) ?_ | refine W_yes rfl ?_ | refine W_no rfl ?_)
    first | exact (q_endf (fun l => l) 1 (RetsF.r1 (by first | exact RetV.tmp _ _ rfl | exact RetV.cell _ _ _ _ _ _ _ _ inferInstance rfl rfl rfl) (by first | exact Up.refl _ | exact Up.fz _ _ _ | exact Up.nil _)) rfl (by repeat (first | exact trivial | refine ⟨⟨rfl, _, rfl, Ups.refl _, rfl⟩, ?_⟩ | refine ⟨⟨rfl, rfl⟩, ?_⟩)) rfl rfl rfl).2 | exact (q_endf (fun l => l) 1 (RetsF.r1 (by first | exact RetV.tmp _ _ rfl | exact RetV.cell _ _ _ _ _ _ _ _ inferInstance rfl rfl rfl) (by first | exact Up.refl _ | exact Up.fz _ _ _ | exact Up.nil _)) rfl (by repeat (first | exact trivial | refine ⟨⟨rfl, _, rfl, Ups.refl _, rfl⟩, ?_⟩ | refine ⟨⟨rfl, rfl⟩, ?_⟩)) rfl rfl rfl).1

theorem eWord_ok (y : Ey) (hy : y.1.length ≤ 140737488351232) : Fn Try.prog 27 1 [.ptr 0 0] (eyM y) (.agg (bs (takeE y 32).1)) (eyM (takeE y 32).2) := by
  have tk := take_ok y 32 (by decide) hy
  have tl := takeE_len y 32
  generalize takeE y 32 = r at *
  obtain ⟨w, y2⟩ := r
  simp only at tk tl ⊢
  unfold eyM eyC at tk ⊢
  generalize bs y2.1 = z2 at *
  generalize y2.1.length = L2 at *
  generalize y2.2 = ok2 at *
  generalize bs y.1 = z at *
  generalize y.1.length = L at *
  generalize y.2 = ok at *
  have hsp := b_put tl
  have hwz := b_cut tl
  have ht : (bs w).take 32 = bs w := List.take_of_length_le (by rw [bs_len, tl]; exact Nat.le_refl _)
  refine fn_intro Try.func27 rfl Try.ntmps27 rfl fun B => ?_
  repeat (first | with_reducible (first | refine W_seq ?_ | refine q_then ?_ | refine q_thenr ?_ | refine q_thenx ?_ | refine W_block ?_ | refine q_block ?_ | refine q_blockr ?_ | refine q_blockx ?_ | refine W_ret ?_ | refine W_skip ?_ | refine W_label ?_ | refine W_exit ?_ | refine W_scope ?_ | refine q_scope ?_ | refine q_scoper ?_ | refine q_scopex ?_) | (with_reducible refine R_nil ?_; try dsimp only [slots0, slots_ud, cells_U, agg_ud, drop0, dropS, takeS, take0, ud_nil, take_ud, take_ud0, drop_ud, drop_ud0, take_udk, D.cells, D.fz, D.fzs, List.take_succ_cons, List.take_zero, List.drop_succ_cons, List.drop_zero, List.cons_append, List.nil_append, List.append_eq, List.length_cons, List.length_nil, Nat.reduceAdd, Nat.reduceMul, Nat.reduceSub, Int.reduceAdd, Int.reduceSub, Int.reduceToNat, Int.reduceNeg, Int.reduceMul]) | refine q_blocky rfl ?_ | refine W_plain rfl ?_ | refine W_drawn mixed rfl ?_ | refine and_chk (by kernel_rfl) ?_ | refine k_load rfl rfl rfl (by exact hwz _) ?_ | refine k_store rfl rfl rfl rfl (b_len tl) (b_fits _) (by exact hsp _ rfl) ?_ | refine k_move rfl rfl ?_ | refine k_load rfl rfl rfl rfl ?_ | refine k_alloc rfl ?_ | refine k_store rfl rfl rfl rfl rfl rfl rfl ?_ | refine k_callf (fun l => l) [0] (3) rfl (tk) rfl (by first | exact Ups.refl _ | assumption | ((repeat refine Ups.cons (by first | exact Up.refl _ | exact Up.nil _ | exact Up.fz _ _ _) ?_); exact Ups.nil)) (rfl) (by (repeat (first | refine ⟨⟨rfl, _, rfl, (by first | exact Ups.refl _ | assumption | ((repeat refine Ups.cons (by first | exact Up.refl _ | exact Up.nil _ | exact Up.fz _ _ _) ?_); exact Ups.nil)), rfl⟩, ?_⟩ | refine ⟨⟨rfl, rfl⟩, ?_⟩)); exact trivial) rfl rfl rfl rfl (rfl) (rfl) rfl rfl rfl rfl ?_ | refine k_copyd rfl rfl rfl rfl rfl rfl ht tl (by exact hsp _ rfl) ?_ | refine k_append rfl rfl rfl (by first | rfl | exact trivial | (show 0 < _; omega)) (by first | rfl | (simp <;> omega)) (by first | rfl | (simp <;> omega)) rfl (by omega) rfl rfl rfl ?_ | refine k_slice rfl rfl rfl rfl ⟨by omega, by omega, by omega⟩ rfl rfl rfl ?_ | refine k_slice3 rfl rfl rfl rfl rfl ⟨by omega, by omega, by omega⟩ rfl rfl rfl ?_ | refine k_sliceA rfl rfl rfl rfl ⟨by omega, by omega, by omega, by omega⟩ rfl rfl ?_ | refine k_sliceE rfl rfl rfl rfl ⟨by omega, by omega, by omega, by omega⟩ rfl rfl rfl rfl ?_ | refine k_loade rfl rfl rfl ?_ | refine W_yes rfl ?_ | refine W_no rfl ?_)
  have hcl : D.cl (.agg (bs w)) = true := bs_cl _
  have hren : ∀ f : Nat → Nat, Up (.agg (bs w)) (D.ren f (.agg (bs w))) := fun f => by rw [(D.cl_ren f (fun _ => true) _ hcl).1]; exact Up.refl _
  refine (q_endf (fun l => l) 3 (RetsF.r1 (RetV.cell _ _ _ _ _ _ _ _ inferInstance rfl rfl (by exact hwz _)) (hren _)) (D.cl_ren (fun l => l) _ _ hcl).2 ?_ rfl rfl rfl).2
  refine ⟨⟨rfl, _, rfl, ?_, rfl⟩, trivial⟩
  show Ups [_, _] [_, _]
  exact Ups.refl _
end Go.Proofs.Ytbpaimfnfigjpaa
