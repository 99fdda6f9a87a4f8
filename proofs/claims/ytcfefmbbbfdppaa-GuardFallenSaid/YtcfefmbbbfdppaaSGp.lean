/- The eye reads a message. Conditions: what is read is short. -/
import Derived.Test.YtcfefmbbbfdppaaSGd
import Derived.Test.YtcfefmbbbfdppaaSDMore
import Derived.Test.YtcfefmbbbfdppaaSDSl
import Derived.Test.YtcfefmbbbfdppaaSDPart
import Derived.Test.YtcfefmbbbfdppaaSDApp
import Derived.Test.YtcfefmbbbfdppaaSGb
import Derived.Test.YtcfefmbbbfdppaaSGg
import Derived.Test.YtcfefmbbbfdppaaSDFix
import Derived.Test.YtcfefmbbbfdppaaSDFun
namespace Go.Proofs.Ytcfefmbbbfdppaa
open Go.RowKit Go.Lib Go.IntWalk
set_option linter.unusedVariables false
set_option maxRecDepth 100000
abbrev Ey := List UInt8 × Bool
def eyC (y : Ey) : List D := [.slice .frozen y.1.length (bs y.1), .bool y.2]
def eyM (y : Ey) : Mem := [(0, some (.var 98 (eyC y)))]
def takeE (y : Ey) (n : Nat) : List UInt8 × Ey := if y.1.length < n then (List.replicate n 0, ([], false)) else (y.1.take n, (y.1.drop n, y.2))
theorem takeE_len (y : Ey) (n : Nat) : (takeE y n).1.length = n := by
  unfold takeE
  split
  · simp
  · simp; omega
theorem take_ok (y : Ey) (n : Nat) (hn : n ≤ 100000) (hy : y.1.length ≤ 140737488351232) : Fn Try.prog 58 1 [.ptr 0 0, .int .i64 n] (eyM y) (.slice .frozen n (bs (takeE y n).1)) (eyM (takeE y n).2) := by
  obtain ⟨l, ok⟩ := y
  unfold takeE eyM eyC
  simp only at hy ⊢
  have hll : l.length * 1 = (bs l).length := by rw [bs_len]; omega
  by_cases h : l.length < n
  · rw [if_pos h]
    simp only [show bs [] = [] from rfl, List.length_nil]
    obtain ⟨L, hL⟩ : ∃ L, l.length = L := ⟨_, rfl⟩
    rw [hL] at h hll hy ⊢
    have hd : decide ((L : Int) < n) = true := by simp; omega
    generalize bs l = z at *
    refine fn_intro Try.func58 rfl Try.ntmps58 rfl fun B => ?_
    repeat (first | with_reducible (first | refine W_seq ?_ | refine q_then ?_ | refine q_thenr ?_ | refine W_ret ?_ | refine W_skip ?_) | (with_reducible refine R_nil ?_; try dsimp only [slots0, slots_ud, cells_U, agg_ud, drop0, dropS, takeS, take0, ud_nil, take_ud, take_ud0, drop_ud, drop_ud0, take_udk, D.cells, D.fz, D.fzs, List.take_succ_cons, List.take_zero, List.drop_succ_cons, List.drop_zero, List.cons_append, List.nil_append, List.append_eq, List.length_cons, List.length_nil, Nat.reduceAdd, Nat.reduceMul, Nat.reduceSub, Int.reduceAdd, Int.reduceSub, Int.reduceToNat, Int.reduceNeg, Int.reduceMul]) | refine W_plain rfl ?_ | refine and_chk (by kernel_rfl) ?_ | refine k_move rfl rfl ?_ | refine k_assign rfl rfl ?_ | refine k_load rfl rfl rfl rfl ?_ | refine k_store rfl rfl rfl rfl rfl rfl rfl ?_ | refine k_fieldAddr rfl rfl rfl ?_ | refine k_lss rfl rfl rfl hd ?_ | (refine k_makeB rfl rfl rfl ?_ rfl ?_; (omega)) | (refine k_append rfl rfl rfl ?_ ?_ ?_ rfl ?_ rfl rfl rfl ?_; (first | rfl | exact trivial | (show 0 < _; omega)); (first | rfl | (simp <;> omega)); (first | rfl | (simp <;> omega)); (omega)) | (refine k_slice rfl rfl rfl rfl ⟨?_, ?_, ?_⟩ rfl rfl rfl ?_; (omega); (omega); (omega)) | (refine k_slice3 rfl rfl rfl rfl rfl ⟨?_, ?_, ?_⟩ rfl rfl rfl ?_; (omega); (omega); (omega)) | refine k_len rfl rfl ?_ | refine k_nilCheck rfl rfl rfl ?_ | refine W_yes rfl ?_ | refine W_no rfl ?_)
    refine (q_endf (fun l => l) 1 (RetsF.r1 (RetV.tmp _ _ rfl) (Up.refl _)) rfl ?_ rfl rfl rfl).2
    refine ⟨⟨rfl, _, rfl, ?_, rfl⟩, trivial⟩
    show Ups [_, _] [_, _]
    refine Ups.cons (Up.nil _) ?_
    refine Ups.cons (Up.refl _) ?_
    exact Ups.nil
  · rw [if_neg h]
    simp only
    have hd : decide ((l.length : Int) < n) = false := by simp; omega
    have t1 : ((bs l).drop ((0 : Int).toNat * 1)).take (n * 1) = bs (l.take n) := by
      rw [show (0 : Int).toNat * 1 = 0 from rfl, List.drop_zero, Nat.mul_one]; unfold bs; rw [List.map_take]
    have t2 : ((bs l).drop (((n : Nat) : Int).toNat * 1)).take ((l.length - n) * 1) = bs (l.drop n) := by
      rw [Int.toNat_natCast, Nat.mul_one, Nat.mul_one]; unfold bs; rw [← List.map_drop, List.take_of_length_le (by simp)]
    have hdl : (l.drop n).length = l.length - n := List.length_drop
    have hnl : n ≤ l.length := by omega
    rw [hdl]
    generalize bs (l.drop n) = z2 at *
    generalize bs (l.take n) = z1 at *
    have k1 : ((n : Int) - 0).toNat = n := by omega
    have k2 : ((l.length : Int) - n).toNat = l.length - n := by omega
    generalize bs l = z at *
    generalize l.length = L at *
    refine fn_intro Try.func58 rfl Try.ntmps58 rfl fun B => ?_
    repeat (first | with_reducible (first | refine W_seq ?_ | refine q_then ?_ | refine q_thenr ?_ | refine W_ret ?_ | refine W_skip ?_) | (with_reducible refine R_nil ?_; try dsimp only [slots0, slots_ud, cells_U, agg_ud, drop0, dropS, takeS, take0, ud_nil, take_ud, take_ud0, drop_ud, drop_ud0, take_udk, D.cells, D.fz, D.fzs, List.take_succ_cons, List.take_zero, List.drop_succ_cons, List.drop_zero, List.cons_append, List.nil_append, List.append_eq, List.length_cons, List.length_nil, Nat.reduceAdd, Nat.reduceMul, Nat.reduceSub, Int.reduceAdd, Int.reduceSub, Int.reduceToNat, Int.reduceNeg, Int.reduceMul]) | refine W_plain rfl ?_ | refine and_chk (by kernel_rfl) ?_ | (refine k_slice3 rfl rfl rfl rfl rfl ⟨?_, ?_, ?_⟩ (by exact hll) (by exact k1) (by exact t1) ?_; (omega); (omega); (omega)) | (refine k_slice rfl rfl rfl rfl ⟨?_, ?_, ?_⟩ (by exact hll) (by exact k2) (by exact t2) ?_; (omega); (omega); (omega)) | refine k_move rfl rfl ?_ | refine k_assign rfl rfl ?_ | refine k_load rfl rfl rfl rfl ?_ | refine k_store rfl rfl rfl rfl rfl rfl rfl ?_ | refine k_fieldAddr rfl rfl rfl ?_ | refine k_lss rfl rfl rfl hd ?_ | (refine k_append rfl rfl rfl ?_ ?_ ?_ rfl ?_ rfl rfl rfl ?_; (first | rfl | exact trivial | (show 0 < _; omega)); (first | rfl | (simp <;> omega)); (first | rfl | (simp <;> omega)); (omega)) | (refine k_slice rfl rfl rfl rfl ⟨?_, ?_, ?_⟩ rfl rfl rfl ?_; (omega); (omega); (omega)) | (refine k_slice3 rfl rfl rfl rfl rfl ⟨?_, ?_, ?_⟩ rfl rfl rfl ?_; (omega); (omega); (omega)) | refine k_len rfl rfl ?_ | refine k_nilCheck rfl rfl rfl ?_ | refine W_yes rfl ?_ | refine W_no rfl ?_)
    first | exact (q_endf (fun l => l) 1 (RetsF.r1 (by first | exact RetV.tmp _ _ rfl | exact RetV.cell _ _ _ _ _ _ _ _ inferInstance rfl rfl rfl) (by first | exact Up.refl _ | exact Up.fz _ _ _ | exact Up.nil _)) rfl (by repeat (first | exact trivial | refine ⟨⟨rfl, _, rfl, Ups.refl _, rfl⟩, ?_⟩ | refine ⟨⟨rfl, rfl⟩, ?_⟩)) rfl rfl rfl).2 | exact (q_endf (fun l => l) 1 (RetsF.r1 (by first | exact RetV.tmp _ _ rfl | exact RetV.cell _ _ _ _ _ _ _ _ inferInstance rfl rfl rfl) (by first | exact Up.refl _ | exact Up.fz _ _ _ | exact Up.nil _)) rfl (by repeat (first | exact trivial | refine ⟨⟨rfl, _, rfl, Ups.refl _, rfl⟩, ?_⟩ | refine ⟨⟨rfl, rfl⟩, ?_⟩)) rfl rfl rfl).1
theorem bs_dx (l : List UInt8) (i : Nat) (c : UInt8) (h : l[i]? = some c) (ze : List D) : cut ⟨false, 1, ze⟩ 0 ((bs l).drop (((i : Nat) : Int).toNat * 1)) = some (.int .u8 (c.toNat : Int)) := by
  rw [Int.toNat_natCast, Nat.mul_one]
  unfold cut
  simp only [cond_false, List.getElem?_drop, Nat.add_zero]
  exact bs_get l i c h
def numI (l : List UInt8) : Int := IntKind.i64.wrap (nm l : Nat)
theorem or_byte (x : Nat) (c : UInt8) : bitw .or .i64 (IntKind.i64.wrap (IntKind.i64.wrap (x : Nat) * 2 ^ 8)) (c.toNat : Int) = IntKind.i64.wrap ((x * 256 + c.toNat : Nat) : Int) := by
  unfold bitw
  show IntKind.i64.wrap ((BitVec.ofInt 64 _ ||| BitVec.ofInt 64 _).toNat : Int) = _
  rw [BitVec.toNat_or, BitVec.toNat_ofInt, BitVec.toNat_ofInt]
  have hc := c.toNat_lt
  have e1 : ((IntKind.i64.wrap (IntKind.i64.wrap (x : Nat) * 2 ^ 8)) % ((2 ^ 64 : Nat) : Int)).toNat = (x % 72057594037927936) * 256 := by
    rw [IntKind.wrap_i64, IntKind.wrap_i64]; omega
  have e2 : ((c.toNat : Int) % ((2 ^ 64 : Nat) : Int)).toNat = c.toNat := by omega
  rw [e1, e2]
  have e3 : (x % 72057594037927936) * 256 ||| c.toNat = (x % 72057594037927936) * 256 + c.toNat := by
    have := Nat.shiftLeft_add_eq_or_of_lt (a := x % 72057594037927936) (i := 8) (b := c.toNat) (by omega)
    rw [Nat.shiftLeft_eq] at this
    exact this.symm
  rw [e3, IntKind.wrap_i64, IntKind.wrap_i64]
  omega
def numberE (y : Ey) (n : Nat) : Int × Ey := (numI (takeE y n).1, (takeE y n).2)
set_option maxHeartbeats 4000000 in
theorem eNumber_ok (y : Ey) (n : Nat) (hn : n ≤ 8) (hy : y.1.length ≤ 140737488351232) : Fn Try.prog 44 1 [.ptr 0 0, .int .i64 n] (eyM y) (.int .i64 (numberE y n).1) (eyM (numberE y n).2) := by
  have tk := take_ok y n (by omega) hy
  have tl := takeE_len y n
  unfold numberE
  simp only
  generalize takeE y n = r at *
  obtain ⟨w, y2⟩ := r
  simp only at tk tl ⊢
  unfold eyM eyC at tk ⊢
  generalize bs y2.1 = z2 at *
  generalize y2.1.length = L2 at *
  generalize y2.2 = ok2 at *
  generalize bs y.1 = z at *
  generalize y.1.length = L at *
  generalize y.2 = ok at *
  refine fn_intro Try.func44 rfl Try.ntmps44 rfl fun B => ?_
  repeat (first | with_reducible (first | refine W_seq ?_ | refine q_then ?_ | refine q_thenx ?_ | refine W_block ?_ | refine q_block ?_ | refine q_blockx ?_ | refine W_ret ?_ | refine W_skip ?_ | refine W_exit ?_) | (with_reducible refine R_nil ?_; try dsimp only [slots0, slots_ud, cells_U, agg_ud, drop0, dropS, takeS, take0, ud_nil, take_ud, take_ud0, drop_ud, drop_ud0, take_udk, D.cells, D.fz, D.fzs, List.take_succ_cons, List.take_zero, List.drop_succ_cons, List.drop_zero, List.cons_append, List.nil_append, List.append_eq, List.length_cons, List.length_nil, Nat.reduceAdd, Nat.reduceMul, Nat.reduceSub, Int.reduceAdd, Int.reduceSub, Int.reduceToNat, Int.reduceNeg, Int.reduceMul]) | refine W_plain rfl ?_ | refine and_chk (by kernel_rfl) ?_ | refine k_move rfl rfl ?_ | refine k_assign rfl rfl ?_ | refine k_callf (fun l => l) [0] (1) rfl (tk) rfl (by first | exact Ups.refl _ | assumption | ((repeat refine Ups.cons (by first | exact Up.refl _ | exact Up.nil _ | exact Up.fz _ _ _) ?_); exact Ups.nil)) (rfl) (by (repeat (first | refine ⟨⟨rfl, _, rfl, (by first | exact Ups.refl _ | assumption | ((repeat refine Ups.cons (by first | exact Up.refl _ | exact Up.nil _ | exact Up.fz _ _ _) ?_); exact Ups.nil)), rfl⟩, ?_⟩ | refine ⟨⟨rfl, rfl⟩, ?_⟩)); exact trivial) rfl rfl rfl rfl (rfl) (rfl) rfl rfl rfl rfl ?_ | (refine k_append rfl rfl rfl ?_ ?_ ?_ rfl ?_ rfl rfl rfl ?_; (first | rfl | exact trivial | (show 0 < _; omega)); (first | rfl | (simp <;> omega)); (first | rfl | (simp <;> omega)); (omega)) | (refine k_indexAddrs rfl rfl rfl ⟨?_, ?_⟩ rfl ?_; (omega); (omega)) | refine k_loade rfl rfl rfl ?_ | refine k_len rfl rfl ?_ | (refine k_addi rfl rfl rfl ?_ ?_; (omega)) | (refine k_lssT rfl rfl rfl ?_ ?_; (omega)) | (refine k_lssF rfl rfl rfl ?_ ?_; (omega)) | refine W_yes rfl ?_ | refine W_no rfl ?_)
  refine W_loopW (fun n' ρ m nx => ∃ (i : Nat) (e : Int), i ≤ n ∧ e = numI (w.take i) ∧ n' = n - i ∧ ρ = [(12, .int .i64 (i : Int)), (11, .int .i64 (n : Int)), (10, .slice .frozen n (bs w)), (5, .int .i64 e), (0, .ptr 0 0)] ∧ m = [(0, some (.var 98 [.slice .frozen L2 z2, .bool ok2]))] ∧ nx = 1)
    ⟨_, _, _, _, (weak_ren (fun l => l) (by repeat (first | exact trivial | refine ⟨⟨_, rfl, (by first | exact Up.refl _ | exact Up.fz _ _ _ | exact Up.nil _ | exact Up.nrs _ | assumption), rfl⟩, ?_⟩)) (by repeat (first | exact trivial | refine ⟨⟨rfl, _, rfl, (by first | exact Ups.refl _ | assumption | ((repeat refine Ups.cons (by first | exact Up.refl _ | exact Up.nil _ | exact Up.fz _ _ _) ?_); exact Ups.nil)), rfl⟩, ?_⟩ | refine ⟨⟨rfl, rfl⟩, ?_⟩ | refine ⟨⟨rfl, _, rfl, cls_ups _ _ (by assumption), cls_lalls _ _ (by assumption)⟩, ?_⟩)) (by first | decide | simp) (by first | decide | omega) (fun l h => idB_id (f := fun l => l) rfl l h)), 0, 0, Nat.zero_le _, rfl, rfl, rfl, rfl, rfl⟩ ?_
  rintro n' ρ m nx ⟨i, e, hi, he, rfl, rfl, rfl, rfl⟩
  by_cases hlt : i < n
  · have hw : w[i]? = some (w[i]'(by omega)) := List.getElem?_eq_getElem _
    have hc := bs_dx w i _ hw
    have hnx : numI (w.take (i + 1)) = bitw .or .i64 (IntKind.i64.wrap (e * 2 ^ 8)) ((w[i]'(by omega)).toNat : Int) := by
      rw [he]
      unfold numI
      rw [List.take_add_one, hw, or_byte]
      show IntKind.i64.wrap ((nm (w.take i ++ [w[i]'(by omega)]) : Nat) : Int) = _
      rw [nm_snoc]
    generalize w[i]'(by omega) = c at *
    have hcv : IntKind.i64.wrap (c.toNat : Int) = (c.toNat : Int) := i64_in _ (by have := c.toNat_lt; omega)
    have hwl : n * 1 = (bs w).length := by rw [bs_len]; omega
    have hsh : IntKind.i64.wrap (e * 2 ^ (min (8 : Int).toNat IntKind.i64.bits)) = IntKind.i64.wrap (e * 2 ^ 8) := rfl
    generalize IntKind.i64.wrap (e * 2 ^ 8) = e1 at *
    have hnx' := hnx.symm
    repeat (first | with_reducible (first | refine W_seq ?_ | refine q_then ?_ | refine q_thenx ?_ | refine W_block ?_ | refine q_block ?_ | refine q_blockx ?_ | refine W_ret ?_ | refine W_skip ?_ | refine W_exit ?_) | (with_reducible refine R_nil ?_; try dsimp only [slots0, slots_ud, cells_U, agg_ud, drop0, dropS, takeS, take0, ud_nil, take_ud, take_ud0, drop_ud, drop_ud0, take_udk, D.cells, D.fz, D.fzs, List.take_succ_cons, List.take_zero, List.drop_succ_cons, List.drop_zero, List.cons_append, List.nil_append, List.append_eq, List.length_cons, List.length_nil, Nat.reduceAdd, Nat.reduceMul, Nat.reduceSub, Int.reduceAdd, Int.reduceSub, Int.reduceToNat, Int.reduceNeg, Int.reduceMul]) | refine W_plain rfl ?_ | refine and_chk (by kernel_rfl) ?_ | refine k_loade rfl rfl (hc _) ?_ | (refine k_indexAddrs rfl rfl rfl ⟨?_, ?_⟩ hwl ?_; (omega); (omega)) | refine k_move rfl rfl ?_ | refine k_assign rfl rfl ?_ | (refine k_shl rfl rfl rfl ?_ hsh ?_; (decide)) | refine k_conv rfl rfl hcv ?_ | refine k_bits rfl rfl rfl rfl hnx' ?_ | (refine k_append rfl rfl rfl ?_ ?_ ?_ rfl ?_ rfl rfl rfl ?_; (first | rfl | exact trivial | (show 0 < _; omega)); (first | rfl | (simp <;> omega)); (first | rfl | (simp <;> omega)); (omega)) | (refine k_indexAddrs rfl rfl rfl ⟨?_, ?_⟩ rfl ?_; (omega); (omega)) | refine k_loade rfl rfl rfl ?_ | refine k_len rfl rfl ?_ | (refine k_addi rfl rfl rfl ?_ ?_; (omega)) | (refine k_lssT rfl rfl rfl ?_ ?_; (omega)) | (refine k_lssF rfl rfl rfl ?_ ?_; (omega)) | refine W_yes rfl ?_ | refine W_no rfl ?_)
    exact ⟨n - (i + 1), _, _, _, (weak_ren (fun l => l) (by repeat (first | exact trivial | refine ⟨⟨_, rfl, (by first | exact Up.refl _ | exact Up.fz _ _ _ | exact Up.nil _ | exact Up.nrs _ | assumption), rfl⟩, ?_⟩)) (by repeat (first | exact trivial | refine ⟨⟨rfl, _, rfl, (by first | exact Ups.refl _ | assumption | ((repeat refine Ups.cons (by first | exact Up.refl _ | exact Up.nil _ | exact Up.fz _ _ _) ?_); exact Ups.nil)), rfl⟩, ?_⟩ | refine ⟨⟨rfl, rfl⟩, ?_⟩ | refine ⟨⟨rfl, _, rfl, cls_ups _ _ (by assumption), cls_lalls _ _ (by assumption)⟩, ?_⟩)) (by first | decide | simp) (by first | decide | omega) (fun l h => idB_id (f := fun l => l) rfl l h)), by omega, i + 1, _, by omega, rfl, rfl, rfl, rfl, rfl⟩
  · have ei : i = n := by omega
    subst ei
    have ew : w.take i = w := List.take_of_length_le (by omega)
    rw [ew] at he
    subst he
    repeat (first | with_reducible (first | refine W_seq ?_ | refine q_then ?_ | refine q_thenx ?_ | refine W_block ?_ | refine q_block ?_ | refine q_blockx ?_ | refine W_ret ?_ | refine W_skip ?_ | refine W_exit ?_) | (with_reducible refine R_nil ?_; try dsimp only [slots0, slots_ud, cells_U, agg_ud, drop0, dropS, takeS, take0, ud_nil, take_ud, take_ud0, drop_ud, drop_ud0, take_udk, D.cells, D.fz, D.fzs, List.take_succ_cons, List.take_zero, List.drop_succ_cons, List.drop_zero, List.cons_append, List.nil_append, List.append_eq, List.length_cons, List.length_nil, Nat.reduceAdd, Nat.reduceMul, Nat.reduceSub, Int.reduceAdd, Int.reduceSub, Int.reduceToNat, Int.reduceNeg, Int.reduceMul]) | refine W_plain rfl ?_ | refine and_chk (by kernel_rfl) ?_ | refine k_move rfl rfl ?_ | refine k_assign rfl rfl ?_ | (refine k_append rfl rfl rfl ?_ ?_ ?_ rfl ?_ rfl rfl rfl ?_; (first | rfl | exact trivial | (show 0 < _; omega)); (first | rfl | (simp <;> omega)); (first | rfl | (simp <;> omega)); (omega)) | (refine k_indexAddrs rfl rfl rfl ⟨?_, ?_⟩ rfl ?_; (omega); (omega)) | refine k_loade rfl rfl rfl ?_ | refine k_len rfl rfl ?_ | (refine k_addi rfl rfl rfl ?_ ?_; (omega)) | (refine k_lssT rfl rfl rfl ?_ ?_; (omega)) | (refine k_lssF rfl rfl rfl ?_ ?_; (omega)) | refine W_yes rfl ?_ | refine W_no rfl ?_)
    first | exact (q_endf (fun l => l) 1 (RetsF.r1 (by first | exact RetV.tmp _ _ rfl | exact RetV.cell _ _ _ _ _ _ _ _ inferInstance rfl rfl rfl) (by first | exact Up.refl _ | exact Up.fz _ _ _ | exact Up.nil _)) rfl (by repeat (first | exact trivial | refine ⟨⟨rfl, _, rfl, Ups.refl _, rfl⟩, ?_⟩ | refine ⟨⟨rfl, rfl⟩, ?_⟩)) rfl rfl rfl).2 | exact (q_endf (fun l => l) 1 (RetsF.r1 (by first | exact RetV.tmp _ _ rfl | exact RetV.cell _ _ _ _ _ _ _ _ inferInstance rfl rfl rfl) (by first | exact Up.refl _ | exact Up.fz _ _ _ | exact Up.nil _)) rfl (by repeat (first | exact trivial | refine ⟨⟨rfl, _, rfl, Ups.refl _, rfl⟩, ?_⟩ | refine ⟨⟨rfl, rfl⟩, ?_⟩)) rfl rfl rfl).1
theorem eWord_ok (y : Ey) (hy : y.1.length ≤ 140737488351232) : Fn Try.prog 46 1 [.ptr 0 0] (eyM y) (.agg (bs (takeE y 32).1)) (eyM (takeE y 32).2) := by
  have tk := take_ok y 32 (by decide) hy
  have tl := takeE_len y 32
  generalize takeE y 32 = r at *
  obtain ⟨w, y2⟩ := r
  simp only at tk tl ⊢
  unfold eyM eyC at tk ⊢
  generalize bs y2.1 = z2 at *
  generalize y2.1.length = L2 at *
  generalize y2.2 = ok2 at *
  generalize bs y.1 = z at *
  generalize y.1.length = L at *
  generalize y.2 = ok at *
  have hsp := b_put tl
  have hwz := b_cut tl
  have ht : (bs w).take 32 = bs w := List.take_of_length_le (by rw [bs_len, tl]; exact Nat.le_refl _)
  refine fn_intro Try.func46 rfl Try.ntmps46 rfl fun B => ?_
  repeat (first | with_reducible (first | refine W_seq ?_ | refine q_then ?_ | refine W_ret ?_) | (with_reducible refine R_nil ?_; try dsimp only [slots0, slots_ud, cells_U, agg_ud, drop0, dropS, takeS, take0, ud_nil, take_ud, take_ud0, drop_ud, drop_ud0, take_udk, D.cells, D.fz, D.fzs, List.take_succ_cons, List.take_zero, List.drop_succ_cons, List.drop_zero, List.cons_append, List.nil_append, List.append_eq, List.length_cons, List.length_nil, Nat.reduceAdd, Nat.reduceMul, Nat.reduceSub, Int.reduceAdd, Int.reduceSub, Int.reduceToNat, Int.reduceNeg, Int.reduceMul]) | refine W_plain rfl ?_ | refine W_drawn mixed rfl ?_ | refine and_chk (by kernel_rfl) ?_ | refine k_load rfl rfl rfl (hwz _) ?_ | refine k_store rfl rfl rfl rfl (b_len tl) (b_fits _) (by exact hsp _ rfl) ?_ | refine k_move rfl rfl ?_ | refine k_load rfl rfl rfl rfl ?_ | refine k_alloc rfl ?_ | refine k_store rfl rfl rfl rfl rfl rfl rfl ?_ | refine k_callf (fun l => l) [0] (3) rfl (tk) rfl (by first | exact Ups.refl _ | assumption | ((repeat refine Ups.cons (by first | exact Up.refl _ | exact Up.nil _ | exact Up.fz _ _ _) ?_); exact Ups.nil)) (rfl) (by (repeat (first | refine ⟨⟨rfl, _, rfl, (by first | exact Ups.refl _ | assumption | ((repeat refine Ups.cons (by first | exact Up.refl _ | exact Up.nil _ | exact Up.fz _ _ _) ?_); exact Ups.nil)), rfl⟩, ?_⟩ | refine ⟨⟨rfl, rfl⟩, ?_⟩)); exact trivial) rfl rfl rfl rfl (rfl) (rfl) rfl rfl rfl rfl ?_ | refine k_copyd rfl rfl rfl rfl rfl rfl ht tl (by exact hsp _ rfl) ?_ | (refine k_append rfl rfl rfl ?_ ?_ ?_ rfl ?_ rfl rfl rfl ?_; (first | rfl | exact trivial | (show 0 < _; omega)); (first | rfl | (simp <;> omega)); (first | rfl | (simp <;> omega)); (omega)) | (refine k_sliceA rfl rfl rfl rfl ⟨?_, ?_, ?_, ?_⟩ rfl rfl ?_; (omega); (omega); (omega); (omega)))
  have hcl : D.cl (.agg (bs w)) = true := bs_cl _
  have hren : ∀ f : Nat → Nat, Up (.agg (bs w)) (D.ren f (.agg (bs w))) := fun f => by rw [(D.cl_ren f (fun _ => true) _ hcl).1]; exact Up.refl _
  refine (q_endf (fun l => l) 3 (RetsF.r1 (RetV.cell _ _ _ _ _ _ _ _ inferInstance rfl rfl (by exact hwz _)) (hren _)) (D.cl_ren (fun l => l) _ _ hcl).2 ?_ rfl rfl rfl).2
  refine ⟨⟨rfl, _, rfl, ?_, rfl⟩, trivial⟩
  show Ups [_, _] [_, _]
  exact Ups.refl _
end Go.Proofs.Ytcfefmbbbfdppaa
namespace Go.Proofs.Ytcfefmbbbfdppaa
open Go.RowKit Go.Lib Go.IntWalk
set_option linter.unusedVariables false
set_option maxRecDepth 100000
theorem shr_nat (n i : Nat) (hi : 8 * i ≤ 63) : ((n : Int)).fdiv (2 ^ (min ((8 * i : Nat) : Int).toNat IntKind.i64.bits)) = ((n / 256 ^ i : Nat) : Int) := by
  rw [Int.toNat_natCast, show min (8 * i) IntKind.i64.bits = 8 * i from Nat.min_eq_left (by show 8 * i ≤ 64; omega)]
  rw [Int.fdiv_eq_ediv_of_nonneg _ (by exact_mod_cast Nat.zero_le _)]
  rw [show (256 : Nat) ^ i = 2 ^ (8 * i) from by rw [Nat.pow_mul]]
  push_cast
  rfl
theorem toB_snoc (k n j : Nat) (h : j < k) : (toB k n).take j ++ [UInt8.ofNat (n / 256 ^ (k - 1 - j))] = (toB k n).take (j + 1) := by
  have h1 := toB_get k n j h
  rw [List.take_add_one, h1]; rfl
theorem conv_byte (n i : Nat) : IntKind.u8.wrap ((n / 256 ^ i : Nat) : Int) = ((UInt8.ofNat (n / 256 ^ i)).toNat : Int) := by
  rw [IntKind.wrap_u8, UInt8.toNat_ofNat']; omega
def penM (t : Nat) (L : Nat) (z : List D) : Mem := [(0, some (.var 138 [.slice (.own t) L z])), (t, some (.tok 5 1))]
set_option maxHeartbeats 4000000 in
theorem number_ok (l : List UInt8) (L : Nat) (hL : l.length = L) (n sz L2 : Nat) (h0 : 0 < sz) (hs : sz ≤ 8) (hn : n < 9223372036854775808) (hsm : L ≤ 10000000) (hL2 : L + sz = L2) (z z2 : List D) (hz : bs l = z) (hz2 : bs (l ++ toB sz n) = z2) :
    Fn Try.prog 66 2 [.ptr 0 0, .int .i64 n, .int .i64 sz] (penM 1 L z) (.tup []) (penM 2 L2 z2) := by
  unfold penM
  refine fn_intro Try.func66 rfl Try.ntmps66 rfl fun B => ?_
  repeat (first | with_reducible (first | refine W_seq ?_ | refine q_then ?_ | refine q_thenx ?_ | refine W_block ?_ | refine q_block ?_ | refine q_blockx ?_ | refine W_skip ?_ | refine W_exit ?_) | (with_reducible refine R_nil ?_; try dsimp only [slots0, slots_ud, cells_U, agg_ud, drop0, dropS, takeS, take0, ud_nil, take_ud, take_ud0, drop_ud, drop_ud0, take_udk, D.cells, D.fz, D.fzs, List.take_succ_cons, List.take_zero, List.drop_succ_cons, List.drop_zero, List.cons_append, List.nil_append, List.append_eq, List.length_cons, List.length_nil, Nat.reduceAdd, Nat.reduceMul, Nat.reduceSub, Int.reduceAdd, Int.reduceSub, Int.reduceToNat, Int.reduceNeg, Int.reduceMul]) | refine W_plain rfl ?_ | refine W_drawn mixed rfl ?_ | refine and_chk (by kernel_rfl) ?_ | refine k_move rfl rfl ?_ | refine k_assign rfl rfl ?_ | refine k_load rfl rfl rfl rfl ?_ | refine k_store rfl rfl rfl rfl rfl rfl rfl ?_ | refine k_fieldAddr rfl rfl rfl ?_ | (refine k_append rfl rfl rfl ?_ ?_ ?_ rfl ?_ rfl rfl rfl ?_; (first | rfl | exact trivial | (show 0 < _; omega)); (first | rfl | (simp <;> omega)); (first | rfl | (simp <;> omega)); (omega)) | refine k_buildSlice (cs := []) rfl rfl rfl rfl rfl rfl rfl ?_ | refine k_buildSlice rfl rfl rfl rfl rfl rfl rfl ?_ | refine k_nilCheck rfl rfl rfl ?_ | (refine k_subi rfl rfl rfl ?_ ?_; (omega)) | (refine k_geqT rfl rfl rfl ?_ ?_; (omega)) | (refine k_geqF rfl rfl rfl ?_ ?_; (omega)) | refine W_yes rfl ?_ | refine W_no rfl ?_)
  refine W_loopW (fun n' ρ m nx => ∃ (j q : Nat) (x : List D) (e : Int), j ≤ sz ∧ e = (sz : Int) - 1 - j ∧ q = L + j ∧ x = bs (l ++ (toB sz n).take j) ∧ n' = sz - j ∧ ρ = [(6, .int .i64 e), (0, .ptr 0 0), (1, .int .i64 n)] ∧ m = [(0, some (.var 138 [.slice (.own 2) q x])), (2, some (.tok 5 1))] ∧ nx = 3)
    ⟨_, _, _, _, (weak_ren (fun l => if l = 2 then 1 else l) (by repeat (first | exact trivial | refine ⟨⟨_, rfl, (by first | exact Up.refl _ | exact Up.fz _ _ _ | exact Up.nil _ | exact Up.nrs _ | assumption), rfl⟩, ?_⟩)) (by repeat (first | exact trivial | refine ⟨⟨rfl, _, rfl, (by first | exact Ups.refl _ | assumption | ((repeat refine Ups.cons (by first | exact Up.refl _ | exact Up.nil _ | exact Up.fz _ _ _) ?_); exact Ups.nil)), rfl⟩, ?_⟩ | refine ⟨⟨rfl, rfl⟩, ?_⟩ | refine ⟨⟨rfl, _, rfl, cls_ups _ _ (by assumption), cls_lalls _ _ (by assumption)⟩, ?_⟩)) (by first | decide | simp) (by first | decide | omega) (fun l h => idB_id (f := fun l => if l = 2 then 1 else l) rfl l h)), 0, L, z, (sz : Int) - 1, Nat.zero_le _, by simp, rfl, by simp [hz], rfl, rfl, rfl, rfl⟩ ?_
  rintro n' ρ m nx ⟨j, q, x, e, hj, he, hq, hx, rfl, rfl, rfl, rfl⟩
  by_cases hlt : j < sz
  · have e1 : IntKind.i64.wrap (8 * e) = ((8 * (sz - 1 - j) : Nat) : Int) := by rw [i64_in _ (by omega)]; omega
    have e2 := shr_nat n (sz - 1 - j) (by omega)
    have e3 := conv_byte n (sz - 1 - j)
    have hxl : q * 1 = x.length := by rw [hx, bs_len, List.length_append, List.length_take, toB_len]; omega
    have hx2 : x ++ [D.int .u8 ((UInt8.ofNat (n / 256 ^ (sz - 1 - j))).toNat : Int)] = bs (l ++ (toB sz n).take (j + 1)) := by
      rw [hx, ← toB_snoc sz n j hlt, ← List.append_assoc]; unfold bs; rw [List.map_append (l₁ := l ++ _)]; rfl
    generalize (UInt8.ofNat (n / 256 ^ (sz - 1 - j))).toNat = c at *
    generalize n / 256 ^ (sz - 1 - j) = v at *
    repeat (first | with_reducible (first | refine W_seq ?_ | refine q_then ?_ | refine q_thenx ?_ | refine W_block ?_ | refine q_block ?_ | refine q_blockx ?_ | refine W_skip ?_ | refine W_exit ?_) | (with_reducible refine R_nil ?_; try dsimp only [slots0, slots_ud, cells_U, agg_ud, drop0, dropS, takeS, take0, ud_nil, take_ud, take_ud0, drop_ud, drop_ud0, take_udk, D.cells, D.fz, D.fzs, List.take_succ_cons, List.take_zero, List.drop_succ_cons, List.drop_zero, List.cons_append, List.nil_append, List.append_eq, List.length_cons, List.length_nil, Nat.reduceAdd, Nat.reduceMul, Nat.reduceSub, Int.reduceAdd, Int.reduceSub, Int.reduceToNat, Int.reduceNeg, Int.reduceMul]) | refine W_plain rfl ?_ | refine W_drawn mixed rfl ?_ | refine and_chk (by kernel_rfl) ?_ | refine k_buildSlice (cs := [.int .u8 (c : Int)]) rfl rfl rfl rfl rfl rfl rfl ?_ | (refine k_append rfl rfl rfl ?_ hxl rfl rfl ?_ rfl rfl hx2 ?_; (rfl); (omega)) | refine k_move rfl rfl ?_ | refine k_assign rfl rfl ?_ | refine k_load rfl rfl rfl rfl ?_ | refine k_store rfl rfl rfl rfl rfl rfl rfl ?_ | refine k_fieldAddr rfl rfl rfl ?_ | refine k_mul rfl rfl rfl e1 ?_ | (refine k_shr rfl rfl rfl ?_ e2 ?_; (omega)) | refine k_conv rfl rfl e3 ?_ | (refine k_append rfl rfl rfl ?_ ?_ ?_ rfl ?_ rfl rfl rfl ?_; (first | rfl | exact trivial | (show 0 < _; omega)); (first | rfl | (simp <;> omega)); (first | rfl | (simp <;> omega)); (omega)) | refine k_buildSlice (cs := []) rfl rfl rfl rfl rfl rfl rfl ?_ | refine k_buildSlice rfl rfl rfl rfl rfl rfl rfl ?_ | refine k_nilCheck rfl rfl rfl ?_ | (refine k_subi rfl rfl rfl ?_ ?_; (omega)) | (refine k_geqT rfl rfl rfl ?_ ?_; (omega)) | (refine k_geqF rfl rfl rfl ?_ ?_; (omega)) | refine W_yes rfl ?_ | refine W_no rfl ?_)
    exact ⟨sz - (j + 1), _, _, _, (weak_ren (fun l => if l = 2 then 4 else l) (by repeat (first | exact trivial | refine ⟨⟨_, rfl, (by first | exact Up.refl _ | exact Up.fz _ _ _ | exact Up.nil _ | exact Up.nrs _ | assumption), rfl⟩, ?_⟩)) (by repeat (first | exact trivial | refine ⟨⟨rfl, _, rfl, (by first | exact Ups.refl _ | assumption | ((repeat refine Ups.cons (by first | exact Up.refl _ | exact Up.nil _ | exact Up.fz _ _ _) ?_); exact Ups.nil)), rfl⟩, ?_⟩ | refine ⟨⟨rfl, rfl⟩, ?_⟩ | refine ⟨⟨rfl, _, rfl, cls_ups _ _ (by assumption), cls_lalls _ _ (by assumption)⟩, ?_⟩)) (by first | decide | simp) (by first | decide | omega) (fun l h => idB_id (f := fun l => if l = 2 then 4 else l) rfl l h)), by omega, j + 1, q + 1, _, e - 1, by omega, by omega, by omega, rfl, rfl, rfl, rfl, rfl⟩
  · have ej : j = sz := by omega
    subst ej
    have hx' : x = z2 := by rw [hx, ← hz2, List.take_of_length_le (by rw [toB_len]; exact Nat.le_refl _)]
    have hq' : q = L2 := by omega
    subst hx' hq'
    repeat (first | with_reducible (first | refine W_seq ?_ | refine q_then ?_ | refine q_thenx ?_ | refine W_block ?_ | refine q_block ?_ | refine q_blockx ?_ | refine W_skip ?_ | refine W_exit ?_) | (with_reducible refine R_nil ?_; try dsimp only [slots0, slots_ud, cells_U, agg_ud, drop0, dropS, takeS, take0, ud_nil, take_ud, take_ud0, drop_ud, drop_ud0, take_udk, D.cells, D.fz, D.fzs, List.take_succ_cons, List.take_zero, List.drop_succ_cons, List.drop_zero, List.cons_append, List.nil_append, List.append_eq, List.length_cons, List.length_nil, Nat.reduceAdd, Nat.reduceMul, Nat.reduceSub, Int.reduceAdd, Int.reduceSub, Int.reduceToNat, Int.reduceNeg, Int.reduceMul]) | refine W_plain rfl ?_ | refine W_drawn mixed rfl ?_ | refine and_chk (by kernel_rfl) ?_ | refine k_move rfl rfl ?_ | refine k_assign rfl rfl ?_ | refine k_load rfl rfl rfl rfl ?_ | refine k_store rfl rfl rfl rfl rfl rfl rfl ?_ | refine k_fieldAddr rfl rfl rfl ?_ | (refine k_append rfl rfl rfl ?_ ?_ ?_ rfl ?_ rfl rfl rfl ?_; (first | rfl | exact trivial | (show 0 < _; omega)); (first | rfl | (simp <;> omega)); (first | rfl | (simp <;> omega)); (omega)) | refine k_buildSlice (cs := []) rfl rfl rfl rfl rfl rfl rfl ?_ | refine k_buildSlice rfl rfl rfl rfl rfl rfl rfl ?_ | refine k_nilCheck rfl rfl rfl ?_ | (refine k_subi rfl rfl rfl ?_ ?_; (omega)) | (refine k_geqT rfl rfl rfl ?_ ?_; (omega)) | (refine k_geqF rfl rfl rfl ?_ ?_; (omega)) | refine W_yes rfl ?_ | refine W_no rfl ?_)
    first | exact (q_endf (fun l => l) 3 (RetsF.r0 ) rfl (by repeat (first | exact trivial | refine ⟨⟨rfl, _, rfl, Ups.refl _, rfl⟩, ?_⟩ | refine ⟨⟨rfl, rfl⟩, ?_⟩)) rfl rfl rfl).2 | exact (q_endf (fun l => l) 3 (RetsF.r0 ) rfl (by repeat (first | exact trivial | refine ⟨⟨rfl, _, rfl, Ups.refl _, rfl⟩, ?_⟩ | refine ⟨⟨rfl, rfl⟩, ?_⟩)) rfl rfl rfl).1
theorem bytes_ok (l c : List UInt8) (L m : Nat) (hL : l.length = L) (hm : c.length = m) (hsm : L ≤ 8000000) (hsm2 : m ≤ 8000000) (L2 : Nat) (hL2 : L + m = L2) (z z2 : List D) (hz : bs l = z) (hz2 : bs (l ++ c) = z2) :
    Fn Try.prog 67 2 [.ptr 0 0, .slice .frozen m (bs c)] (penM 1 L z) (.tup []) (penM 2 L2 z2) := by
  unfold penM
  have hxl : L * 1 = z.length := by rw [← hz, bs_len, hL]; omega
  have hcl : m * 1 = (bs c).length := by rw [bs_len, hm]; omega
  have hcc : z ++ bs c = z2 := by rw [← hz, ← hz2]; unfold bs; rw [List.map_append]
  refine fn_intro Try.func67 rfl Try.ntmps67 rfl fun B => ?_
  repeat (first | with_reducible (first | fail) | (with_reducible refine R_nil ?_; try dsimp only [slots0, slots_ud, cells_U, agg_ud, drop0, dropS, takeS, take0, ud_nil, take_ud, take_ud0, drop_ud, drop_ud0, take_udk, D.cells, D.fz, D.fzs, List.take_succ_cons, List.take_zero, List.drop_succ_cons, List.drop_zero, List.cons_append, List.nil_append, List.append_eq, List.length_cons, List.length_nil, Nat.reduceAdd, Nat.reduceMul, Nat.reduceSub, Int.reduceAdd, Int.reduceSub, Int.reduceToNat, Int.reduceNeg, Int.reduceMul]) | refine W_plain rfl ?_ | refine and_chk (by kernel_rfl) ?_ | (refine k_append rfl rfl rfl ?_ hxl hcl rfl ?_ rfl hL2 hcc ?_; (rfl); (omega)) | refine k_move rfl rfl ?_ | refine k_load rfl rfl rfl rfl ?_ | refine k_store rfl rfl rfl rfl rfl rfl rfl ?_ | refine k_fieldAddr rfl rfl rfl ?_ | (refine k_append rfl rfl rfl ?_ ?_ ?_ rfl ?_ rfl rfl rfl ?_; (first | rfl | exact trivial | (show 0 < _; omega)); (first | rfl | (simp <;> omega)); (first | rfl | (simp <;> omega)); (omega)) | refine k_nilCheck rfl rfl rfl ?_)
  first | exact (q_endf (fun l => l) 3 (RetsF.r0 ) rfl (by repeat (first | exact trivial | refine ⟨⟨rfl, _, rfl, Ups.refl _, rfl⟩, ?_⟩ | refine ⟨⟨rfl, rfl⟩, ?_⟩)) rfl rfl rfl).2 | exact (q_endf (fun l => l) 3 (RetsF.r0 ) rfl (by repeat (first | exact trivial | refine ⟨⟨rfl, _, rfl, Ups.refl _, rfl⟩, ?_⟩ | refine ⟨⟨rfl, rfl⟩, ?_⟩)) rfl rfl rfl).1
end Go.Proofs.Ytcfefmbbbfdppaa
namespace Go.Proofs.Ytcfefmbbbfdppaa
open Go.RowKit Go.Lib Go.IntWalk
set_option linter.unusedVariables false
set_option maxRecDepth 100000
structure BodyT where
  t : Nat
  n : Nat
  c : Nat
  e : List UInt8
  u : Nat
  v : Nat
  l : List UInt8
structure BodyT.ok (b : BodyT) : Prop where
  t : b.t ≤ 1099511627776
  n : b.n ≤ 4294967295
  c : b.c ≤ 65535
  e : b.e.length = 32
  u : b.u ≤ 1099511627776
  v : b.v ≤ 255
  l : b.l.length ≤ 300
def BodyT.cells (b : BodyT) : List D := .int .i64 b.t :: .int .i64 b.n :: .int .i64 b.c :: (bs b.e ++ [.int .i64 b.u, .int .i64 b.v, .slice .frozen b.l.length (bs b.l)])
def BodyT.out (b : BodyT) : List UInt8 := toB 8 b.t ++ toB 4 b.n ++ toB 2 b.c ++ b.e ++ toB 8 b.u ++ toB 1 b.v ++ b.l
theorem BodyT.out_len (b : BodyT) (h : b.ok) : b.out.length = 55 + b.l.length := by
  unfold BodyT.out
  simp only [List.length_append, toB_len, h.e]
section
variable {b : BodyT} (h : b.e.length = 32)
include h
theorem bd_len : b.cells.length = 38 := by
  unfold BodyT.cells
  simp only [List.length_cons, List.length_append, bs_len, h, List.length_nil]
theorem bd_all (ze : List D) : cut ⟨true, 38, ze⟩ 0 b.cells = some (.agg b.cells) := by
  unfold cut
  simp only [cond_true, Nat.zero_add, List.drop_zero]
  rw [bd_len h, List.take_of_length_le (by rw [bd_len h]; exact Nat.le_refl _)]
  rfl
theorem bd_put (cs : List D) (hc : cs.length = 38) : splice 0 b.cells cs = some b.cells := by
  unfold splice
  rw [Nat.ble_eq_true_of_le (by rw [bd_len h, hc]; exact Nat.le_refl _), cond_true, Nat.zero_add, List.drop_of_length_le (by rw [bd_len h, hc]; exact Nat.le_refl _)]
  simp
theorem bd_at (i : Nat) (d : D) (hd : [D.int .i64 b.u, .int .i64 b.v, .slice .frozen b.l.length (bs b.l)][i]? = some d) (ze : List D) (j : Nat) (hj : j = 35 + i) : cut ⟨false, 1, ze⟩ j b.cells = some d := by
  subst hj
  unfold cut BodyT.cells
  simp only [cond_false]
  rw [show 35 + i = 32 + i + 1 + 1 + 1 from by omega, List.getElem?_cons_succ, List.getElem?_cons_succ, List.getElem?_cons_succ, List.getElem?_append_right (by rw [bs_len, h]; omega), bs_len, h, Nat.add_sub_cancel_left]
  exact hd
theorem bd_e (ze : List D) : cut ⟨true, 32, ze⟩ 3 b.cells = some (.agg (bs b.e)) := by
  unfold cut
  simp only [cond_true]
  rw [bd_len h]
  have e2 : (b.cells.drop 3).take 32 = bs b.e := by
    unfold BodyT.cells
    rw [List.drop_succ_cons, List.drop_succ_cons, List.drop_succ_cons, List.drop_zero, List.take_append_of_le_length (by rw [bs_len, h]; exact Nat.le_refl _), List.take_of_length_le (by rw [bs_len, h]; exact Nat.le_refl _)]
  rw [e2]; rfl
theorem bd_dat (i : Nat) (d : D) (hd : [D.int .i64 b.u, .int .i64 b.v, .slice .frozen b.l.length (bs b.l)][i]? = some d) (ze : List D) (j : Nat) (hj : j = 35 + i) : cut ⟨false, 1, ze⟩ 0 (b.cells.drop j) = some d := by
  have := bd_at h i d hd ze j hj
  unfold cut at this ⊢
  simp only [cond_false, List.getElem?_drop, Nat.add_zero] at this ⊢
  exact this
omit h in
theorem bd_sl (h : b.e.length = 32) : ((b.cells.drop 3).drop ((0 : Int).toNat * 1)).take (32 * 1) = bs b.e := by
  unfold BodyT.cells
  rw [List.drop_succ_cons, List.drop_succ_cons, List.drop_succ_cons, List.drop_zero]
  show (List.drop 0 _).take 32 = _
  rw [List.drop_zero, List.take_append_of_le_length (by rw [bs_len, h]; exact Nat.le_refl _), List.take_of_length_le (by rw [bs_len, h]; exact Nat.le_refl _)]
end
theorem bs_frz (l : List UInt8) (r : List D) : D.fzs (bs l ++ r) = bs l ++ D.fzs r := by
  induction l with
  | nil => rfl
  | cons a l ih => show D.int .u8 _ :: D.fzs (bs l ++ r) = _; rw [ih]; rfl
theorem bs_cls_app (l : List UInt8) (r : List D) : D.cls (bs l ++ r) = D.cls r := by
  induction l with
  | nil => rfl
  | cons a l ih => show (true && D.cls (bs l ++ r)) = _; rw [ih]; rfl
theorem bd_fz (b : BodyT) : D.fzs [D.agg b.cells] = [D.agg b.cells] := by
  show [D.agg (_ :: _ :: _ :: D.fzs (bs b.e ++ _))] = _
  rw [bs_frz]; rfl
theorem bd_cls (b : BodyT) : D.cls b.cells = true := by
  show (true && (true && (true && D.cls (bs b.e ++ _)))) = true
  rw [bs_cls_app]; rfl
theorem bd_cl (b : BodyT) : D.cls [D.agg b.cells] = true := by
  show (D.cls b.cells && true) = true
  rw [bd_cls]; rfl
abbrev ff (a b : Nat) : Nat → Nat := fun l => cond (Nat.beq l 2) b (cond (Nat.beq l 1) a l)
theorem in_ok (n m : Int) (h0 : 0 ≤ n) (h1 : n ≤ m) : Pur Try.prog 65 [.int .i64 n, .int .i64 m] (.bool true) := by
  have e1 : decide (n ≥ 0) = true := by simp; omega
  have e2 : decide (n ≤ m) = true := by simp; omega
  refine pur_intro Try.func65 rfl Try.ntmps65 rfl (by first | rfl | assumption | exact bs_cl _) fun B => ?_
  repeat (first | with_reducible (first | refine W_seq ?_ | refine q_then ?_ | refine W_ret ?_) | (with_reducible refine R_nil ?_; try dsimp only [slots0, slots_ud, cells_U, agg_ud, drop0, dropS, takeS, take0, ud_nil, take_ud, take_ud0, drop_ud, drop_ud0, take_udk, D.cells, D.fz, D.fzs, List.take_succ_cons, List.take_zero, List.drop_succ_cons, List.drop_zero, List.cons_append, List.nil_append, List.append_eq, List.length_cons, List.length_nil, Nat.reduceAdd, Nat.reduceMul, Nat.reduceSub, Int.reduceAdd, Int.reduceSub, Int.reduceToNat, Int.reduceNeg, Int.reduceMul]) | refine W_plain rfl ?_ | refine and_chk (by kernel_rfl) ?_ | refine k_move rfl rfl ?_ | refine k_assign rfl rfl ?_ | refine k_geq rfl rfl rfl e1 ?_ | refine k_leq rfl rfl rfl e2 ?_ | refine k_pickT rfl rfl rfl ?_)
  (first | with_reducible refine q_endr ?_); refine rets1 Try.results65 (by first | exact RetV.tmp _ _ rfl | exact RetV.cell _ _ _ _ _ _ _ _ inferInstance rfl rfl rfl) ?_
  rfl
theorem bCheck_ok (b : BodyT) (h : b.ok) : Pur Try.prog 59 [.agg b.cells] (.int .i64 0) := by
  have i1 := in_ok b.t 1099511627776 (by omega) (by have := h.t; omega)
  have i2 := in_ok b.n 4294967295 (by omega) (by have := h.n; omega)
  have i3 := in_ok b.c 65535 (by omega) (by have := h.c; omega)
  have i4 := in_ok b.u 1099511627776 (by omega) (by have := h.u; omega)
  have i5 := in_ok b.v 255 (by omega) (by have := h.v; omega)
  have hl := h.l
  have hu := bd_at h.e 0 _ rfl
  have hv := bd_at h.e 1 _ rfl
  have hld := bd_at h.e 2 _ rfl
  have hcl : D.cl (.agg b.cells) = true := bd_cls b
  have hlen := bd_len h.e
  refine pur_intro Try.func59 rfl Try.ntmps59 rfl (by first | rfl | assumption | exact bs_cl _) fun B => ?_
  repeat (first | with_reducible (first | refine W_seq ?_ | refine q_then ?_ | refine W_ret ?_ | refine W_skip ?_) | (with_reducible refine R_nil ?_; try dsimp only [slots0, slots_ud, cells_U, agg_ud, drop0, dropS, takeS, take0, ud_nil, take_ud, take_ud0, drop_ud, drop_ud0, take_udk, D.cells, D.fz, D.fzs, List.take_succ_cons, List.take_zero, List.drop_succ_cons, List.drop_zero, List.cons_append, List.nil_append, List.append_eq, List.length_cons, List.length_nil, Nat.reduceAdd, Nat.reduceMul, Nat.reduceSub, Int.reduceAdd, Int.reduceSub, Int.reduceToNat, Int.reduceNeg, Int.reduceMul]) | refine W_plain rfl ?_ | refine and_chk (by kernel_rfl) ?_ | refine k_load rfl rfl rfl (by exact hu _ _ rfl) ?_ | refine k_load rfl rfl rfl (by exact hv _ _ rfl) ?_ | refine k_load rfl rfl rfl (by exact hld _ _ rfl) ?_ | refine k_move rfl rfl ?_ | refine k_assign rfl rfl ?_ | refine k_load rfl rfl rfl rfl ?_ | refine k_box rfl rfl rfl ?_ | refine k_fieldAddr rfl rfl rfl ?_ | refine k_callv rfl i1 rfl rfl rfl rfl rfl ?_ | refine k_callv rfl i2 rfl rfl rfl rfl rfl ?_ | refine k_callv rfl i3 rfl rfl rfl rfl rfl ?_ | refine k_callv rfl i4 rfl rfl rfl rfl rfl ?_ | refine k_callv rfl i5 rfl rfl rfl rfl rfl ?_ | refine k_len rfl rfl ?_ | refine k_pickF rfl rfl rfl ?_ | refine k_not rfl rfl rfl ?_ | (refine k_gtrF rfl rfl rfl ?_ ?_; (omega)) | refine W_no rfl ?_)
  (first | with_reducible refine q_endr ?_); refine rets1 Try.results59 (by first | exact RetV.tmp _ _ rfl | exact RetV.cell _ _ _ _ _ _ _ _ inferInstance rfl rfl rfl) ?_
  rfl
set_option maxHeartbeats 4000000 in
theorem body_ok (l : List UInt8) (L : Nat) (hL : l.length = L) (hsm : L ≤ 1000000) (b : BodyT) (h : b.ok) (L2 : Nat) (hL2 : L + (55 + b.l.length) = L2) (z z2 : List D) (hz : bs l = z) (hz2 : bs (l ++ b.out) = z2) :
    Fn Try.prog 63 2 [.ptr 0 0, .agg b.cells] (penM 1 L z) (.tup []) (penM 2 L2 z2) := by
  have c1 := number_ok l L hL b.t 8 (L + 8) (by decide) (by decide) (by have := h.t; omega) (by omega) rfl z _ hz rfl
  have c2 := number_ok (l ++ toB 8 b.t) (L + 8) (by simp [hL, toB_len]) b.n 4 (L + 8 + 4) (by decide) (by decide) (by have := h.n; omega) (by omega) rfl _ _ rfl rfl
  have c3 := number_ok (l ++ toB 8 b.t ++ toB 4 b.n) (L + 8 + 4) (by simp [hL, toB_len] <;> omega) b.c 2 (L + 8 + 4 + 2) (by decide) (by decide) (by have := h.c; omega) (by omega) rfl _ _ rfl rfl
  have c4 := bytes_ok (l ++ toB 8 b.t ++ toB 4 b.n ++ toB 2 b.c) b.e (L + 8 + 4 + 2) 32 (by simp [hL, toB_len] <;> omega) h.e (by omega) (by decide) (L + 8 + 4 + 2 + 32) rfl _ _ rfl rfl
  have c5 := number_ok (l ++ toB 8 b.t ++ toB 4 b.n ++ toB 2 b.c ++ b.e) (L + 8 + 4 + 2 + 32) (by simp [hL, toB_len, h.e] <;> omega) b.u 8 (L + 8 + 4 + 2 + 32 + 8) (by decide) (by decide) (by have := h.u; omega) (by omega) rfl _ _ rfl rfl
  have c6 := number_ok (l ++ toB 8 b.t ++ toB 4 b.n ++ toB 2 b.c ++ b.e ++ toB 8 b.u) (L + 8 + 4 + 2 + 32 + 8) (by simp [hL, toB_len, h.e] <;> omega) b.v 1 (L + 8 + 4 + 2 + 32 + 8 + 1) (by decide) (by decide) (by have := h.v; omega) (by omega) rfl _ _ rfl rfl
  have c7 := bytes_ok (l ++ toB 8 b.t ++ toB 4 b.n ++ toB 2 b.c ++ b.e ++ toB 8 b.u ++ toB 1 b.v) b.l (L + 8 + 4 + 2 + 32 + 8 + 1) b.l.length (by simp [hL, toB_len, h.e] <;> omega) rfl (by omega) (by have := h.l; omega) L2 (by omega) _ z2 rfl (by rw [← hz2]; unfold BodyT.out; simp only [List.append_assoc])
  generalize bs (l ++ toB 8 b.t ++ toB 4 b.n ++ toB 2 b.c ++ b.e ++ toB 8 b.u ++ toB 1 b.v) = z6 at *
  generalize bs (l ++ toB 8 b.t ++ toB 4 b.n ++ toB 2 b.c ++ b.e ++ toB 8 b.u) = z5 at *
  generalize bs (l ++ toB 8 b.t ++ toB 4 b.n ++ toB 2 b.c ++ b.e) = z4 at *
  generalize bs (l ++ toB 8 b.t ++ toB 4 b.n ++ toB 2 b.c) = z3 at *
  generalize bs (l ++ toB 8 b.t ++ toB 4 b.n) = z2' at *
  generalize bs (l ++ toB 8 b.t) = z1 at *
  unfold penM at *
  have hlen := bd_len h.e
  have hu := bd_dat h.e 0 _ rfl
  have hv := bd_dat h.e 1 _ rfl
  have hld := bd_dat h.e 2 _ rfl
  have hsl := bd_sl h.e
  have hcle : D.cls (bs b.e) = true := bs_cl _
  have hdl : Nat.ble (32 * 1) (b.cells.drop 3).length = true := by rw [List.length_drop, hlen]; rfl
  refine fn_intro Try.func63 rfl Try.ntmps63 rfl fun B => ?_
  iterate 4 (first | with_reducible (first | refine W_seq ?_ | refine q_then ?_) | (with_reducible refine R_nil ?_; try dsimp only [slots0, slots_ud, cells_U, agg_ud, drop0, dropS, takeS, take0, ud_nil, take_ud, take_ud0, drop_ud, drop_ud0, take_udk, D.cells, D.fz, D.fzs, List.take_succ_cons, List.take_zero, List.drop_succ_cons, List.drop_zero, List.cons_append, List.nil_append, List.append_eq, List.length_cons, List.length_nil, Nat.reduceAdd, Nat.reduceMul, Nat.reduceSub, Int.reduceAdd, Int.reduceSub, Int.reduceToNat, Int.reduceNeg, Int.reduceMul]) | refine W_plain rfl ?_ | refine and_chk (by kernel_rfl) ?_ | refine k_move rfl rfl ?_ | refine k_box rfl rfl rfl ?_ | (refine k_append rfl rfl rfl ?_ ?_ ?_ rfl ?_ rfl rfl rfl ?_; (first | rfl | exact trivial | (show 0 < _; omega)); (first | rfl | (simp <;> omega)); (first | rfl | (simp <;> omega)); (omega)) | refine k_loade rfl rfl rfl ?_ | refine k_fieldAddre rfl rfl rfl rfl ?_)
  refine W_of_weak (weak_fix 2 b.cells rfl (bd_cls b) (by repeat (first | exact trivial | refine ⟨⟨_, rfl, .ptr0⟩, ?_⟩ | refine ⟨⟨_, rfl, .refl _⟩, ?_⟩ | refine ⟨⟨_, rfl, .ptr _ rfl⟩, ?_⟩ | refine ⟨⟨_, rfl, .ms _ _ _ rfl⟩, ?_⟩)) (by repeat (first | exact trivial | refine ⟨⟨rfl, rfl, rfl⟩, ?_⟩)) (ρ1 := [(3, .eptr b.cells), (0, .ptr 0 0)]) (m1 := [(0, some (.var 138 [.slice (.own 1) L z])), (1, some (.tok 5 1))])) ?_
  repeat (first | with_reducible (first | refine W_seq ?_ | refine q_then ?_) | (with_reducible refine R_nil ?_; try dsimp only [slots0, slots_ud, cells_U, agg_ud, drop0, dropS, takeS, take0, ud_nil, take_ud, take_ud0, drop_ud, drop_ud0, take_udk, D.cells, D.fz, D.fzs, List.take_succ_cons, List.take_zero, List.drop_succ_cons, List.drop_zero, List.cons_append, List.nil_append, List.append_eq, List.length_cons, List.length_nil, Nat.reduceAdd, Nat.reduceMul, Nat.reduceSub, Int.reduceAdd, Int.reduceSub, Int.reduceToNat, Int.reduceNeg, Int.reduceMul]) | refine W_plain rfl ?_ | refine and_chk (by kernel_rfl) ?_ | refine k_fieldAddre rfl rfl rfl (by rw [hlen]; rfl) ?_ | refine k_loade rfl rfl (by exact hu _ _ rfl) ?_ | refine k_loade rfl rfl (by exact hv _ _ rfl) ?_ | refine k_loade rfl rfl (by exact hld _ _ rfl) ?_ | (refine k_sliceEt rfl rfl rfl ⟨?_, ?_⟩ rfl (by exact hdl) rfl (by exact hsl) ?_; (decide); (decide)) | refine k_move rfl rfl ?_ | refine k_box rfl rfl rfl ?_ | refine k_callf (ff 1 3) [0, 1, 2] (4) rfl (c1) rfl (by first | exact Ups.refl _ | assumption | ((repeat refine Ups.cons (by first | exact Up.refl _ | exact Up.nil _ | exact Up.fz _ _ _) ?_); exact Ups.nil)) (rfl) (by (repeat (first | refine ⟨⟨rfl, _, rfl, (by first | exact Ups.refl _ | assumption | ((repeat refine Ups.cons (by first | exact Up.refl _ | exact Up.nil _ | exact Up.fz _ _ _) ?_); exact Ups.nil)), rfl⟩, ?_⟩ | refine ⟨⟨rfl, rfl⟩, ?_⟩)); exact trivial) rfl rfl rfl rfl (rfl) (rfl) rfl rfl rfl rfl ?_ | refine k_callf (ff 3 4) [0, 1, 2] (5) rfl (c2) rfl (by first | exact Ups.refl _ | assumption | ((repeat refine Ups.cons (by first | exact Up.refl _ | exact Up.nil _ | exact Up.fz _ _ _) ?_); exact Ups.nil)) (rfl) (by (repeat (first | refine ⟨⟨rfl, _, rfl, (by first | exact Ups.refl _ | assumption | ((repeat refine Ups.cons (by first | exact Up.refl _ | exact Up.nil _ | exact Up.fz _ _ _) ?_); exact Ups.nil)), rfl⟩, ?_⟩ | refine ⟨⟨rfl, rfl⟩, ?_⟩)); exact trivial) rfl rfl rfl rfl (rfl) (rfl) rfl rfl rfl rfl ?_ | refine k_callf (ff 4 5) [0, 1, 2] (6) rfl (c3) rfl (by first | exact Ups.refl _ | assumption | ((repeat refine Ups.cons (by first | exact Up.refl _ | exact Up.nil _ | exact Up.fz _ _ _) ?_); exact Ups.nil)) (rfl) (by (repeat (first | refine ⟨⟨rfl, _, rfl, (by first | exact Ups.refl _ | assumption | ((repeat refine Ups.cons (by first | exact Up.refl _ | exact Up.nil _ | exact Up.fz _ _ _) ?_); exact Ups.nil)), rfl⟩, ?_⟩ | refine ⟨⟨rfl, rfl⟩, ?_⟩)); exact trivial) rfl rfl rfl rfl (rfl) (rfl) rfl rfl rfl rfl ?_ | refine k_callf (ff 5 6) [0, 1, 2] (7) rfl (c4) rfl (by first | exact Ups.refl _ | assumption | ((repeat refine Ups.cons (by first | exact Up.refl _ | exact Up.nil _ | exact Up.fz _ _ _) ?_); exact Ups.nil)) (rfl) (by (repeat (first | refine ⟨⟨rfl, _, rfl, (by first | exact Ups.refl _ | assumption | ((repeat refine Ups.cons (by first | exact Up.refl _ | exact Up.nil _ | exact Up.fz _ _ _) ?_); exact Ups.nil)), rfl⟩, ?_⟩ | refine ⟨⟨rfl, rfl⟩, ?_⟩)); exact trivial) rfl rfl rfl rfl (rfl) (rfl) rfl rfl rfl rfl ?_ | refine k_callf (ff 6 7) [0, 1, 2] (8) rfl (c5) rfl (by first | exact Ups.refl _ | assumption | ((repeat refine Ups.cons (by first | exact Up.refl _ | exact Up.nil _ | exact Up.fz _ _ _) ?_); exact Ups.nil)) (rfl) (by (repeat (first | refine ⟨⟨rfl, _, rfl, (by first | exact Ups.refl _ | assumption | ((repeat refine Ups.cons (by first | exact Up.refl _ | exact Up.nil _ | exact Up.fz _ _ _) ?_); exact Ups.nil)), rfl⟩, ?_⟩ | refine ⟨⟨rfl, rfl⟩, ?_⟩)); exact trivial) rfl rfl rfl rfl (rfl) (rfl) rfl rfl rfl rfl ?_ | refine k_callf (ff 7 8) [0, 1, 2] (9) rfl (c6) rfl (by first | exact Ups.refl _ | assumption | ((repeat refine Ups.cons (by first | exact Up.refl _ | exact Up.nil _ | exact Up.fz _ _ _) ?_); exact Ups.nil)) (rfl) (by (repeat (first | refine ⟨⟨rfl, _, rfl, (by first | exact Ups.refl _ | assumption | ((repeat refine Ups.cons (by first | exact Up.refl _ | exact Up.nil _ | exact Up.fz _ _ _) ?_); exact Ups.nil)), rfl⟩, ?_⟩ | refine ⟨⟨rfl, rfl⟩, ?_⟩)); exact trivial) rfl rfl rfl rfl (rfl) (rfl) rfl rfl rfl rfl ?_ | refine k_callf (ff 8 9) [0, 1, 2] (10) rfl (c7) rfl (by first | exact Ups.refl _ | assumption | ((repeat refine Ups.cons (by first | exact Up.refl _ | exact Up.nil _ | exact Up.fz _ _ _) ?_); exact Ups.nil)) (rfl) (by (repeat (first | refine ⟨⟨rfl, _, rfl, (by first | exact Ups.refl _ | assumption | ((repeat refine Ups.cons (by first | exact Up.refl _ | exact Up.nil _ | exact Up.fz _ _ _) ?_); exact Ups.nil)), rfl⟩, ?_⟩ | refine ⟨⟨rfl, rfl⟩, ?_⟩)); exact trivial) rfl rfl rfl rfl (rfl) (rfl) rfl rfl rfl rfl ?_ | (refine k_append rfl rfl rfl ?_ ?_ ?_ rfl ?_ rfl rfl rfl ?_; (first | rfl | exact trivial | (show 0 < _; omega)); (first | rfl | (simp <;> omega)); (first | rfl | (simp <;> omega)); (omega)) | refine k_loade rfl rfl rfl ?_ | refine k_fieldAddre rfl rfl rfl rfl ?_)
  first | exact (q_endf (ff 1 9) 10 (RetsF.r0 ) rfl (by repeat (first | exact trivial | refine ⟨⟨rfl, _, rfl, Ups.refl _, rfl⟩, ?_⟩ | refine ⟨⟨rfl, rfl⟩, ?_⟩)) rfl rfl rfl).2 | exact (q_endf (ff 1 9) 10 (RetsF.r0 ) rfl (by repeat (first | exact trivial | refine ⟨⟨rfl, _, rfl, Ups.refl _, rfl⟩, ?_⟩ | refine ⟨⟨rfl, rfl⟩, ?_⟩)) rfl rfl rfl).1
theorem ren2 (f : Nat → Nat) {a : D} {ds : List D} (h : D.cls ds = true) : Ups (a.ren f :: ds) (D.rens f (a :: ds)) := by
  show Ups _ (_ :: D.rens f ds)
  rw [(D.cls_ren f (fun _ => true) ds h).1]; exact Ups.refl _
theorem lal2 (p : Nat → Bool) {a : D} {ds : List D} (ha : a.lall p = true) (h : D.cls ds = true) : D.lalls p (a :: ds) = true := by
  show (a.lall p && D.lalls p ds) = true
  rw [ha, (D.cls_ren (fun l => l) p ds h).2]; rfl
abbrev fp (p a b : Nat) : Nat → Nat := fun l => cond (Nat.beq l 2) b (cond (Nat.beq l 1) a (cond (Nat.beq l 0) p l))
set_option maxHeartbeats 4000000 in
theorem pBytes_ok (b : BodyT) (h : b.ok) (n : Nat) (hn : b.out.length = n) : Pur Try.prog 55 [.agg b.cells] (.tup [.slice .frozen n (bs b.out), .int .i64 0]) := by
  have hol := b.out_len h
  have hb := body_ok [] 0 rfl (by decide) b h n (by omega) [] (bs b.out) rfl rfl
  have hc := bCheck_ok b h
  unfold penM at hb
  have hfz := bd_fz b
  have hcl := bd_cl b
  have hlen := bd_len h.e
  have hall := bd_all h.e
  have hput := bd_put h.e
  generalize bs b.out = z at *
  generalize b.cells = x at *
  clear hol h hn
  refine pur_intro Try.func55 rfl Try.ntmps55 rfl (by first | rfl | assumption | exact bs_cl _) fun B => ?_
  refine W_of_weak (weak_tok 5 1) ?_
  repeat (first | with_reducible (first | refine W_seq ?_ | refine q_then ?_ | refine W_ret ?_ | refine W_skip ?_) | (with_reducible refine R_nil ?_; try dsimp only [slots0, slots_ud, cells_U, agg_ud, drop0, dropS, takeS, take0, ud_nil, take_ud, take_ud0, drop_ud, drop_ud0, take_udk, D.cells, D.fz, D.fzs, List.take_succ_cons, List.take_zero, List.drop_succ_cons, List.drop_zero, List.cons_append, List.nil_append, List.append_eq, List.length_cons, List.length_nil, Nat.reduceAdd, Nat.reduceMul, Nat.reduceSub, Int.reduceAdd, Int.reduceSub, Int.reduceToNat, Int.reduceNeg, Int.reduceMul]) | refine W_plain rfl ?_ | refine and_chk (by kernel_rfl) ?_ | refine k_load rfl rfl rfl (hall _) ?_ | refine k_move rfl rfl ?_ | refine k_assign rfl rfl ?_ | refine k_load rfl rfl rfl rfl ?_ | refine k_box rfl rfl rfl ?_ | refine k_fieldAddr rfl rfl rfl ?_ | refine k_build rfl rfl rfl ?_ | refine k_call rfl hc rfl hfz hcl rfl ?_ | refine k_callf (fp 2 0 3) [0, 1, 2] (4) rfl (hb) rfl (ren2 (a := .ptr 0 0) (fp 2 0 3) hcl) (lal2 (a := .ptr 0 0) _ rfl hcl) (by (repeat (first | refine ⟨⟨rfl, _, rfl, (by first | exact Ups.refl _ | assumption | ((repeat refine Ups.cons (by first | exact Up.refl _ | exact Up.nil _ | exact Up.fz _ _ _) ?_); exact Ups.nil)), rfl⟩, ?_⟩ | refine ⟨⟨rfl, rfl⟩, ?_⟩)); exact trivial) rfl rfl rfl rfl (rfl) (rfl) rfl rfl rfl rfl ?_ | (refine k_append rfl rfl rfl ?_ ?_ ?_ rfl ?_ rfl rfl rfl ?_; (first | rfl | exact trivial | (show 0 < _; omega)); (first | rfl | (simp <;> omega)); (first | rfl | (simp <;> omega)); (omega)) | refine k_nilCheck rfl rfl rfl ?_ | (refine k_neqF rfl rfl rfl ?_ ?_; (omega)) | refine W_no rfl ?_)
  (first | with_reducible refine q_endr ?_); refine rets2 Try.results55 (by first | exact RetV.tmp _ _ rfl | exact RetV.cell _ _ _ _ _ _ _ _ inferInstance rfl rfl rfl) (by first | exact RetV.tmp _ _ rfl | exact RetV.cell _ _ _ _ _ _ _ _ inferInstance rfl rfl rfl) ?_ ?_
  · rfl
  · rfl
end Go.Proofs.Ytcfefmbbbfdppaa
namespace Go.Proofs.Ytcfefmbbbfdppaa
open Go.RowKit Go.Lib Go.IntWalk
set_option linter.unusedVariables false
set_option maxRecDepth 100000
def bx (t n c : Int) (e : List UInt8) (tl : List D) : List D := .int .i64 t :: .int .i64 n :: .int .i64 c :: (bs e ++ tl)
section
variable {t n c : Int} {e : List UInt8} (h : e.length = 32)
include h
theorem bx_len (tl : List D) (ht : tl.length = 3) : (bx t n c e tl).length = 38 := by
  unfold bx
  simp only [List.length_cons, List.length_append, bs_len, h, ht]
theorem bx_all (tl : List D) (ht : tl.length = 3) (ze : List D) : cut ⟨true, 38, ze⟩ 0 (bx t n c e tl) = some (.agg (bx t n c e tl)) := by
  unfold cut
  simp only [cond_true, Nat.zero_add, List.drop_zero]
  rw [bx_len h tl ht, List.take_of_length_le (by rw [bx_len h tl ht]; exact Nat.le_refl _)]
  rfl
theorem bx_lay (tl : List D) (ht : tl.length = 3) (cs : List D) (hc : cs.length = 38) : splice 0 (bx t n c e tl) cs = some (bx t n c e tl) := by
  unfold splice
  rw [Nat.ble_eq_true_of_le (by rw [bx_len h tl ht, hc]; exact Nat.le_refl _), cond_true, Nat.zero_add, List.drop_of_length_le (by rw [bx_len h tl ht, hc]; exact Nat.le_refl _)]
  simp
theorem bx_put (a b d x : D) (i : Nat) (tl : List D) (hi : (i = 0 ∧ tl = [x, b, d]) ∨ (i = 1 ∧ tl = [a, x, d]) ∨ (i = 2 ∧ tl = [a, b, x])) (j : Nat) (hj : j = 35 + i) : splice j [x] (bx t n c e [a, b, d]) = some (bx t n c e tl) := by
  subst hj
  unfold splice
  rw [Nat.ble_eq_true_of_le (by rw [bx_len h _ rfl]; simp; omega), cond_true]
  congr 1
  unfold bx
  rw [show 35 + i = 32 + i + 1 + 1 + 1 from by omega, show 32 + i + 1 + 1 + 1 + [x].length = (32 + (i + 1)) + 1 + 1 + 1 from by simp; omega]
  simp only [List.take_succ_cons, List.drop_succ_cons]
  rw [List.take_append, List.drop_append, List.take_of_length_le (by rw [bs_len, h]; omega), List.drop_of_length_le (by rw [bs_len, h]; omega), bs_len, h, Nat.add_sub_cancel_left, Nat.add_sub_cancel_left]
  rcases hi with ⟨rfl, rfl⟩ | ⟨rfl, rfl⟩ | ⟨rfl, rfl⟩ <;> simp
theorem bx_e (a b d : D) : splice 3 (bs e) (.int .i64 t :: .int .i64 n :: .int .i64 c :: (List.replicate 32 (.int .u8 0) ++ [a, b, d])) = some (bx t n c e [a, b, d]) := by
  unfold splice bx
  rw [Nat.ble_eq_true_of_le (by rw [bs_len, h]; exact (by decide : 3 + 32 ≤ 38)), cond_true, bs_len, h]
  rfl
end
end Go.Proofs.Ytcfefmbbbfdppaa
namespace Go.Proofs.Ytcfefmbbbfdppaa
open Go.RowKit Go.Lib Go.IntWalk
set_option linter.unusedVariables false
set_option maxRecDepth 100000
structure BodyI where
  t : Int
  n : Int
  c : Int
  e : List UInt8
  u : Int
  v : Int
  l : List UInt8
def BodyI.cells (b : BodyI) : List D := bx b.t b.n b.c b.e [.int .i64 b.u, .int .i64 b.v, .slice .frozen b.l.length (bs b.l)]
theorem bx_fz (t n c : Int) (e : List UInt8) (a b : D) (k : Tok) (m : Nat) (z : List D) : Up (.agg (bx t n c e [a, b, .slice k m z])) (.agg (bx t n c e [a, b, .slice .frozen m z])) := by
  refine Up.agg _ _ (by unfold bx; simp) fun i d d' hd hd' => ?_
  have e1 : ∀ s : D, bx t n c e [a, b, s] = bx t n c e [a, b] ++ [s] := fun s => by unfold bx; simp
  rw [e1] at hd hd'
  rcases Nat.lt_or_ge i (bx t n c e [a, b]).length with h | h
  · rw [List.getElem?_append_left h] at hd hd'
    rw [hd] at hd'
    cases hd'
    exact Up.refl _
  · rw [List.getElem?_append_right h] at hd hd'
    generalize i - _ = j at hd hd'
    match j with
    | 0 =>
      simp at hd hd'
      subst hd; subst hd'
      exact Up.fz _ _ _
    | j + 1 => simp at hd
theorem BodyI.cl (b : BodyI) : D.cl (.agg b.cells) = true := by
  show (true && (true && (true && D.cls (bs b.e ++ _)))) = true
  rw [bs_cls_app]; rfl
def bodyE (y : Ey) : BodyI × Ey :=
  let r1 := numberE y 8
  let r2 := numberE r1.2 4
  let r3 := numberE r2.2 2
  let r4 := takeE r3.2 32
  let r5 := numberE r4.2 8
  let r6 := numberE r5.2 1
  (⟨r1.1, r2.1, r3.1, r4.1, r5.1, r6.1, r6.2.1⟩, r6.2)
theorem takeE_le (y : Ey) (n : Nat) : (takeE y n).2.1.length ≤ y.1.length := by
  unfold takeE
  split
  · simp
  · simp
theorem numberE_le (y : Ey) (n : Nat) : (numberE y n).2.1.length ≤ y.1.length := takeE_le y n
set_option maxHeartbeats 8000000 in
theorem eBody_ok (y : Ey) (hy : y.1.length ≤ 140737488351232) : Fn Try.prog 47 1 [.ptr 0 0] (eyM y) (.agg (bodyE y).1.cells) (eyM (bodyE y).2) := by
  unfold bodyE
  dsimp only
  have c1 := eNumber_ok y 8 (by decide) hy
  have l1 := numberE_le y 8
  generalize numberE y 8 = r1 at *
  obtain ⟨t, y1⟩ := r1
  dsimp only at c1 l1 ⊢
  have c2 := eNumber_ok y1 4 (by decide) (by omega)
  have l2 := numberE_le y1 4
  generalize numberE y1 4 = r2 at *
  obtain ⟨n, y2⟩ := r2
  dsimp only at c2 l2 ⊢
  have c3 := eNumber_ok y2 2 (by decide) (by omega)
  have l3 := numberE_le y2 2
  generalize numberE y2 2 = r3 at *
  obtain ⟨c, y3⟩ := r3
  dsimp only at c3 l3 ⊢
  have c4 := eWord_ok y3 (by omega)
  have l4 := takeE_le y3 32
  have w4 := takeE_len y3 32
  generalize takeE y3 32 = r4 at *
  obtain ⟨e, y4⟩ := r4
  dsimp only at c4 l4 w4 ⊢
  have c5 := eNumber_ok y4 8 (by decide) (by omega)
  have l5 := numberE_le y4 8
  generalize numberE y4 8 = r5 at *
  obtain ⟨u, y5⟩ := r5
  dsimp only at c5 l5 ⊢
  have c6 := eNumber_ok y5 1 (by decide) (by omega)
  have l6 := numberE_le y5 1
  generalize numberE y5 1 = r6 at *
  obtain ⟨v, y6⟩ := r6
  dsimp only at c6 l6 ⊢
  have l6' : y6.1.length ≤ 140737488351232 := by omega
  clear l1 l2 l3 l4 l5 l6
  have hcl := BodyI.cl ⟨t, n, c, e, u, v, y6.1⟩
  unfold BodyI.cells at hcl ⊢
  dsimp only at hcl ⊢
  have hL6 : y6.1.length * 1 = (bs y6.1).length := by rw [bs_len]; omega
  unfold eyM eyC at *
  generalize bs y6.1 = z6 at *
  generalize y6.1.length = L6 at *
  generalize y6.2 = k6 at *
  generalize bs y5.1 = z5 at *
  generalize y5.1.length = L5 at *
  generalize y5.2 = k5 at *
  generalize bs y4.1 = z4 at *
  generalize y4.1.length = L4 at *
  generalize y4.2 = k4 at *
  generalize bs y3.1 = z3 at *
  generalize y3.1.length = L3 at *
  generalize y3.2 = k3 at *
  generalize bs y2.1 = z2 at *
  generalize y2.1.length = L2 at *
  generalize y2.2 = k2 at *
  generalize bs y1.1 = z1 at *
  generalize y1.1.length = L1 at *
  generalize y1.2 = k1 at *
  generalize bs y.1 = z at *
  generalize y.1.length = L at *
  generalize y.2 = k0 at *
  have p1 : splice 0 [.int .i64 t] (bx 0 0 0 (List.replicate 32 0) [.int .i64 0, .int .i64 0, .slice .nil 0 []]) = some (bx t 0 0 (List.replicate 32 0) [.int .i64 0, .int .i64 0, .slice .nil 0 []]) := rfl
  have p2 : splice 1 [.int .i64 n] (bx t 0 0 (List.replicate 32 0) [.int .i64 0, .int .i64 0, .slice .nil 0 []]) = some (bx t n 0 (List.replicate 32 0) [.int .i64 0, .int .i64 0, .slice .nil 0 []]) := rfl
  have p3 : splice 2 [.int .i64 c] (bx t n 0 (List.replicate 32 0) [.int .i64 0, .int .i64 0, .slice .nil 0 []]) = some (bx t n c (List.replicate 32 0) [.int .i64 0, .int .i64 0, .slice .nil 0 []]) := rfl
  have p4 : splice 3 (bs e) (bx t n c (List.replicate 32 0) [.int .i64 0, .int .i64 0, .slice .nil 0 []]) = some (bx t n c e [.int .i64 0, .int .i64 0, .slice .nil 0 []]) := bx_e (t := t) (n := n) (c := c) w4 (.int .i64 0) (.int .i64 0) (.slice .nil 0 [])
  have p5 := bx_put (t := t) (n := n) (c := c) w4 (.int .i64 0) (.int .i64 0) (.slice .nil 0 []) (.int .i64 u) 0 _ (.inl ⟨rfl, rfl⟩)
  have p6 := bx_put (t := t) (n := n) (c := c) w4 (.int .i64 u) (.int .i64 0) (.slice .nil 0 []) (.int .i64 v) 1 _ (.inr (.inl ⟨rfl, rfl⟩))
  have p7 := bx_put (t := t) (n := n) (c := c) w4 (.int .i64 u) (.int .i64 v) (.slice .nil 0 []) (.slice (.own 4) L6 z6) 2 _ (.inr (.inr ⟨rfl, rfl⟩))
  have lall := bx_all (t := t) (n := n) (c := c) w4 [.int .i64 u, .int .i64 v, .slice (.own 4) L6 z6] rfl
  have llay := bx_lay (t := t) (n := n) (c := c) w4 [.int .i64 u, .int .i64 v, .slice (.own 4) L6 z6] rfl
  have llen := bx_len (t := t) (n := n) (c := c) w4 [.int .i64 u, .int .i64 v, .slice (.own 4) L6 z6] rfl
  have hup := bx_fz t n c e (.int .i64 u) (.int .i64 v) (.own 4) L6 z6
  have hfull := (D.cl_ren (fun l => l) (below 5) _ hcl).2
  have hren := (D.cl_ren (fun l => l) (fun _ => true) _ hcl).1
  generalize bx t n c e [.int .i64 u, .int .i64 v, .slice (.own 4) L6 z6] = X7 at *
  generalize bx t n c e [.int .i64 u, .int .i64 v, .slice .frozen L6 z6] = X8 at *
  generalize bx t n c e [.int .i64 u, .int .i64 v, .slice .nil 0 []] = X6 at *
  generalize bx t n c e [.int .i64 u, .int .i64 0, .slice .nil 0 []] = X5 at *
  generalize bx t n c e [.int .i64 0, .int .i64 0, .slice .nil 0 []] = X4 at *
  generalize bx t n c (List.replicate 32 0) [.int .i64 0, .int .i64 0, .slice .nil 0 []] = X3 at *
  generalize bx t n 0 (List.replicate 32 0) [.int .i64 0, .int .i64 0, .slice .nil 0 []] = X2 at *
  generalize bx t 0 0 (List.replicate 32 0) [.int .i64 0, .int .i64 0, .slice .nil 0 []] = X1 at *
  have hce : D.cl (.agg (bs e)) = true := bs_cl _
  have hbe : ∀ p : Nat → Bool, D.lall p (.agg (bs e)) = true := fun p => (D.cl_ren (fun l => l) p _ hce).2
  have hbr : D.ren (fun l => l) (.agg (bs e)) = .agg (bs e) := (D.cl_ren (fun l => l) (fun _ => true) _ hce).1
  refine fn_intro Try.func47 rfl Try.ntmps47 rfl fun B => ?_
  repeat (first | with_reducible (first | refine W_seq ?_ | refine q_then ?_ | refine W_ret ?_) | (with_reducible refine R_nil ?_; try dsimp only [slots0, slots_ud, cells_U, agg_ud, drop0, dropS, takeS, take0, ud_nil, take_ud, take_ud0, drop_ud, drop_ud0, take_udk, D.cells, D.fz, D.fzs, List.take_succ_cons, List.take_zero, List.drop_succ_cons, List.drop_zero, List.cons_append, List.nil_append, List.append_eq, List.length_cons, List.length_nil, Nat.reduceAdd, Nat.reduceMul, Nat.reduceSub, Int.reduceAdd, Int.reduceSub, Int.reduceToNat, Int.reduceNeg, Int.reduceMul]) | refine W_plain rfl ?_ | refine and_chk (by kernel_rfl) ?_ | refine k_store rfl rfl rfl rfl rfl rfl (by exact p1) ?_ | refine k_move rfl rfl ?_ | refine k_load rfl rfl rfl rfl ?_ | refine k_alloc rfl ?_ | refine k_store rfl rfl rfl rfl rfl rfl rfl ?_ | refine k_fieldAddr rfl rfl rfl ?_ | refine k_callf (fun l => l) [0] (3) rfl (c1) rfl (by first | exact Ups.refl _ | assumption | ((repeat refine Ups.cons (by first | exact Up.refl _ | exact Up.nil _ | exact Up.fz _ _ _) ?_); exact Ups.nil)) (rfl) (by (repeat (first | refine ⟨⟨rfl, _, rfl, (by first | exact Ups.refl _ | assumption | ((repeat refine Ups.cons (by first | exact Up.refl _ | exact Up.nil _ | exact Up.fz _ _ _) ?_); exact Ups.nil)), rfl⟩, ?_⟩ | refine ⟨⟨rfl, rfl⟩, ?_⟩)); exact trivial) rfl rfl rfl rfl (rfl) (rfl) rfl rfl rfl rfl ?_ | (refine k_append rfl rfl rfl ?_ ?_ ?_ rfl ?_ rfl rfl rfl ?_; (first | rfl | exact trivial | (show 0 < _; omega)); (first | rfl | (simp <;> omega)); (first | rfl | (simp <;> omega)); (omega)) | refine k_buildSlice (cs := []) rfl rfl rfl rfl rfl rfl rfl ?_ | refine k_buildSlice rfl rfl rfl rfl rfl rfl rfl ?_ | refine k_nilCheck rfl rfl rfl ?_)
  repeat (first | with_reducible (first | refine W_seq ?_ | refine q_then ?_ | refine W_ret ?_) | (with_reducible refine R_nil ?_; try dsimp only [slots0, slots_ud, cells_U, agg_ud, drop0, dropS, takeS, take0, ud_nil, take_ud, take_ud0, drop_ud, drop_ud0, take_udk, D.cells, D.fz, D.fzs, List.take_succ_cons, List.take_zero, List.drop_succ_cons, List.drop_zero, List.cons_append, List.nil_append, List.append_eq, List.length_cons, List.length_nil, Nat.reduceAdd, Nat.reduceMul, Nat.reduceSub, Int.reduceAdd, Int.reduceSub, Int.reduceToNat, Int.reduceNeg, Int.reduceMul]) | refine W_plain rfl ?_ | refine and_chk (by kernel_rfl) ?_ | refine k_store rfl rfl rfl rfl rfl rfl (by exact p2) ?_ | refine k_move rfl rfl ?_ | refine k_load rfl rfl rfl rfl ?_ | refine k_alloc rfl ?_ | refine k_store rfl rfl rfl rfl rfl rfl rfl ?_ | refine k_fieldAddr rfl rfl rfl ?_ | refine k_callf (fun l => l) [0] (3) rfl (c2) rfl (by first | exact Ups.refl _ | assumption | ((repeat refine Ups.cons (by first | exact Up.refl _ | exact Up.nil _ | exact Up.fz _ _ _) ?_); exact Ups.nil)) (rfl) (by (repeat (first | refine ⟨⟨rfl, _, rfl, (by first | exact Ups.refl _ | assumption | ((repeat refine Ups.cons (by first | exact Up.refl _ | exact Up.nil _ | exact Up.fz _ _ _) ?_); exact Ups.nil)), rfl⟩, ?_⟩ | refine ⟨⟨rfl, rfl⟩, ?_⟩)); exact trivial) rfl rfl rfl rfl (rfl) (rfl) rfl rfl rfl rfl ?_ | (refine k_append rfl rfl rfl ?_ ?_ ?_ rfl ?_ rfl rfl rfl ?_; (first | rfl | exact trivial | (show 0 < _; omega)); (first | rfl | (simp <;> omega)); (first | rfl | (simp <;> omega)); (omega)) | refine k_buildSlice (cs := []) rfl rfl rfl rfl rfl rfl rfl ?_ | refine k_buildSlice rfl rfl rfl rfl rfl rfl rfl ?_ | refine k_nilCheck rfl rfl rfl ?_)
  repeat (first | with_reducible (first | refine W_seq ?_ | refine q_then ?_ | refine W_ret ?_) | (with_reducible refine R_nil ?_; try dsimp only [slots0, slots_ud, cells_U, agg_ud, drop0, dropS, takeS, take0, ud_nil, take_ud, take_ud0, drop_ud, drop_ud0, take_udk, D.cells, D.fz, D.fzs, List.take_succ_cons, List.take_zero, List.drop_succ_cons, List.drop_zero, List.cons_append, List.nil_append, List.append_eq, List.length_cons, List.length_nil, Nat.reduceAdd, Nat.reduceMul, Nat.reduceSub, Int.reduceAdd, Int.reduceSub, Int.reduceToNat, Int.reduceNeg, Int.reduceMul]) | refine W_plain rfl ?_ | refine and_chk (by kernel_rfl) ?_ | refine k_store rfl rfl rfl rfl rfl rfl (by exact p3) ?_ | refine k_move rfl rfl ?_ | refine k_load rfl rfl rfl rfl ?_ | refine k_alloc rfl ?_ | refine k_store rfl rfl rfl rfl rfl rfl rfl ?_ | refine k_fieldAddr rfl rfl rfl ?_ | refine k_callf (fun l => l) [0] (3) rfl (c3) rfl (by first | exact Ups.refl _ | assumption | ((repeat refine Ups.cons (by first | exact Up.refl _ | exact Up.nil _ | exact Up.fz _ _ _) ?_); exact Ups.nil)) (rfl) (by (repeat (first | refine ⟨⟨rfl, _, rfl, (by first | exact Ups.refl _ | assumption | ((repeat refine Ups.cons (by first | exact Up.refl _ | exact Up.nil _ | exact Up.fz _ _ _) ?_); exact Ups.nil)), rfl⟩, ?_⟩ | refine ⟨⟨rfl, rfl⟩, ?_⟩)); exact trivial) rfl rfl rfl rfl (rfl) (rfl) rfl rfl rfl rfl ?_ | (refine k_append rfl rfl rfl ?_ ?_ ?_ rfl ?_ rfl rfl rfl ?_; (first | rfl | exact trivial | (show 0 < _; omega)); (first | rfl | (simp <;> omega)); (first | rfl | (simp <;> omega)); (omega)) | refine k_buildSlice (cs := []) rfl rfl rfl rfl rfl rfl rfl ?_ | refine k_buildSlice rfl rfl rfl rfl rfl rfl rfl ?_ | refine k_nilCheck rfl rfl rfl ?_)
  repeat (first | with_reducible (first | refine W_seq ?_ | refine q_then ?_ | refine W_ret ?_) | (with_reducible refine R_nil ?_; try dsimp only [slots0, slots_ud, cells_U, agg_ud, drop0, dropS, takeS, take0, ud_nil, take_ud, take_ud0, drop_ud, drop_ud0, take_udk, D.cells, D.fz, D.fzs, List.take_succ_cons, List.take_zero, List.drop_succ_cons, List.drop_zero, List.cons_append, List.nil_append, List.append_eq, List.length_cons, List.length_nil, Nat.reduceAdd, Nat.reduceMul, Nat.reduceSub, Int.reduceAdd, Int.reduceSub, Int.reduceToNat, Int.reduceNeg, Int.reduceMul]) | refine W_plain rfl ?_ | refine and_chk (by kernel_rfl) ?_ | refine k_store rfl rfl rfl rfl (b_len w4) (b_fits _) (by exact p4) ?_ | refine k_move rfl rfl ?_ | refine k_load rfl rfl rfl rfl ?_ | refine k_alloc rfl ?_ | refine k_store rfl rfl rfl rfl rfl rfl rfl ?_ | refine k_fieldAddr rfl rfl rfl ?_ | refine k_callf (fun l => l) [0] (3) rfl (c4) rfl (by first | exact Ups.refl _ | assumption | ((repeat refine Ups.cons (by first | exact Up.refl _ | exact Up.nil _ | exact Up.fz _ _ _) ?_); exact Ups.nil)) (rfl) (by (repeat (first | refine ⟨⟨rfl, _, rfl, (by first | exact Ups.refl _ | assumption | ((repeat refine Ups.cons (by first | exact Up.refl _ | exact Up.nil _ | exact Up.fz _ _ _) ?_); exact Ups.nil)), rfl⟩, ?_⟩ | refine ⟨⟨rfl, rfl⟩, ?_⟩)); exact trivial) rfl rfl rfl rfl (hbe _) (hbr) rfl rfl rfl rfl ?_ | (refine k_append rfl rfl rfl ?_ ?_ ?_ rfl ?_ rfl rfl rfl ?_; (first | rfl | exact trivial | (show 0 < _; omega)); (first | rfl | (simp <;> omega)); (first | rfl | (simp <;> omega)); (omega)) | refine k_buildSlice (cs := []) rfl rfl rfl rfl rfl rfl rfl ?_ | refine k_buildSlice rfl rfl rfl rfl rfl rfl rfl ?_ | refine k_nilCheck rfl rfl rfl ?_)
  repeat (first | with_reducible (first | refine W_seq ?_ | refine q_then ?_ | refine W_ret ?_) | (with_reducible refine R_nil ?_; try dsimp only [slots0, slots_ud, cells_U, agg_ud, drop0, dropS, takeS, take0, ud_nil, take_ud, take_ud0, drop_ud, drop_ud0, take_udk, D.cells, D.fz, D.fzs, List.take_succ_cons, List.take_zero, List.drop_succ_cons, List.drop_zero, List.cons_append, List.nil_append, List.append_eq, List.length_cons, List.length_nil, Nat.reduceAdd, Nat.reduceMul, Nat.reduceSub, Int.reduceAdd, Int.reduceSub, Int.reduceToNat, Int.reduceNeg, Int.reduceMul]) | refine W_plain rfl ?_ | refine and_chk (by kernel_rfl) ?_ | refine k_store rfl rfl rfl rfl rfl rfl (by exact p5 _ rfl) ?_ | refine k_move rfl rfl ?_ | refine k_load rfl rfl rfl rfl ?_ | refine k_alloc rfl ?_ | refine k_store rfl rfl rfl rfl rfl rfl rfl ?_ | refine k_fieldAddr rfl rfl rfl ?_ | refine k_callf (fun l => l) [0] (3) rfl (c5) rfl (by first | exact Ups.refl _ | assumption | ((repeat refine Ups.cons (by first | exact Up.refl _ | exact Up.nil _ | exact Up.fz _ _ _) ?_); exact Ups.nil)) (rfl) (by (repeat (first | refine ⟨⟨rfl, _, rfl, (by first | exact Ups.refl _ | assumption | ((repeat refine Ups.cons (by first | exact Up.refl _ | exact Up.nil _ | exact Up.fz _ _ _) ?_); exact Ups.nil)), rfl⟩, ?_⟩ | refine ⟨⟨rfl, rfl⟩, ?_⟩)); exact trivial) rfl rfl rfl rfl (rfl) (rfl) rfl rfl rfl rfl ?_ | (refine k_append rfl rfl rfl ?_ ?_ ?_ rfl ?_ rfl rfl rfl ?_; (first | rfl | exact trivial | (show 0 < _; omega)); (first | rfl | (simp <;> omega)); (first | rfl | (simp <;> omega)); (omega)) | refine k_buildSlice (cs := []) rfl rfl rfl rfl rfl rfl rfl ?_ | refine k_buildSlice rfl rfl rfl rfl rfl rfl rfl ?_ | refine k_nilCheck rfl rfl rfl ?_)
  repeat (first | with_reducible (first | refine W_seq ?_ | refine q_then ?_ | refine W_ret ?_) | (with_reducible refine R_nil ?_; try dsimp only [slots0, slots_ud, cells_U, agg_ud, drop0, dropS, takeS, take0, ud_nil, take_ud, take_ud0, drop_ud, drop_ud0, take_udk, D.cells, D.fz, D.fzs, List.take_succ_cons, List.take_zero, List.drop_succ_cons, List.drop_zero, List.cons_append, List.nil_append, List.append_eq, List.length_cons, List.length_nil, Nat.reduceAdd, Nat.reduceMul, Nat.reduceSub, Int.reduceAdd, Int.reduceSub, Int.reduceToNat, Int.reduceNeg, Int.reduceMul]) | refine W_plain rfl ?_ | refine and_chk (by kernel_rfl) ?_ | refine k_store rfl rfl rfl rfl rfl rfl (by exact p6 _ rfl) ?_ | (refine k_appendB rfl rfl rfl ?_ rfl hL6 rfl ?_ ?_ (Nat.zero_add _) rfl ?_; (rfl); (omega); (omega)) | refine k_store rfl rfl rfl rfl rfl rfl (by exact p7 _ rfl) ?_ | refine k_load rfl rfl rfl (lall _) ?_ | refine k_store rfl rfl rfl rfl (by exact llen) rfl (by exact llay _ rfl) ?_ | refine k_move rfl rfl ?_ | refine k_load rfl rfl rfl rfl ?_ | refine k_alloc rfl ?_ | refine k_store rfl rfl rfl rfl rfl rfl rfl ?_ | refine k_fieldAddr rfl rfl rfl ?_ | refine k_callf (fun l => l) [0] (3) rfl (c6) rfl (by first | exact Ups.refl _ | assumption | ((repeat refine Ups.cons (by first | exact Up.refl _ | exact Up.nil _ | exact Up.fz _ _ _) ?_); exact Ups.nil)) (rfl) (by (repeat (first | refine ⟨⟨rfl, _, rfl, (by first | exact Ups.refl _ | assumption | ((repeat refine Ups.cons (by first | exact Up.refl _ | exact Up.nil _ | exact Up.fz _ _ _) ?_); exact Ups.nil)), rfl⟩, ?_⟩ | refine ⟨⟨rfl, rfl⟩, ?_⟩)); exact trivial) rfl rfl rfl rfl (rfl) (rfl) rfl rfl rfl rfl ?_ | (refine k_append rfl rfl rfl ?_ ?_ ?_ rfl ?_ rfl rfl rfl ?_; (first | rfl | exact trivial | (show 0 < _; omega)); (first | rfl | (simp <;> omega)); (first | rfl | (simp <;> omega)); (omega)) | refine k_buildSlice (cs := []) rfl rfl rfl rfl rfl rfl rfl ?_ | refine k_buildSlice rfl rfl rfl rfl rfl rfl rfl ?_ | refine k_nilCheck rfl rfl rfl ?_)
  refine (q_endf (fun l => l) 5 (RetsF.r1 (RetV.cell _ _ _ _ _ _ _ _ inferInstance rfl rfl (by exact lall _)) (by rw [hren]; exact hup)) hfull ?_ rfl rfl rfl).2
  refine ⟨⟨rfl, _, rfl, ?_, rfl⟩, trivial⟩
  show Ups [_, _] [_, _]
  exact Ups.refl _
end Go.Proofs.Ytcfefmbbbfdppaa
