/- Bytes name no variable. No conditions. -/
import Derived.Test.YtcfefmbbbfdppaaSGd
import Derived.Test.YtcfefmbbbfdppaaSDNum
namespace Go.Proofs.Ytcfefmbbbfdppaa
open Go.RowKit Go.Lib Go.IntWalk
set_option linter.unusedVariables false
set_option maxRecDepth 100000
def ar (n k : Nat) : List D := (List.range 32).map fun j => D.int .u8 (if 32 ≤ j + k then xb n (31 - j) else 0)
theorem ar_end (n : Nat) : ar n 32 = bs (b32 n) := by
  rw [b32_bs]; unfold ar
  refine List.map_congr_left fun j _ => ?_
  rw [if_pos (by omega)]
theorem ar_len (n k : Nat) : (ar n k).length = 32 := by simp [ar]
theorem ar_get (n k j : Nat) (h : j < 32) : (ar n k)[j]? = some (D.int .u8 (if 32 ≤ j + k then xb n (31 - j) else 0)) := by
  unfold ar; rw [List.getElem?_map, List.getElem?_range h]; first | done | rfl
theorem ar_put (n k : Nat) (hk : k < 32) : splice (31 - k) [D.int .u8 (xb n k)] (ar n k) = some (ar n (k + 1)) := by
  have hl := ar_len n k
  unfold splice
  rw [Nat.ble_eq_true_of_le (by rw [hl]; show 31 - k + 1 ≤ 32; omega), cond_true]
  congr 1
  apply List.ext_getElem?
  intro j
  rcases Nat.lt_or_ge j 32 with hj | hj
  · rw [ar_get n (k + 1) j hj, List.append_assoc, List.getElem?_append]
    have htl : ((ar n k).take (31 - k)).length = 31 - k := by rw [List.length_take, hl]; omega
    rw [htl]
    by_cases h1 : j < 31 - k
    · rw [if_pos h1, List.getElem?_take, if_pos h1, ar_get n k j hj, if_neg (by omega), if_neg (by omega)]
    · rw [if_neg h1]
      by_cases h2 : j = 31 - k
      · subst h2
        rw [Nat.sub_self, if_pos (by omega), show 31 - (31 - k) = k from by omega]; rfl
      · rw [List.getElem?_append_right (by simp; omega), List.getElem?_drop, if_pos (by omega)]
        simp only [List.length_cons, List.length_nil]
        rw [show 31 - k + (0 + 1) + (j - (31 - k) - (0 + 1)) = j from by omega, ar_get n k j hj, if_pos (by omega)]
  · rw [List.getElem?_eq_none (by simp [hl]; omega), List.getElem?_eq_none (by rw [ar_len]; exact hj)]
theorem ud_cut (n q : Nat) (h : q < 4) : cut ⟨false, 1, [.int .u64 0]⟩ (0 + ((q : Nat) : Int).toNat * 1) (ud n) = some (.int .u64 (lim n q)) := by
  obtain rfl | rfl | rfl | rfl : q = 0 ∨ q = 1 ∨ q = 2 ∨ q = 3 := by omega
  all_goals rfl
theorem quo8 (k : Nat) (hk : k < 32) : IntKind.i64.wrap ((k : Int).tdiv 8) = ((k / 8 : Nat) : Int) := by
  rw [Int.tdiv_eq_ediv_of_nonneg (by omega), i64_in _ (by omega)]; omega
theorem rem8 (k : Nat) : (k : Int).tmod 8 = ((k % 8 : Nat) : Int) := by
  rw [Int.tmod_eq_emod_of_nonneg (by omega)]; omega
theorem mul8 (r : Nat) (hr : r < 8) : IntKind.i64.wrap (8 * ((r : Nat) : Int)) = ((8 * r : Nat) : Int) := by
  rw [i64_in _ (by omega)]; omega
set_option maxHeartbeats 16000000 in
theorem Bytes_ok (n : Nat) : Pur Try.prog 91 [U n] (.agg (bs (b32 n))) := by
  rw [← ar_end]
  refine pur_intro Try.func91 rfl Try.ntmps91 rfl (by first | rfl | assumption | exact bs_cl _) fun B => ?_
  repeat (first | with_reducible (first | refine W_seq ?_ | refine q_then ?_ | refine q_thenx ?_ | refine W_block ?_ | refine q_block ?_ | refine q_blockx ?_ | refine W_ret ?_ | refine W_skip ?_ | refine W_exit ?_) | (with_reducible refine R_nil ?_; try dsimp only [slots0, slots_ud, cells_U, agg_ud, drop0, dropS, takeS, take0, ud_nil, take_ud, take_ud0, drop_ud, drop_ud0, take_udk, D.cells, D.fz, D.fzs, List.take_succ_cons, List.take_zero, List.drop_succ_cons, List.drop_zero, List.cons_append, List.nil_append, List.append_eq, List.length_cons, List.length_nil, Nat.reduceAdd, Nat.reduceMul, Nat.reduceSub, Int.reduceAdd, Int.reduceSub, Int.reduceToNat, Int.reduceNeg, Int.reduceMul]) | refine W_plain rfl ?_ | refine and_chk (by kernel_rfl) ?_ | refine k_move rfl rfl ?_ | refine k_assign rfl rfl ?_ | refine k_load rfl rfl rfl rfl ?_ | refine k_alloc rfl ?_ | refine k_box rfl rfl rfl ?_ | refine k_store rfl rfl rfl rfl rfl rfl rfl ?_ | (refine k_indexAddr rfl rfl rfl ⟨?_, ?_⟩ ?_; (omega); (omega)) | (refine k_addi rfl rfl rfl ?_ ?_; (omega)) | (refine k_subi rfl rfl rfl ?_ ?_; (omega)) | (refine k_lssT rfl rfl rfl ?_ ?_; (omega)) | (refine k_lssF rfl rfl rfl ?_ ?_; (omega)) | refine W_yes rfl ?_ | refine W_no rfl ?_)
  refine W_loop (fun n' ρ m nx => ∃ k : Nat, k ≤ 32 ∧ n' = 32 - k ∧ ρ = [(5, .int .i64 (k : Int)), (3, .ptr 2 0), (2, .ptr 1 0), (1, .ptr 0 0)] ∧ m = [(2, some (.var 50 (ar n k))), (1, some (.var 50 (ar 0 0))), (0, some (.var 27 (ud n)))] ∧ nx = 3)
    ⟨_, _, _, _, (by repeat (first | exact trivial | refine ⟨⟨rfl, rfl⟩, ?_⟩ | refine ⟨⟨rfl, bs_bel _ _⟩, ?_⟩ | refine ⟨⟨rfl, arr_bels _ _ _⟩, ?_⟩)), (by repeat (first | exact trivial | refine ⟨⟨rfl, rfl, rfl⟩, ?_⟩ | refine ⟨⟨rfl, rfl, bs_bels _ _⟩, ?_⟩ | refine ⟨⟨rfl, rfl, arr_bels _ _ _⟩, ?_⟩)), 0, by decide, rfl, rfl, rfl, rfl⟩ ?_
  rintro n' ρ m nx ⟨k, hk, rfl, rfl, rfl, rfl⟩
  by_cases hlt : k < 32
  · have hq := quo8 k hlt
    have hr := rem8 k
    have hm := mul8 (k % 8) (by omega)
    have hb := lim_byte n (k / 8) (k % 8) (by omega)
    rw [show 8 * (k / 8) + k % 8 = k from by omega] at hb
    have hsh : (lim n (k / 8)).fdiv (2 ^ (min ((8 * (k % 8) : Nat) : Int).toNat IntKind.u64.bits)) = (lim n (k / 8)).fdiv (2 ^ (8 * (k % 8))) := by
      rw [Int.toNat_natCast]
      have : min (8 * (k % 8)) IntKind.u64.bits = 8 * (k % 8) := Nat.min_eq_left (by show _ ≤ 64; omega)
      rw [this]
    have hcut := ud_cut n (k / 8) (by omega)
    have hput := ar_put n k hlt
    have hoff : 0 + ((31 : Int) - (k : Int)).toNat * 1 = 31 - k := by omega
    generalize (lim n (k / 8)).fdiv (2 ^ (8 * (k % 8))) = V at *
    have hqb : k / 8 < 4 := by omega
    generalize k / 8 = q at *
    generalize k % 8 = r at *
    have hsp : splice (0 + ((31 : Int) - (k : Int)).toNat * 1) [D.int .u8 (xb n k)] (ar n k) = some (ar n (k + 1)) := by rw [hoff]; exact hput
    repeat (first | with_reducible (first | refine W_seq ?_ | refine q_then ?_ | refine q_thenx ?_ | refine W_block ?_ | refine q_block ?_ | refine q_blockx ?_ | refine W_ret ?_ | refine W_skip ?_ | refine W_exit ?_) | (with_reducible refine R_nil ?_; try dsimp only [slots0, slots_ud, cells_U, agg_ud, drop0, dropS, takeS, take0, ud_nil, take_ud, take_ud0, drop_ud, drop_ud0, take_udk, D.cells, D.fz, D.fzs, List.take_succ_cons, List.take_zero, List.drop_succ_cons, List.drop_zero, List.cons_append, List.nil_append, List.append_eq, List.length_cons, List.length_nil, Nat.reduceAdd, Nat.reduceMul, Nat.reduceSub, Int.reduceAdd, Int.reduceSub, Int.reduceToNat, Int.reduceNeg, Int.reduceMul]) | refine W_plain rfl ?_ | refine and_chk (by kernel_rfl) ?_ | refine k_move rfl rfl ?_ | refine k_assign rfl rfl ?_ | refine k_load rfl rfl rfl rfl ?_ | refine k_alloc rfl ?_ | refine k_box rfl rfl rfl ?_ | refine k_store rfl rfl rfl rfl rfl rfl rfl ?_ | (refine k_quo rfl rfl rfl ?_ hq ?_; (decide)) | (refine k_rem rfl rfl rfl ?_ hr ?_; (decide)) | refine k_mul rfl rfl rfl hm ?_ | refine k_load rfl rfl rfl (by exact hcut) ?_ | (refine k_shr rfl rfl rfl ?_ hsh ?_; (omega)) | refine k_conv rfl rfl hb ?_ | refine k_store rfl rfl rfl rfl rfl rfl (by exact hsp) ?_ | (refine k_append rfl rfl rfl ?_ ?_ ?_ rfl ?_ rfl rfl rfl ?_; (first | rfl | exact trivial | (show 0 < _; omega)); (first | rfl | (simp <;> omega)); (first | rfl | (simp <;> omega)); (omega)) | (refine k_indexAddr rfl rfl rfl ⟨?_, ?_⟩ ?_; (omega); (omega)) | (refine k_addi rfl rfl rfl ?_ ?_; (omega)) | (refine k_subi rfl rfl rfl ?_ ?_; (omega)) | (refine k_lssT rfl rfl rfl ?_ ?_; (omega)) | (refine k_lssF rfl rfl rfl ?_ ?_; (omega)) | refine W_yes rfl ?_ | refine W_no rfl ?_)
    exact ⟨32 - (k + 1), _, _, _, (by repeat (first | exact trivial | refine ⟨⟨rfl, rfl⟩, ?_⟩ | refine ⟨⟨rfl, bs_bel _ _⟩, ?_⟩ | refine ⟨⟨rfl, arr_bels _ _ _⟩, ?_⟩)), (by repeat (first | exact trivial | refine ⟨⟨rfl, rfl, rfl⟩, ?_⟩ | refine ⟨⟨rfl, rfl, bs_bels _ _⟩, ?_⟩ | refine ⟨⟨rfl, rfl, arr_bels _ _ _⟩, ?_⟩)), by omega, k + 1, by omega, rfl, rfl, rfl, rfl⟩
  · have ek : k = 32 := by omega
    subst ek
    repeat (first | with_reducible (first | refine W_seq ?_ | refine q_then ?_ | refine q_thenx ?_ | refine W_block ?_ | refine q_block ?_ | refine q_blockx ?_ | refine W_ret ?_ | refine W_skip ?_ | refine W_exit ?_) | (with_reducible refine R_nil ?_; try dsimp only [slots0, slots_ud, cells_U, agg_ud, drop0, dropS, takeS, take0, ud_nil, take_ud, take_ud0, drop_ud, drop_ud0, take_udk, D.cells, D.fz, D.fzs, List.take_succ_cons, List.take_zero, List.drop_succ_cons, List.drop_zero, List.cons_append, List.nil_append, List.append_eq, List.length_cons, List.length_nil, Nat.reduceAdd, Nat.reduceMul, Nat.reduceSub, Int.reduceAdd, Int.reduceSub, Int.reduceToNat, Int.reduceNeg, Int.reduceMul]) | refine W_plain rfl ?_ | refine and_chk (by kernel_rfl) ?_ | refine k_move rfl rfl ?_ | refine k_assign rfl rfl ?_ | refine k_load rfl rfl rfl rfl ?_ | refine k_alloc rfl ?_ | refine k_box rfl rfl rfl ?_ | refine k_store rfl rfl rfl rfl rfl rfl rfl ?_ | (refine k_append rfl rfl rfl ?_ ?_ ?_ rfl ?_ rfl rfl rfl ?_; (first | rfl | exact trivial | (show 0 < _; omega)); (first | rfl | (simp <;> omega)); (first | rfl | (simp <;> omega)); (omega)) | (refine k_indexAddr rfl rfl rfl ⟨?_, ?_⟩ ?_; (omega); (omega)) | (refine k_addi rfl rfl rfl ?_ ?_; (omega)) | (refine k_subi rfl rfl rfl ?_ ?_; (omega)) | (refine k_lssT rfl rfl rfl ?_ ?_; (omega)) | (refine k_lssF rfl rfl rfl ?_ ?_; (omega)) | refine W_yes rfl ?_ | refine W_no rfl ?_)
    (first | with_reducible refine q_endr ?_); refine rets1 Try.results91 (by first | exact RetV.tmp _ _ rfl | exact RetV.cell _ _ _ _ _ _ _ _ inferInstance rfl rfl rfl) ?_
    rfl
end Go.Proofs.Ytcfefmbbbfdppaa
namespace Go.Proofs.Ytcfefmbbbfdppaa
open Go.RowKit Go.Lib Go.IntWalk
set_option linter.unusedVariables false
set_option maxRecDepth 100000
theorem lim_256 (x j : Nat) : lim x j = ((x / 256 ^ (8 * j) % 256 ^ 8 : Nat) : Int) := by
  unfold lim
  have p1 : (18446744073709551616 : Nat) = 256 ^ 8 := by decide
  rw [p1, ← Nat.pow_mul]
theorem part_eq (A r : Nat) (hr : r < 8) : A * 256 ^ (r + 1) % 256 ^ 8 = A % 256 ^ (7 - r) * 256 ^ (r + 1) := by
  have e : (256 : Nat) ^ 8 = 256 ^ (7 - r) * 256 ^ (r + 1) := by rw [← Nat.pow_add]; congr 1; omega
  rw [e, Nat.mul_mod_mul_right]
theorem part_or (A c r : Nat) (hr : r < 8) (hc : c < 256) : (A * 256 ^ (r + 1) % 256 ^ 8) ||| (c * 256 ^ r) = (A * 256 + c) * 256 ^ r % 256 ^ 8 := by
  have hz : 0 < 256 ^ r := Nat.pow_pos (by decide)
  have hs : (256 : Nat) ^ (r + 1) = 256 ^ r * 256 := Nat.pow_succ _ _
  have hy : c * 256 ^ r < 256 ^ (r + 1) := by
    rw [hs, Nat.mul_comm (256 ^ r)]; exact Nat.mul_lt_mul_of_pos_right hc hz
  have hp : (256 : Nat) ^ (r + 1) = 2 ^ (8 * (r + 1)) := by rw [Nat.pow_mul]
  have hor : A % 256 ^ (7 - r) * 256 ^ (r + 1) ||| c * 256 ^ r = A % 256 ^ (7 - r) * 256 ^ (r + 1) + c * 256 ^ r := by
    have := Nat.shiftLeft_add_eq_or_of_lt (i := 8 * (r + 1)) (b := c * 256 ^ r) (by rw [← hp]; exact hy) (A % 256 ^ (7 - r))
    rw [Nat.shiftLeft_eq, ← hp] at this
    exact this.symm
  have hsum : (A * 256 + c) * 256 ^ r = A * 256 ^ (r + 1) + c * 256 ^ r := by rw [Nat.add_mul, Nat.mul_assoc, hs, Nat.mul_comm 256]
  have hB : A % 256 ^ (7 - r) < 256 ^ (7 - r) := Nat.mod_lt _ (Nat.pow_pos (by decide))
  have e : (256 : Nat) ^ 8 = 256 ^ (7 - r) * 256 ^ (r + 1) := by rw [← Nat.pow_add]; congr 1; omega
  have hle : (A % 256 ^ (7 - r) + 1) * 256 ^ (r + 1) ≤ 256 ^ (7 - r) * 256 ^ (r + 1) := Nat.mul_le_mul_right _ hB
  rw [Nat.succ_mul, ← e] at hle
  have h8 : (256 : Nat) ^ (r + 1) ≤ 256 ^ 8 := Nat.pow_le_pow_right (by decide) (by omega)
  rw [part_eq A r hr, hor, hsum, Nat.add_mod, part_eq A r hr]
  generalize A % 256 ^ (7 - r) * 256 ^ (r + 1) = X at *
  generalize (256 : Nat) ^ (r + 1) = Z at *
  generalize (256 : Nat) ^ 8 = W at *
  rw [Nat.mod_eq_of_lt (a := c * 256 ^ r) (by omega), Nat.mod_eq_of_lt (by omega)]
def fm (l : List UInt8) (k : Nat) : Nat := nm (l.take k) * 256 ^ (32 - k)
theorem nm_take (l : List UInt8) (k : Nat) (c : UInt8) (h : l[k]? = some c) : nm (l.take (k + 1)) = nm (l.take k) * 256 + c.toNat := by
  rw [List.take_add_one, h]
  exact nm_snoc _ _
theorem fm_other (l : List UInt8) (k : Nat) (c : UInt8) (h : l[k]? = some c) (hk : k < 32) (q r : Nat) (hp : 31 - k = 8 * q + r) (hr : r < 8) (j : Nat) (hj : j ≠ q) : lim (fm l (k + 1)) j = lim (fm l k) j := by
  rw [lim_256, lim_256]
  unfold fm
  rw [nm_take l k c h, show 32 - (k + 1) = 8 * q + r from by omega, show 32 - k = 8 * q + r + 1 from by omega]
  have hc := c.toNat_lt
  generalize nm (l.take k) = N
  generalize c.toNat = c at *
  congr 1
  rcases Nat.lt_or_ge q j with h1 | h1
  · have e1 : (256 : Nat) ^ (8 * j) = 256 ^ (8 * q + r) * 256 ^ (8 * j - (8 * q + r)) := by rw [← Nat.pow_add]; congr 1; omega
    have e2 : (256 : Nat) ^ (8 * j - (8 * q + r)) = 256 * 256 ^ (8 * j - (8 * q + r) - 1) := by rw [← Nat.pow_succ']; congr 1; omega
    have z : 0 < 256 ^ (8 * q + r) := Nat.pow_pos (by decide)
    have a1 : N * 256 ^ (8 * q + r + 1) = 256 ^ (8 * q + r) * (N * 256) := by rw [Nat.pow_succ, Nat.mul_left_comm]
    congr 1
    rw [a1, e1, Nat.mul_comm (N * 256 + c), Nat.mul_div_mul_left _ _ z, Nat.mul_div_mul_left _ _ z, e2, ← Nat.div_div_eq_div_mul, ← Nat.div_div_eq_div_mul]
    congr 1
    omega
  · have hlt : 8 * j + 8 ≤ 8 * q + r := by omega
    have key : ∀ X : Nat, X * 256 ^ (8 * q + r) / 256 ^ (8 * j) % 256 ^ 8 = 0 := fun X => by
      have e1 : (256 : Nat) ^ (8 * q + r) = 256 ^ (8 * q + r - (8 * j + 8)) * 256 ^ 8 * 256 ^ (8 * j) := by
        rw [← Nat.pow_add, ← Nat.pow_add]; congr 1; omega
      rw [e1, ← Nat.mul_assoc, Nat.mul_div_cancel _ (Nat.pow_pos (by decide)), ← Nat.mul_assoc, Nat.mul_mod_left]
    have a1 : N * 256 ^ (8 * q + r + 1) = N * 256 * 256 ^ (8 * q + r) := by rw [Nat.pow_succ, Nat.mul_assoc, Nat.mul_comm 256]
    rw [a1, key, key]
theorem fm_here (l : List UInt8) (k : Nat) (c : UInt8) (h : l[k]? = some c) (hk : k < 32) (q r : Nat) (hp : 31 - k = 8 * q + r) (hr : r < 8) : bitw .or .u64 (lim (fm l k) q) (((c.toNat * 256 ^ r : Nat)) : Int) = lim (fm l (k + 1)) q := by
  rw [lim_256, lim_256]
  unfold fm
  rw [nm_take l k c h, show 32 - (k + 1) = 8 * q + r from by omega, show 32 - k = 8 * q + r + 1 from by omega]
  have hc := c.toNat_lt
  generalize nm (l.take k) = N
  generalize c.toNat = c at *
  have z : 0 < 256 ^ (8 * q) := Nat.pow_pos (by decide)
  have e1 : N * 256 ^ (8 * q + r + 1) / 256 ^ (8 * q) = N * 256 ^ (r + 1) := by
    rw [show 8 * q + r + 1 = (r + 1) + 8 * q from by omega, Nat.pow_add, ← Nat.mul_assoc, Nat.mul_div_cancel _ z]
  have e2 : (N * 256 + c) * 256 ^ (8 * q + r) / 256 ^ (8 * q) = (N * 256 + c) * 256 ^ r := by
    rw [show 8 * q + r = r + 8 * q from by omega, Nat.pow_add, ← Nat.mul_assoc, Nat.mul_div_cancel _ z]
  rw [e1, e2, ← part_or N c r hr (by omega)]
  have b1 : N * 256 ^ (r + 1) % 256 ^ 8 < 256 ^ 8 := Nat.mod_lt _ (by decide)
  have b2 : c * 256 ^ r < 256 ^ 8 := by
    have h1 : c * 256 ^ r < 256 * 256 ^ r := Nat.mul_lt_mul_of_pos_right (by omega) (Nat.pow_pos (by decide))
    have h2 : 256 * 256 ^ r ≤ 256 ^ 8 := by
      rw [← Nat.pow_succ']; exact Nat.pow_le_pow_right (by decide) (by omega)
    omega
  generalize N * 256 ^ (r + 1) % 256 ^ 8 = x at *
  generalize c * 256 ^ r = y at *
  have p1 : (256 : Nat) ^ 8 = 18446744073709551616 := by decide
  rw [p1] at b1 b2
  have f1 : (BitVec.ofInt 64 (x : Int)).toNat = x := by rw [BitVec.toNat_ofInt]; omega
  have f2 : (BitVec.ofInt 64 (y : Int)).toNat = y := by rw [BitVec.toNat_ofInt]; omega
  have f3 : x ||| y < 2 ^ 64 := Nat.or_lt_two_pow (by omega) (by omega)
  show IntKind.u64.wrap (((BitVec.ofInt 64 (x : Int) ||| BitVec.ofInt 64 (y : Int)).toNat : Nat) : Int) = _
  rw [BitVec.toNat_or, f1, f2, u64_in _ (by omega)]
theorem ud_put (x y q : Nat) (hq : q < 4) (h : ∀ j, j ≠ q → lim y j = lim x j) : splice (0 + ((q : Nat) : Int).toNat * 1) [D.int .u64 (lim y q)] (ud x) = some (ud y) := by
  obtain rfl | rfl | rfl | rfl : q = 0 ∨ q = 1 ∨ q = 2 ∨ q = 3 := by omega
  · show some [D.int .u64 (lim y 0), D.int .u64 (lim x 1), D.int .u64 (lim x 2), D.int .u64 (lim x 3)] = some (ud y)
    rw [← h 1 (by decide), ← h 2 (by decide), ← h 3 (by decide)]; rfl
  · show some [D.int .u64 (lim x 0), D.int .u64 (lim y 1), D.int .u64 (lim x 2), D.int .u64 (lim x 3)] = some (ud y)
    rw [← h 0 (by decide), ← h 2 (by decide), ← h 3 (by decide)]; rfl
  · show some [D.int .u64 (lim x 0), D.int .u64 (lim x 1), D.int .u64 (lim y 2), D.int .u64 (lim x 3)] = some (ud y)
    rw [← h 0 (by decide), ← h 1 (by decide), ← h 3 (by decide)]; rfl
  · show some [D.int .u64 (lim x 0), D.int .u64 (lim x 1), D.int .u64 (lim x 2), D.int .u64 (lim y 3)] = some (ud y)
    rw [← h 0 (by decide), ← h 1 (by decide), ← h 2 (by decide)]; rfl
theorem bs_bels (n : Nat) (l : List UInt8) : D.bels n (bs l) = true := by
  induction l with
  | nil => rfl
  | cons a l ih => exact ih
theorem bs_bel (n : Nat) (l : List UInt8) : D.bel n (.agg (bs l)) = true := bs_bels n l
theorem bs_idx (l : List UInt8) (k : Nat) (c : UInt8) (h : l[k]? = some c) : cut ⟨false, 1, [.int .u8 0]⟩ (((k : Nat) : Int).toNat * 1) (bs l) = some (.int .u8 (c.toNat : Int)) := by
  rw [Int.toNat_natCast, Nat.mul_one]
  unfold cut
  simp only [cond_false]
  rw [bs_get l k c h]
set_option maxHeartbeats 16000000 in
theorem From_ok (l : List UInt8) (hl : l.length = 32) : Pur Try.prog 45 [.agg (bs l)] (U (nm l)) := by
  have hall : ∀ z, cut ⟨true, 32, z⟩ 0 (bs l) = some (.agg (bs l)) := fun z => by
    unfold cut
    simp only [cond_true, Nat.zero_add, List.drop_zero]
    rw [Nat.ble_eq_true_of_le (by rw [bs_len, hl]; exact Nat.le_refl _), cond_true, List.take_of_length_le (by rw [bs_len, hl]; exact Nat.le_refl _)]
  refine pur_intro Try.func45 rfl Try.ntmps45 rfl (by first | rfl | assumption | exact bs_cl _) fun B => ?_
  repeat (first | with_reducible (first | refine W_seq ?_ | refine q_then ?_ | refine q_thenx ?_ | refine W_block ?_ | refine q_block ?_ | refine q_blockx ?_ | refine W_ret ?_ | refine W_skip ?_ | refine W_exit ?_) | (with_reducible refine R_nil ?_; try dsimp only [slots0, slots_ud, cells_U, agg_ud, drop0, dropS, takeS, take0, ud_nil, take_ud, take_ud0, drop_ud, drop_ud0, take_udk, D.cells, D.fz, D.fzs, List.take_succ_cons, List.take_zero, List.drop_succ_cons, List.drop_zero, List.cons_append, List.nil_append, List.append_eq, List.length_cons, List.length_nil, Nat.reduceAdd, Nat.reduceMul, Nat.reduceSub, Int.reduceAdd, Int.reduceSub, Int.reduceToNat, Int.reduceNeg, Int.reduceMul]) | refine W_plain rfl ?_ | refine W_drawn mixed rfl ?_ | refine and_chk (by kernel_rfl) ?_ | refine k_move rfl rfl ?_ | refine k_assign rfl rfl ?_ | refine k_load rfl rfl rfl rfl ?_ | refine k_alloc rfl ?_ | refine k_box rfl rfl rfl ?_ | refine k_store rfl rfl rfl rfl rfl rfl rfl ?_ | refine k_load rfl rfl rfl (hall _) ?_ | (refine k_indexAddr rfl rfl rfl ⟨?_, ?_⟩ ?_; (omega); (omega)) | (refine k_index rfl rfl rfl ⟨?_, ?_⟩ rfl ?_; (omega); (omega)) | (refine k_addi rfl rfl rfl ?_ ?_; (omega)) | (refine k_subi rfl rfl rfl ?_ ?_; (omega)) | (refine k_lssT rfl rfl rfl ?_ ?_; (omega)) | (refine k_lssF rfl rfl rfl ?_ ?_; (omega)) | refine W_yes rfl ?_ | refine W_no rfl ?_)
  refine W_loop (fun n' ρ m nx => ∃ k x : Nat, k ≤ 32 ∧ x = fm l k ∧ n' = 32 - k ∧ ρ = [(8, .int .i64 (k : Int)), (7, .agg (bs l)), (3, .ptr 2 0), (2, .ptr 1 0)] ∧ m = [(2, some (.var 27 (ud x))), (1, some (.var 27 (ud 0)))] ∧ nx = 3)
    ⟨_, _, _, _, (by repeat (first | exact trivial | refine ⟨⟨rfl, rfl⟩, ?_⟩ | refine ⟨⟨rfl, bs_bel _ _⟩, ?_⟩ | refine ⟨⟨rfl, arr_bels _ _ _⟩, ?_⟩)), (by repeat (first | exact trivial | refine ⟨⟨rfl, rfl, rfl⟩, ?_⟩ | refine ⟨⟨rfl, rfl, bs_bels _ _⟩, ?_⟩ | refine ⟨⟨rfl, rfl, arr_bels _ _ _⟩, ?_⟩)), 0, 0, by decide, by unfold fm; simp [nm], rfl, rfl, rfl, rfl⟩ ?_
  rintro n' ρ m nx ⟨k, x, hk, hx, rfl, rfl, rfl, rfl⟩
  by_cases hlt : k < 32
  · obtain ⟨c, hc⟩ : ∃ c, l[k]? = some c := ⟨_, List.getElem?_eq_getElem (by omega)⟩
    have hix := bs_idx l k c hc
    have e31 : (31 : Int) - (k : Int) = ((31 - k : Nat) : Int) := by omega
    have hq := quo8 (31 - k) (by omega)
    have hr := rem8 (31 - k)
    have hm := mul8 ((31 - k) % 8) (by omega)
    rw [← e31] at hq hr
    have hcut := ud_cut (fm l k) ((31 - k) / 8) (by omega)
    have hfo := fm_other l k c hc hlt ((31 - k) / 8) ((31 - k) % 8) (by omega) (by omega)
    have hfh := fm_here l k c hc hlt ((31 - k) / 8) ((31 - k) % 8) (by omega) (by omega)
    have hput := ud_put (fm l k) (fm l (k + 1)) ((31 - k) / 8) (by omega) hfo
    have hcl := c.toNat_lt
    have hcv : IntKind.u64.wrap (c.toNat : Int) = (c.toNat : Int) := u64_in _ (by omega)
    have hsh : IntKind.u64.wrap ((c.toNat : Int) * 2 ^ (min ((8 * ((31 - k) % 8) : Nat) : Int).toNat IntKind.u64.bits)) = ((c.toNat * 256 ^ ((31 - k) % 8) : Nat) : Int) := by
      have hr8 : (31 - k) % 8 < 8 := by omega
      generalize (31 - k) % 8 = r at *
      rw [Int.toNat_natCast]
      have : min (8 * r) IntKind.u64.bits = 8 * r := Nat.min_eq_left (by show _ ≤ 64; omega)
      rw [this]
      have e1 : ((c.toNat : Int) * 2 ^ (8 * r)) = ((c.toNat * 256 ^ r : Nat) : Int) := by
        rw [Int.natCast_mul, Int.natCast_pow, Int.pow_mul]; rfl
      rw [e1]
      have h1 : c.toNat * 256 ^ r < 256 * 256 ^ r := Nat.mul_lt_mul_of_pos_right (by omega) (Nat.pow_pos (by decide))
      have h2 : 256 * 256 ^ r ≤ 256 ^ 8 := by
        rw [← Nat.pow_succ']; exact Nat.pow_le_pow_right (by decide) (by omega)
      have p1 : (256 : Nat) ^ 8 = 18446744073709551616 := by decide
      exact u64_in _ (by omega)
    have hqb : (31 - k) / 8 < 4 := by omega
    rw [← hx] at hcut hfh hput
    generalize (31 - k) / 8 = q at *
    generalize c.toNat * 256 ^ ((31 - k) % 8) = V at *
    generalize (31 - k) % 8 = r at *
    repeat (first | with_reducible (first | refine W_seq ?_ | refine q_then ?_ | refine q_thenx ?_ | refine W_block ?_ | refine q_block ?_ | refine q_blockx ?_ | refine W_ret ?_ | refine W_skip ?_ | refine W_exit ?_) | (with_reducible refine R_nil ?_; try dsimp only [slots0, slots_ud, cells_U, agg_ud, drop0, dropS, takeS, take0, ud_nil, take_ud, take_ud0, drop_ud, drop_ud0, take_udk, D.cells, D.fz, D.fzs, List.take_succ_cons, List.take_zero, List.drop_succ_cons, List.drop_zero, List.cons_append, List.nil_append, List.append_eq, List.length_cons, List.length_nil, Nat.reduceAdd, Nat.reduceMul, Nat.reduceSub, Int.reduceAdd, Int.reduceSub, Int.reduceToNat, Int.reduceNeg, Int.reduceMul]) | refine W_plain rfl ?_ | refine W_drawn mixed rfl ?_ | refine and_chk (by kernel_rfl) ?_ | refine k_move rfl rfl ?_ | refine k_assign rfl rfl ?_ | refine k_load rfl rfl rfl rfl ?_ | refine k_alloc rfl ?_ | refine k_box rfl rfl rfl ?_ | refine k_store rfl rfl rfl rfl rfl rfl rfl ?_ | (refine k_index rfl rfl rfl ⟨?_, ?_⟩ (by exact hix) ?_; (omega); (omega)) | (refine k_quo rfl rfl rfl ?_ hq ?_; (decide)) | (refine k_rem rfl rfl rfl ?_ hr ?_; (decide)) | refine k_mul rfl rfl rfl hm ?_ | refine k_load rfl rfl rfl (by exact hcut) ?_ | refine k_conv rfl rfl hcv ?_ | (refine k_shl rfl rfl rfl ?_ hsh ?_; (omega)) | refine k_bits rfl rfl rfl rfl hfh ?_ | refine k_store rfl rfl rfl rfl rfl rfl (by exact hput) ?_ | (refine k_append rfl rfl rfl ?_ ?_ ?_ rfl ?_ rfl rfl rfl ?_; (first | rfl | exact trivial | (show 0 < _; omega)); (first | rfl | (simp <;> omega)); (first | rfl | (simp <;> omega)); (omega)) | (refine k_indexAddr rfl rfl rfl ⟨?_, ?_⟩ ?_; (omega); (omega)) | (refine k_index rfl rfl rfl ⟨?_, ?_⟩ rfl ?_; (omega); (omega)) | (refine k_addi rfl rfl rfl ?_ ?_; (omega)) | (refine k_subi rfl rfl rfl ?_ ?_; (omega)) | (refine k_lssT rfl rfl rfl ?_ ?_; (omega)) | (refine k_lssF rfl rfl rfl ?_ ?_; (omega)) | refine W_yes rfl ?_ | refine W_no rfl ?_)
    exact ⟨32 - (k + 1), _, _, _, (by repeat (first | exact trivial | refine ⟨⟨rfl, rfl⟩, ?_⟩ | refine ⟨⟨rfl, bs_bel _ _⟩, ?_⟩ | refine ⟨⟨rfl, arr_bels _ _ _⟩, ?_⟩)), (by repeat (first | exact trivial | refine ⟨⟨rfl, rfl, rfl⟩, ?_⟩ | refine ⟨⟨rfl, rfl, bs_bels _ _⟩, ?_⟩ | refine ⟨⟨rfl, rfl, arr_bels _ _ _⟩, ?_⟩)), by omega, k + 1, _, by omega, rfl, rfl, rfl, rfl, rfl⟩
  · have ek : k = 32 := by omega
    subst ek
    have e : fm l 32 = nm l := by
      unfold fm
      rw [List.take_of_length_le (by omega), Nat.sub_self, Nat.pow_zero, Nat.mul_one]
    rw [e] at hx
    subst hx
    repeat (first | with_reducible (first | refine W_seq ?_ | refine q_then ?_ | refine q_thenx ?_ | refine W_block ?_ | refine q_block ?_ | refine q_blockx ?_ | refine W_ret ?_ | refine W_skip ?_ | refine W_exit ?_) | (with_reducible refine R_nil ?_; try dsimp only [slots0, slots_ud, cells_U, agg_ud, drop0, dropS, takeS, take0, ud_nil, take_ud, take_ud0, drop_ud, drop_ud0, take_udk, D.cells, D.fz, D.fzs, List.take_succ_cons, List.take_zero, List.drop_succ_cons, List.drop_zero, List.cons_append, List.nil_append, List.append_eq, List.length_cons, List.length_nil, Nat.reduceAdd, Nat.reduceMul, Nat.reduceSub, Int.reduceAdd, Int.reduceSub, Int.reduceToNat, Int.reduceNeg, Int.reduceMul]) | refine W_plain rfl ?_ | refine W_drawn mixed rfl ?_ | refine and_chk (by kernel_rfl) ?_ | refine k_move rfl rfl ?_ | refine k_assign rfl rfl ?_ | refine k_load rfl rfl rfl rfl ?_ | refine k_alloc rfl ?_ | refine k_box rfl rfl rfl ?_ | refine k_store rfl rfl rfl rfl rfl rfl rfl ?_ | (refine k_append rfl rfl rfl ?_ ?_ ?_ rfl ?_ rfl rfl rfl ?_; (first | rfl | exact trivial | (show 0 < _; omega)); (first | rfl | (simp <;> omega)); (first | rfl | (simp <;> omega)); (omega)) | (refine k_indexAddr rfl rfl rfl ⟨?_, ?_⟩ ?_; (omega); (omega)) | (refine k_index rfl rfl rfl ⟨?_, ?_⟩ rfl ?_; (omega); (omega)) | (refine k_addi rfl rfl rfl ?_ ?_; (omega)) | (refine k_subi rfl rfl rfl ?_ ?_; (omega)) | (refine k_lssT rfl rfl rfl ?_ ?_; (omega)) | (refine k_lssF rfl rfl rfl ?_ ?_; (omega)) | refine W_yes rfl ?_ | refine W_no rfl ?_)
    (first | with_reducible refine q_endr ?_); refine rets1 Try.results45 (by first | exact RetV.tmp _ _ rfl | exact RetV.cell _ _ _ _ _ _ _ _ inferInstance rfl rfl rfl) ?_
    rfl
end Go.Proofs.Ytcfefmbbbfdppaa
namespace Go.Proofs.Ytcfefmbbbfdppaa
open Go.RowKit Go.Lib
set_option linter.unusedVariables false
end Go.Proofs.Ytcfefmbbbfdppaa
