/- A variable that is written no more is data: its pointers and slices read as that. Of any program. No conditions. -/
import Derived.Test.YtcfefmbbbfdppaaGreatDoorSBytes
import Derived.Test.YtcfefmbbbfdppaaGreatDoorSWide1
import Derived.Test.YtcfefmbbbfdppaaGreatDoorSDMore
import Derived.Test.YtcfefmbbbfdppaaGreatDoorSDSl
import Derived.Test.YtcfefmbbbfdppaaGreatDoorSDApp
import Derived.Test.YtcfefmbbbfdppaaGreatDoorSDFun
namespace Go.Proofs.YtcfefmbbbfdppaaGreatDoor
open Go.RowKit Go.Lib Go.IntWalk
set_option linter.unusedVariables false
set_option maxRecDepth 100000
theorem lim_256 (x j : Nat) : lim x j = ((x / 256 ^ (8 * j) % 256 ^ 8 : Nat) : Int) := by
  unfold lim
  have p1 : (18446744073709551616 : Nat) = 256 ^ 8 := by decide
  rw [p1, ← Nat.pow_mul]
theorem part_eq (A r : Nat) (hr : r < 8) : A * 256 ^ (r + 1) % 256 ^ 8 = A % 256 ^ (7 - r) * 256 ^ (r + 1) := by
  have e : (256 : Nat) ^ 8 = 256 ^ (7 - r) * 256 ^ (r + 1) := by rw [← Nat.pow_add]; congr 1; omega
  rw [e, Nat.mul_mod_mul_right]
theorem part_or (A c r : Nat) (hr : r < 8) (hc : c < 256) : (A * 256 ^ (r + 1) % 256 ^ 8) ||| (c * 256 ^ r) = (A * 256 + c) * 256 ^ r % 256 ^ 8 := by
  have hz : 0 < 256 ^ r := Nat.pow_pos (by decide)
  have hs : (256 : Nat) ^ (r + 1) = 256 ^ r * 256 := Nat.pow_succ _ _
  have hy : c * 256 ^ r < 256 ^ (r + 1) := by
    rw [hs, Nat.mul_comm (256 ^ r)]; exact Nat.mul_lt_mul_of_pos_right hc hz
  have hp : (256 : Nat) ^ (r + 1) = 2 ^ (8 * (r + 1)) := by rw [Nat.pow_mul]
  have hor : A % 256 ^ (7 - r) * 256 ^ (r + 1) ||| c * 256 ^ r = A % 256 ^ (7 - r) * 256 ^ (r + 1) + c * 256 ^ r := by
    have := Nat.shiftLeft_add_eq_or_of_lt (i := 8 * (r + 1)) (b := c * 256 ^ r) (by rw [← hp]; exact hy) (A % 256 ^ (7 - r))
    rw [Nat.shiftLeft_eq, ← hp] at this
    exact this.symm
  have hsum : (A * 256 + c) * 256 ^ r = A * 256 ^ (r + 1) + c * 256 ^ r := by rw [Nat.add_mul, Nat.mul_assoc, hs, Nat.mul_comm 256]
  have hB : A % 256 ^ (7 - r) < 256 ^ (7 - r) := Nat.mod_lt _ (Nat.pow_pos (by decide))
  have e : (256 : Nat) ^ 8 = 256 ^ (7 - r) * 256 ^ (r + 1) := by rw [← Nat.pow_add]; congr 1; omega
  have hle : (A % 256 ^ (7 - r) + 1) * 256 ^ (r + 1) ≤ 256 ^ (7 - r) * 256 ^ (r + 1) := Nat.mul_le_mul_right _ hB
  rw [Nat.succ_mul, ← e] at hle
  have h8 : (256 : Nat) ^ (r + 1) ≤ 256 ^ 8 := Nat.pow_le_pow_right (by decide) (by omega)
  rw [part_eq A r hr, hor, hsum, Nat.add_mod, part_eq A r hr]
  generalize A % 256 ^ (7 - r) * 256 ^ (r + 1) = X at *
  generalize (256 : Nat) ^ (r + 1) = Z at *
  generalize (256 : Nat) ^ 8 = W at *
  rw [Nat.mod_eq_of_lt (a := c * 256 ^ r) (by omega), Nat.mod_eq_of_lt (by omega)]
def fm (l : List UInt8) (k : Nat) : Nat := nm (l.take k) * 256 ^ (32 - k)
theorem nm_take (l : List UInt8) (k : Nat) (c : UInt8) (h : l[k]? = some c) : nm (l.take (k + 1)) = nm (l.take k) * 256 + c.toNat := by
  rw [List.take_add_one, h]
  exact nm_snoc _ _
theorem fm_other (l : List UInt8) (k : Nat) (c : UInt8) (h : l[k]? = some c) (hk : k < 32) (q r : Nat) (hp : 31 - k = 8 * q + r) (hr : r < 8) (j : Nat) (hj : j ≠ q) : lim (fm l (k + 1)) j = lim (fm l k) j := by
  rw [lim_256, lim_256]
  unfold fm
  rw [nm_take l k c h, show 32 - (k + 1) = 8 * q + r from by omega, show 32 - k = 8 * q + r + 1 from by omega]
  have hc := c.toNat_lt
  generalize nm (l.take k) = N
  generalize c.toNat = c at *
  congr 1
  rcases Nat.lt_or_ge q j with h1 | h1
  · have e1 : (256 : Nat) ^ (8 * j) = 256 ^ (8 * q + r) * 256 ^ (8 * j - (8 * q + r)) := by rw [← Nat.pow_add]; congr 1; omega
    have e2 : (256 : Nat) ^ (8 * j - (8 * q + r)) = 256 * 256 ^ (8 * j - (8 * q + r) - 1) := by rw [← Nat.pow_succ']; congr 1; omega
    have z : 0 < 256 ^ (8 * q + r) := Nat.pow_pos (by decide)
    have a1 : N * 256 ^ (8 * q + r + 1) = 256 ^ (8 * q + r) * (N * 256) := by rw [Nat.pow_succ, Nat.mul_left_comm]
    congr 1
    rw [a1, e1, Nat.mul_comm (N * 256 + c), Nat.mul_div_mul_left _ _ z, Nat.mul_div_mul_left _ _ z, e2, ← Nat.div_div_eq_div_mul, ← Nat.div_div_eq_div_mul]
    congr 1
    omega
  · have hlt : 8 * j + 8 ≤ 8 * q + r := by omega
    have key : ∀ X : Nat, X * 256 ^ (8 * q + r) / 256 ^ (8 * j) % 256 ^ 8 = 0 := fun X => by
      have e1 : (256 : Nat) ^ (8 * q + r) = 256 ^ (8 * q + r - (8 * j + 8)) * 256 ^ 8 * 256 ^ (8 * j) := by
        rw [← Nat.pow_add, ← Nat.pow_add]; congr 1; omega
      rw [e1, ← Nat.mul_assoc, Nat.mul_div_cancel _ (Nat.pow_pos (by decide)), ← Nat.mul_assoc, Nat.mul_mod_left]
    have a1 : N * 256 ^ (8 * q + r + 1) = N * 256 * 256 ^ (8 * q + r) := by rw [Nat.pow_succ, Nat.mul_assoc, Nat.mul_comm 256]
    rw [a1, key, key]
theorem fm_here (l : List UInt8) (k : Nat) (c : UInt8) (h : l[k]? = some c) (hk : k < 32) (q r : Nat) (hp : 31 - k = 8 * q + r) (hr : r < 8) : bitw .or .u64 (lim (fm l k) q) (((c.toNat * 256 ^ r : Nat)) : Int) = lim (fm l (k + 1)) q := by
  rw [lim_256, lim_256]
  unfold fm
  rw [nm_take l k c h, show 32 - (k + 1) = 8 * q + r from by omega, show 32 - k = 8 * q + r + 1 from by omega]
  have hc := c.toNat_lt
  generalize nm (l.take k) = N
  generalize c.toNat = c at *
  have z : 0 < 256 ^ (8 * q) := Nat.pow_pos (by decide)
  have e1 : N * 256 ^ (8 * q + r + 1) / 256 ^ (8 * q) = N * 256 ^ (r + 1) := by
    rw [show 8 * q + r + 1 = (r + 1) + 8 * q from by omega, Nat.pow_add, ← Nat.mul_assoc, Nat.mul_div_cancel _ z]
  have e2 : (N * 256 + c) * 256 ^ (8 * q + r) / 256 ^ (8 * q) = (N * 256 + c) * 256 ^ r := by
    rw [show 8 * q + r = r + 8 * q from by omega, Nat.pow_add, ← Nat.mul_assoc, Nat.mul_div_cancel _ z]
  rw [e1, e2, ← part_or N c r hr (by omega)]
  have b1 : N * 256 ^ (r + 1) % 256 ^ 8 < 256 ^ 8 := Nat.mod_lt _ (by decide)
  have b2 : c * 256 ^ r < 256 ^ 8 := by
    have h1 : c * 256 ^ r < 256 * 256 ^ r := Nat.mul_lt_mul_of_pos_right (by omega) (Nat.pow_pos (by decide))
    have h2 : 256 * 256 ^ r ≤ 256 ^ 8 := by
      rw [← Nat.pow_succ']; exact Nat.pow_le_pow_right (by decide) (by omega)
    omega
  generalize N * 256 ^ (r + 1) % 256 ^ 8 = x at *
  generalize c * 256 ^ r = y at *
  have p1 : (256 : Nat) ^ 8 = 18446744073709551616 := by decide
  rw [p1] at b1 b2
  have f1 : (BitVec.ofInt 64 (x : Int)).toNat = x := by rw [BitVec.toNat_ofInt]; omega
  have f2 : (BitVec.ofInt 64 (y : Int)).toNat = y := by rw [BitVec.toNat_ofInt]; omega
  have f3 : x ||| y < 2 ^ 64 := Nat.or_lt_two_pow (by omega) (by omega)
  show IntKind.u64.wrap (((BitVec.ofInt 64 (x : Int) ||| BitVec.ofInt 64 (y : Int)).toNat : Nat) : Int) = _
  rw [BitVec.toNat_or, f1, f2, u64_in _ (by omega)]
theorem ud_put (x y q : Nat) (hq : q < 4) (h : ∀ j, j ≠ q → lim y j = lim x j) : splice (0 + ((q : Nat) : Int).toNat * 1) [D.int .u64 (lim y q)] (ud x) = some (ud y) := by
  obtain rfl | rfl | rfl | rfl : q = 0 ∨ q = 1 ∨ q = 2 ∨ q = 3 := by omega
  · show some [D.int .u64 (lim y 0), D.int .u64 (lim x 1), D.int .u64 (lim x 2), D.int .u64 (lim x 3)] = some (ud y)
    rw [← h 1 (by decide), ← h 2 (by decide), ← h 3 (by decide)]; rfl
  · show some [D.int .u64 (lim x 0), D.int .u64 (lim y 1), D.int .u64 (lim x 2), D.int .u64 (lim x 3)] = some (ud y)
    rw [← h 0 (by decide), ← h 2 (by decide), ← h 3 (by decide)]; rfl
  · show some [D.int .u64 (lim x 0), D.int .u64 (lim x 1), D.int .u64 (lim y 2), D.int .u64 (lim x 3)] = some (ud y)
    rw [← h 0 (by decide), ← h 1 (by decide), ← h 3 (by decide)]; rfl
  · show some [D.int .u64 (lim x 0), D.int .u64 (lim x 1), D.int .u64 (lim x 2), D.int .u64 (lim y 3)] = some (ud y)
    rw [← h 0 (by decide), ← h 1 (by decide), ← h 2 (by decide)]; rfl
theorem bs_bels (n : Nat) (l : List UInt8) : D.bels n (bs l) = true := by
  induction l with
  | nil => rfl
  | cons a l ih => exact ih
theorem bs_bel (n : Nat) (l : List UInt8) : D.bel n (.agg (bs l)) = true := bs_bels n l
theorem bs_idx (l : List UInt8) (k : Nat) (c : UInt8) (h : l[k]? = some c) : cut ⟨false, 1, [.int .u8 0]⟩ (((k : Nat) : Int).toNat * 1) (bs l) = some (.int .u8 (c.toNat : Int)) := by
  rw [Int.toNat_natCast, Nat.mul_one]
  unfold cut
  simp only [cond_false]
  rw [bs_get l k c h]
set_option maxHeartbeats 16000000 in
theorem From_ok (l : List UInt8) (hl : l.length = 32) : Pur Tryz.prog 36 [.agg (bs l)] (U (nm l)) := by
  have hall : ∀ z, cut ⟨true, 32, z⟩ 0 (bs l) = some (.agg (bs l)) := fun z => by
    unfold cut
    simp only [cond_true, Nat.zero_add, List.drop_zero]
    rw [Nat.ble_eq_true_of_le (by rw [bs_len, hl]; exact Nat.le_refl _), cond_true, List.take_of_length_le (by rw [bs_len, hl]; exact Nat.le_refl _)]
  refine pur_intro Tryz.func36 rfl Tryz.ntmps36 rfl (by first | rfl | assumption | exact bs_cl _) fun B => ?_
  repeat (first | refine zC ?_ | refine zA ?_ | refine k_load rfl rfl rfl (hall _) ?_ | refine zB ?_)
  refine W_loop (fun n' ρ m nx => ∃ k x : Nat, k ≤ 32 ∧ x = fm l k ∧ n' = 32 - k ∧ ρ = [(8, .int .i64 (k : Int)), (7, .agg (bs l)), (3, .ptr 2 0), (2, .ptr 1 0)] ∧ m = [(2, some (.var 27 (ud x))), (1, some (.var 27 (ud 0)))] ∧ nx = 3)
    ⟨_, _, _, _, (by exact zs), (by exact zm), 0, 0, by decide, by unfold fm; simp [nm], rfl, rfl, rfl, rfl⟩ ?_
  rintro n' ρ m nx ⟨k, x, hk, hx, rfl, rfl, rfl, rfl⟩
  by_cases hlt : k < 32
  · obtain ⟨c, hc⟩ : ∃ c, l[k]? = some c := ⟨_, List.getElem?_eq_getElem (by omega)⟩
    have hix := bs_idx l k c hc
    have e31 : (31 : Int) - (k : Int) = ((31 - k : Nat) : Int) := by omega
    have hq := quo8 (31 - k) (by omega)
    have hr := rem8 (31 - k)
    have hm := mul8 ((31 - k) % 8) (by omega)
    rw [← e31] at hq hr
    have hcut := ud_cut (fm l k) ((31 - k) / 8) (by omega)
    have hfo := fm_other l k c hc hlt ((31 - k) / 8) ((31 - k) % 8) (by omega) (by omega)
    have hfh := fm_here l k c hc hlt ((31 - k) / 8) ((31 - k) % 8) (by omega) (by omega)
    have hput := ud_put (fm l k) (fm l (k + 1)) ((31 - k) / 8) (by omega) hfo
    have hcl := c.toNat_lt
    have hcv : IntKind.u64.wrap (c.toNat : Int) = (c.toNat : Int) := u64_in _ (by omega)
    have hsh : IntKind.u64.wrap ((c.toNat : Int) * 2 ^ (min ((8 * ((31 - k) % 8) : Nat) : Int).toNat IntKind.u64.bits)) = ((c.toNat * 256 ^ ((31 - k) % 8) : Nat) : Int) := by
      have hr8 : (31 - k) % 8 < 8 := by omega
      generalize (31 - k) % 8 = r at *
      rw [Int.toNat_natCast]
      have : min (8 * r) IntKind.u64.bits = 8 * r := Nat.min_eq_left (by show _ ≤ 64; omega)
      rw [this]
      have e1 : ((c.toNat : Int) * 2 ^ (8 * r)) = ((c.toNat * 256 ^ r : Nat) : Int) := by
        rw [Int.natCast_mul, Int.natCast_pow, Int.pow_mul]; rfl
      rw [e1]
      have h1 : c.toNat * 256 ^ r < 256 * 256 ^ r := Nat.mul_lt_mul_of_pos_right (by omega) (Nat.pow_pos (by decide))
      have h2 : 256 * 256 ^ r ≤ 256 ^ 8 := by
        rw [← Nat.pow_succ']; exact Nat.pow_le_pow_right (by decide) (by omega)
      have p1 : (256 : Nat) ^ 8 = 18446744073709551616 := by decide
      exact u64_in _ (by omega)
    have hqb : (31 - k) / 8 < 4 := by omega
    rw [← hx] at hcut hfh hput
    generalize (31 - k) / 8 = q at *
    generalize c.toNat * 256 ^ ((31 - k) % 8) = V at *
    generalize (31 - k) % 8 = r at *
    repeat (first | refine zC ?_ | refine zA ?_ | (refine k_index rfl rfl rfl ⟨?_, ?_⟩ (by exact hix) ?_; (omega); (omega)) | (refine k_quo rfl rfl rfl ?_ hq ?_; (decide)) | (refine k_rem rfl rfl rfl ?_ hr ?_; (decide)) | refine k_mul rfl rfl rfl hm ?_ | refine k_load rfl rfl rfl (by exact hcut) ?_ | refine k_conv rfl rfl hcv ?_ | (refine k_shl rfl rfl rfl ?_ hsh ?_; (omega)) | refine k_bits rfl rfl rfl rfl hfh ?_ | refine k_store rfl rfl rfl rfl rfl rfl (by exact hput) ?_ | refine zB ?_)
    exact ⟨32 - (k + 1), _, _, _, (by exact zs), (by exact zm), by omega, k + 1, _, by omega, rfl, rfl, rfl, rfl, rfl⟩
  · have ek : k = 32 := by omega
    subst ek
    have e : fm l 32 = nm l := by
      unfold fm
      rw [List.take_of_length_le (by omega), Nat.sub_self, Nat.pow_zero, Nat.mul_one]
    rw [e] at hx
    subst hx
    repeat (first | refine zC ?_ | refine zA ?_ | refine zB ?_)
    (first | with_reducible refine q_endr ?_); refine rets1 Tryz.results36 (by exact zv) ?_
    rfl
end Go.Proofs.YtcfefmbbbfdppaaGreatDoor
namespace Go.Proofs.YtcfefmbbbfdppaaGreatDoor
open Go.RowKit Go.Lib Go.IntWalk
set_option linter.unusedVariables false
set_option maxRecDepth 100000
theorem bs_put (l : List UInt8) (k : Nat) (c : UInt8) (h : k < l.length) : splice (0 + ((k : Nat) : Int).toNat * 1) [D.int .u8 (c.toNat : Int)] (bs l) = some (bs (l.set k c)) := by
  unfold splice
  rw [Nat.ble_eq_true_of_le (by rw [bs_len]; simp; omega), cond_true]
  congr 1
  rw [Int.toNat_natCast, Nat.zero_add, Nat.mul_one]
  unfold bs
  rw [← List.map_take, ← List.map_drop, List.set_eq_take_append_cons_drop, if_pos h]
  simp
end Go.Proofs.YtcfefmbbbfdppaaGreatDoor
namespace Go.Proofs.YtcfefmbbbfdppaaGreatDoor
open Go.RowKit Go.Lib Go.IntWalk
set_option linter.unusedVariables false
set_option maxRecDepth 100000
theorem shr_nat (n i : Nat) (hi : 8 * i ≤ 63) : ((n : Int)).fdiv (2 ^ (min ((8 * i : Nat) : Int).toNat IntKind.i64.bits)) = ((n / 256 ^ i : Nat) : Int) := by
  rw [Int.toNat_natCast, show min (8 * i) IntKind.i64.bits = 8 * i from Nat.min_eq_left (by show 8 * i ≤ 64; omega)]
  rw [Int.fdiv_eq_ediv_of_nonneg _ (by exact_mod_cast Nat.zero_le _)]
  rw [show (256 : Nat) ^ i = 2 ^ (8 * i) from by rw [Nat.pow_mul]]
  push_cast
  rfl
theorem toB_snoc (k n j : Nat) (h : j < k) : (toB k n).take j ++ [UInt8.ofNat (n / 256 ^ (k - 1 - j))] = (toB k n).take (j + 1) := by
  have h1 := toB_get k n j h
  rw [List.take_add_one, h1]; rfl
theorem conv_byte (n i : Nat) : IntKind.u8.wrap ((n / 256 ^ i : Nat) : Int) = ((UInt8.ofNat (n / 256 ^ i)).toNat : Int) := by
  rw [IntKind.wrap_u8, UInt8.toNat_ofNat']; omega
def penM (t : Nat) (L : Nat) (z : List D) : Mem := [(0, some (.var 121 [.slice (.own t) L z])), (t, some (.tok 5 1))]
set_option maxHeartbeats 4000000 in
theorem number_ok (l : List UInt8) (L : Nat) (hL : l.length = L) (n sz L2 : Nat) (h0 : 0 < sz) (hs : sz ≤ 8) (hn : n < 9223372036854775808) (hsm : L ≤ 10000000) (hL2 : L + sz = L2) (z z2 : List D) (hz : bs l = z) (hz2 : bs (l ++ toB sz n) = z2) :
    Fn Tryz.prog 92 2 [.ptr 0 0, .int .i64 n, .int .i64 sz] (penM 1 L z) (.tup []) (penM 2 L2 z2) := by
  unfold penM
  refine fn_intro Tryz.func92 rfl Tryz.ntmps92 rfl fun B => ?_
  refine zR ?_
  refine W_loopW (fun n' ρ m nx => ∃ (j q : Nat) (x : List D) (e : Int), j ≤ sz ∧ e = (sz : Int) - 1 - j ∧ q = L + j ∧ x = bs (l ++ (toB sz n).take j) ∧ n' = sz - j ∧ ρ = [(6, .int .i64 e), (0, .ptr 0 0), (1, .int .i64 n)] ∧ m = [(0, some (.var 121 [.slice (.own 2) q x])), (2, some (.tok 5 1))] ∧ nx = 3)
    ⟨_, _, _, _, (by exact zK (fun l => if l = 2 then 1 else l)), 0, L, z, (sz : Int) - 1, Nat.zero_le _, by simp, rfl, by simp [hz], rfl, rfl, rfl, rfl⟩ ?_
  rintro n' ρ m nx ⟨j, q, x, e, hj, he, hq, hx, rfl, rfl, rfl, rfl⟩
  by_cases hlt : j < sz
  · have e1 : IntKind.i64.wrap (8 * e) = ((8 * (sz - 1 - j) : Nat) : Int) := by rw [i64_in _ (by omega)]; omega
    have e2 := shr_nat n (sz - 1 - j) (by omega)
    have e3 := conv_byte n (sz - 1 - j)
    have hxl : q * 1 = x.length := by rw [hx, bs_len, List.length_append, List.length_take, toB_len]; omega
    have hx2 : x ++ [D.int .u8 ((UInt8.ofNat (n / 256 ^ (sz - 1 - j))).toNat : Int)] = bs (l ++ (toB sz n).take (j + 1)) := by
      rw [hx, ← toB_snoc sz n j hlt, ← List.append_assoc]; unfold bs; rw [List.map_append (l₁ := l ++ _)]; rfl
    generalize (UInt8.ofNat (n / 256 ^ (sz - 1 - j))).toNat = c at *
    generalize n / 256 ^ (sz - 1 - j) = v at *
    repeat (first | refine zC ?_ | refine k_buildSlice (cs := [.int .u8 (c : Int)]) rfl rfl rfl rfl rfl rfl rfl ?_ | (refine k_append rfl rfl rfl ?_ hxl rfl rfl ?_ rfl rfl hx2 ?_; (rfl); (omega)) | refine zA ?_ | refine k_mul rfl rfl rfl e1 ?_ | (refine k_shr rfl rfl rfl ?_ e2 ?_; (omega)) | refine k_conv rfl rfl e3 ?_ | refine zB ?_)
    exact ⟨sz - (j + 1), _, _, _, (by exact zK (fun l => if l = 2 then 4 else l)), by omega, j + 1, q + 1, _, e - 1, by omega, by omega, by omega, rfl, rfl, rfl, rfl, rfl⟩
  · have ej : j = sz := by omega
    subst ej
    have hx' : x = z2 := by rw [hx, ← hz2, List.take_of_length_le (by rw [toB_len]; exact Nat.le_refl _)]
    have hq' : q = L2 := by omega
    subst hx' hq'
    refine zR ?_
    first | exact (q_endf (fun l => l) 3 (RetsF.r0 ) rfl (by repeat (first | exact trivial | refine ⟨⟨rfl, _, rfl, Ups.refl _, rfl⟩, ?_⟩ | refine ⟨⟨rfl, rfl⟩, ?_⟩)) rfl rfl rfl).2 | exact (q_endf (fun l => l) 3 (RetsF.r0 ) rfl (by repeat (first | exact trivial | refine ⟨⟨rfl, _, rfl, Ups.refl _, rfl⟩, ?_⟩ | refine ⟨⟨rfl, rfl⟩, ?_⟩)) rfl rfl rfl).1
theorem bytes_ok (l c : List UInt8) (L m : Nat) (hL : l.length = L) (hm : c.length = m) (hsm : L ≤ 8000000) (hsm2 : m ≤ 8000000) (L2 : Nat) (hL2 : L + m = L2) (z z2 : List D) (hz : bs l = z) (hz2 : bs (l ++ c) = z2) :
    Fn Tryz.prog 93 2 [.ptr 0 0, .slice .frozen m (bs c)] (penM 1 L z) (.tup []) (penM 2 L2 z2) := by
  unfold penM
  have hxl : L * 1 = z.length := by rw [← hz, bs_len, hL]; omega
  have hcl : m * 1 = (bs c).length := by rw [bs_len, hm]; omega
  have hcc : z ++ bs c = z2 := by rw [← hz, ← hz2]; unfold bs; rw [List.map_append]
  refine fn_intro Tryz.func93 rfl Tryz.ntmps93 rfl fun B => ?_
  repeat (first | refine zC ?_ | (refine k_append rfl rfl rfl ?_ hxl hcl rfl ?_ rfl hL2 hcc ?_; (rfl); (omega)) | refine zAB ?_)
  first | exact (q_endf (fun l => l) 3 (RetsF.r0 ) rfl (by repeat (first | exact trivial | refine ⟨⟨rfl, _, rfl, Ups.refl _, rfl⟩, ?_⟩ | refine ⟨⟨rfl, rfl⟩, ?_⟩)) rfl rfl rfl).2 | exact (q_endf (fun l => l) 3 (RetsF.r0 ) rfl (by repeat (first | exact trivial | refine ⟨⟨rfl, _, rfl, Ups.refl _, rfl⟩, ?_⟩ | refine ⟨⟨rfl, rfl⟩, ?_⟩)) rfl rfl rfl).1
end Go.Proofs.YtcfefmbbbfdppaaGreatDoor
namespace Go.Proofs.YtcfefmbbbfdppaaGreatDoor
open Go.RowKit
set_option linter.unusedVariables false
set_option linter.unusedSimpArgs false
inductive Fix (k : Nat) (cs : List D) : D → D → Prop where
  | refl (d : D) : Fix k cs d d
  | ptr (off : Nat) (h : Nat.ble off cs.length = true) : Fix k cs (.ptr k off) (.eptr (cs.drop off))
  | ptr0 : Fix k cs (.ptr k 0) (.eptr cs)
  | ms (off n j : Nat) (h : Nat.ble (off + j) cs.length = true) : Fix k cs (.ms k off n) (.slice .frozen n ((cs.drop off).take j))
  | agg (ds es : List D) (hl : es.length = ds.length) (h : ∀ (i : Nat) (d e : D), ds[i]? = some d → es[i]? = some e → Fix k cs d e) : Fix k cs (.agg ds) (.agg es)
theorem Fix.one {k : Nat} {cs : List D} {d e : D} (h : Fix k cs d e) : e.one = d.one := by cases h <;> rfl
theorem Fix.rep {k : Nat} {cs : List D} {d e : D} (h : Fix k cs d e) {G : Gh} {w : World} (hp : ∀ off v, off ≤ cs.length → Rep G w (.ptr k off) v → Rep G w (.eptr (cs.drop off)) v) (hm : ∀ off n j v, off + j ≤ cs.length → Rep G w (.ms k off n) v → Rep G w (.slice .frozen n ((cs.drop off).take j)) v) : ∀ {v : Value}, Rep G w d v → Rep G w e v := by
  induction h with
  | refl => exact fun h => h
  | ptr off h => exact fun hr => hp off _ (Nat.le_of_ble_eq_true h) hr
  | ptr0 => exact fun hr => hp 0 _ (Nat.zero_le _) hr
  | ms off n j h => exact fun hr => hm off n j _ (Nat.le_of_ble_eq_true h) hr
  | agg ds es hl hu ih =>
    intro v h
    cases h with
    | agg _ vs hl' h1 hh =>
      refine .agg es vs (by omega) (fun e he => ?_) (fun i e v he hv => ?_)
      · obtain ⟨i, hi⟩ := List.getElem?_of_mem he
        have hlt := (List.getElem?_eq_some_iff.1 hi).1
        have hd : ds[i]? = some (ds[i]'(by omega)) := List.getElem?_eq_getElem _
        rw [(hu i _ e hd hi).one]; exact h1 _ (List.mem_of_getElem? hd)
      · have hlt := (List.getElem?_eq_some_iff.1 he).1
        have hd : ds[i]? = some (ds[i]'(by omega)) := List.getElem?_eq_getElem _
        exact ih i _ e hd he (hh i _ v hd hv)
def SubSx (k : Nat) (cs : List D) (ρ : Slots) : Slots → Prop
  | [] => True
  | (t, d) :: r => (∃ d0, sget ρ t = some d0 ∧ Fix k cs d0 d) ∧ SubSx k cs ρ r
def SubMx (k : Nat) (m : Mem) : Mem → Prop
  | [] => True
  | (l, c) :: r => (Nat.beq l k = false ∧ c.isSome = true ∧ mget m l = c) ∧ SubMx k m r
theorem SubSx.get {k : Nat} {cs : List D} {ρ : Slots} : ∀ {ρ1 : Slots}, SubSx k cs ρ ρ1 → ∀ t d, sget ρ1 t = some d → ∃ d0, sget ρ t = some d0 ∧ Fix k cs d0 d
  | [], _, t, d, h => by simp [sget] at h
  | (j, x) :: r, h, t, d, hd => by
    simp only [sget] at hd
    rcases Bool.eq_false_or_eq_true (Nat.beq j t) with hb | hb
    · simp only [hb, cond_true, Option.some.injEq] at hd
      subst hd
      rw [← Nat.eq_of_beq_eq_true hb]; exact h.1
    · simp only [hb, cond_false] at hd
      exact SubSx.get h.2 t d hd
theorem SubMx.get {k : Nat} {m : Mem} : ∀ {m1 : Mem}, SubMx k m m1 → ∀ l c, mget m1 l = some c → l ≠ k ∧ mget m l = some c
  | [], _, l, c, h => by simp [mget] at h
  | (j, x) :: r, h, l, c, hc => by
    simp only [mget] at hc
    rcases Bool.eq_false_or_eq_true (Nat.beq j l) with hb | hb
    · simp only [hb, cond_true] at hc
      subst hc
      have := Nat.eq_of_beq_eq_true hb
      subst this
      exact ⟨fun e => (by have := h.1.1; rw [e, Nat.beq_refl] at this; cases this), h.1.2.2⟩
    · simp only [hb, cond_false] at hc
      exact SubMx.get h.2 l c hc
theorem weak_fix {B : Base} {N : Nat} {ρ ρ1 : Slots} {m m1 : Mem} {nx : Nat} {T : TypeId} (k : Nat) (cs : List D) (hm : mget m k = some (.var T cs)) (hcl : D.cls cs = true) (hρ : SubSx k cs ρ ρ1) (hmz : SubMx k m m1) : Weak B N ρ m nx ρ1 m1 nx := by
  intro G a w h
  obtain ⟨k1, k4, k5, hnl, ws, k6, k7, k8⟩ := h.sim.var k _ _ hm
  have hvl := k7.1
  let G' : Gh := { G with hw := fun b => if b = G.g k then cs.length else G.hw b, al := fun x => G.al x && (G.nl x || !decide (G.g x = G.g k)) }
  have hwb : ∀ b, b ≠ G.g k → G'.hw b = G.hw b := fun b hb => by simp [G', hb]
  have hwk : G'.hw (G.g k) = cs.length := by simp [G']
  have hx : Ext G w G' w := by
    refine ⟨fun x hk => ⟨hk, rfl, fun ha => ?_, rfl, rfl⟩, fun b => ?_, fun _ _ _ => rfl, Nat.le_refl _⟩
    · simp only [G', Bool.and_eq_true, Bool.or_eq_true, Bool.not_eq_true', decide_eq_false_iff_not] at ha
      exact ⟨ha.1, fun hn => hwb _ (ha.2.resolve_left (by rw [hn]; simp))⟩
    · by_cases e : b = G.g k
      · subst e; rw [hwk, k5]; exact Nat.zero_le _
      · rw [hwb b e]; exact Nat.le_refl _
  have hap : ∀ l c, mget m1 l = some c → G.nl l = false → G.g l ≠ G.g k := fun l c hc hn => by
    obtain ⟨hne, e⟩ := hmz.get l c hc
    exact h.sim.inj l k (by rw [e]; rfl) (by rw [hm]; rfl) hne hn hnl
  have hcell : ∀ i, i < cs.length → w.cell? ⟨G.g k, i, none⟩ = ws[i]? := fun i _ => cell_of_row w _ _ ws T (0, 0) k6
  have hcl' : ∀ d ∈ cs, d.one = true ∧ d.cl = true := fun d hd => ⟨k8 d hd, D.cls_mem hcl d hd⟩
  have hr := k7.mono hx
  have hptr : ∀ off v, off ≤ cs.length → Rep G' w (.ptr k off) v → Rep G' w (.eptr (cs.drop off)) v := fun off v hle hv => by
    cases hv
    refine .eptr _ (G.g k) off (ws.extract off ws.size) (by simp; omega) (fun d hd => hcl' d (List.mem_of_mem_drop hd)) (fun i d v hd hv => ?_) (by rw [hwk]; simp; omega) (fun i hi => ?_)
    · rw [List.getElem?_drop] at hd
      rw [Array.getElem?_extract] at hv
      split at hv
      · exact hr.2 _ d v hd hv
      · cases hv
    · simp only [List.length_drop] at hi
      rw [hcell _ (by omega), Array.getElem?_extract, if_pos (by omega)]
  have hms : ∀ off n j v, off + j ≤ cs.length → Rep G' w (.ms k off n) v → Rep G' w (.slice .frozen n ((cs.drop off).take j)) v := fun off n j v hle hv => by
    cases hv with
    | ms _ _ _ cap hk hn =>
      have hlen : ((cs.drop off).take j).length = j := by simp; omega
      refine .slice .frozen n _ (G.g k) off cap (ws.extract off (off + j)) (by rw [hlen]; simp; omega) (fun d hd => hcl' d (List.mem_of_mem_drop (List.mem_of_mem_take hd))) (fun i d v hd hv => ?_) (by rw [hwk, hlen]; omega) (fun i hi => ?_) (Array.getElem?_eq_some_iff.1 k6).1 hn trivial
      · rw [List.getElem?_take] at hd
        split at hd
        · rw [List.getElem?_drop] at hd
          rw [Array.getElem?_extract] at hv
          split at hv
          · exact hr.2 _ d v hd hv
          · cases hv
        · cases hd
      · rw [hlen] at hi
        rw [hcell _ (by omega), Array.getElem?_extract, if_pos (by omega)]
  refine ⟨G', ⟨⟨h.sim.new, h.sim.ext.trans hx, fun b hb hT => ?_, fun l T' es hl => ?_, fun l E' s' hl => ?_, fun l K es hl => ?_, fun l l' ha hb hne n1 n2 => ?_, fun b hb => ?_⟩, h.defers, h.size, fun t d hd => ?_, h.fresh⟩⟩
  · rw [hwb b fun e => ?_]
    · exact h.sim.old b hb hT
    · rcases k4 with h | h
      · omega
      · exact hT (e ▸ h)
  · obtain ⟨_, e1⟩ := hmz.get l _ hl
    obtain ⟨a1, a2, a3, a4, vs, a5, a6, a7⟩ := h.sim.var l T' es e1
    exact ⟨a1, a2, (hwb _ (hap l _ hl a4)).trans a3, a4, vs, a5, a6.mono hx, a7⟩
  · obtain ⟨_, e1⟩ := hmz.get l _ hl
    obtain ⟨a1, a2, a3⟩ := h.sim.tok l E' s' e1
    refine ⟨a1, ?_, fun hn => ?_⟩
    · simp only [G', a2, Bool.true_and, Bool.or_eq_true, Bool.not_eq_true', decide_eq_false_iff_not]
      cases hn : G.nl l with
      | true => exact .inl rfl
      | false => exact .inr (hap l _ hl hn)
    · obtain ⟨c1, c2, vs, c3, c4, c5⟩ := a3 hn
      exact ⟨c1, c2, vs, c3, by rw [hwb _ (hap l _ hl hn)]; exact c4, c5⟩
  · obtain ⟨_, e1⟩ := hmz.get l _ hl
    obtain ⟨a1, a2, a3⟩ := h.sim.obj l K es e1
    refine ⟨a1, a2, fun hn => ?_⟩
    obtain ⟨c1, c2, o, c3, c4⟩ := a3 hn
    exact ⟨c1, (hwb _ (hap l _ hl hn)).trans c2, o, c3, c4.mono hx⟩
  · obtain ⟨c1, hc1⟩ := Option.isSome_iff_exists.1 ha
    obtain ⟨c2, hc2⟩ := Option.isSome_iff_exists.1 hb
    exact h.sim.inj l l' (by rw [(hmz.get l _ hc1).2]; rfl) (by rw [(hmz.get l' _ hc2).2]; rfl) hne n1 n2
  · by_cases e : b = G.g k
    · subst e
      exact ⟨ws, T, (0, 0), k6, by rw [hwk]; omega⟩
    · rw [hwb b e] at hb ⊢
      exact h.sim.data b hb
  · obtain ⟨d0, e1, e2⟩ := hρ.get t d hd
    exact e2.rep hptr hms ((h.slots t d0 e1).mono hx)
section
variable {P : Program} {o : Oper} {ρ : Slots} {m : Mem}
theorem r_sliceEt {T E : TypeId} {n : Nat} {ty : Ty} [ha : HasArr P T n E] [ht : HasTy P E ty] {x : Operand} {low : Option Operand} {cs cs' : List D} {nn : Nat} {lo : Int} (ho : o.op = .slice T x low none none) (hx : oev ρ x = some (.eptr cs)) (hlo : bnd ρ low 0 = some lo)
    (h : 0 ≤ lo ∧ lo < n) (hsz : Nat.blt 0 ty.size = true) (hlen : Nat.ble (n * ty.size) cs.length = true) (hnn : ((n : Int) - lo).toNat = nn) (hcs : (cs.drop (lo.toNat * ty.size)).take (nn * ty.size) = cs') : OpSound P o (Eff.val (.slice .tight nn cs')) ρ m := by
  subst hcs
  refine sound_val fun B G a w m' hs hh _ => ?_
  have hpr := hh x (by simp [ho, Op.operands]) _ hx
  have hl := bnd_rep (G := G) (w := w) (a := a) hlo fun y hy d hd => hh y (by rw [ho]; subst hy; simp [Op.operands]) d hd
  have hh' : ((none : Option Operand) = none ∧ (n : Int) = n) ∨ ∃ y k, (none : Option Operand) = some y ∧ a.eval y = Value.int k (n : Int) := .inl ⟨rfl, rfl⟩
  obtain ⟨i, hi', hsi⟩ := Option.map_eq_some_iff.1 ht.size
  have hlen' := Nat.le_of_ble_eq_true hlen
  generalize hev : a.eval x = v at hpr
  cases hpr with
  | eptr cs b o' vs hl' h1 hh2 hhw hc =>
    have hb := run_bounds (P := P) (w := w) (a := a) (isSlice := false) (len := n) (cap := n) hl hh' ⟨h.1, by omega, by omega⟩
    rw [Option.map_none] at hb
    have e4 : ((n : Int)).toNat - lo.toNat = nn := by omega
    have e6 : n - lo.toNat = nn := by omega
    have hms : lo.toNat * ty.size + nn * ty.size ≤ cs.length := by
      rw [← Nat.add_mul]
      exact Nat.le_trans (Nat.mul_le_mul_right _ (by omega)) hlen'
    have hln : ((cs.drop (lo.toNat * ty.size)).take (nn * ty.size)).length = nn * ty.size := by simp; omega
    refine ⟨.slice (some ⟨b, o' + lo.toNat * ty.size, none⟩) nn nn, ?_, ?_⟩
    · simp only [execOp, ho, hev, Instr.sliceAt, Sem.run_bind, run_underlying ha.arr, Instr.sureAddr, Sem.run_pure, Result.andThen_ok, Option.map_none, hb, sizeOf, typeInfo, run_program, hi', hsi, e4, e6]
      rw [if_neg (by omega), add_off]
    · by_cases hb0 : b < w.heap.size
      · refine .slice .tight nn _ b (o' + lo.toNat * ty.size) nn (vs.extract (lo.toNat * ty.size) (lo.toNat * ty.size + nn * ty.size)) (by rw [hln]; simp; omega) (fun d hd => h1 d (List.mem_of_mem_drop (List.mem_of_mem_take hd))) (fun i d v hd hv => ?_) (by rw [hln]; omega) (fun i hi => ?_) hb0 (Nat.le_refl _) rfl
        · rw [List.getElem?_take] at hd
          split at hd
          · rw [List.getElem?_drop] at hd
            rw [Array.getElem?_extract] at hv
            split at hv
            · exact hh2 _ d v hd hv
            · cases hv
          · cases hd
        · rw [hln] at hi
          rw [show o' + lo.toNat * ty.size + i = o' + (lo.toNat * ty.size + i) from by omega, hc _ (by omega), Array.getElem?_extract, if_pos (by omega)]
      · have hn0 : 0 < ty.size := by rw [← Nat.blt_eq]; exact hsz
        have : 0 < cs.length := Nat.lt_of_lt_of_le (Nat.mul_pos (by omega) hn0) hlen'
        have h0 := hc 0 this
        have hv0 : vs[0]? = some (vs[0]'(by omega)) := Array.getElem?_eq_getElem _
        rw [hv0] at h0
        have : w.heap[b]? = none := Array.getElem?_eq_none (by omega)
        simp [World.cell?, this] at h0
end
section
variable {P : Program} {ρ : Slots} {m : Mem} {nx : Nat} {ops : Array Oper} {os : List Oper} {K : List Eff → Slots → Mem → Nat → Prop}
theorem k_sliceEt {t : Tmp} {T E : TypeId} {n : Nat} {ty : Ty} [HasArr P T n E] [HasTy P E ty] {x : Operand} {low : Option Operand} {cs cs' : List D} {nn : Nat} {lo : Int} {V : TypeId} {pos : String} {af : Array Edge} {gd : Option (Nat × Bool)} (hg : gok ops ρ ⟨some t, .slice T x low none none, V, pos, af, gd⟩ = some true)
    (hx : oev ρ x = some (.eptr cs)) (hlo : bnd ρ low 0 = some lo) (h : 0 ≤ lo ∧ lo < n) (hsz : Nat.blt 0 ty.size = true) (hlen : Nat.ble (n * ty.size) cs.length = true) (hnn : ((n : Int) - lo).toNat = nn) (hcs : (cs.drop (lo.toNat * ty.size)).take (nn * ty.size) = cs')
    (hh : R P ops os (fun Es => K (Eff.val (.slice .tight nn cs') :: Es)) ((t, .slice .tight nn cs') :: ρ) m nx) : R P ops (⟨some t, .slice T x low none none, V, pos, af, gd⟩ :: os) K ρ m nx := R_cons hg (r_sliceEt rfl hx hlo h hsz hlen hnn hcs) rfl hh
end
end Go.Proofs.YtcfefmbbbfdppaaGreatDoor
