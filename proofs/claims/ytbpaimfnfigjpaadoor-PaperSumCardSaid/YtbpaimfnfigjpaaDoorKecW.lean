/- Words of 64 bits as the program's numbers, and rows of them. Plain. No conditions. -/
import Derived.Test.YtbpaimfnfigjpaaDoorDK2
import Derived.Test.YtbpaimfnfigjpaaDoorKecM
namespace Go.Proofs.YtbpaimfnfigjpaaDoor
open Go.RowKit Go.IntWalk
set_option linter.unusedVariables false
set_option maxRecDepth 100000

namespace Kec
/-- a word as a number -/
def wv (x : W) : Int := (x.toNat : Int)
theorem wv_lt (x : W) : 0 ≤ wv x ∧ wv x < 18446744073709551616 := by
  have := x.isLt
  unfold wv; omega
theorem ofInt_wv (x : W) : BitVec.ofInt 64 (wv x) = x := by
  unfold wv; rw [BitVec.ofInt_natCast, BitVec.ofNat_toNat]; simp
theorem wrap_wv (x : W) : IntKind.u64.wrap (x.toNat : Int) = wv x := by
  have := x.isLt
  unfold wv; exact u64_in _ (by omega)
theorem xor_wv (x y : W) : bitw .xor .u64 (wv x) (wv y) = wv (x ^^^ y) := by
  unfold bitw
  show IntKind.u64.wrap ((BitVec.ofInt 64 (wv x) ^^^ BitVec.ofInt 64 (wv y)).toNat : Int) = _
  rw [ofInt_wv, ofInt_wv, wrap_wv]
theorem and_wv (x y : W) : bitw .and .u64 (wv x) (wv y) = wv (x &&& y) := by
  unfold bitw
  show IntKind.u64.wrap ((BitVec.ofInt 64 (wv x) &&& BitVec.ofInt 64 (wv y)).toNat : Int) = _
  rw [ofInt_wv, ofInt_wv, wrap_wv]
theorem or_wv (x y : W) : bitw .or .u64 (wv x) (wv y) = wv (x ||| y) := by
  unfold bitw
  show IntKind.u64.wrap ((BitVec.ofInt 64 (wv x) ||| BitVec.ofInt 64 (wv y)).toNat : Int) = _
  rw [ofInt_wv, ofInt_wv, wrap_wv]
theorem com_wv (x : W) : bitw .xor .u64 (if IntKind.u64.signed then -1 else IntKind.u64.max) (wv x) = wv (~~~ x) := by
  have e : (if IntKind.u64.signed then -1 else IntKind.u64.max) = wv (BitVec.allOnes 64) := by decide
  rw [e, xor_wv, BitVec.allOnes_xor]
theorem shl_wv (x : W) (s : Nat) (hs : s < 64) : IntKind.u64.wrap (wv x * 2 ^ (min ((s : Nat) : Int).toNat IntKind.u64.bits)) = wv (x <<< s) := by
  have e : min ((s : Nat) : Int).toNat IntKind.u64.bits = s := by rw [Int.toNat_natCast]; exact Nat.min_eq_left (by show s ≤ 64; omega)
  rw [e, IntKind.wrap_u64]
  unfold wv
  rw [BitVec.toNat_shiftLeft, Nat.shiftLeft_eq]
  have : (x.toNat : Int) * 2 ^ s = ((x.toNat * 2 ^ s : Nat) : Int) := by push_cast; rfl
  rw [this]
  omega
theorem shr_wv (x : W) (s : Nat) (hs : s ≤ 64) : (wv x).fdiv (2 ^ (min ((s : Nat) : Int).toNat IntKind.u64.bits)) = wv (x >>> s) := by
  have e : min ((s : Nat) : Int).toNat IntKind.u64.bits = s := by rw [Int.toNat_natCast]; exact Nat.min_eq_left hs
  rw [e, Int.fdiv_eq_ediv_of_nonneg _ (by exact Int.le_of_lt (Int.pow_pos (by decide)))]
  unfold wv
  rw [BitVec.toNat_ushiftRight, Nat.shiftRight_eq_div_pow]
  have : (2 : Int) ^ s = ((2 ^ s : Nat) : Int) := by push_cast; rfl
  rw [this, ← Int.natCast_ediv]

/-- a row of words -/
def arr (f : S) (n : Nat) : List D := (List.range n).map fun j => D.int .u64 (wv (f j))
theorem arr_len (f : S) (n : Nat) : (arr f n).length = n := by simp [arr]
theorem arr_get (f : S) (n j : Nat) (h : j < n) : (arr f n)[j]? = some (D.int .u64 (wv (f j))) := by
  unfold arr; rw [List.getElem?_map, List.getElem?_range h]; rfl
theorem arr_congr {f g : S} {n : Nat} (h : ∀ j, j < n → f j = g j) : arr f n = arr g n := by
  unfold arr
  refine List.map_congr_left fun j hj => ?_
  rw [h j (List.mem_range.1 hj)]
def upd (f : S) (k : Nat) (v : W) : S := fun j => if j = k then v else f j
theorem arr_cut (f : S) (n k : Nat) (h : k < n) : cut ⟨false, 1, [.int .u64 0]⟩ (0 + ((k : Nat) : Int).toNat * 1) (arr f n) = some (.int .u64 (wv (f k))) := by
  unfold cut
  rw [Int.toNat_natCast, Nat.zero_add, Nat.mul_one, cond_false, arr_get f n k h]
theorem arr_put (f : S) (n k : Nat) (h : k < n) (v : W) : splice (0 + ((k : Nat) : Int).toNat * 1) [D.int .u64 (wv v)] (arr f n) = some (arr (upd f k v) n) := by
  unfold splice
  rw [Int.toNat_natCast, Nat.zero_add, Nat.mul_one, Nat.ble_eq_true_of_le (by rw [arr_len]; simp; omega), cond_true]
  congr 1
  apply List.ext_getElem?
  intro j
  have hl := arr_len f n
  rcases Nat.lt_or_ge j n with hj | hj
  · rw [arr_get _ n j hj, List.append_assoc, List.getElem?_append, List.length_take, hl, show min k n = k from by omega]
    unfold upd
    by_cases h1 : j < k
    · rw [if_pos h1, List.getElem?_take, if_pos h1, arr_get f n j hj, if_neg (by omega)]
    · rw [if_neg h1]
      by_cases h2 : j = k
      · subst h2; rw [Nat.sub_self, if_pos rfl]; rfl
      · rw [List.getElem?_append_right (by simp; omega), List.getElem?_drop, if_neg h2]
        simp only [List.length_cons, List.length_nil]
        rw [show k + (0 + 1) + (j - k - (0 + 1)) = j from by omega, arr_get f n j hj]
  · rw [List.getElem?_eq_none (by simp [hl]; omega), List.getElem?_eq_none (by rw [arr_len]; exact hj)]
theorem arr_cls (f : S) (n : Nat) : D.cls (arr f n) = true := D.cls_of fun d hd => by
  unfold arr at hd
  obtain ⟨j, _, rfl⟩ := List.mem_map.1 hd
  rfl
theorem arr_fzs (f : S) (n : Nat) : D.fzs (arr f n) = arr f n := by
  unfold arr
  induction List.range n with
  | nil => rfl
  | cons j l ih => show (D.int .u64 (wv (f j))).fz :: D.fzs _ = _; rw [ih]; rfl
theorem arr_whole (f : S) (n : Nat) (ze : List D) : cut ⟨true, n, ze⟩ 0 (arr f n) = some (.agg (arr f n)) := by
  unfold cut
  simp only [cond_true, Nat.zero_add, List.drop_zero]
  rw [Nat.ble_eq_true_of_le (by rw [arr_len]; exact Nat.le_refl _), cond_true, List.take_of_length_le (by rw [arr_len]; exact Nat.le_refl _)]
theorem arr_lay (f : S) (n : Nat) (cs : List D) (h : cs.length = n) : splice 0 (arr f n) cs = some (arr f n) := by
  unfold splice
  rw [Nat.ble_eq_true_of_le (by rw [arr_len, h]; omega), cond_true, Nat.zero_add, List.drop_of_length_le (by rw [arr_len, h]; exact Nat.le_refl _)]
  simp
theorem arr_bels (k : Nat) (f : S) (n : Nat) : D.bels k (arr f n) = true := by
  unfold arr
  induction List.range n with
  | nil => rfl
  | cons j l ih => show (true && D.bels k _) = true; rw [ih]; rfl
theorem z25 : (List.replicate 25 (D.int .u64 0)) = arr (fun _ => 0) 25 := rfl
theorem z5 : (List.replicate 5 (D.int .u64 0)) = arr (fun _ => 0) 5 := rfl

/-! ### the loops' states -/
/-- the sums, when i words are in them -/
def cI (a : S) : Nat → S
  | 0 => fun _ => 0
  | i + 1 => upd (cI a i) (i % 5) (cI a i (i % 5) ^^^ a i)
theorem cI_par (a : S) : ∀ x, x < 5 → cI a 25 x = par a x := by
  intro x hx
  have h : x = 0 ∨ x = 1 ∨ x = 2 ∨ x = 3 ∨ x = 4 := by omega
  rcases h with rfl | rfl | rfl | rfl | rfl <;> simp [cI, upd, par]
def bI (t : S) : Nat → S
  | 0 => fun _ => 0
  | i + 1 => upd (bI t i) (goes i) (rl (t i) (turnAt i))
theorem bI_at (t : S) : ∀ i, i ≤ 25 → ∀ j, j < 25 → bI t i j = if comes j < i then rl (t (comes j)) (turnAt (comes j)) else 0 := by
  intro i
  induction i with
  | zero => intro _ j _; rfl
  | succ i ih =>
    intro hi j hj
    have h0 := ih (by omega) j hj
    unfold bI upd
    by_cases e : j = goes i
    · subst e
      have := (comes_goes i (by omega)).1
      rw [if_pos rfl, this, if_pos (by omega)]
    · rw [if_neg e, h0]
      have hne : comes j ≠ i := fun e' => e (by rw [← e', (goes_comes j hj).1])
      by_cases c : comes j < i
      · rw [if_pos c, if_pos (by omega)]
      · rw [if_neg c, if_neg (by omega)]
theorem bI_rhopi (t : S) : Eq25 (bI t 25) (rhopi t) := fun j hj => by
  rw [bI_at t 25 (Nat.le_refl _) j hj, if_pos (goes_comes j hj).2]; rfl
def aI (b a : S) : Nat → S
  | 0 => a
  | i + 1 => upd (aI b a i) i (chi b i)
theorem aI_at (b a : S) : ∀ i j, aI b a i j = if j < i then chi b j else a j := by
  intro i
  induction i with
  | zero => intro j; simp [aI]
  | succ i ih =>
    intro j
    unfold aI upd
    by_cases e : j = i
    · subst e; rw [if_pos rfl, if_pos (by omega)]
    · rw [if_neg e, ih]
      by_cases c : j < i
      · rw [if_pos c, if_pos (by omega)]
      · rw [if_neg c, if_neg (by omega)]

/-- the rounds' numbers -/
def kons : List W := [0x0000000000000001, 0x0000000000008082, 0x800000000000808a, 0x8000000080008000, 0x000000000000808b, 0x0000000080000001, 0x8000000080008081, 0x8000000000008009, 0x000000000000008a, 0x0000000000000088, 0x0000000080008009, 0x000000008000000a, 0x000000008000808b, 0x800000000000008b, 0x8000000000008089, 0x8000000000008003, 0x8000000000008002, 0x8000000000000080, 0x000000000000800a, 0x800000008000000a, 0x8000000080008081, 0x8000000000008080, 0x0000000080000001, 0x8000000080008008]
end Kec
end Go.Proofs.YtbpaimfnfigjpaaDoor
