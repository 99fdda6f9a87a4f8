/- The sum of few bytes, reckoned by the kernel. Plain. Conditions: fewer bytes than a block. -/
import Derived.Test.YtpdhbddkcnffbaaDoorGk
import Derived.Test.YtpdhbddkcnffbaaDoorKecN
namespace Go.Proofs.YtpdhbddkcnffbaaDoor
open Go.RowKit Kec
set_option linter.unusedVariables false
set_option maxRecDepth 100000

def blkS (h : List UInt8) (j : Nat) : Nat → Kec.W
  | 0 => 0
  | r + 1 => blkS h j r ^^^ (BitVec.ofNat 64 (h.getD (8 * j + r) 0).toNat <<< (8 * r))
def sAt (f : S) (h : List UInt8) (q r : Nat) : S := fun j => if j < q then f j ^^^ blkS h j 8 else if j = q then f q ^^^ blkS h q r else f j
theorem sI_at (f : S) (h : List UInt8) : ∀ q r, r ≤ 8 → sI f h (8 * q + r) = sAt f h q r := by
  intro q
  induction q with
  | zero =>
    intro r
    induction r with
    | zero =>
      intro _; funext j
      show f j = sAt f h 0 0 j
      unfold sAt
      rw [if_neg (by omega)]
      split
      · rename_i e; subst e; simp [blkS]
      · rfl
    | succ r ih =>
      intro hr
      have := ih (by omega)
      funext j
      rw [show 8 * 0 + (r + 1) = (8 * 0 + r) + 1 from by omega]
      unfold sI upd
      rw [this, show (8 * 0 + r) / 8 = 0 from by omega, show (8 * 0 + r) % 8 = r from by omega]
      unfold sAt
      by_cases e : j = 0
      · subst e
        rw [if_pos rfl, if_neg (by omega), if_pos rfl, if_neg (by omega), if_pos rfl, blkS, BitVec.xor_assoc]
      · rw [if_neg e, if_neg (by omega), if_neg e, if_neg (by omega), if_neg e]
  | succ q ihq =>
    intro r
    induction r with
    | zero =>
      intro _
      have := ihq 8 (by omega)
      rw [show 8 * (q + 1) + 0 = 8 * q + 8 from by omega, this]
      funext j
      unfold sAt
      by_cases h1 : j < q
      · rw [if_pos h1, if_pos (by omega)]
      · rw [if_neg h1]
        by_cases h2 : j = q
        · subst h2; rw [if_pos rfl, if_pos (by omega)]
        · rw [if_neg h2, if_neg (by omega)]
          split
          · rename_i e; subst e; simp [blkS]
          · rfl
    | succ r ih =>
      intro hr
      have := ih (by omega)
      funext j
      rw [show 8 * (q + 1) + (r + 1) = (8 * (q + 1) + r) + 1 from by omega]
      unfold sI upd
      rw [this, show (8 * (q + 1) + r) / 8 = q + 1 from by omega, show (8 * (q + 1) + r) % 8 = r from by omega]
      unfold sAt
      by_cases e : j = q + 1
      · subst e
        rw [if_pos rfl, if_neg (by omega), if_pos rfl, if_neg (by omega), if_pos rfl, blkS, BitVec.xor_assoc]
      · rw [if_neg e]
        by_cases h1 : j < q + 1
        · rw [if_pos h1, if_pos h1]
        · rw [if_neg h1, if_neg e, if_neg h1, if_neg e]
def blkN (h : List UInt8) (j : Nat) : Nat → Nat
  | 0 => 0
  | r + 1 => blkN h j r ^^^ ((h.getD (8 * j + r) 0).toNat <<< (8 * r)) % 18446744073709551616
theorem blk_toNat (h : List UInt8) (j : Nat) : ∀ r, (blkS h j r).toNat = blkN h j r
  | 0 => rfl
  | r + 1 => by
    have := (h.getD (8 * j + r) 0).toNat_lt
    rw [blkS, blkN, BitVec.toNat_xor, blk_toNat h j r, BitVec.toNat_shiftLeft, BitVec.toNat_ofNat, Nat.mod_eq_of_lt (by omega : (h.getD (8 * j + r) 0).toNat < 2 ^ 64)]
def lane0 (h : List UInt8) (j : Nat) : Nat := cond (Nat.blt j 17) (blkN h j 8) 0
theorem lane0_eq (h : List UInt8) (j : Nat) : (sI (fun _ => 0) h 136 j).toNat = lane0 h j := by
  have := sI_at (fun _ => 0) h 17 0 (by omega)
  rw [show 8 * 17 + 0 = 136 from rfl] at this
  rw [this]
  unfold sAt lane0
  by_cases h1 : j < 17
  · have hb : Nat.blt j 17 = true := by rw [Nat.blt_eq]; exact h1
    rw [if_pos h1, hb, cond_true, ← blk_toNat]; simp
  · have hb : Nat.blt j 17 = false := by rw [← Bool.not_eq_true, Nat.blt_eq]; exact h1
    rw [if_neg h1, hb, cond_false]
    split
    · simp [blkS]
    · rfl
theorem addA_few : ∀ (b : List UInt8) (f : S) (l : List UInt8), l.length + b.length < 136 → addA (f, l) b = (f, l ++ b)
  | [], f, l, _ => by simp [addA]
  | c :: b, f, l, h => by
    simp only [List.length_cons] at h
    have e : addS (f, l) c = (f, l ++ [c]) := by unfold addS; rw [if_neg (by simp only; omega)]
    show addA (addS (f, l) c) b = _
    rw [e, addA_few b f (l ++ [c]) (by simp; omega)]
    simp
/-- the state behind the last block -/
def last (b : List UInt8) : Nat := turnN konsN (pack (lane0 (pad b)) 0 25)
theorem konsN_eq : kons.map (·.toNat) = konsN := by decide +kernel
theorem last_tells (b : List UInt8) : Tells (last b) (turn kons (sI (fun _ => 0) (pad b) 136)) := by
  unfold last
  rw [← konsN_eq]
  refine tells_turn kons fun j hj => ?_
  have e : lane0 (pad b) = fun j => (sI (fun _ => 0) (pad b) 136 j).toNat := funext fun j => (lane0_eq _ j).symm
  rw [e, ln_pack _ (fun j => BitVec.isLt _) 25 0 j hj, Nat.zero_add]
theorem outI_at (T : S) : ∀ i j, j < 32 → (outI T i)[j]? = some (if j < i then UInt8.ofNat (T (j / 8) >>> (8 * (j % 8))).toNat else 0)
  | 0, j, h => by
    rw [if_neg (by omega)]
    show (List.replicate 32 (0 : UInt8))[j]? = _
    rw [List.getElem?_replicate, if_pos h]
  | i + 1, j, h => by
    rw [outI]
    by_cases e : j = i
    · subst e
      rw [List.getElem?_set_self (by rw [outI_len]; exact h), if_pos (by omega)]
    · rw [List.getElem?_set_ne (fun e' => e e'.symm), outI_at T i j h]
      by_cases c : j < i
      · rw [if_pos c, if_pos (by omega)]
      · rw [if_neg c, if_neg (by omega)]
def kecB (s i : Nat) : UInt8 := UInt8.ofNat (ln s (i / 8) >>> (8 * (i % 8)))
theorem kec_few (b : List UInt8) (h : b.length < 136) : kec b = (List.range 32).map (kecB (last b)) := by
  have e : kec b = outI (turn kons (sI (fun _ => 0) (pad b) 136)) 32 := by
    unfold kec endS
    rw [addA_few b _ [] (by simpa using h)]; simp
  rw [e]
  apply List.ext_getElem?
  intro j
  rcases Nat.lt_or_ge j 32 with hj | hj
  · rw [outI_at _ 32 j hj, if_pos hj, List.getElem?_map, List.getElem?_range hj]
    show some _ = some (kecB (last b) j)
    unfold kecB
    rw [last_tells b (j / 8) (by omega), BitVec.toNat_ushiftRight]
  · rw [List.getElem?_eq_none (by rw [outI_len]; exact hj), List.getElem?_eq_none (by simp; exact hj)]
theorem kec_none : (kec []).take 8 = [0xc5, 0xd2, 0x46, 0x01, 0x86, 0xf7, 0x23, 0x3c] := by
  rw [kec_few [] (by decide)]; decide +kernel
theorem kec_abc : (kec [97, 98, 99]).take 8 = [0x4e, 0x03, 0x65, 0x7a, 0xea, 0x45, 0xa9, 0x4f] := by
  rw [kec_few [97, 98, 99] (by decide)]; decide +kernel
end Go.Proofs.YtpdhbddkcnffbaaDoor
