/- The sponge reckoned by the kernel: its state as one number. Plain. No conditions. -/
import Derived.Test.YtpdhbddkcnffbaaDoorGk
namespace Go.Proofs.YtpdhbddkcnffbaaDoor.Kec
set_option linter.unusedVariables false
set_option maxRecDepth 100000

/-- lane j of a state -/
def ln (s j : Nat) : Nat := (s >>> (64 * j)) % 18446744073709551616
def pack (g : Nat → Nat) : Nat → Nat → Nat
  | _, 0 => 0
  | i, n + 1 => g i + (pack g (i + 1) n) <<< 64
theorem ln_pack (g : Nat → Nat) (hg : ∀ j, g j < 18446744073709551616) : ∀ (n i j : Nat), j < n → ln (pack g i n) j = g (i + j)
  | 0, i, j, h => by omega
  | n + 1, i, 0, h => by
    have := hg i
    have e2 : (2 : Nat) ^ 64 = 18446744073709551616 := by decide
    show ((g i + (pack g (i + 1) n) <<< 64) >>> (64 * 0)) % 18446744073709551616 = g i
    rw [Nat.mul_zero, Nat.shiftRight_zero, Nat.shiftLeft_eq, e2]
    omega
  | n + 1, i, j + 1, h => by
    have ih := ln_pack g hg n (i + 1) j (by omega)
    rw [show i + (j + 1) = i + 1 + j from by omega, ← ih]
    unfold ln
    have e : pack g i (n + 1) >>> (64 * (j + 1)) = pack g (i + 1) n >>> (64 * j) := by
      rw [show 64 * (j + 1) = 64 + 64 * j from by omega, Nat.shiftRight_add]
      congr 1
      show (g i + (pack g (i + 1) n) <<< 64) >>> 64 = _
      rw [Nat.shiftLeft_eq, Nat.shiftRight_eq_div_pow]
      have := hg i
      have e2 : (2 : Nat) ^ 64 = 18446744073709551616 := by decide
      rw [e2]
      omega
    rw [e]
def rotN (x r : Nat) : Nat := (x <<< r) % 18446744073709551616 ||| x >>> (64 - r)
def parN (a : Nat → Nat) (x : Nat) : Nat := a x ^^^ a (x + 5) ^^^ a (x + 10) ^^^ a (x + 15) ^^^ a (x + 20)
def thN (a : Nat → Nat) (i : Nat) : Nat := a i ^^^ (parN a ((i % 5 + 4) % 5) ^^^ rotN (parN a ((i % 5 + 1) % 5)) 1)
def rpN (a : Nat → Nat) (j : Nat) : Nat := rotN (thN a (comes j)) (turnAt (comes j))
def roundF (k : Nat) (a : Nat → Nat) (i : Nat) : Nat :=
  cond (Nat.beq i 0) (rpN a 0 ^^^ ((18446744073709551615 - rpN a 1) &&& rpN a 2) ^^^ k) (rpN a i ^^^ ((18446744073709551615 - rpN a ((i % 5 + 1) % 5 + 5 * (i / 5))) &&& rpN a ((i % 5 + 2) % 5 + 5 * (i / 5))))
def roundN (k s : Nat) : Nat := pack (roundF k (ln s)) 0 25
def turnN : List Nat → Nat → Nat
  | [], s => s
  | k :: ks, s => turnN ks (roundN k s)

theorem rl_toNat (x : W) (r : Nat) (h : r < 64) : (rl x r).toNat = rotN x.toNat r := by
  unfold rl rotN
  rw [BitVec.rotateLeft_def, Nat.mod_eq_of_lt h, BitVec.toNat_or, BitVec.toNat_shiftLeft, BitVec.toNat_ushiftRight]
theorem par_toNat (a : S) (x : Nat) : (par a x).toNat = parN (fun j => (a j).toNat) x := by
  unfold par parN; simp only [BitVec.toNat_xor]
theorem th_toNat (a : S) (i : Nat) : (theta a i).toNat = thN (fun j => (a j).toNat) i := by
  unfold theta dd thN
  rw [BitVec.toNat_xor, BitVec.toNat_xor, rl_toNat _ 1 (by decide), par_toNat, par_toNat]
theorem rp_toNat (a : S) (j : Nat) (h : j < 25) : (rhopi (theta a) j).toNat = rpN (fun j => (a j).toNat) j := by
  unfold rhopi rpN
  rw [rl_toNat _ _ (turnAt_lt _ (goes_comes j h).2), th_toNat]
theorem not_toNat (x : W) : (~~~x).toNat = 18446744073709551615 - x.toNat := by
  rw [BitVec.toNat_not]
theorem round_toNat (k : W) (a : S) (i : Nat) (h : i < 25) : (round k a i).toNat = roundF k.toNat (fun j => (a j).toNat) i := by
  unfold round iota roundF
  by_cases e : i = 0
  · subst e
    rw [if_pos rfl, Nat.beq_refl, cond_true, BitVec.toNat_xor]
    unfold chi
    rw [BitVec.toNat_xor, BitVec.toNat_and, not_toNat, rp_toNat a 0 (by decide), rp_toNat a _ (by decide), rp_toNat a _ (by decide)]
  · rw [if_neg e]
    have hb : Nat.beq i 0 = false := by rw [← Bool.not_eq_true]; exact fun h => e (Nat.eq_of_beq_eq_true h)
    rw [hb, cond_false]
    unfold chi
    rw [BitVec.toNat_xor, BitVec.toNat_and, not_toNat, rp_toNat a i h, rp_toNat a _ (by omega), rp_toNat a _ (by omega)]
/-- the number tells the lanes -/
def Tells (s : Nat) (a : S) : Prop := ∀ j, j < 25 → ln s j = (a j).toNat
theorem roundF_congr (k : Nat) {a b : Nat → Nat} (h : ∀ j, j < 25 → a j = b j) (i : Nat) (hi : i < 25) : roundF k a i = roundF k b i := by
  have hp : ∀ x, x < 5 → parN a x = parN b x := fun x hx => by unfold parN; rw [h _ (by omega), h _ (by omega), h _ (by omega), h _ (by omega), h _ (by omega)]
  have ht : ∀ j, j < 25 → thN a j = thN b j := fun j hj => by unfold thN; rw [h j hj, hp _ (Nat.mod_lt _ (by decide)), hp _ (Nat.mod_lt _ (by decide))]
  have hr : ∀ j, j < 25 → rpN a j = rpN b j := fun j hj => by unfold rpN; rw [ht _ (goes_comes j hj).2]
  unfold roundF
  rw [hr 0 (by decide), hr 1 (by decide), hr 2 (by decide), hr i hi, hr _ (by omega), hr _ (by omega)]
theorem pack_congr {g g' : Nat → Nat} : ∀ (n i : Nat), (∀ j, j < n → g (i + j) = g' (i + j)) → pack g i n = pack g' i n
  | 0, i, _ => rfl
  | n + 1, i, h => by
    have h0 : g i = g' i := by have := h 0 (by omega); simpa using this
    have h1 := pack_congr (g := g) (g' := g') n (i + 1) fun j hj => by
      have := h (j + 1) (by omega)
      rw [show i + 1 + j = i + (j + 1) from by omega]; exact this
    show g i + (pack g (i + 1) n) <<< 64 = g' i + (pack g' (i + 1) n) <<< 64
    rw [h0, h1]
theorem tells_round {s : Nat} {a : S} (k : W) (h : Tells s a) : Tells (roundN k.toNat s) (round k a) := by
  intro j hj
  unfold roundN
  have e : pack (roundF k.toNat (ln s)) 0 25 = pack (fun i => (round k a i).toNat) 0 25 := pack_congr 25 0 fun i hi => by
    rw [Nat.zero_add]
    rw [roundF_congr _ (b := fun j => (a j).toNat) h i hi, round_toNat k a i hi]
  rw [e, ln_pack _ (fun j => BitVec.isLt _) 25 0 j hj, Nat.zero_add]
theorem tells_turn : ∀ (ks : List W) {s : Nat} {a : S}, Tells s a → Tells (turnN (ks.map (·.toNat)) s) (turn ks a)
  | [], s, a, h => h
  | k :: ks, s, a, h => tells_turn ks (tells_round k h)
def konsN : List Nat := [1, 32898, 9223372036854808714, 9223372039002292224, 32907, 2147483649, 9223372039002292353, 9223372036854808585, 138, 136, 2147516425, 2147483658, 2147516555, 9223372036854775947, 9223372036854808713, 9223372036854808579, 9223372036854808578, 9223372036854775936, 32778, 9223372039002259466, 9223372039002292353, 9223372036854808704, 2147483649, 9223372039002292232]
end Go.Proofs.YtpdhbddkcnffbaaDoor.Kec
