/- The program's tables, as far as they are read: the block in which each lies, its type, its cells. No conditions. -/
import Derived.Test.YtcfefmbbbfdppaaProg
import Derived.WalkKit
import Derived.WalkSpells
import Derived.WalkLawsBesides
import Derived.Deep.QuietTactic
import Derived.BigQuiet
import Derived.Deep.RegionHeld3
import Derived.Deep.DeepCutAuto
import Derived.IntWalk
import Derived.OpenShut
namespace Go.Proofs.Ytcfefmbbbfdppaa
def lim (n i : Nat) : Int := ((n / 18446744073709551616 ^ i % 18446744073709551616 : Nat) : Int)
def M256 : Nat := 115792089237316195423570985008687907853269984665640564039457584007913129639936
theorem lim0 (n : Nat) : lim n 0 = ((n % 18446744073709551616 : Nat) : Int) := by simp [lim]
theorem lim1 (n : Nat) : lim n 1 = ((n / 18446744073709551616 % 18446744073709551616 : Nat) : Int) := by simp [lim]
theorem lim2 (n : Nat) : lim n 2 = ((n / 340282366920938463463374607431768211456 % 18446744073709551616 : Nat) : Int) := by
  unfold lim; rw [show (18446744073709551616 ^ 2 : Nat) = 340282366920938463463374607431768211456 from by decide]
theorem lim3 (n : Nat) : lim n 3 = ((n / 6277101735386680763835789423207666416102355444464034512896 % 18446744073709551616 : Nat) : Int) := by
  unfold lim; rw [show (18446744073709551616 ^ 3 : Nat) = 6277101735386680763835789423207666416102355444464034512896 from by decide]
theorem lim_nonneg (n i : Nat) : 0 ≤ lim n i := Int.natCast_nonneg _
theorem lim_lt (n i : Nat) : lim n i < 18446744073709551616 := by
  unfold lim
  have := Nat.mod_lt (n / 18446744073709551616 ^ i) (show 18446744073709551616 > 0 by decide)
  omega
theorem val_lim (n : Nat) (h : n < M256) : (n : Int) = lim n 0 + 18446744073709551616 * lim n 1 + 340282366920938463463374607431768211456 * lim n 2 + 6277101735386680763835789423207666416102355444464034512896 * lim n 3 := by
  unfold M256 at h
  rw [lim0, lim1, lim2, lim3]
  omega
theorem lim_inj (a b : Nat) (ha : a < M256) (hb : b < M256) (h0 : lim a 0 = lim b 0) (h1 : lim a 1 = lim b 1) (h2 : lim a 2 = lim b 2) (h3 : lim a 3 = lim b 3) : a = b := by
  have h := val_lim a ha
  have k := val_lim b hb
  rw [h0, h1, h2, h3] at h
  omega
theorem lim_bd (n i : Nat) : 0 ≤ lim n i ∧ lim n i < 18446744073709551616 := ⟨lim_nonneg n i, lim_lt n i⟩
end Go.Proofs.Ytcfefmbbbfdppaa
namespace Go.Proofs.Ytcfefmbbbfdppaa
open Go.RowKit
set_option linter.unusedVariables false
theorem hide {p : Prop} (h : p) : Hid p := h
theorem ret_int {k : IntKind} {a b : Int} (h : a = b) : Ending.returned (.int k a) = .returned (.int k b) := by rw [h]
abbrev New (w w' : World) : Prop := Below w.heap.size w w'
theorem new_refl (w : World) : New w w := Below.refl _ _
theorem new_alloc {a w : World} (h : New a w) (o : Obj) : New a (w.alloc o) := h.alloc h.size o
theorem new_drew {a w : World} (h : New a w) : New a w.drew := h.drew
theorem new_drewN {a w : World} (h : New a w) (n : Nat) : New a (w.drewN n) := ⟨h.os, h.tape, h.output, h.size, h.block⟩
theorem new_set {a w : World} (h : New a w) {p : Addr} (hp : a.heap.size ≤ p.block) (u : Value) : New a (w.setCell p u) := h.setCell hp u
theorem new_freeze {a w : World} (h : New a w) {p : Addr} (hp : a.heap.size ≤ p.block) (n : Nat) : New a (w.freeze p n) := by
  refine h.trans ⟨?_, ?_, ?_, ?_, ?_⟩
  all_goals unfold World.freeze
  · split <;> rfl
  · split <;> rfl
  · split <;> rfl
  · split <;> simp
  · intro k hk
    split
    · rfl
    · simp only [Array.getElem?_modify]
      rw [if_neg (by omega)]
theorem new_trans {a b c : World} (h : New a b) (k : New b c) : New a c := h.trans (k.mono h.size)
theorem tmod_emod (n m : Int) (hm : 0 < m) : n % m = if n.tmod m < 0 then n.tmod m + m else n.tmod m := by
  rw [Int.tmod_eq_emod]
  have h1 := Int.emod_nonneg n (by omega : m ≠ 0)
  have h2 := Int.emod_lt_of_pos n hm
  split
  · simp; omega
  · rw [if_pos (by omega)]; omega
section
variable {w w' : World} {g : Nat} {t : TypeId} {cs : Array Value}
end
@[reducible] def u (n : Nat) : Value := .agg #[.int .u64 (lim n 0), .int .u64 (lim n 1), .int .u64 (lim n 2), .int .u64 (lim n 3)]
@[reducible] def z4 : Array Value := #[.int .u64 0, .int .u64 0, .int .u64 0, .int .u64 0]
end Go.Proofs.Ytcfefmbbbfdppaa
namespace Go.Proofs.Ytcfefmbbbfdppaa
open Go.RowKit
set_option linter.unusedVariables false
section
variable {P : Program} {ops : Array Oper} {Q : Exit → Act → World → Prop}
def left (n : Nat) (listed : Array Bool) : Nat := ((List.range n).filter fun j => !listed.getD j true).length
theorem left_lt (n i : Nat) (listed : Array Bool) (hi : i < n) (hs : listed.size = n) (hl : listed.getD i true = false) : left n (listed.setIfInBounds i true) < left n listed := by
  unfold left
  have e : (List.range n).filter (fun j => !(listed.setIfInBounds i true).getD j true) = ((List.range n).filter fun j => !listed.getD j true).filter (fun j => j != i) := by
    rw [List.filter_filter]
    congr 1
    funext j
    by_cases hj : j = i
    · subst hj; simp [Array.getD_eq_getD_getElem?, hs, hi]
    · have : ¬ i = j := fun h => hj h.symm
      simp [Array.getD_eq_getD_getElem?, this, hj]
  rw [e, List.length_filter_lt_length_iff_exists]
  rw [Array.getD_eq_getD_getElem?] at hl
  exact ⟨i, by simp [hi, hl], by simp⟩
theorem wpAny_inv (I : (Nat → Bool) → Act → World → Prop)
    (hac : ∀ i o, ops[i]? = some o → ∀ e ∈ o.after.toList, Region.binds .any e = true → e.on < i)
    (hstep : ∀ i o, ops[i]? = some o → ∀ done a w, I done a w → done i = false → (∀ e ∈ o.after.toList, Region.binds .any e = true → done e.on = true) → wpOp P ops Q i (I fun j => done j || j == i) a w)
    (hend : ∀ done a w, I done a w → (∀ i, i < ops.size → done i = true) → Q .normal a w) :
    ∀ (fuel : Nat) (listed : Array Bool) (a : Act) (w : World), listed.size = ops.size → left ops.size listed ≤ fuel → I (fun j => listed.getD j true) a w → wpAny P .any ops Q fuel listed a w := by
  have hall : ∀ (listed : Array Bool), listed.size = ops.size → Region.ready .any ops listed = [] → ∀ i, i < ops.size → listed.getD i true = true := by
    intro listed hs hr i
    induction i using Nat.strongRecOn with
    | _ i ih =>
      intro hi
      cases hl : listed.getD i true with
      | true => rfl
      | false =>
        exfalso
        have hmem : i ∈ Region.ready .any ops listed := by
          unfold Region.ready
          rw [List.mem_filter]
          refine ⟨List.mem_range.2 hi, ?_⟩
          have ho : ops[i]? = some ops[i] := Array.getElem?_eq_getElem hi
          rw [hl, ho]
          simp only [Bool.not_false, Bool.true_and, Option.map_some, Option.getD_some]
          rw [Array.all_eq_true']
          intro e he
          cases hb : Region.binds .any e with
          | false => rfl
          | true =>
            have hlt := hac i _ ho e (by simpa using he) hb
            have := ih e.on hlt (by omega)
            have h2 : listed.getD e.on false = true := by
              rw [Array.getD_eq_getD_getElem?] at this ⊢
              rw [Array.getElem?_eq_getElem (by omega)] at this ⊢
              simpa using this
            simp [h2]
        rw [hr] at hmem
        cases hmem
  intro fuel
  induction fuel with
  | zero =>
    intro listed a w hs hf hI
    have h0 : ∀ i, i < ops.size → listed.getD i true = true := by
      intro i hi
      cases hl : listed.getD i true with
      | true => rfl
      | false => have := left_lt ops.size i listed hi hs hl; omega
    refine ⟨?_, hend _ a w hI h0⟩
    unfold Region.ready
    rw [List.filter_eq_nil_iff]
    intro i hi
    simp [h0 i (List.mem_range.1 hi)]
  | succ fuel ih =>
    intro listed a w hs hf hI
    refine ⟨fun hr => hend _ a w hI (hall listed hs hr), fun i hi => ?_⟩
    unfold Region.ready at hi
    rw [List.mem_filter] at hi
    obtain ⟨hi1, hi2⟩ := hi
    have hin := List.mem_range.1 hi1
    have ho : ops[i]? = some ops[i] := Array.getElem?_eq_getElem hin
    rw [ho] at hi2
    simp only [Option.map_some, Option.getD_some, Bool.and_eq_true, Bool.not_eq_eq_eq_not, Bool.not_true] at hi2
    obtain ⟨hl, hp⟩ := hi2
    rw [Array.all_eq_true'] at hp
    have hstep' := hstep i _ ho (fun j => listed.getD j true) a w hI hl (fun e he hb => by
      have := hp e (by simpa using he)
      rw [hb] at this
      simp only [Bool.not_true, Bool.false_or] at this
      have hlt := hac i _ ho e he hb
      rw [Array.getD_eq_getD_getElem?] at this ⊢
      rw [Array.getElem?_eq_getElem (by omega)] at this ⊢
      simpa using this)
    refine wpOp_mono (fun a' w' hI' => ih _ a' w' (by simpa using hs) ?_ ?_) hstep'
    · have := left_lt ops.size i listed hin hs hl; omega
    · have e : (fun j => (listed.setIfInBounds i true).getD j true) = fun j => listed.getD j true || j == i := by
        funext j
        by_cases hj : j = i
        · subst hj; simp [Array.getD_eq_getD_getElem?, hs, hin]
        · have : ¬ i = j := fun h => hj h.symm
          simp [Array.getD_eq_getD_getElem?, this, hj]
      rw [e]; exact hI'
theorem wp_region_inv {id : Nat} {a : Act} {w : World} (hm : P.follows .mixedOrders = true) (I : (Nat → Bool) → Act → World → Prop)
    (hac : ∀ i o, ops[i]? = some o → ∀ e ∈ o.after.toList, Region.binds .any e = true → e.on < i)
    (h0 : I (fun j => decide (ops.size ≤ j)) a { w with drawn := w.drawn + 1 })
    (hstep : ∀ i o, ops[i]? = some o → ∀ done a w, I done a w → done i = false → (∀ e ∈ o.after.toList, Region.binds .any e = true → done e.on = true) → wpOp P ops Q i (I fun j => done j || j == i) a w)
    (hend : ∀ done a w, I done a w → (∀ i, i < ops.size → done i = true) → Q .normal a w) : (Code.region id ops true).wp P Q a w := by
  refine wp_region_any hm (wpAny_inv I hac hstep hend ops.size _ a _ (by simp) ?_ ?_)
  · unfold left; exact Nat.le_trans (List.length_filter_le _ _) (by simp)
  · have e : (fun j => (Array.replicate ops.size false).getD j true) = fun j => decide (ops.size ≤ j) := by
      funext j
      rw [Array.getD_eq_getD_getElem?, Array.getElem?_replicate]
      by_cases h : j < ops.size
      · simp [h]
      · simp [h]; omega
    rw [e]; exact h0
abbrev Kind := Sum Value (Sum (TypeId × Array Value) (Nat × Array Value))
theorem put_size (a : Act) (d : Option Tmp) (v : Value) : (a.put d v).tmps.size = a.tmps.size := by cases d <;> simp [Act.put]
theorem put_defers (a : Act) (d : Option Tmp) (v : Value) : (a.put d v).defers = a.defers := by cases d <;> simp [Act.put]
theorem put_other (a : Act) (d : Option Tmp) (v : Value) (t : Tmp) (h : d ≠ some t) : (a.put d v).tmps[t]? = a.tmps[t]? := by
  cases d with
  | none => rfl
  | some d =>
    have : ¬ d = t := fun e => h (by rw [e])
    simp [Act.put, this]
end
end Go.Proofs.Ytcfefmbbbfdppaa
namespace Go.Proofs.Ytcfefmbbbfdppaa
open Go.RowKit
set_option linter.unusedVariables false
section
variable {P : Program} {ops : Array Oper} {Q : Exit → Act → World → Prop}
variable {K : List Kind} {a0 : Act} {w0 : World} {o : Oper}
end
end Go.Proofs.Ytcfefmbbbfdppaa
namespace Go.Proofs.Ytcfefmbbbfdppaa
open Go.RowKit
set_option linter.unusedVariables false
structure Keep (T : List Nat) (w0 w : World) : Prop where
  os : w.os = w0.os
  tape : w.tape = w0.tape
  output : w.output = w0.output
  size : w0.heap.size ≤ w.heap.size
  block : ∀ k, k < w0.heap.size → k ∉ T → w.heap[k]? = w0.heap[k]?
theorem Keep.refl (T : List Nat) (w : World) : Keep T w w := ⟨rfl, rfl, rfl, Nat.le_refl _, fun _ _ _ => rfl⟩
theorem Keep.new {T : List Nat} {w0 w w' : World} (h : Keep T w0 w) (k : New w w') : Keep T w0 w' :=
  ⟨k.os.trans h.os, k.tape.trans h.tape, k.output.trans h.output, Nat.le_trans h.size k.size, fun i hi hT => (k.block i (Nat.lt_of_lt_of_le hi h.size)).trans (h.block i hi hT)⟩
section
variable {P : Program} {ops : Array Oper} {Q : Exit → Act → World → Prop}
variable {K : List Kind} {T : List Nat} {a0 : Act} {w0 : World} {o : Oper}
end
end Go.Proofs.Ytcfefmbbbfdppaa
namespace Go.Proofs.Ytcfefmbbbfdppaa
open Go.RowKit
set_option linter.unusedVariables false
def gtab : List (Nat × List Value) := []
end Go.Proofs.Ytcfefmbbbfdppaa
