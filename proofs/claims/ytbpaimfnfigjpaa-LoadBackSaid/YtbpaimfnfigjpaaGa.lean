/- The program's tables, as far as they are read: the block in which each lies, its type, its cells. No conditions. -/
import Derived.Test.YtbpaimfnfigjpaaProg
import Derived.WalkKit
import Derived.WalkSpells
import Derived.WalkLawsBesides
import Derived.Deep.QuietTactic
import Derived.BigQuiet
import Derived.Deep.RegionHeld3
import Derived.Deep.DeepCutAuto
import Derived.IntWalk
import Derived.OpenShut
namespace Go.Proofs.Ytbpaimfnfigjpaa

/-- limb number i of a number -/
def lim (n i : Nat) : Int := ((n / 18446744073709551616 ^ i % 18446744073709551616 : Nat) : Int)

/-- 2 to the 256 -/
def M256 : Nat := 115792089237316195423570985008687907853269984665640564039457584007913129639936

theorem lim0 (n : Nat) : lim n 0 = ((n % 18446744073709551616 : Nat) : Int) := by simp [lim]
theorem lim1 (n : Nat) : lim n 1 = ((n / 18446744073709551616 % 18446744073709551616 : Nat) : Int) := by simp [lim]
theorem lim2 (n : Nat) : lim n 2 = ((n / 340282366920938463463374607431768211456 % 18446744073709551616 : Nat) : Int) := by
  unfold lim; rw [show (18446744073709551616 ^ 2 : Nat) = 340282366920938463463374607431768211456 from by decide]
theorem lim3 (n : Nat) : lim n 3 = ((n / 6277101735386680763835789423207666416102355444464034512896 % 18446744073709551616 : Nat) : Int) := by
  unfold lim; rw [show (18446744073709551616 ^ 3 : Nat) = 6277101735386680763835789423207666416102355444464034512896 from by decide]

theorem lim_nonneg (n i : Nat) : 0 ≤ lim n i := Int.natCast_nonneg _
theorem lim_lt (n i : Nat) : lim n i < 18446744073709551616 := by
  unfold lim
  have := Nat.mod_lt (n / 18446744073709551616 ^ i) (show 18446744073709551616 > 0 by decide)
  omega

/-- a number is its limbs -/
theorem val_lim (n : Nat) (h : n < M256) : (n : Int) = lim n 0 + 18446744073709551616 * lim n 1 + 340282366920938463463374607431768211456 * lim n 2 + 6277101735386680763835789423207666416102355444464034512896 * lim n 3 := by
  unfold M256 at h
  rw [lim0, lim1, lim2, lim3]
  omega

theorem lim_inj (a b : Nat) (ha : a < M256) (hb : b < M256) (h0 : lim a 0 = lim b 0) (h1 : lim a 1 = lim b 1) (h2 : lim a 2 = lim b 2) (h3 : lim a 3 = lim b 3) : a = b := by
  have h := val_lim a ha
  have k := val_lim b hb
  rw [h0, h1, h2, h3] at h
  omega

/-- limbs make a number -/
theorem of_limbs (x0 x1 x2 x3 : Int) (h0 : 0 ≤ x0) (k0 : x0 < 18446744073709551616) (h1 : 0 ≤ x1) (k1 : x1 < 18446744073709551616) (h2 : 0 ≤ x2) (k2 : x2 < 18446744073709551616) (h3 : 0 ≤ x3) (k3 : x3 < 18446744073709551616) :
    ∃ n : Nat, n < M256 ∧ x0 = lim n 0 ∧ x1 = lim n 1 ∧ x2 = lim n 2 ∧ x3 = lim n 3 := by
  refine ⟨(x0 + 18446744073709551616 * x1 + 340282366920938463463374607431768211456 * x2 + 6277101735386680763835789423207666416102355444464034512896 * x3).toNat, ?_, ?_, ?_, ?_, ?_⟩
  · unfold M256; omega
  · rw [lim0]; omega
  · rw [lim1]; omega
  · rw [lim2]; omega
  · rw [lim3]; omega

/-- the limbs of what is put together of limbs -/
theorem lim_of (n : Nat) (x0 x1 x2 x3 c : Int) (h0 : 0 ≤ x0) (k0 : x0 < 18446744073709551616) (h1 : 0 ≤ x1) (k1 : x1 < 18446744073709551616) (h2 : 0 ≤ x2) (k2 : x2 < 18446744073709551616) (h3 : 0 ≤ x3) (k3 : x3 < 18446744073709551616)
    (hn : (n : Int) = x0 + 18446744073709551616 * x1 + 340282366920938463463374607431768211456 * x2 + 6277101735386680763835789423207666416102355444464034512896 * x3 + 115792089237316195423570985008687907853269984665640564039457584007913129639936 * c) :
    lim n 0 = x0 ∧ lim n 1 = x1 ∧ lim n 2 = x2 ∧ lim n 3 = x3 := by
  rw [lim0, lim1, lim2, lim3]
  refine ⟨?_, ?_, ?_, ?_⟩ <;> omega

/-- the sum of four parts with what is carried -/
theorem sum_parts (a b : Int) (a0 a1 a2 a3 b0 b1 b2 b3 s0 s1 s2 s3 c1 c2 c3 c4 : Int) (va : a = a0 + 18446744073709551616 * a1 + 340282366920938463463374607431768211456 * a2 + 6277101735386680763835789423207666416102355444464034512896 * a3)
    (vb : b = b0 + 18446744073709551616 * b1 + 340282366920938463463374607431768211456 * b2 + 6277101735386680763835789423207666416102355444464034512896 * b3)
    (h1 : a0 + b0 + 0 = s0 + 18446744073709551616 * c1) (h2 : a1 + b1 + c1 = s1 + 18446744073709551616 * c2) (h3 : a2 + b2 + c2 = s2 + 18446744073709551616 * c3) (h4 : a3 + b3 + c3 = s3 + 18446744073709551616 * c4) :
    a + b = s0 + 18446744073709551616 * s1 + 340282366920938463463374607431768211456 * s2 + 6277101735386680763835789423207666416102355444464034512896 * s3 + 115792089237316195423570985008687907853269984665640564039457584007913129639936 * c4 := by
  omega

theorem dif_parts (a b : Int) (a0 a1 a2 a3 b0 b1 b2 b3 s0 s1 s2 s3 c1 c2 c3 c4 : Int) (va : a = a0 + 18446744073709551616 * a1 + 340282366920938463463374607431768211456 * a2 + 6277101735386680763835789423207666416102355444464034512896 * a3)
    (vb : b = b0 + 18446744073709551616 * b1 + 340282366920938463463374607431768211456 * b2 + 6277101735386680763835789423207666416102355444464034512896 * b3)
    (h1 : a0 - b0 - 0 = s0 - 18446744073709551616 * c1) (h2 : a1 - b1 - c1 = s1 - 18446744073709551616 * c2) (h3 : a2 - b2 - c2 = s2 - 18446744073709551616 * c3) (h4 : a3 - b3 - c3 = s3 - 18446744073709551616 * c4) :
    a - b = s0 + 18446744073709551616 * s1 + 340282366920938463463374607431768211456 * s2 + 6277101735386680763835789423207666416102355444464034512896 * s3 - 115792089237316195423570985008687907853269984665640564039457584007913129639936 * c4 := by
  omega

theorem top_bit (n : Nat) (s0 s1 s2 s3 c4 : Int) (x0 : 0 ≤ s0) (x1 : 0 ≤ s1) (x2 : 0 ≤ s2) (x3 : 0 ≤ s3) (y0 : s0 < 18446744073709551616) (y1 : s1 < 18446744073709551616) (y2 : s2 < 18446744073709551616) (y3 : s3 < 18446744073709551616) (c0 : 0 ≤ c4) (c1 : c4 ≤ 1)
    (h : (n : Int) = s0 + 18446744073709551616 * s1 + 340282366920938463463374607431768211456 * s2 + 6277101735386680763835789423207666416102355444464034512896 * s3 + 115792089237316195423570985008687907853269984665640564039457584007913129639936 * c4) :
    decide (M256 ≤ n) = (c4 == 1) := by
  unfold M256
  rw [Bool.eq_iff_iff, decide_eq_true_iff, beq_iff_eq]
  omega

theorem low_bit (a b : Nat) (s0 s1 s2 s3 c4 : Int) (x0 : 0 ≤ s0) (x1 : 0 ≤ s1) (x2 : 0 ≤ s2) (x3 : 0 ≤ s3) (y0 : s0 < 18446744073709551616) (y1 : s1 < 18446744073709551616) (y2 : s2 < 18446744073709551616) (y3 : s3 < 18446744073709551616) (c0 : 0 ≤ c4) (c1 : c4 ≤ 1)
    (h : (a : Int) - b = s0 + 18446744073709551616 * s1 + 340282366920938463463374607431768211456 * s2 + 6277101735386680763835789423207666416102355444464034512896 * s3 - 115792089237316195423570985008687907853269984665640564039457584007913129639936 * c4) :
    decide (a < b) = (c4 == 1) := by
  rw [Bool.eq_iff_iff, decide_eq_true_iff, beq_iff_eq]
  omega

theorem dif_of (a b : Nat) (s0 s1 s2 s3 c4 : Int) (hb : b < M256) 
    (h : (a : Int) - b = s0 + 18446744073709551616 * s1 + 340282366920938463463374607431768211456 * s2 + 6277101735386680763835789423207666416102355444464034512896 * s3 - 115792089237316195423570985008687907853269984665640564039457584007913129639936 * c4) :
    ((a + M256 - b : Nat) : Int) = s0 + 18446744073709551616 * s1 + 340282366920938463463374607431768211456 * s2 + 6277101735386680763835789423207666416102355444464034512896 * s3 + 115792089237316195423570985008687907853269984665640564039457584007913129639936 * (1 - c4) := by
  unfold M256 at *
  omega

theorem lim_bd (n i : Nat) : 0 ≤ lim n i ∧ lim n i < 18446744073709551616 := ⟨lim_nonneg n i, lim_lt n i⟩

end Go.Proofs.Ytbpaimfnfigjpaa

namespace Go.Proofs.Ytbpaimfnfigjpaa
open Go.RowKit
set_option linter.unusedVariables false

theorem hide {p : Prop} (h : p) : Hid p := h
theorem unhide {p : Prop} (h : Hid p) : p := h

theorem ret_int {k : IntKind} {a b : Int} (h : a = b) : Ending.returned (.int k a) = .returned (.int k b) := by rw [h]
theorem ret_bool {a b : Bool} (h : a = b) : Ending.returned (.bool a) = .returned (.bool b) := by rw [h]
theorem ret_val {a b : Value} (h : a = b) : Ending.returned a = .returned b := by rw [h]

/-- w' is w with new blocks alone -/
abbrev New (w w' : World) : Prop := Below w.heap.size w w'

theorem new_refl (w : World) : New w w := Below.refl _ _
theorem new_alloc {a w : World} (h : New a w) (o : Obj) : New a (w.alloc o) := h.alloc h.size o
theorem new_drew {a w : World} (h : New a w) : New a w.drew := h.drew
theorem new_drewN {a w : World} (h : New a w) (n : Nat) : New a (w.drewN n) := ⟨h.os, h.tape, h.output, h.size, h.block⟩
theorem new_set {a w : World} (h : New a w) {p : Addr} (hp : a.heap.size ≤ p.block) (u : Value) : New a (w.setCell p u) := h.setCell hp u
theorem new_freeze {a w : World} (h : New a w) {p : Addr} (hp : a.heap.size ≤ p.block) (n : Nat) : New a (w.freeze p n) := by
  refine h.trans ⟨?_, ?_, ?_, ?_, ?_⟩
  all_goals unfold World.freeze
  · split <;> rfl
  · split <;> rfl
  · split <;> rfl
  · split <;> simp
  · intro k hk
    split
    · rfl
    · simp only [Array.getElem?_modify]
      rw [if_neg (by omega)]
/-- a callee's growth behind the caller's -/
theorem new_trans {a b c : World} (h : New a b) (k : New b c) : New a c := h.trans (k.mono h.size)

theorem bcell {W w1 : World} (hb : New W w1) : (∀ b o, b < W.heap.size → w1.cell? ⟨b, o, none⟩ = W.cell? ⟨b, o, none⟩) ∧ (∀ b o, b < W.heap.size → w1.frozen? ⟨b, o, none⟩ = W.frozen? ⟨b, o, none⟩) :=
  ⟨fun b o h => hb.cell (p := ⟨b, o, none⟩) h, fun b o h => hb.frozen (p := ⟨b, o, none⟩) h⟩

theorem tmod_emod (n m : Int) (hm : 0 < m) : n % m = if n.tmod m < 0 then n.tmod m + m else n.tmod m := by
  rw [Int.tmod_eq_emod]
  have h1 := Int.emod_nonneg n (by omega : m ≠ 0)
  have h2 := Int.emod_lt_of_pos n hm
  split
  · simp; omega
  · rw [if_pos (by omega)]; omega

/-- in w block g is just these cells, of element type t, none frozen -/
def Blk (w : World) (g : Nat) (t : TypeId) (cs : Array Value) : Prop := w.heap[g]? = some (.cells cs t (0, 0))

section
variable {w w' : World} {g : Nat} {t : TypeId} {cs : Array Value}
theorem Blk.lt (h : Blk w g t cs) : g < w.heap.size := by
  rcases Nat.lt_or_ge g w.heap.size with hlt | hge
  · exact hlt
  · unfold Blk at h; rw [Array.getElem?_eq_none hge] at h; cases h
theorem Blk.cell (h : Blk w g t cs) (i : Nat) : w.cell? ⟨g, i, none⟩ = cs[i]? := cell_of_row w g i cs t (0, 0) h
theorem Blk.free (h : Blk w g t cs) (i : Nat) : w.frozen? ⟨g, i, none⟩ = false := by
  unfold Blk at h
  simp [World.frozen?, h]
theorem Blk.new_ (w : World) (t : TypeId) (cs : Array Value) : Blk (w.alloc (.cells cs t)) w.heap.size t cs := heap_alloc_new w _
theorem Blk.new1 (w : World) (o : Obj) (t : TypeId) (cs : Array Value) : Blk ((w.alloc o).alloc (.cells cs t)) (w.heap.size + 1) t cs := by
  have := heap_alloc_new (w.alloc o) (.cells cs t); rwa [World.size_alloc] at this
theorem Blk.new2 (w : World) (o o' : Obj) (t : TypeId) (cs : Array Value) : Blk (((w.alloc o).alloc o').alloc (.cells cs t)) (w.heap.size + 1 + 1) t cs := by
  have := heap_alloc_new ((w.alloc o).alloc o') (.cells cs t); rwa [World.size_alloc, World.size_alloc] at this
theorem Blk.new3 (w : World) (o o' o'' : Obj) (t : TypeId) (cs : Array Value) : Blk ((((w.alloc o).alloc o').alloc o'').alloc (.cells cs t)) (w.heap.size + 1 + 1 + 1) t cs := by
  have := heap_alloc_new (((w.alloc o).alloc o').alloc o'') (.cells cs t); rwa [World.size_alloc, World.size_alloc, World.size_alloc] at this
theorem Blk.new4 (w : World) (o o' o'' o3 : Obj) (t : TypeId) (cs : Array Value) : Blk (((((w.alloc o).alloc o').alloc o'').alloc o3).alloc (.cells cs t)) (w.heap.size + 1 + 1 + 1 + 1) t cs := by
  have := heap_alloc_new ((((w.alloc o).alloc o').alloc o'').alloc o3) (.cells cs t); rwa [World.size_alloc, World.size_alloc, World.size_alloc, World.size_alloc] at this
theorem Blk.up (h : Blk w g t cs) (hw : New w w') : Blk w' g t cs := (hw.block g h.lt).trans h
theorem Blk.al (h : Blk w g t cs) (o : Obj) : Blk (w.alloc o) g t cs := h.up (new_alloc (new_refl w) o)
theorem Blk.far (h : Blk w g t cs) {p : Addr} (hp : g ≠ p.block) (u : Value) : Blk (w.setCell p u) g t cs := (Below.heap_setCell w p u g hp).trans h
theorem Blk.set_ (h : Blk w g t cs) (i : Nat) (u : Value) : Blk (w.setCell ⟨g, i, none⟩ u) g t (cs.setIfInBounds i u) := by
  unfold Blk at h ⊢
  simp [World.setCell, Array.getElem?_modify, h]
end

/-- a variable of four cells written anew, cell by cell -/
theorem Blk.set4 {w : World} {g : Nat} {t : TypeId} {a b c d : Value} (h : Blk w g t #[a, b, c, d]) (x0 x1 x2 x3 : Value) :
    Blk ((((w.setCell ⟨g, 0, none⟩ x0).setCell ⟨g, 1, none⟩ x1).setCell ⟨g, 2, none⟩ x2).setCell ⟨g, 3, none⟩ x3) g t #[x0, x1, x2, x3] := by
  have := (((h.set_ 0 x0).set_ 1 x1).set_ 2 x2).set_ 3 x3
  simpa using this
theorem Blk.far4 {w : World} {g g' : Nat} {t : TypeId} {cs : Array Value} (h : Blk w g t cs) (hne : g ≠ g') (x0 x1 x2 x3 : Value) :
    Blk ((((w.setCell ⟨g', 0, none⟩ x0).setCell ⟨g', 1, none⟩ x1).setCell ⟨g', 2, none⟩ x2).setCell ⟨g', 3, none⟩ x3) g t cs :=
  (((h.far hne x0).far hne x1).far hne x2).far hne x3
theorem new_set4 {W w : World} (h : New W w) {g : Nat} (hg : W.heap.size ≤ g) (x0 x1 x2 x3 : Value) :
    New W ((((w.setCell ⟨g, 0, none⟩ x0).setCell ⟨g, 1, none⟩ x1).setCell ⟨g, 2, none⟩ x2).setCell ⟨g, 3, none⟩ x3) :=
  new_set (p := ⟨g, 3, none⟩) (new_set (p := ⟨g, 2, none⟩) (new_set (p := ⟨g, 1, none⟩) (new_set (p := ⟨g, 0, none⟩) h hg x0) hg x1) hg x2) hg x3

/-- three parameters in boxes of their own -/
theorem box3 (w : World) (c1 c2 c3 : Array Value) (t1 t2 t3 : TypeId) : ∃ (W : World) (g1 g2 g3 : Nat), W = ((w.alloc (.cells c1 t1)).alloc (.cells c2 t2)).alloc (.cells c3 t3) ∧ g1 = w.heap.size ∧ g2 = w.heap.size + 1 ∧ g3 = w.heap.size + 1 + 1 ∧
    New w W ∧ Blk W g1 t1 c1 ∧ Blk W g2 t2 c2 ∧ Blk W g3 t3 c3 :=
  ⟨_, _, _, _, rfl, rfl, rfl, rfl, new_alloc (new_alloc (new_alloc (new_refl _) _) _) _, ((Blk.new_ w t1 c1).al _).al _, (Blk.new1 w _ t2 c2).al _, Blk.new2 w _ _ t3 c3⟩
theorem box2 (w : World) (c1 c2 : Array Value) (t1 t2 : TypeId) : ∃ (W : World) (g1 g2 : Nat), W = (w.alloc (.cells c1 t1)).alloc (.cells c2 t2) ∧ g1 = w.heap.size ∧ g2 = w.heap.size + 1 ∧
    New w W ∧ Blk W g1 t1 c1 ∧ Blk W g2 t2 c2 :=
  ⟨_, _, _, rfl, rfl, rfl, new_alloc (new_alloc (new_refl _) _) _, (Blk.new_ w t1 c1).al _, Blk.new1 w _ t2 c2⟩
theorem box1 (w : World) (c1 : Array Value) (t1 : TypeId) : ∃ (W : World) (g1 : Nat), W = w.alloc (.cells c1 t1) ∧ g1 = w.heap.size ∧ New w W ∧ Blk W g1 t1 c1 :=
  ⟨_, _, rfl, rfl, new_alloc (new_refl _) _, Blk.new_ w t1 c1⟩

/-- a 256-bit number as a value: four limbs, the lowest one first -/
@[reducible] def u (n : Nat) : Value := .agg #[.int .u64 (lim n 0), .int .u64 (lim n 1), .int .u64 (lim n 2), .int .u64 (lim n 3)]

theorem u_mod (n : Nat) : u (n % M256) = u n := by
  have h0 : lim (n % M256) 0 = lim n 0 := by unfold M256; simp only [lim0]; omega
  have h1 : lim (n % M256) 1 = lim n 1 := by unfold M256; simp only [lim1]; omega
  have h2 : lim (n % M256) 2 = lim n 2 := by unfold M256; simp only [lim2]; omega
  have h3 : lim (n % M256) 3 = lim n 3 := by unfold M256; simp only [lim3]; omega
  rw [u, u, h0, h1, h2, h3]

theorem mod_lt (n : Nat) : n % M256 < M256 := Nat.mod_lt _ (by decide)

theorem u_small (n : Nat) (h : n < 18446744073709551616) : u n = .agg #[.int .u64 (n : Int), .int .u64 0, .int .u64 0, .int .u64 0] := by
  have h0 : lim n 0 = n := by simp only [lim0]; omega
  have h1 : lim n 1 = 0 := by simp only [lim1]; omega
  have h2 : lim n 2 = 0 := by simp only [lim2]; omega
  have h3 : lim n 3 = 0 := by simp only [lim3]; omega
  rw [u, h0, h1, h2, h3]

theorem u_zero : u 0 = .agg #[.int .u64 0, .int .u64 0, .int .u64 0, .int .u64 0] := u_small 0 (by decide)
theorem u_one : u 1 = .agg #[.int .u64 1, .int .u64 0, .int .u64 0, .int .u64 0] := u_small 1 (by decide)

@[reducible] def uc (n : Nat) : Array Value := #[.int .u64 (lim n 0), .int .u64 (lim n 1), .int .u64 (lim n 2), .int .u64 (lim n 3)]
@[reducible] def z4 : Array Value := #[.int .u64 0, .int .u64 0, .int .u64 0, .int .u64 0]

/-- the number of four limbs -/
def mk4 (x0 x1 x2 x3 : Int) : Nat := (x0 + 18446744073709551616 * x1 + 340282366920938463463374607431768211456 * x2 + 6277101735386680763835789423207666416102355444464034512896 * x3).toNat

theorem mk4_lims {x0 x1 x2 x3 : Int} (h0 : 0 ≤ x0 ∧ x0 < 18446744073709551616) (h1 : 0 ≤ x1 ∧ x1 < 18446744073709551616) (h2 : 0 ≤ x2 ∧ x2 < 18446744073709551616) (h3 : 0 ≤ x3 ∧ x3 < 18446744073709551616) :
    lim (mk4 x0 x1 x2 x3) 0 = x0 ∧ lim (mk4 x0 x1 x2 x3) 1 = x1 ∧ lim (mk4 x0 x1 x2 x3) 2 = x2 ∧ lim (mk4 x0 x1 x2 x3) 3 = x3 :=
  lim_of _ x0 x1 x2 x3 0 h0.1 h0.2 h1.1 h1.2 h2.1 h2.2 h3.1 h3.2 (by unfold mk4; omega)

theorem mk4_lt {x0 x1 x2 x3 : Int} (h0 : 0 ≤ x0 ∧ x0 < 18446744073709551616) (h1 : 0 ≤ x1 ∧ x1 < 18446744073709551616) (h2 : 0 ≤ x2 ∧ x2 < 18446744073709551616) (h3 : 0 ≤ x3 ∧ x3 < 18446744073709551616) :
    mk4 x0 x1 x2 x3 < M256 := by unfold mk4 M256; omega

theorem u_mk4 {x0 x1 x2 x3 : Int} (h0 : 0 ≤ x0 ∧ x0 < 18446744073709551616) (h1 : 0 ≤ x1 ∧ x1 < 18446744073709551616) (h2 : 0 ≤ x2 ∧ x2 < 18446744073709551616) (h3 : 0 ≤ x3 ∧ x3 < 18446744073709551616) :
    Value.agg #[.int .u64 x0, .int .u64 x1, .int .u64 x2, .int .u64 x3] = u (mk4 x0 x1 x2 x3) := by
  obtain ⟨e0, e1, e2, e3⟩ := mk4_lims h0 h1 h2 h3
  rw [u, e0, e1, e2, e3]

theorem wrapu_bd (x : Int) : 0 ≤ IntKind.u64.wrap x ∧ IntKind.u64.wrap x < 18446744073709551616 := by rw [IntKind.wrap_u64]; omega
theorem bitsu_bd (op : BinOp) (x y : Int) : 0 ≤ bits op .u64 x y ∧ bits op .u64 x y < 18446744073709551616 := by
  have := bounds_u64 (wf_bits op .u64 x y); omega

end Go.Proofs.Ytbpaimfnfigjpaa

namespace Go.Proofs.Ytbpaimfnfigjpaa
open Go.RowKit
set_option linter.unusedVariables false

section
variable {P : Program} {ops : Array Oper} {Q : Exit → Act → World → Prop}

def left (n : Nat) (listed : Array Bool) : Nat := ((List.range n).filter fun j => !listed.getD j true).length

theorem left_lt (n i : Nat) (listed : Array Bool) (hi : i < n) (hs : listed.size = n) (hl : listed.getD i true = false) : left n (listed.setIfInBounds i true) < left n listed := by
  unfold left
  have e : (List.range n).filter (fun j => !(listed.setIfInBounds i true).getD j true) = ((List.range n).filter fun j => !listed.getD j true).filter (fun j => j != i) := by
    rw [List.filter_filter]
    congr 1
    funext j
    by_cases hj : j = i
    · subst hj; simp [Array.getD_eq_getD_getElem?, hs, hi]
    · have : ¬ i = j := fun h => hj h.symm
      simp [Array.getD_eq_getD_getElem?, this, hj]
  rw [e, List.length_filter_lt_length_iff_exists]
  rw [Array.getD_eq_getD_getElem?] at hl
  exact ⟨i, by simp [hi, hl], by simp⟩

/-- THE LAW. -/
theorem wpAny_inv (I : (Nat → Bool) → Act → World → Prop)
    (hac : ∀ i o, ops[i]? = some o → ∀ e ∈ o.after.toList, Region.binds .any e = true → e.on < i)
    (hstep : ∀ i o, ops[i]? = some o → ∀ done a w, I done a w → done i = false → (∀ e ∈ o.after.toList, Region.binds .any e = true → done e.on = true) → wpOp P ops Q i (I fun j => done j || j == i) a w)
    (hend : ∀ done a w, I done a w → (∀ i, i < ops.size → done i = true) → Q .normal a w) :
    ∀ (fuel : Nat) (listed : Array Bool) (a : Act) (w : World), listed.size = ops.size → left ops.size listed ≤ fuel → I (fun j => listed.getD j true) a w → wpAny P .any ops Q fuel listed a w := by
  have hall : ∀ (listed : Array Bool), listed.size = ops.size → Region.ready .any ops listed = [] → ∀ i, i < ops.size → listed.getD i true = true := by
    intro listed hs hr i
    induction i using Nat.strongRecOn with
    | _ i ih =>
      intro hi
      cases hl : listed.getD i true with
      | true => rfl
      | false =>
        exfalso
        have hmem : i ∈ Region.ready .any ops listed := by
          unfold Region.ready
          rw [List.mem_filter]
          refine ⟨List.mem_range.2 hi, ?_⟩
          have ho : ops[i]? = some ops[i] := Array.getElem?_eq_getElem hi
          rw [hl, ho]
          simp only [Bool.not_false, Bool.true_and, Option.map_some, Option.getD_some]
          rw [Array.all_eq_true']
          intro e he
          cases hb : Region.binds .any e with
          | false => rfl
          | true =>
            have hlt := hac i _ ho e (by simpa using he) hb
            have := ih e.on hlt (by omega)
            have h2 : listed.getD e.on false = true := by
              rw [Array.getD_eq_getD_getElem?] at this ⊢
              rw [Array.getElem?_eq_getElem (by omega)] at this ⊢
              simpa using this
            simp [h2]
        rw [hr] at hmem
        cases hmem
  intro fuel
  induction fuel with
  | zero =>
    intro listed a w hs hf hI
    have h0 : ∀ i, i < ops.size → listed.getD i true = true := by
      intro i hi
      cases hl : listed.getD i true with
      | true => rfl
      | false => have := left_lt ops.size i listed hi hs hl; omega
    refine ⟨?_, hend _ a w hI h0⟩
    unfold Region.ready
    rw [List.filter_eq_nil_iff]
    intro i hi
    simp [h0 i (List.mem_range.1 hi)]
  | succ fuel ih =>
    intro listed a w hs hf hI
    refine ⟨fun hr => hend _ a w hI (hall listed hs hr), fun i hi => ?_⟩
    unfold Region.ready at hi
    rw [List.mem_filter] at hi
    obtain ⟨hi1, hi2⟩ := hi
    have hin := List.mem_range.1 hi1
    have ho : ops[i]? = some ops[i] := Array.getElem?_eq_getElem hin
    rw [ho] at hi2
    simp only [Option.map_some, Option.getD_some, Bool.and_eq_true, Bool.not_eq_eq_eq_not, Bool.not_true] at hi2
    obtain ⟨hl, hp⟩ := hi2
    rw [Array.all_eq_true'] at hp
    have hstep' := hstep i _ ho (fun j => listed.getD j true) a w hI hl (fun e he hb => by
      have := hp e (by simpa using he)
      rw [hb] at this
      simp only [Bool.not_true, Bool.false_or] at this
      have hlt := hac i _ ho e he hb
      rw [Array.getD_eq_getD_getElem?] at this ⊢
      rw [Array.getElem?_eq_getElem (by omega)] at this ⊢
      simpa using this)
    refine wpOp_mono (fun a' w' hI' => ih _ a' w' (by simpa using hs) ?_ ?_) hstep'
    · have := left_lt ops.size i listed hin hs hl; omega
    · have e : (fun j => (listed.setIfInBounds i true).getD j true) = fun j => listed.getD j true || j == i := by
        funext j
        by_cases hj : j = i
        · subst hj; simp [Array.getD_eq_getD_getElem?, hs, hin]
        · have : ¬ i = j := fun h => hj h.symm
          simp [Array.getD_eq_getD_getElem?, this, hj]
      rw [e]; exact hI'

theorem wp_region_inv {id : Nat} {a : Act} {w : World} (hm : P.follows .mixedOrders = true) (I : (Nat → Bool) → Act → World → Prop)
    (hac : ∀ i o, ops[i]? = some o → ∀ e ∈ o.after.toList, Region.binds .any e = true → e.on < i)
    (h0 : I (fun j => decide (ops.size ≤ j)) a { w with drawn := w.drawn + 1 })
    (hstep : ∀ i o, ops[i]? = some o → ∀ done a w, I done a w → done i = false → (∀ e ∈ o.after.toList, Region.binds .any e = true → done e.on = true) → wpOp P ops Q i (I fun j => done j || j == i) a w)
    (hend : ∀ done a w, I done a w → (∀ i, i < ops.size → done i = true) → Q .normal a w) : (Code.region id ops true).wp P Q a w := by
  refine wp_region_any hm (wpAny_inv I hac hstep hend ops.size _ a _ (by simp) ?_ ?_)
  · unfold left; exact Nat.le_trans (List.length_filter_le _ _) (by simp)
  · have e : (fun j => (Array.replicate ops.size false).getD j true) = fun j => decide (ops.size ≤ j) := by
      funext j
      rw [Array.getD_eq_getD_getElem?, Array.getElem?_replicate]
      by_cases h : j < ops.size
      · simp [h]
      · simp [h]; omega
    rw [e]; exact h0

/-! ### Regions that make variables, call and store what the calls give: whatever the order -/

/-- What an operation does: it gives a value that is known (and makes new blocks alone) · it makes a variable of a type, with these cells · it stores these cells into the variable that operation j has made. -/
abbrev Kind := Sum Value (Sum (TypeId × Array Value) (Nat × Array Value))

def gives (g : Nat) : Kind → Value
  | .inl v => v
  | .inr (.inl _) => .pointer (some ⟨g, 0, none⟩)
  | .inr (.inr _) => undef

/-- the frame behind all operations -/
def frame (g : Nat → Nat) : List Oper → List Kind → Nat → Act → Act
  | o :: os, k :: ks, i, a => frame g os ks (i + 1) (a.put o.dst (gives (g i) k))
  | _, _, _, a => a

theorem put_size (a : Act) (d : Option Tmp) (v : Value) : (a.put d v).tmps.size = a.tmps.size := by cases d <;> simp [Act.put]
theorem put_defers (a : Act) (d : Option Tmp) (v : Value) : (a.put d v).defers = a.defers := by cases d <;> simp [Act.put]
theorem put_other (a : Act) (d : Option Tmp) (v : Value) (t : Tmp) (h : d ≠ some t) : (a.put d v).tmps[t]? = a.tmps[t]? := by
  cases d with
  | none => rfl
  | some d =>
    have : ¬ d = t := fun e => h (by rw [e])
    simp [Act.put, this]
theorem put_same (a : Act) (v : Value) (t : Tmp) (h : t < a.tmps.size) : (a.put (some t) v).tmps[t]? = some v := by
  simp [Act.put, h]

theorem frame_size (g : Nat → Nat) : ∀ (os : List Oper) (ks : List Kind) (i : Nat) (a : Act), (frame g os ks i a).tmps.size = a.tmps.size
  | [], _, _, _ => rfl
  | _ :: _, [], _, _ => rfl
  | o :: os, k :: ks, i, a => by rw [frame, frame_size, put_size]
theorem frame_defers (g : Nat → Nat) : ∀ (os : List Oper) (ks : List Kind) (i : Nat) (a : Act), (frame g os ks i a).defers = a.defers
  | [], _, _, _ => rfl
  | _ :: _, [], _, _ => rfl
  | o :: os, k :: ks, i, a => by rw [frame, frame_defers, put_defers]
theorem frame_other (g : Nat → Nat) (t : Tmp) : ∀ (os : List Oper) (ks : List Kind) (i : Nat) (a : Act), (∀ o ∈ os, o.dst ≠ some t) → (frame g os ks i a).tmps[t]? = a.tmps[t]?
  | [], _, _, _, _ => rfl
  | _ :: _, [], _, _, _ => rfl
  | o :: os, k :: ks, i, a, h => by
    rw [frame, frame_other g t os ks _ _ (fun o ho => h o (by simp [ho])), put_other _ _ _ _ (h o (by simp))]
theorem frame_at (g : Nat → Nat) (t : Tmp) : ∀ (os : List Oper) (ks : List Kind) (i : Nat) (a : Act) (j : Nat) (o : Oper) (k : Kind), os.length = ks.length → (os.filterMap (·.dst)).Nodup → os[j]? = some o → ks[j]? = some k → o.dst = some t → t < a.tmps.size →
    (frame g os ks i a).tmps[t]? = some (gives (g (i + j)) k)
  | [], _, _, _, _, _, _, _, _, ho, _, _, _ => by simp at ho
  | _ :: _, [], _, _, _, _, _, hl, _, _, _, _, _ => by simp at hl
  | o0 :: os, k0 :: ks, i, a, j, o, k, hl, hd, ho, hk, ht, hs => by
    rw [frame]
    cases j with
    | zero =>
      simp only [List.getElem?_cons_zero, Option.some.injEq] at ho hk
      subst ho; subst hk
      rw [frame_other, ht, put_same _ _ _ hs]
      · rfl
      · intro o' ho' he
        have hd' : (t :: os.filterMap (·.dst)).Nodup := by simpa [List.filterMap_cons, ht] using hd
        exact (List.nodup_cons.1 hd').1 (List.mem_filterMap.2 ⟨o', ho', he⟩)
    | succ j =>
      simp only [List.getElem?_cons_succ] at ho hk
      have := frame_at g t os ks (i + 1) (a.put o0.dst (gives (g i) k0)) j o k (by simpa using hl)
        (by
          rw [List.filterMap_cons] at hd
          split at hd
          · exact hd
          · exact (List.nodup_cons.1 hd).2) ho hk ht (by rw [put_size]; exact hs)
      rw [this]; congr 2; congr 1; omega

theorem wpOp_plain {i : Nat} {o : Oper} {a : Act} {w : World} {K : Act → World → Prop} (ho : ops[i]? = some o) (hg : o.guard = none) (h : o.wp P a w K Q) : wpOp P ops Q i K a w := by
  unfold wpOp
  simp only [ho]
  rw [if_pos (by simp [Region.wanted, hg])]
  exact .inl h

/-- THE LAW for such a region: behind it the frame is 'frame g', the variables lie in blocks of their own, and nothing that was there has turned. -/
theorem region_pure {id : Nat} {a0 : Act} {w0 : World} (hm : P.follows .mixedOrders = true) (K : List Kind) (hlen : K.length = ops.size)
    (hg : ∀ o ∈ ops.toList, o.guard = none) (hac : ∀ (i : Nat) (o : Oper), ops[i]? = some o → ∀ e ∈ o.after.toList, Region.binds .any e = true → e.on < i)
    (hnd : (ops.toList.filterMap (·.dst)).Nodup) (hsz : ∀ o ∈ ops.toList, ∀ t, o.dst = some t → t < a0.tmps.size)
    (hval : ∀ (i : Nat) (o : Oper) (v : Value), ops[i]? = some o → K[i]? = some (.inl v) → ∀ (a : Act) (w : World) (Kc : Act → World → Prop), New w0 w →
      (∀ t, (∀ o' ∈ ops.toList, o'.dst ≠ some t) → a.eval (.tmp t) = a0.eval (.tmp t)) →
      (∀ e ∈ o.after.toList, Region.binds .any e = true → ∀ (o' : Oper) (v' : Value) (t : Tmp), ops[e.on]? = some o' → o'.dst = some t → K[e.on]? = some (.inl v') → a.eval (.tmp t) = v') →
      (∀ w', New w w' → Kc (a.put o.dst v) w') → o.wp P a w Kc Q)
    (hbox : ∀ (i : Nat) (o : Oper) (T : TypeId) (z : Array Value), ops[i]? = some o → K[i]? = some (.inr (.inl (T, z))) → ∀ (a : Act) (w : World) (Kc : Act → World → Prop),
      Kc (a.put o.dst (.pointer (some ⟨w.heap.size, 0, none⟩))) (w.alloc (.cells z T)) → o.wp P a w Kc Q)
    (hput : ∀ (i : Nat) (o : Oper) (j : Nat) (cs : Array Value), ops[i]? = some o → K[i]? = some (.inr (.inr (j, cs))) → o.dst = none ∧ (∀ (i' : Nat) (cs' : Array Value), K[i']? = some (.inr (.inr (j, cs'))) → i' = i) ∧ ∃ (T : TypeId) (z : Array Value) (t : Tmp) (oj : Oper), K[j]? = some (.inr (.inl (T, z))) ∧ ops[j]? = some oj ∧ oj.dst = some t ∧
      (∃ e ∈ o.after.toList, Region.binds .any e = true ∧ e.on = j) ∧ ∀ (a : Act) (w : World) (Kc : Act → World → Prop) (g : Nat), a.eval (.tmp t) = .pointer (some ⟨g, 0, none⟩) → w.heap[g]? = some (.cells z T (0, 0)) →
        (∀ t, (∀ o' ∈ ops.toList, o'.dst ≠ some t) → a.eval (.tmp t) = a0.eval (.tmp t)) →
        (∀ e ∈ o.after.toList, Region.binds .any e = true → ∀ (o' : Oper) (v' : Value) (t : Tmp), ops[e.on]? = some o' → o'.dst = some t → K[e.on]? = some (.inl v') → a.eval (.tmp t) = v') →
        (∀ w', w.grownBy w' (some g) → w'.heap[g]? = some (.cells cs T (0, 0)) → Kc (a.put o.dst undef) w') → o.wp P a w Kc Q)
    (hend : ∀ (g : Nat → Nat) (w' : World), New w0 w' → (∀ (j : Nat) (T : TypeId) (z : Array Value) (i : Nat) (cs : Array Value), K[j]? = some (.inr (.inl (T, z))) → K[i]? = some (.inr (.inr (j, cs))) → w0.heap.size ≤ g j ∧ w'.heap[g j]? = some (.cells cs T (0, 0))) →
      (∀ (j j' : Nat) (T : TypeId) (z : Array Value) (T' : TypeId) (z' : Array Value), K[j]? = some (.inr (.inl (T, z))) → K[j']? = some (.inr (.inl (T', z'))) → j ≠ j' → g j ≠ g j') → Q .normal (frame g ops.toList K 0 a0) w') :
    (Code.region id ops true).wp P Q a0 w0 := by
  have hsame : ∀ (i i' : Nat) (o o' : Oper) (t : Tmp), ops[i]? = some o → ops[i']? = some o' → o.dst = some t → o'.dst = some t → i = i' := by
    intro i i' o o' t ho ho' ht ht'
    have key : ∀ (l : List Oper), (l.filterMap (·.dst)).Nodup → ∀ (i i' : Nat), l[i]? = some o → l[i']? = some o' → i = i' := by
      intro l
      induction l with
      | nil => intro _ i i' h; simp at h
      | cons x l ih =>
        intro hn i i' h h'
        have htail : (l.filterMap (·.dst)).Nodup := by
          rw [List.filterMap_cons] at hn
          split at hn
          · exact hn
          · exact (List.nodup_cons.1 hn).2
        have clash : ∀ (y : Oper), x.dst = some t → y ∈ l → y.dst = some t → False := by
          intro y hx hy hyt
          rw [List.filterMap_cons, hx] at hn
          exact (List.nodup_cons.1 hn).1 (List.mem_filterMap.2 ⟨y, hy, hyt⟩)
        cases i with
        | zero =>
          cases i' with
          | zero => rfl
          | succ i' =>
            simp only [List.getElem?_cons_zero, Option.some.injEq, List.getElem?_cons_succ] at h h'
            subst h
            exact (clash o' ht (List.mem_of_getElem? h') ht').elim
        | succ i =>
          cases i' with
          | zero =>
            simp only [List.getElem?_cons_zero, Option.some.injEq, List.getElem?_cons_succ] at h h'
            subst h'
            exact (clash o ht' (List.mem_of_getElem? h) ht).elim
          | succ i' =>
            simp only [List.getElem?_cons_succ] at h h'
            rw [ih htail i i' h h']
    exact key ops.toList hnd i i' (by simpa using ho) (by simpa using ho')
  have hmem : ∀ (i : Nat) (o : Oper), ops[i]? = some o → o ∈ ops.toList := fun i o h => by
    have : ops.toList[i]? = some o := by simpa using h
    exact List.mem_of_getElem? this
  have hltK : ∀ (i : Nat) (k : Kind), K[i]? = some k → i < ops.size := fun i k h => by
    have := (List.getElem?_eq_some_iff.1 h).1; omega
  refine wp_region_inv hm (fun done a w => ∃ g : Nat → Nat, New w0 w ∧ a.defers = a0.defers ∧ a.tmps.size = a0.tmps.size ∧
    (∀ (t : Tmp), (∀ (i : Nat) (o : Oper), ops[i]? = some o → done i = true → o.dst ≠ some t) → a.tmps[t]? = a0.tmps[t]?) ∧
    (∀ (i : Nat) (o : Oper) (k : Kind) (t : Tmp), ops[i]? = some o → K[i]? = some k → done i = true → o.dst = some t → a.tmps[t]? = some (gives (g i) k)) ∧
    (∀ (j : Nat) (T : TypeId) (z : Array Value), K[j]? = some (.inr (.inl (T, z))) → done j = true → w0.heap.size ≤ g j ∧ ∃ c, w.heap[g j]? = some (.cells c T (0, 0)) ∧
      ((∃ (i : Nat) (cs : Array Value), K[i]? = some (.inr (.inr (j, cs))) ∧ done i = true ∧ c = cs) ∨ ((∀ (i : Nat) (cs : Array Value), K[i]? = some (.inr (.inr (j, cs))) → done i = false) ∧ c = z))) ∧
    (∀ (j j' : Nat) (T : TypeId) (z : Array Value) (T' : TypeId) (z' : Array Value), K[j]? = some (.inr (.inl (T, z))) → K[j']? = some (.inr (.inl (T', z'))) → done j = true → done j' = true → j ≠ j' → g j ≠ g j') ∧
    (∀ (i j : Nat) (cs : Array Value), K[i]? = some (.inr (.inr (j, cs))) → done i = true → done j = true)) hac ?_ ?_ ?_
  · refine ⟨fun _ => 0, new_drew (new_refl w0), rfl, rfl, fun t _ => rfl, ?_, ?_, ?_, ?_⟩
    · intro i o k t ho _ hd; have := (Array.getElem?_eq_some_iff.1 ho).1; simp at hd; omega
    · intro j T z hK hd; have := hltK j _ hK; simp at hd; omega
    · intro j j' T z T' z' hK _ hd; have := hltK j _ hK; simp at hd; omega
    · intro i j cs hK hd; have := hltK i _ hK; simp at hd; omega
  · rintro i o ho done a w ⟨g, hN, hdf, hs, hA, hB, hC, hD, hE⟩ hdone haft
    have hil : i < ops.size := (Array.getElem?_eq_some_iff.1 ho).1
    have hk : K[i]? = some (K[i]'(by omega)) := List.getElem?_eq_getElem (by omega)
    have ev0 : ∀ t, (∀ o' ∈ ops.toList, o'.dst ≠ some t) → a.eval (.tmp t) = a0.eval (.tmp t) := by
      intro t ht
      have := hA t (fun i' o' ho' _ => ht o' (hmem i' o' ho'))
      simp only [Act.eval, Array.getD_eq_getD_getElem?, this]
    have ev1 : ∀ e ∈ o.after.toList, Region.binds .any e = true → ∀ (o' : Oper) (k' : Kind) (t : Tmp), ops[e.on]? = some o' → o'.dst = some t → K[e.on]? = some k' → a.eval (.tmp t) = gives (g e.on) k' := by
      intro e he hb o' k' t ho' ht hk'
      have := hB e.on o' k' t ho' hk' (haft e he hb) ht
      simp only [Act.eval, Array.getD_eq_getD_getElem?, this, Option.getD_some]
    have ev2 : ∀ e ∈ o.after.toList, Region.binds .any e = true → ∀ (o' : Oper) (v' : Value) (t : Tmp), ops[e.on]? = some o' → o'.dst = some t → K[e.on]? = some (.inl v') → a.eval (.tmp t) = v' :=
      fun e he hb o' v' t ho' ht hk' => ev1 e he hb o' _ t ho' ht hk'
    -- the frame behind the operation, whatever it gives
    have frA : ∀ (v : Value) (t : Tmp), (∀ (i' : Nat) (o' : Oper), ops[i']? = some o' → (done i' || i' == i) = true → o'.dst ≠ some t) → (a.put o.dst v).tmps[t]? = a0.tmps[t]? := by
      intro v t ht
      rw [put_other _ _ _ _ (ht i o ho (by simp))]
      exact hA t (fun i' o' ho' hd => ht i' o' ho' (by simp [hd]))
    have frB : ∀ (v : Value) (g' : Nat → Nat), (∀ j, done j = true → g' j = g j) → (∀ t, o.dst = some t → v = gives (g' i) (K[i]'(by omega))) → ∀ (i' : Nat) (o' : Oper) (k' : Kind) (t : Tmp), ops[i']? = some o' → K[i']? = some k' → (done i' || i' == i) = true → o'.dst = some t → (a.put o.dst v).tmps[t]? = some (gives (g' i') k') := by
      intro v g' hg' hv i' o' k' t ho' hk' hd ht
      by_cases hi : i' = i
      · subst hi
        rw [ho] at ho'; cases ho'
        rw [hk] at hk'; cases hk'
        rw [ht, put_same _ _ _ (by rw [hs]; exact hsz o (hmem _ _ ho) t ht), hv t ht]
      · have hd' : done i' = true := by simpa [hi] using hd
        rw [put_other _ _ _ _ (fun h => hi (hsame i' i o' o t ho' ho ht h)), hg' i' hd']
        exact hB i' o' k' t ho' hk' hd' ht
    refine wpOp_plain ho (hg o (hmem i o ho)) ?_
    cases hki : K[i]'(by omega) with
    | inl v =>
      rw [hki] at hk
      refine hval i o v ho hk a w _ hN ev0 ev2 fun w' hw' => ?_
      refine ⟨g, new_trans hN hw', by rw [put_defers]; exact hdf, by rw [put_size]; exact hs, frA v, frB v g (fun _ _ => rfl) (fun _ _ => by rw [hki]; rfl), ?_, ?_, ?_⟩
      · intro j T z hK hd
        have hj : j ≠ i := by rintro rfl; rw [hk] at hK; cases hK
        have hd' : done j = true := by simpa [hj] using hd
        obtain ⟨h1, c, h2, h3⟩ := hC j T z hK hd'
        refine ⟨h1, c, ?_, ?_⟩
        · rw [hw'.block _ (by rcases Nat.lt_or_ge (g j) w.heap.size with h | h; exact h; rw [Array.getElem?_eq_none h] at h2; cases h2)]; exact h2
        · rcases h3 with ⟨i', cs, hp, hdi, hc⟩ | ⟨hn, hc⟩
          · exact .inl ⟨i', cs, hp, by simp [hdi], hc⟩
          · refine .inr ⟨fun i' cs hp => ?_, hc⟩
            have : i' ≠ i := by rintro rfl; rw [hk] at hp; cases hp
            simp [hn i' cs hp, this]
      · intro j j' T z T' z' hK hK' hd hd' hne
        have hj : j ≠ i := by rintro rfl; rw [hk] at hK; cases hK
        have hj' : j' ≠ i := by rintro rfl; rw [hk] at hK'; cases hK'
        exact hD j j' T z T' z' hK hK' (by simpa [hj] using hd) (by simpa [hj'] using hd') hne
      · intro i' j' cs' hp hd
        have hi' : i' ≠ i := by rintro rfl; rw [hk] at hp; cases hp
        simp [hE i' j' cs' hp (by simpa [hi'] using hd)]
    | inr kk =>
     cases kk with
     | inl Tz =>
      obtain ⟨T, z⟩ := Tz
      rw [hki] at hk
      refine hbox i o T z ho hk a w _ ?_
      refine ⟨fun j => if j = i then w.heap.size else g j, new_alloc hN _, by rw [put_defers]; exact hdf, by rw [put_size]; exact hs, frA _,
        frB _ _ (fun j hj => by have : j ≠ i := by { rintro rfl; rw [hj] at hdone; cases hdone }; simp [this]) (fun _ _ => by rw [hki]; simp [gives]), ?_, ?_, ?_⟩
      · intro j T' z' hK hd
        by_cases hj : j = i
        · subst hj
          rw [hk] at hK; cases hK
          refine ⟨by simpa using hN.size, z, by simp only [if_true]; exact heap_alloc_new w _, ?_⟩
          refine .inr ⟨fun i' cs hp => ?_, rfl⟩
          have hi' : i' ≠ j := by rintro rfl; rw [hk] at hp; cases hp
          cases hd2 : done i' with
          | false => simp [hi', hd2]
          | true =>
            exfalso
            have := hE i' j cs hp hd2
            rw [this] at hdone; cases hdone
        · have hd' : done j = true := by simpa [hj] using hd
          obtain ⟨h1, c, h2, h3⟩ := hC j T' z' hK hd'
          simp only [hj, if_false]
          refine ⟨h1, c, ?_, ?_⟩
          · rw [Below.heap_alloc _ _ _ (by rcases Nat.lt_or_ge (g j) w.heap.size with h | h; exact h; rw [Array.getElem?_eq_none h] at h2; cases h2)]; exact h2
          · rcases h3 with ⟨i', cs, hp, hdi, hc⟩ | ⟨hn, hc⟩
            · exact .inl ⟨i', cs, hp, by simp [hdi], hc⟩
            · refine .inr ⟨fun i' cs hp => ?_, hc⟩
              have : i' ≠ i := by rintro rfl; rw [hk] at hp; cases hp
              simp [hn i' cs hp, this]
      · intro j j' T1 z1 T2 z2 hK hK' hd hd' hne
        have lt : ∀ (j : Nat) (T : TypeId) (z : Array Value), K[j]? = some (.inr (.inl (T, z))) → done j = true → g j < w.heap.size := by
          intro j T z hK hd
          obtain ⟨_, c, h2, _⟩ := hC j T z hK hd
          rcases Nat.lt_or_ge (g j) w.heap.size with h | h
          · exact h
          · rw [Array.getElem?_eq_none h] at h2; cases h2
        by_cases hj : j = i
        · have hj' : j' ≠ i := fun h => hne (by rw [hj, h])
          have := lt j' _ _ hK' (by simpa [hj'] using hd')
          simp only [hj, hj', if_true, if_false]; omega
        · by_cases hj' : j' = i
          · have := lt j _ _ hK (by simpa [hj] using hd)
            simp only [hj, hj', if_true, if_false]; omega
          · simp only [hj, hj', if_false]
            exact hD j j' _ _ _ _ hK hK' (by simpa [hj] using hd) (by simpa [hj'] using hd') hne
      · intro i' j' cs' hp hd
        have hi' : i' ≠ i := by rintro rfl; rw [hk] at hp; cases hp
        simp [hE i' j' cs' hp (by simpa [hi'] using hd)]
     | inr jcs =>
      obtain ⟨j, cs⟩ := jcs
      rw [hki] at hk
      obtain ⟨hdst, huni, T, z, t, oj, hbj, hoj, htj, ⟨e, he, hb, hon⟩, hp⟩ := hput i o j cs ho hk
      have hdj : done j = true := by rw [← hon]; exact haft e he hb
      obtain ⟨h1, c, h2, h3⟩ := hC j T z hbj hdj
      have hcz : c = z := by
        rcases h3 with ⟨i', cs', hp', hdi, _⟩ | ⟨_, hc⟩
        · rw [huni i' cs' hp'] at hdi; rw [hdi] at hdone; cases hdone
        · exact hc
      subst hcz
      have hev : a.eval (.tmp t) = .pointer (some ⟨g j, 0, none⟩) := by
        have := ev1 e he hb oj (.inr (.inl (T, c))) t (by rw [hon]; exact hoj) htj (by rw [hon]; exact hbj)
        rw [hon] at this; exact this
      refine hp a w _ (g j) hev h2 ev0 ev2 fun w' hw' hc' => ?_
      refine ⟨g, ?_, by rw [put_defers]; exact hdf, by rw [put_size]; exact hs, frA undef, frB undef g (fun _ _ => rfl) (fun _ h => by rw [hdst] at h; cases h), ?_, ?_, ?_⟩
      · exact ⟨hw'.os.trans hN.os, hw'.tape.trans hN.tape, hw'.output.trans hN.output, Nat.le_trans hN.size hw'.size, fun k hk => (hw'.block k (Nat.lt_of_lt_of_le hk hN.size) (fun h => by cases h; omega)).trans (hN.block k hk)⟩
      · intro j2 T2 z2 hK hd
        by_cases hj : j2 = j
        · subst hj
          rw [hbj] at hK; cases hK
          exact ⟨h1, cs, hc', .inl ⟨i, cs, hk, by simp, rfl⟩⟩
        · have hji : j2 ≠ i := by rintro rfl; rw [hk] at hK; cases hK
          have hd' : done j2 = true := by simpa [hji] using hd
          obtain ⟨h1', c', h2', h3'⟩ := hC j2 T2 z2 hK hd'
          have hne := hD j2 j T2 z2 T c hK hbj hd' hdj hj
          refine ⟨h1', c', ?_, ?_⟩
          · rw [hw'.block _ (by rcases Nat.lt_or_ge (g j2) w.heap.size with h | h; exact h; rw [Array.getElem?_eq_none h] at h2'; cases h2') (fun h => hne (by injection h))]; exact h2'
          · rcases h3' with ⟨i', cs', hp', hdi, hc⟩ | ⟨hn, hc⟩
            · exact .inl ⟨i', cs', hp', by simp [hdi], hc⟩
            · refine .inr ⟨fun i' cs' hp' => ?_, hc⟩
              have : i' ≠ i := by rintro rfl; rw [hk] at hp'; cases hp'; exact hj rfl
              simp [hn i' cs' hp', this]
      · intro j1 j2 T1 z1 T2 z2 hK hK' hd hd' hne
        have hj1 : j1 ≠ i := by rintro rfl; rw [hk] at hK; cases hK
        have hj2 : j2 ≠ i := by rintro rfl; rw [hk] at hK'; cases hK'
        exact hD j1 j2 _ _ _ _ hK hK' (by simpa [hj1] using hd) (by simpa [hj2] using hd') hne
      · intro i' j' cs' hp' hd
        by_cases hi' : i' = i
        · subst hi'
          rw [hk] at hp'; cases hp'
          simp [hdj]
        · simp [hE i' j' cs' hp' (by simpa [hi'] using hd)]
  · rintro done a w ⟨g, hN, hdf, hs, hA, hB, hC, hD, _⟩ hall
    have ea : a = frame g ops.toList K 0 a0 := by
      have e1 : a.tmps = (frame g ops.toList K 0 a0).tmps := by
        apply Array.ext_getElem?
        intro t
        by_cases ht : ∃ (i : Nat) (o : Oper), ops[i]? = some o ∧ o.dst = some t
        · obtain ⟨i, o, ho, hot⟩ := ht
          have hil : i < ops.size := (Array.getElem?_eq_some_iff.1 ho).1
          have hk : K[i]? = some (K[i]'(by omega)) := List.getElem?_eq_getElem (by omega)
          rw [hB i o _ t ho hk (hall i hil) hot]
          have := frame_at g t ops.toList K 0 a0 i o _ (by simp [hlen]) hnd (by simpa using ho) hk hot (hsz o (hmem i o ho) t hot)
          rw [this, Nat.zero_add]
        · rw [hA t (fun i o ho _ h => ht ⟨i, o, ho, h⟩), frame_other]
          intro o ho h
          obtain ⟨i, hi⟩ := List.getElem?_of_mem ho
          exact ht ⟨i, o, by simpa using hi, h⟩
      have e2 : a.defers = (frame g ops.toList K 0 a0).defers := by rw [frame_defers]; exact hdf
      cases a; cases hfr : frame g ops.toList K 0 a0; rw [hfr] at e1 e2; simp only at e1 e2; rw [e1, e2]
    rw [ea]
    refine hend g w hN ?_ ?_
    · intro j T z i cs hK hp
      obtain ⟨h1, c, h2, h3⟩ := hC j T z hK (hall j (hltK j _ hK))
      refine ⟨h1, ?_⟩
      rcases h3 with ⟨i', cs', hp', _, hc⟩ | ⟨hn, _⟩
      · have hil := hltK i _ hp
        have ho' : ops[i]? = some ops[i] := Array.getElem?_eq_getElem hil
        have := (hput i _ j cs ho' hp).2.1 i' cs' hp'
        subst this
        rw [hp] at hp'; cases hp'
        rw [hc] at h2; exact h2
      · have := hn i cs hp
        rw [hall i (hltK i _ hp)] at this; cases this
    · intro j j' T z T' z' hK hK' hne
      exact hD j j' T z T' z' hK hK' (hall j (hltK j _ hK)) (hall j' (hltK j' _ hK')) hne
end
end Go.Proofs.Ytbpaimfnfigjpaa

namespace Go.Proofs.Ytbpaimfnfigjpaa
open Go.RowKit
set_option linter.unusedVariables false

section
variable {P : Program} {ops : Array Oper} {Q : Exit → Act → World → Prop}

def Old (ops : Array Oper) (a0 a : Act) : Prop := ∀ t : Tmp, (ops.toList.all fun o => o.dst != some t) = true → a.eval (.tmp t) = a0.eval (.tmp t)
/-- operation i is bound to stand ahead, it gives a known value, and that stands in slot t -/
def Pred (ops : Array Oper) (K : List Kind) (o : Oper) (a : Act) : Prop := ∀ (i : Nat) (t : Tmp) (v : Value), (o.after.toList.any fun e => Region.binds .any e && e.on == i) = true → (ops[i]?).bind (·.dst) = some t → K[i]? = some (.inl v) → a.eval (.tmp t) = v

def OpOk (P : Program) (ops : Array Oper) (K : List Kind) (Q : Exit → Act → World → Prop) (a0 : Act) (w0 : World) (o : Oper) : Kind → Prop
  | .inl v => ∀ (a : Act) (w : World) (Kc : Act → World → Prop), New w0 w → Old ops a0 a → Pred ops K o a → (∀ w', New w w' → Kc (a.put o.dst v) w') → o.wp P a w Kc Q
  | .inr (.inl (T, z)) => ∀ (a : Act) (w : World) (Kc : Act → World → Prop), Kc (a.put o.dst (.pointer (some ⟨w.heap.size, 0, none⟩))) (w.alloc (.cells z T)) → o.wp P a w Kc Q
  | .inr (.inr (j, cs)) => o.dst = none ∧ (o.after.toList.any fun e => Region.binds .any e && e.on == j) = true ∧ ∃ (T : TypeId) (z : Array Value) (t : Tmp), K[j]? = some (.inr (.inl (T, z))) ∧ (ops[j]?).bind (·.dst) = some t ∧
      ∀ (a : Act) (w : World) (Kc : Act → World → Prop) (g : Nat), a.eval (.tmp t) = .pointer (some ⟨g, 0, none⟩) → w.heap[g]? = some (.cells z T (0, 0)) → Old ops a0 a → Pred ops K o a →
        (∀ w', w.grownBy w' (some g) → w'.heap[g]? = some (.cells cs T (0, 0)) → Kc (a.put o.dst undef) w') → o.wp P a w Kc Q

def noDup : List Nat → Bool
  | [] => true
  | x :: xs => !xs.contains x && noDup xs

theorem noDup_nodup : ∀ {l : List Nat}, noDup l = true → l.Nodup
  | [], _ => List.nodup_nil
  | x :: xs, h => by
    simp only [noDup, Bool.and_eq_true] at h
    exact List.nodup_cons.2 ⟨by simpa using h.1, noDup_nodup h.2⟩

def puts (K : List Kind) : List Nat := K.filterMap fun | .inr (.inr (j, _)) => some j | _ => none

/-- what may be asked of the operations by looking at them -/
def opsOk (n : Nat) (l : List Oper) : Bool :=
  l.all (fun o => o.guard.isNone) && (l.zipIdx.all fun (o, i) => o.after.toList.all fun e => !Region.binds .any e || decide (e.on < i)) &&
  l.all (fun o => match o.dst with | some t => decide (t < n) | none => true) && decide (l.filterMap (·.dst)).Nodup

/-- one store a variable -/
theorem puts_uni (j : Nat) : ∀ (K : List Kind), (puts K).Nodup → ∀ (i i' : Nat) (cs cs' : Array Value), K[i]? = some (.inr (.inr (j, cs))) → K[i']? = some (.inr (.inr (j, cs'))) → i' = i := by
  intro K
  induction K with
  | nil => intro _ i i' cs cs' h; simp at h
  | cons k K ih =>
    intro hn i i' cs cs' h h'
    have mem : ∀ (i : Nat) (cs : Array Value), K[i]? = some (.inr (.inr (j, cs))) → j ∈ puts K := fun i cs h => List.mem_filterMap.2 ⟨_, List.mem_of_getElem? h, rfl⟩
    cases i with
    | zero =>
      cases i' with
      | zero => rfl
      | succ i' =>
        simp only [List.getElem?_cons_zero, Option.some.injEq, List.getElem?_cons_succ] at h h'
        subst h
        exact absurd (mem i' cs' h') (List.nodup_cons.1 (by simpa [puts] using hn)).1
    | succ i =>
      cases i' with
      | zero =>
        simp only [List.getElem?_cons_zero, Option.some.injEq, List.getElem?_cons_succ] at h h'
        subst h'
        exact absurd (mem i cs h) (List.nodup_cons.1 (by simpa [puts] using hn)).1
      | succ i' =>
        simp only [List.getElem?_cons_succ] at h h'
        have ht : (puts K).Nodup := by
          unfold puts at hn ⊢
          rw [List.filterMap_cons] at hn
          split at hn
          · exact hn
          · exact (List.nodup_cons.1 hn).2
        rw [ih ht i i' cs cs' h h']

def AllOk (p : Oper → Kind → Prop) : List Oper → List Kind → Prop
  | o :: os, k :: ks => p o k ∧ AllOk p os ks
  | _, _ => True

theorem AllOk.zip {p : Oper → Kind → Prop} : ∀ {os : List Oper} {ks : List Kind}, AllOk p os ks → ∀ x ∈ os.zip ks, p x.1 x.2
  | [], _, _, _, hx => by simp at hx
  | _ :: _, [], _, _, hx => by simp at hx
  | o :: os, k :: ks, h, x, hx => by
    rw [List.zip_cons_cons] at hx
    rcases List.mem_cons.1 hx with rfl | hx
    · exact h.1
    · exact h.2.zip x hx

theorem region_ok {id : Nat} {a0 : Act} {w0 : World} (hm : P.follows .mixedOrders = true) (K : List Kind) (hlen : K.length = ops.size) (hops : opsOk a0.tmps.size ops.toList = true) (hputs' : noDup (puts K) = true)
    (hall' : AllOk (OpOk P ops K Q a0 w0) ops.toList K)
    (hend : ∀ (g : Nat → Nat) (w' : World), New w0 w' → (∀ (j : Nat) (T : TypeId) (z : Array Value) (i : Nat) (cs : Array Value), K[j]? = some (.inr (.inl (T, z))) → K[i]? = some (.inr (.inr (j, cs))) → w0.heap.size ≤ g j ∧ w'.heap[g j]? = some (.cells cs T (0, 0))) →
      (∀ (j j' : Nat) (T : TypeId) (z : Array Value) (T' : TypeId) (z' : Array Value), K[j]? = some (.inr (.inl (T, z))) → K[j']? = some (.inr (.inl (T', z'))) → j ≠ j' → g j ≠ g j') → Q .normal (frame g ops.toList K 0 a0) w') :
    (Code.region id ops true).wp P Q a0 w0 := by
  have hall := hall'.zip
  have hputs := noDup_nodup hputs'
  unfold opsOk at hops
  simp only [Bool.and_eq_true, decide_eq_true_iff] at hops
  obtain ⟨⟨⟨h1, h2⟩, h3⟩, h4⟩ := hops
  rw [List.all_eq_true] at h1 h2 h3
  have hmem : ∀ (i : Nat) (o : Oper), ops[i]? = some o → o ∈ ops.toList := fun i o h => by
    have : ops.toList[i]? = some o := by simpa using h
    exact List.mem_of_getElem? this
  have hok : ∀ (i : Nat) (o : Oper) (k : Kind), ops[i]? = some o → K[i]? = some k → OpOk P ops K Q a0 w0 o k := by
    intro i o k ho hk
    have h : (ops.toList.zip K)[i]? = some (o, k) := by
      rw [List.getElem?_zip_eq_some]
      exact ⟨by simpa using ho, hk⟩
    exact hall _ (List.mem_of_getElem? h)
  have hold : ∀ (a : Act), (∀ t, (∀ o' ∈ ops.toList, o'.dst ≠ some t) → a.eval (.tmp t) = a0.eval (.tmp t)) → Old ops a0 a := by
    intro a h t ht
    rw [List.all_eq_true] at ht
    exact h t fun o' ho' => by have := ht o' ho'; simpa using this
  have hpred : ∀ (o : Oper) (a : Act), (∀ e ∈ o.after.toList, Region.binds .any e = true → ∀ (o' : Oper) (v' : Value) (t : Tmp), ops[e.on]? = some o' → o'.dst = some t → K[e.on]? = some (.inl v') → a.eval (.tmp t) = v') → Pred ops K o a := by
    intro o a h i t v hi ht hk
    rw [List.any_eq_true] at hi
    obtain ⟨e, he, hb⟩ := hi
    simp only [Bool.and_eq_true, beq_iff_eq] at hb
    obtain ⟨hb, rfl⟩ := hb
    obtain ⟨o', ho', hd⟩ := Option.bind_eq_some_iff.1 ht
    exact h e he hb o' v t ho' hd hk
  refine region_pure hm K hlen (fun o ho => by have := h1 o ho; simpa using this) ?_ h4 ?_ ?_ ?_ ?_ hend
  · intro i o ho e he hb
    have hz : (o, i) ∈ ops.toList.zipIdx := by
      rw [List.mem_zipIdx_iff_getElem?]; simpa using ho
    have := h2 _ hz
    simp only [List.all_eq_true] at this
    have := this e he
    rw [hb] at this
    simpa using this
  · intro o ho t ht
    have := h3 o ho
    rw [ht] at this
    simpa using this
  · intro i o v ho hk a w Kc hN h0 hp hK
    exact hok i o _ ho hk a w Kc hN (hold a h0) (hpred o a hp) hK
  · intro i o T z ho hk a w Kc hK
    exact hok i o _ ho hk a w Kc hK
  · intro i o j cs ho hk
    obtain ⟨hd, ha, T, z, t, hb, hoj, hw⟩ := hok i o _ ho hk
    obtain ⟨oj, hoj, htj⟩ := Option.bind_eq_some_iff.1 hoj
    refine ⟨hd, ?_, T, z, t, oj, hb, hoj, htj, ?_, fun a w Kc g h1 h2 h3 h4 h5 => hw a w Kc g h1 h2 (hold a h3) (hpred o a h4) h5⟩
    · intro i' cs' hk'
      exact puts_uni j K hputs i i' cs cs' hk hk'
    · rw [List.any_eq_true] at ha
      obtain ⟨e, he, hb⟩ := ha
      simp only [Bool.and_eq_true, beq_iff_eq] at hb
      exact ⟨e, he, hb.1, hb.2⟩

variable {K : List Kind} {a0 : Act} {w0 : World} {o : Oper}

theorem ok_load (T : TypeId) (p : Tmp) (g : Nat) (t : TypeId) (cs : Array Value) (fr : Nat × Nat) (d : TypeDesc) (ho : o.op = .load T (.tmp p)) (hp : (ops.toList.all fun o => o.dst != some p) = true) (hx : a0.eval (.tmp p) = .pointer (some ⟨g, 0, none⟩))
    (hg : w0.heap[g]? = some (.cells cs t fr)) (hu : P.underlying T = some d) (hd : (match d with | .struct _ | .array _ _ => true | _ => false) = true) (hi : (P.info? T).map (·.size) = some cs.size) : OpOk P ops K Q a0 w0 o (.inl (.agg cs)) := by
  intro a w Kc hN hold _ hK
  have hlt : g < w0.heap.size := by
    rcases Nat.lt_or_ge g w0.heap.size with h | h
    · exact h
    · rw [Array.getElem?_eq_none h] at hg; cases hg
  exact wp_load_row T (.tmp p) ho g ((hold p hp).trans hx) t cs fr d ((hN.block g hlt).trans hg) hu hd hi (hK w (new_refl w))

theorem ok_call (F : FuncId) (fn : Func) (args : Array Operand) (ts : Array TypeId) (xs : Array Value) (v : Value) (ho : o.op = .call { callee := .value (.func F), args := args, argTypes := ts })
    (hf : P.funcs[F]? = some fn) (hn : (fn.name == "runtime.NumGoroutine") = false) (hb : fn.body.isNone = false)
    (hx : ∀ a, Old ops a0 a → Pred ops K o a → args.map a.eval = xs) (hc : ∀ w, Calls P F xs w fun e w' => e = .returned v ∧ New w w') : OpOk P ops K Q a0 w0 o (.inl v) := by
  intro a w Kc hN hold hpred hK
  have h : (execOp a.eval o).run P w = .ok (.enter F xs) w := by
    unfold execOp
    have e : a.eval (.func F) = .func (.func F) #[] #[] := rfl
    simp only [ho, resolve, e, Deferred.ofValue, Sem.run_bind, Sem.run_pure, Result.andThen_ok, invoke, callFunc, run_program, hf, hn, hb]
    simp [hx a hold hpred]
  unfold Oper.wp
  rw [h, Oper.upon_enter]
  refine (hc w).mono fun e w' ⟨he, hw⟩ => ?_
  subst he
  exact hK w' hw

theorem ok_alloc (T : TypeId) (z : Array Value) (ho : o.op = .alloc T) (hz : ∀ w, (zeroValue T).run P w = .ok (.agg z) w) : OpOk P ops K Q a0 w0 o (.inr (.inl (T, z))) := by
  intro a w Kc hK
  have h : (execOp a.eval o).run P w = .ok (.value (.pointer (some ⟨w.heap.size, 0, none⟩))) (w.alloc (.cells z T)) := by
    unfold execOp
    simp only [ho, Instr.alloc, Sem.run_bind, hz, newVar, newRow, newObj, Value.cells, Result.andThen_ok]
    rfl
  unfold Oper.wp
  rw [h, Oper.upon_value]
  exact hK

theorem ok_store (T : TypeId) (j : Nat) (t c : Tmp) (k : Nat) (z cs : Array Value) (ho : o.op = .store T (.tmp t) (.tmp c)) (hd : o.dst = none) (hj : (o.after.toList.any fun e => Region.binds .any e && e.on == j) = true)
    (hk : (o.after.toList.any fun e => Region.binds .any e && e.on == k) = true) (hbj : K[j]? = some (.inr (.inl (T, z)))) (hoj : (ops[j]?).bind (·.dst) = some t) (hok : (ops[k]?).bind (·.dst) = some c) (hvk : K[k]? = some (.inl (.agg cs)))
    (hi : (P.info? T).map (·.size) = some cs.size) (hs : z.size = cs.size) (h1 : cs.all (·.oneCell') = true) : OpOk P ops K Q a0 w0 o (.inr (.inr (j, cs))) := by
  refine ⟨hd, hj, T, z, t, hbj, hoj, ?_⟩
  intro a w Kc g hx hg _ hpred hK
  refine wp_store_row T (.tmp t) (.tmp c) ho g cs hx (hpred k c _ hk hok hvk) T z hg hi hs h1 (hK _ ?_ ?_)
  · refine ⟨rfl, rfl, rfl, by simp [World.setRow], fun i hi hne => ?_⟩
    have : ¬ g = i := fun h => hne (by rw [h])
    simp [World.setRow, Array.getElem?_modify, this]
  · exact setRow_heap w g z cs T (0, 0) hg
end
end Go.Proofs.Ytbpaimfnfigjpaa

namespace Go.Proofs.Ytbpaimfnfigjpaa
open Go.RowKit
set_option linter.unusedVariables false

/-- w is w0 with new blocks; of the old ones those of T alone may have turned -/
structure Keep (T : List Nat) (w0 w : World) : Prop where
  os : w.os = w0.os
  tape : w.tape = w0.tape
  output : w.output = w0.output
  size : w0.heap.size ≤ w.heap.size
  block : ∀ k, k < w0.heap.size → k ∉ T → w.heap[k]? = w0.heap[k]?

theorem Keep.refl (T : List Nat) (w : World) : Keep T w w := ⟨rfl, rfl, rfl, Nat.le_refl _, fun _ _ _ => rfl⟩
theorem Keep.new {T : List Nat} {w0 w w' : World} (h : Keep T w0 w) (k : New w w') : Keep T w0 w' :=
  ⟨k.os.trans h.os, k.tape.trans h.tape, k.output.trans h.output, Nat.le_trans h.size k.size, fun i hi hT => (k.block i (Nat.lt_of_lt_of_le hi h.size)).trans (h.block i hi hT)⟩
/-- what a world keeps of an older one if its targets are new there -/
theorem Keep.since {T : List Nat} {W w0 w : World} (h : Keep T w0 w) (k : New W w0) (hT : ∀ x ∈ T, W.heap.size ≤ x) : New W w :=
  ⟨h.os.trans k.os, h.tape.trans k.tape, h.output.trans k.output, Nat.le_trans k.size h.size, fun i hi => (h.block i (Nat.lt_of_lt_of_le hi k.size) (fun hm => by have := hT i hm; omega)).trans (k.block i hi)⟩

section
variable {P : Program} {ops : Array Oper} {Q : Exit → Act → World → Prop}

/-- what a store that stands behind operation i is to write is as it was -/
def Intact (ops : Array Oper) (K : List Kind) (T : List Nat) (w0 : World) (i : Nat) (w : World) : Prop :=
  ∀ (j g i' : Nat) (cs : Array Value), K[i']? = some (.inr (.inr (j, cs))) → T[j]? = some g → ((ops[i']?).any fun o' => o'.after.toList.any fun e => Region.binds .any e && e.on == i) = true →
    ∀ (z : Array Value) (t : TypeId), w0.heap[g]? = some (.cells z t (0, 0)) → w.heap[g]? = some (.cells z t (0, 0))

def SetOk (P : Program) (ops : Array Oper) (K : List Kind) (Q : Exit → Act → World → Prop) (T : List Nat) (a0 : Act) (w0 : World) (i : Nat) (o : Oper) : Kind → Prop
  | .inl v => ∀ (a : Act) (w : World) (Kc : Act → World → Prop), Keep T w0 w → Intact ops K T w0 i w → Old ops a0 a → Pred ops K o a → (∀ w', New w w' → Kc (a.put o.dst v) w') → o.wp P a w Kc Q
  | .inr (.inl _) => False
  | .inr (.inr (j, cs)) => o.dst = none ∧ ∃ (g : Nat) (t : TypeId) (z : Array Value), T[j]? = some g ∧ w0.heap[g]? = some (.cells z t (0, 0)) ∧
      ∀ (a : Act) (w : World) (Kc : Act → World → Prop), w.heap[g]? = some (.cells z t (0, 0)) → Old ops a0 a → Pred ops K o a →
        (∀ w', w.grownBy w' (some g) → w'.heap[g]? = some (.cells cs t (0, 0)) → Kc (a.put o.dst undef) w') → o.wp P a w Kc Q

def AllOkI (p : Nat → Oper → Kind → Prop) : Nat → List Oper → List Kind → Prop
  | n, o :: os, k :: ks => p n o k ∧ AllOkI p (n + 1) os ks
  | _, _, _ => True

theorem AllOkI.at_ {p : Nat → Oper → Kind → Prop} : ∀ {n : Nat} {os : List Oper} {ks : List Kind}, AllOkI p n os ks → ∀ (i : Nat) (o : Oper) (k : Kind), os[i]? = some o → ks[i]? = some k → p (n + i) o k
  | _, [], _, _, i, o, k, ho, _ => by simp at ho
  | _, _ :: _, [], _, i, o, k, _, hk => by simp at hk
  | n, o' :: os, k' :: ks, h, i, o, k, ho, hk => by
    cases i with
    | zero =>
      simp only [List.getElem?_cons_zero, Option.some.injEq] at ho hk
      subst ho; subst hk; exact h.1
    | succ i =>
      simp only [List.getElem?_cons_succ] at ho hk
      have := h.2.at_ i o k ho hk
      rw [show n + 1 + i = n + (i + 1) from by omega] at this
      exact this

theorem region_set {id : Nat} {a0 : Act} {w0 : World} (hm : P.follows .mixedOrders = true) (K : List Kind) (T : List Nat) (hT : T.Nodup) (hlen : K.length = ops.size) (hops : opsOk a0.tmps.size ops.toList = true) (hputs' : noDup (puts K) = true)
    (hall' : AllOkI (SetOk P ops K Q T a0 w0) 0 ops.toList K)
    (hend : ∀ (w' : World), Keep T w0 w' → (∀ (j g i : Nat) (cs z : Array Value) (t : TypeId), K[i]? = some (.inr (.inr (j, cs))) → T[j]? = some g → w0.heap[g]? = some (.cells z t (0, 0)) → w'.heap[g]? = some (.cells cs t (0, 0))) → Q .normal (frame (fun _ => 0) ops.toList K 0 a0) w') :
    (Code.region id ops true).wp P Q a0 w0 := by
  have hputs := noDup_nodup hputs'
  have huni : ∀ (j i i' : Nat) (cs cs' : Array Value), K[i]? = some (.inr (.inr (j, cs))) → K[i']? = some (.inr (.inr (j, cs'))) → i' = i := fun j i i' cs cs' h h' => puts_uni j K hputs i i' cs cs' h h'
  unfold opsOk at hops
  simp only [Bool.and_eq_true, decide_eq_true_iff] at hops
  obtain ⟨⟨⟨h1, h2⟩, h3⟩, hnd⟩ := hops
  rw [List.all_eq_true] at h1 h2 h3
  have hsame : ∀ (i i' : Nat) (o o' : Oper) (t : Tmp), ops[i]? = some o → ops[i']? = some o' → o.dst = some t → o'.dst = some t → i = i' := by
    intro i i' o o' t ho ho' ht ht'
    have key : ∀ (l : List Oper), (l.filterMap (·.dst)).Nodup → ∀ (i i' : Nat), l[i]? = some o → l[i']? = some o' → i = i' := by
      intro l
      induction l with
      | nil => intro _ i i' h; simp at h
      | cons x l ih =>
        intro hn i i' h h'
        have htail : (l.filterMap (·.dst)).Nodup := by
          rw [List.filterMap_cons] at hn
          split at hn
          · exact hn
          · exact (List.nodup_cons.1 hn).2
        have clash : ∀ (y : Oper), x.dst = some t → y ∈ l → y.dst = some t → False := by
          intro y hx hy hyt
          rw [List.filterMap_cons, hx] at hn
          exact (List.nodup_cons.1 hn).1 (List.mem_filterMap.2 ⟨y, hy, hyt⟩)
        cases i with
        | zero =>
          cases i' with
          | zero => rfl
          | succ i' =>
            simp only [List.getElem?_cons_zero, Option.some.injEq, List.getElem?_cons_succ] at h h'
            subst h
            exact (clash o' ht (List.mem_of_getElem? h') ht').elim
        | succ i =>
          cases i' with
          | zero =>
            simp only [List.getElem?_cons_zero, Option.some.injEq, List.getElem?_cons_succ] at h h'
            subst h'
            exact (clash o ht' (List.mem_of_getElem? h) ht).elim
          | succ i' =>
            simp only [List.getElem?_cons_succ] at h h'
            rw [ih htail i i' h h']
    exact key ops.toList hnd i i' (by simpa using ho) (by simpa using ho')
  have hmem : ∀ (i : Nat) (o : Oper), ops[i]? = some o → o ∈ ops.toList := fun i o h => by
    have : ops.toList[i]? = some o := by simpa using h
    exact List.mem_of_getElem? this
  have hltK : ∀ (i : Nat) (k : Kind), K[i]? = some k → i < ops.size := fun i k h => by
    have := (List.getElem?_eq_some_iff.1 h).1; omega

  have hok : ∀ (i : Nat) (o : Oper) (k : Kind), ops[i]? = some o → K[i]? = some k → SetOk P ops K Q T a0 w0 i o k := by
    intro i o k ho hk
    have := hall'.at_ i o k (by simpa using ho) hk
    rwa [Nat.zero_add] at this
  have hsz : ∀ o ∈ ops.toList, ∀ t, o.dst = some t → t < a0.tmps.size := fun o ho t ht => by
    have := h3 o ho
    rw [ht] at this
    simpa using this
  refine wp_region_inv hm (fun done a w => Keep T w0 w ∧ a.defers = a0.defers ∧ a.tmps.size = a0.tmps.size ∧
    (∀ (t : Tmp), (∀ (i : Nat) (o : Oper), ops[i]? = some o → done i = true → o.dst ≠ some t) → a.tmps[t]? = a0.tmps[t]?) ∧
    (∀ (i : Nat) (o : Oper) (k : Kind) (t : Tmp), ops[i]? = some o → K[i]? = some k → done i = true → o.dst = some t → a.tmps[t]? = some (gives 0 k)) ∧
    (∀ (j g : Nat), T[j]? = some g → (∃ (i : Nat) (cs : Array Value), K[i]? = some (.inr (.inr (j, cs))) ∧ done i = true ∧ ∀ (z : Array Value) (t : TypeId), w0.heap[g]? = some (.cells z t (0, 0)) → w.heap[g]? = some (.cells cs t (0, 0))) ∨
      ((∀ (i : Nat) (cs : Array Value), K[i]? = some (.inr (.inr (j, cs))) → done i = false) ∧ ∀ (z : Array Value) (t : TypeId), w0.heap[g]? = some (.cells z t (0, 0)) → w.heap[g]? = some (.cells z t (0, 0)))) ∧
    (∀ (i' : Nat) (o' : Oper), ops[i']? = some o' → done i' = true → ∀ e ∈ o'.after.toList, Region.binds .any e = true → done e.on = true)) ?_ ?_ ?_ ?_
  · intro i o ho e he hb
    have hz : (o, i) ∈ ops.toList.zipIdx := by
      rw [List.mem_zipIdx_iff_getElem?]; simpa using ho
    have := h2 _ hz
    simp only [List.all_eq_true] at this
    have := this e he
    rw [hb] at this
    simpa using this
  · refine ⟨⟨rfl, rfl, rfl, Nat.le_refl _, fun _ _ _ => rfl⟩, rfl, rfl, fun t _ => rfl, ?_, ?_, ?_⟩
    · intro i o k t ho _ hd; have := (Array.getElem?_eq_some_iff.1 ho).1; simp at hd; omega
    rotate_left
    · intro i' o' ho hd; have := (Array.getElem?_eq_some_iff.1 ho).1; simp at hd; omega
    · intro j g _
      exact .inr ⟨fun i cs hK => by have := hltK i _ hK; simp; omega, fun z t h => h⟩
  · rintro i o ho done a w ⟨hN, hdf, hs, hA, hB, hC, hD⟩ hdone haft
    have hil : i < ops.size := (Array.getElem?_eq_some_iff.1 ho).1
    have hk : K[i]? = some (K[i]'(by omega)) := List.getElem?_eq_getElem (by omega)
    have ev0 : Old ops a0 a := by
      intro t ht
      rw [List.all_eq_true] at ht
      have := hA t (fun i' o' ho' _ => by have := ht o' (hmem i' o' ho'); simpa using this)
      simp only [Act.eval, Array.getD_eq_getD_getElem?, this]
    have ev2 : Pred ops K o a := by
      intro i t v hi ht hk
      rw [List.any_eq_true] at hi
      obtain ⟨e, he, hb⟩ := hi
      simp only [Bool.and_eq_true, beq_iff_eq] at hb
      obtain ⟨hb, rfl⟩ := hb
      obtain ⟨o', ho', hd⟩ := Option.bind_eq_some_iff.1 ht
      have := hB e.on o' _ t ho' hk (haft e he hb) hd
      simp only [Act.eval, Array.getD_eq_getD_getElem?, this, Option.getD_some]; rfl
    have frA : ∀ (v : Value) (t : Tmp), (∀ (i' : Nat) (o' : Oper), ops[i']? = some o' → (done i' || i' == i) = true → o'.dst ≠ some t) → (a.put o.dst v).tmps[t]? = a0.tmps[t]? := by
      intro v t ht
      rw [put_other _ _ _ _ (ht i o ho (by simp))]
      exact hA t (fun i' o' ho' hd => ht i' o' ho' (by simp [hd]))
    have frB : ∀ (v : Value), (∀ t, o.dst = some t → v = gives 0 (K[i]'(by omega))) → ∀ (i' : Nat) (o' : Oper) (k' : Kind) (t : Tmp), ops[i']? = some o' → K[i']? = some k' → (done i' || i' == i) = true → o'.dst = some t → (a.put o.dst v).tmps[t]? = some (gives 0 k') := by
      intro v hv i' o' k' t ho' hk' hd ht
      by_cases hi : i' = i
      · subst hi
        rw [ho] at ho'; cases ho'
        rw [hk] at hk'; cases hk'
        rw [ht, put_same _ _ _ (by rw [hs]; exact hsz o (hmem _ _ ho) t ht), hv t ht]
      · have hd' : done i' = true := by simpa [hi] using hd
        rw [put_other _ _ _ _ (fun h => hi (hsame i' i o' o t ho' ho ht h))]
        exact hB i' o' k' t ho' hk' hd' ht
    have hlt : ∀ (g : Nat) (z : Array Value) (t : TypeId), w.heap[g]? = some (.cells z t (0, 0)) → g < w.heap.size := by
      intro g z t h
      rcases Nat.lt_or_ge g w.heap.size with h' | h'
      · exact h'
      · rw [Array.getElem?_eq_none h'] at h; cases h
    have hD' : ∀ (i' : Nat) (o' : Oper), ops[i']? = some o' → (done i' || i' == i) = true → ∀ e ∈ o'.after.toList, Region.binds .any e = true → (done e.on || e.on == i) = true := by
      intro i' o' ho' hd e he hb
      by_cases hi : i' = i
      · subst hi
        rw [ho] at ho'; cases ho'
        simp [haft e he hb]
      · simp [hD i' o' ho' (by simpa [hi] using hd) e he hb]
    have hint : Intact ops K T w0 i w := by
      intro j g i' cs hp hTj haf z t hz
      have hd : done i' = false := by
        cases hdi : done i' with
        | false => rfl
        | true =>
          exfalso
          cases ho' : ops[i']? with
          | none => rw [ho'] at haf; cases haf
          | some o' =>
            rw [ho'] at haf
            simp only [Option.any_some, List.any_eq_true, Bool.and_eq_true, beq_iff_eq] at haf
            obtain ⟨e, he, hb, hon⟩ := haf
            have := hD i' o' ho' hdi e he hb
            rw [hon, hdone] at this; cases this
      rcases hC j g hTj with ⟨i2, cs2, hp2, hdi, _⟩ | ⟨_, hc⟩
      · rw [huni j i' i2 cs cs2 hp hp2] at hdi; rw [hdi] at hd; cases hd
      · exact hc z t hz
    refine wpOp_plain ho (by have := h1 o (hmem i o ho); simpa using this) ?_
    have hoki := hok i o _ ho hk
    cases hki : K[i]'(by omega) with
    | inl v =>
      rw [hki] at hk hoki
      refine hoki a w _ hN hint ev0 ev2 fun w' hw' => ?_
      refine ⟨hN.new hw', by rw [put_defers]; exact hdf, by rw [put_size]; exact hs, frA v, frB v (fun _ _ => by rw [hki]; rfl), ?_, hD'⟩
      intro j g hj
      rcases hC j g hj with ⟨i', cs, hp, hdi, hc⟩ | ⟨hn, hc⟩
      · exact .inl ⟨i', cs, hp, by simp [hdi], fun z t hz => (hw'.block g (hlt g _ _ (hc z t hz))).trans (hc z t hz)⟩
      · refine .inr ⟨fun i' cs hp => ?_, fun z t hz => (hw'.block g (hlt g _ _ (hc z t hz))).trans (hc z t hz)⟩
        have : i' ≠ i := by rintro rfl; rw [hk] at hp; cases hp
        simp [hn i' cs hp, this]
    | inr kk =>
     cases kk with
     | inl Tz => rw [hki] at hoki; exact hoki.elim
     | inr jcs =>
      obtain ⟨j, cs⟩ := jcs
      rw [hki] at hk hoki
      obtain ⟨hdst, g, t, z, hTj, hz, hw⟩ := hoki
      have hgz : w.heap[g]? = some (.cells z t (0, 0)) := by
        rcases hC j g hTj with ⟨i', cs', hp, hdi, _⟩ | ⟨_, hc⟩
        · rw [huni j i i' cs cs' hk hp] at hdi; rw [hdi] at hdone; cases hdone
        · exact hc z t hz
      refine hw a w _ hgz ev0 ev2 fun w' hw' hc' => ?_
      have hgT : g ∈ T := List.mem_of_getElem? hTj
      refine ⟨⟨hw'.os.trans hN.os, hw'.tape.trans hN.tape, hw'.output.trans hN.output, Nat.le_trans hN.size hw'.size, fun k hk hkT => (hw'.block k (Nat.lt_of_lt_of_le hk hN.size) (fun h => by cases h; exact hkT hgT)).trans (hN.block k hk hkT)⟩,
        by rw [put_defers]; exact hdf, by rw [put_size]; exact hs, frA undef, frB undef (fun _ h => by rw [hdst] at h; cases h), ?_, hD'⟩
      intro j2 g2 hj2
      by_cases hj : j2 = j
      · subst hj
        rw [hTj] at hj2; cases hj2
        exact .inl ⟨i, cs, hk, by simp, fun z' t' hz' => by rw [hz] at hz'; cases hz'; exact hc'⟩
      · have hne : g2 ≠ g := by
          rintro rfl
          exact hj ((List.getElem?_inj (List.getElem?_eq_some_iff.1 hj2).1 hT).1 (hj2.trans hTj.symm))
        rcases hC j2 g2 hj2 with ⟨i', cs', hp, hdi, hc⟩ | ⟨hn, hc⟩
        · exact .inl ⟨i', cs', hp, by simp [hdi], fun z' t' hz' => (hw'.block g2 (hlt g2 _ _ (hc z' t' hz')) (fun h => hne (by injection h))).trans (hc z' t' hz')⟩
        · refine .inr ⟨fun i' cs' hp => ?_, fun z' t' hz' => (hw'.block g2 (hlt g2 _ _ (hc z' t' hz')) (fun h => hne (by injection h))).trans (hc z' t' hz')⟩
          have : i' ≠ i := by rintro rfl; rw [hk] at hp; cases hp; exact hj rfl
          simp [hn i' cs' hp, this]
  · rintro done a w ⟨hN, hdf, hs, hA, hB, hC, _⟩ hall
    have ea : a = frame (fun _ => 0) ops.toList K 0 a0 := by
      have e1 : a.tmps = (frame (fun _ => 0) ops.toList K 0 a0).tmps := by
        apply Array.ext_getElem?
        intro t
        by_cases ht : ∃ (i : Nat) (o : Oper), ops[i]? = some o ∧ o.dst = some t
        · obtain ⟨i, o, ho, hot⟩ := ht
          have hil : i < ops.size := (Array.getElem?_eq_some_iff.1 ho).1
          have hk : K[i]? = some (K[i]'(by omega)) := List.getElem?_eq_getElem (by omega)
          rw [hB i o _ t ho hk (hall i hil) hot]
          exact (frame_at (fun _ => 0) t ops.toList K 0 a0 i o _ (by simp [hlen]) hnd (by simpa using ho) hk hot (hsz o (hmem i o ho) t hot)).symm
        · rw [hA t (fun i o ho _ h => ht ⟨i, o, ho, h⟩), frame_other]
          intro o ho h
          obtain ⟨i, hi⟩ := List.getElem?_of_mem ho
          exact ht ⟨i, o, by simpa using hi, h⟩
      have e2 : a.defers = (frame (fun _ => 0) ops.toList K 0 a0).defers := by rw [frame_defers]; exact hdf
      cases a; cases hfr : frame (fun _ => 0) ops.toList K 0 a0; rw [hfr] at e1 e2; simp only at e1 e2; rw [e1, e2]
    rw [ea]
    refine hend w hN ?_
    intro j g i cs z t hK hj hz
    rcases hC j g hj with ⟨i', cs', hp, _, hc⟩ | ⟨hn, _⟩
    · have := huni j i i' cs cs' hK hp
      subst this
      rw [hK] at hp; cases hp
      exact hc z t hz
    · have := hn i cs hK
      rw [hall i (hltK i _ hK)] at this; cases this

variable {K : List Kind} {T : List Nat} {a0 : Act} {w0 : World} {o : Oper}

/-- an operation that gives its value in every such world, and turns nothing (the frame is known by its slots alone: ρ) -/
theorem set_read {i : Nat} (v : Value) (h : ∀ (ρ : Operand → Value) (w : World), Keep T w0 w → Intact ops K T w0 i w → (∀ v, ρ (.const v) = v) → (∀ t : Tmp, (ops.toList.all fun o => o.dst != some t) = true → ρ (.tmp t) = a0.eval (.tmp t)) →
      (∀ (i : Nat) (t : Tmp) (v : Value), (o.after.toList.any fun e => Region.binds .any e && e.on == i) = true → (ops[i]?).bind (·.dst) = some t → K[i]? = some (.inl v) → ρ (.tmp t) = v) → (execOp ρ o).run P w = .ok (.value v) w) : SetOk P ops K Q T a0 w0 i o (.inl v) := by
  intro a w Kc hN hI h0 hp hK
  unfold Oper.wp
  rw [h a.eval w hN hI (fun _ => rfl) h0 hp, Oper.upon_value]
  exact hK w (new_refl w)
theorem set_val {i : Nat} (v : Value) (h : ∀ (ρ : Operand → Value) (w : World), Keep T w0 w → (∀ v, ρ (.const v) = v) → (∀ t : Tmp, (ops.toList.all fun o => o.dst != some t) = true → ρ (.tmp t) = a0.eval (.tmp t)) →
      (∀ (i : Nat) (t : Tmp) (v : Value), (o.after.toList.any fun e => Region.binds .any e && e.on == i) = true → (ops[i]?).bind (·.dst) = some t → K[i]? = some (.inl v) → ρ (.tmp t) = v) → (execOp ρ o).run P w = .ok (.value v) w) : SetOk P ops K Q T a0 w0 i o (.inl v) :=
  set_read v fun ρ w hN _ => h ρ w hN

theorem set_call {i : Nat} (F : FuncId) (fn : Func) (args : Array Operand) (ts : Array TypeId) (xs : Array Value) (v : Value) (ho : o.op = .call { callee := .value (.func F), args := args, argTypes := ts })
    (hf : P.funcs[F]? = some fn) (hn : (fn.name == "runtime.NumGoroutine") = false) (hb : fn.body.isNone = false)
    (hx : ∀ a, Old ops a0 a → Pred ops K o a → args.map a.eval = xs) (hc : ∀ w, Calls P F xs w fun e w' => e = .returned v ∧ New w w') : SetOk P ops K Q T a0 w0 i o (.inl v) := by
  intro a w Kc _ _ hold hpred hK
  have h : (execOp a.eval o).run P w = .ok (.enter F xs) w := by
    unfold execOp
    have e : a.eval (.func F) = .func (.func F) #[] #[] := rfl
    simp only [ho, resolve, e, Deferred.ofValue, Sem.run_bind, Sem.run_pure, Result.andThen_ok, invoke, callFunc, run_program, hf, hn, hb]
    simp [hx a hold hpred]
  unfold Oper.wp
  rw [h, Oper.upon_enter]
  refine (hc w).mono fun e w' ⟨he, hw⟩ => ?_
  subst he
  exact hK w' hw

/-- one cell of a variable is written -/
theorem set_cell {i : Nat} (Ty : TypeId) (j g n : Nat) (p c : Tmp) (q k : Nat) (t : TypeId) (z : Array Value) (v : Value) (ho : o.op = .store Ty (.tmp p) (.tmp c)) (hd : o.dst = none) (hTj : T[j]? = some g) (hz : w0.heap[g]? = some (.cells z t (0, 0))) (hn : n < z.size)
    (hq : (o.after.toList.any fun e => Region.binds .any e && e.on == q) = true) (hoq : (ops[q]?).bind (·.dst) = some p) (hvq : K[q]? = some (.inl (.pointer (some ⟨g, n, none⟩))))
    (hk : (o.after.toList.any fun e => Region.binds .any e && e.on == k) = true) (hok : (ops[k]?).bind (·.dst) = some c) (hvk : K[k]? = some (.inl v)) (h1 : v.oneCell' = true)
    (hrun : ∀ w u, w.cell? ⟨g, n, none⟩ = some u → w.frozen? ⟨g, n, none⟩ = false → (Instr.storeAt Ty (.pointer (some ⟨g, n, none⟩)) v).run P w = .ok () (w.setCell ⟨g, n, none⟩ v)) : SetOk P ops K Q T a0 w0 i o (.inr (.inr (j, z.setIfInBounds n v))) := by
  refine ⟨hd, g, t, z, hTj, hz, ?_⟩
  intro a w Kc hg hold hpred hK
  have B : Blk w g t z := hg
  have hx := hpred q p _ hq hoq hvq
  have hy := hpred k c _ hk hok hvk
  have h : (execOp a.eval o).run P w = .ok .skip (w.setCell ⟨g, n, none⟩ v) := by
    unfold execOp
    simp only [ho, hx, hy, Sem.run_bind, hrun w z[n] (by rw [B.cell]; simp [hn]) (B.free n), Result.andThen_ok, Sem.run_pure]
  unfold Oper.wp
  rw [h, Oper.upon_skip]
  refine hK _ ⟨rfl, rfl, rfl, by simp [World.setCell], fun i hi hne => ?_⟩ (B.set_ n v)
  exact Below.heap_setCell _ _ _ _ (fun h => hne (by rw [h]))

theorem set_store {i : Nat} (Ty : TypeId) (j g : Nat) (p c : Tmp) (k : Nat) (t : TypeId) (z cs : Array Value) (ho : o.op = .store Ty (.tmp p) (.tmp c)) (hd : o.dst = none) (hTj : T[j]? = some g) (hz : w0.heap[g]? = some (.cells z t (0, 0)))
    (hp : (ops.toList.all fun o => o.dst != some p) = true) (hx : a0.eval (.tmp p) = .pointer (some ⟨g, 0, none⟩))
    (hk : (o.after.toList.any fun e => Region.binds .any e && e.on == k) = true) (hok : (ops[k]?).bind (·.dst) = some c) (hvk : K[k]? = some (.inl (.agg cs)))
    (hi : (P.info? Ty).map (·.size) = some cs.size) (hs : z.size = cs.size) (h1 : cs.all (·.oneCell') = true) : SetOk P ops K Q T a0 w0 i o (.inr (.inr (j, cs))) := by
  refine ⟨hd, g, t, z, hTj, hz, ?_⟩
  intro a w Kc hg hold hpred hK
  refine wp_store_row Ty (.tmp p) (.tmp c) ho g cs ((hold p hp).trans hx) (hpred k c _ hk hok hvk) t z hg hi hs h1 (hK _ ?_ ?_)
  · refine ⟨rfl, rfl, rfl, by simp [World.setRow], fun i hi hne => ?_⟩
    have : ¬ g = i := fun h => hne (by rw [h])
    simp [World.setRow, Array.getElem?_modify, this]
  · exact setRow_heap w g z cs t (0, 0) hg
end
end Go.Proofs.Ytbpaimfnfigjpaa

namespace Go.Proofs.Ytbpaimfnfigjpaa
open Go.RowKit
set_option linter.unusedVariables false
/-- none -/
def gtab : List (Nat × List Value) := []
end Go.Proofs.Ytbpaimfnfigjpaa
