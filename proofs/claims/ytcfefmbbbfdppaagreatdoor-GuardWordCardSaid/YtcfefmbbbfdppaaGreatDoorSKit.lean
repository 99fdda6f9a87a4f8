/- Small words for the walks of this seat: hiding facts, worlds that only grow, results. No conditions. -/
import Derived.Test.YtcfefmbbbfdppaaGreatDoorProg
import Derived.WalkKit
import Derived.WalkSpells
import Derived.WalkLawsBesides
import Derived.Deep.QuietTactic
import Derived.BigQuiet
import Derived.Deep.RegionHeld3
import Derived.Deep.DeepCutAuto
import Derived.IntWalk
import Derived.OpenShut
namespace Go.Proofs.YtcfefmbbbfdppaaGreatDoor
def lim (n i : Nat) : Int := ((n / 18446744073709551616 ^ i % 18446744073709551616 : Nat) : Int)
def M256 : Nat := 115792089237316195423570985008687907853269984665640564039457584007913129639936
theorem lim0 (n : Nat) : lim n 0 = ((n % 18446744073709551616 : Nat) : Int) := by simp [lim]
theorem lim1 (n : Nat) : lim n 1 = ((n / 18446744073709551616 % 18446744073709551616 : Nat) : Int) := by simp [lim]
theorem lim2 (n : Nat) : lim n 2 = ((n / 340282366920938463463374607431768211456 % 18446744073709551616 : Nat) : Int) := by
  unfold lim; rw [show (18446744073709551616 ^ 2 : Nat) = 340282366920938463463374607431768211456 from by decide]
theorem lim3 (n : Nat) : lim n 3 = ((n / 6277101735386680763835789423207666416102355444464034512896 % 18446744073709551616 : Nat) : Int) := by
  unfold lim; rw [show (18446744073709551616 ^ 3 : Nat) = 6277101735386680763835789423207666416102355444464034512896 from by decide]
theorem lim_nonneg (n i : Nat) : 0 ≤ lim n i := Int.natCast_nonneg _
theorem lim_lt (n i : Nat) : lim n i < 18446744073709551616 := by
  unfold lim
  have := Nat.mod_lt (n / 18446744073709551616 ^ i) (show 18446744073709551616 > 0 by decide)
  omega
theorem val_lim (n : Nat) (h : n < M256) : (n : Int) = lim n 0 + 18446744073709551616 * lim n 1 + 340282366920938463463374607431768211456 * lim n 2 + 6277101735386680763835789423207666416102355444464034512896 * lim n 3 := by
  unfold M256 at h
  rw [lim0, lim1, lim2, lim3]
  omega
theorem lim_inj (a b : Nat) (ha : a < M256) (hb : b < M256) (h0 : lim a 0 = lim b 0) (h1 : lim a 1 = lim b 1) (h2 : lim a 2 = lim b 2) (h3 : lim a 3 = lim b 3) : a = b := by
  have h := val_lim a ha
  have k := val_lim b hb
  rw [h0, h1, h2, h3] at h
  omega
theorem lim_of (n : Nat) (x0 x1 x2 x3 c : Int) (h0 : 0 ≤ x0) (k0 : x0 < 18446744073709551616) (h1 : 0 ≤ x1) (k1 : x1 < 18446744073709551616) (h2 : 0 ≤ x2) (k2 : x2 < 18446744073709551616) (h3 : 0 ≤ x3) (k3 : x3 < 18446744073709551616)
    (hn : (n : Int) = x0 + 18446744073709551616 * x1 + 340282366920938463463374607431768211456 * x2 + 6277101735386680763835789423207666416102355444464034512896 * x3 + 115792089237316195423570985008687907853269984665640564039457584007913129639936 * c) :
    lim n 0 = x0 ∧ lim n 1 = x1 ∧ lim n 2 = x2 ∧ lim n 3 = x3 := by
  rw [lim0, lim1, lim2, lim3]
  refine ⟨?_, ?_, ?_, ?_⟩ <;> omega
theorem sum_parts (a b : Int) (a0 a1 a2 a3 b0 b1 b2 b3 s0 s1 s2 s3 c1 c2 c3 c4 : Int) (va : a = a0 + 18446744073709551616 * a1 + 340282366920938463463374607431768211456 * a2 + 6277101735386680763835789423207666416102355444464034512896 * a3)
    (vb : b = b0 + 18446744073709551616 * b1 + 340282366920938463463374607431768211456 * b2 + 6277101735386680763835789423207666416102355444464034512896 * b3)
    (h1 : a0 + b0 + 0 = s0 + 18446744073709551616 * c1) (h2 : a1 + b1 + c1 = s1 + 18446744073709551616 * c2) (h3 : a2 + b2 + c2 = s2 + 18446744073709551616 * c3) (h4 : a3 + b3 + c3 = s3 + 18446744073709551616 * c4) :
    a + b = s0 + 18446744073709551616 * s1 + 340282366920938463463374607431768211456 * s2 + 6277101735386680763835789423207666416102355444464034512896 * s3 + 115792089237316195423570985008687907853269984665640564039457584007913129639936 * c4 := by
  omega
theorem dif_parts (a b : Int) (a0 a1 a2 a3 b0 b1 b2 b3 s0 s1 s2 s3 c1 c2 c3 c4 : Int) (va : a = a0 + 18446744073709551616 * a1 + 340282366920938463463374607431768211456 * a2 + 6277101735386680763835789423207666416102355444464034512896 * a3)
    (vb : b = b0 + 18446744073709551616 * b1 + 340282366920938463463374607431768211456 * b2 + 6277101735386680763835789423207666416102355444464034512896 * b3)
    (h1 : a0 - b0 - 0 = s0 - 18446744073709551616 * c1) (h2 : a1 - b1 - c1 = s1 - 18446744073709551616 * c2) (h3 : a2 - b2 - c2 = s2 - 18446744073709551616 * c3) (h4 : a3 - b3 - c3 = s3 - 18446744073709551616 * c4) :
    a - b = s0 + 18446744073709551616 * s1 + 340282366920938463463374607431768211456 * s2 + 6277101735386680763835789423207666416102355444464034512896 * s3 - 115792089237316195423570985008687907853269984665640564039457584007913129639936 * c4 := by
  omega
theorem top_bit (n : Nat) (s0 s1 s2 s3 c4 : Int) (x0 : 0 ≤ s0) (x1 : 0 ≤ s1) (x2 : 0 ≤ s2) (x3 : 0 ≤ s3) (y0 : s0 < 18446744073709551616) (y1 : s1 < 18446744073709551616) (y2 : s2 < 18446744073709551616) (y3 : s3 < 18446744073709551616) (c0 : 0 ≤ c4) (c1 : c4 ≤ 1)
    (h : (n : Int) = s0 + 18446744073709551616 * s1 + 340282366920938463463374607431768211456 * s2 + 6277101735386680763835789423207666416102355444464034512896 * s3 + 115792089237316195423570985008687907853269984665640564039457584007913129639936 * c4) :
    decide (M256 ≤ n) = (c4 == 1) := by
  unfold M256
  rw [Bool.eq_iff_iff, decide_eq_true_iff, beq_iff_eq]
  omega
theorem low_bit (a b : Nat) (s0 s1 s2 s3 c4 : Int) (x0 : 0 ≤ s0) (x1 : 0 ≤ s1) (x2 : 0 ≤ s2) (x3 : 0 ≤ s3) (y0 : s0 < 18446744073709551616) (y1 : s1 < 18446744073709551616) (y2 : s2 < 18446744073709551616) (y3 : s3 < 18446744073709551616) (c0 : 0 ≤ c4) (c1 : c4 ≤ 1)
    (h : (a : Int) - b = s0 + 18446744073709551616 * s1 + 340282366920938463463374607431768211456 * s2 + 6277101735386680763835789423207666416102355444464034512896 * s3 - 115792089237316195423570985008687907853269984665640564039457584007913129639936 * c4) :
    decide (a < b) = (c4 == 1) := by
  rw [Bool.eq_iff_iff, decide_eq_true_iff, beq_iff_eq]
  omega
theorem dif_of (a b : Nat) (s0 s1 s2 s3 c4 : Int) (hb : b < M256) 
    (h : (a : Int) - b = s0 + 18446744073709551616 * s1 + 340282366920938463463374607431768211456 * s2 + 6277101735386680763835789423207666416102355444464034512896 * s3 - 115792089237316195423570985008687907853269984665640564039457584007913129639936 * c4) :
    ((a + M256 - b : Nat) : Int) = s0 + 18446744073709551616 * s1 + 340282366920938463463374607431768211456 * s2 + 6277101735386680763835789423207666416102355444464034512896 * s3 + 115792089237316195423570985008687907853269984665640564039457584007913129639936 * (1 - c4) := by
  unfold M256 at *
  omega
theorem lim_bd (n i : Nat) : 0 ≤ lim n i ∧ lim n i < 18446744073709551616 := ⟨lim_nonneg n i, lim_lt n i⟩
end Go.Proofs.YtcfefmbbbfdppaaGreatDoor
namespace Go.Proofs.YtcfefmbbbfdppaaGreatDoor
open Go.RowKit
set_option linter.unusedVariables false
theorem hide {p : Prop} (h : p) : Hid p := h
theorem unhide {p : Prop} (h : Hid p) : p := h
theorem ret_int {k : IntKind} {a b : Int} (h : a = b) : Ending.returned (.int k a) = .returned (.int k b) := by rw [h]
abbrev New (w w' : World) : Prop := Below w.heap.size w w'
theorem new_refl (w : World) : New w w := Below.refl _ _
theorem new_alloc {a w : World} (h : New a w) (o : Obj) : New a (w.alloc o) := h.alloc h.size o
theorem new_drew {a w : World} (h : New a w) : New a w.drew := h.drew
theorem new_drewN {a w : World} (h : New a w) (n : Nat) : New a (w.drewN n) := ⟨h.os, h.tape, h.output, h.size, h.block⟩
theorem new_set {a w : World} (h : New a w) {p : Addr} (hp : a.heap.size ≤ p.block) (u : Value) : New a (w.setCell p u) := h.setCell hp u
theorem new_freeze {a w : World} (h : New a w) {p : Addr} (hp : a.heap.size ≤ p.block) (n : Nat) : New a (w.freeze p n) := by
  refine h.trans ⟨?_, ?_, ?_, ?_, ?_⟩
  all_goals unfold World.freeze
  · split <;> rfl
  · split <;> rfl
  · split <;> rfl
  · split <;> simp
  · intro k hk
    split
    · rfl
    · simp only [Array.getElem?_modify]
      rw [if_neg (by omega)]
theorem new_trans {a b c : World} (h : New a b) (k : New b c) : New a c := h.trans (k.mono h.size)
theorem tmod_emod (n m : Int) (hm : 0 < m) : n % m = if n.tmod m < 0 then n.tmod m + m else n.tmod m := by
  rw [Int.tmod_eq_emod]
  have h1 := Int.emod_nonneg n (by omega : m ≠ 0)
  have h2 := Int.emod_lt_of_pos n hm
  split
  · simp; omega
  · rw [if_pos (by omega)]; omega
def Blk (w : World) (g : Nat) (t : TypeId) (cs : Array Value) : Prop := w.heap[g]? = some (.cells cs t (0, 0))
section
variable {w w' : World} {g : Nat} {t : TypeId} {cs : Array Value}
theorem Blk.lt (h : Blk w g t cs) : g < w.heap.size := by
  rcases Nat.lt_or_ge g w.heap.size with hlt | hge
  · exact hlt
  · unfold Blk at h; rw [Array.getElem?_eq_none hge] at h; cases h
theorem Blk.cell (h : Blk w g t cs) (i : Nat) : w.cell? ⟨g, i, none⟩ = cs[i]? := cell_of_row w g i cs t (0, 0) h
theorem Blk.free (h : Blk w g t cs) (i : Nat) : w.frozen? ⟨g, i, none⟩ = false := by
  unfold Blk at h
  simp [World.frozen?, h]
theorem Blk.new_ (w : World) (t : TypeId) (cs : Array Value) : Blk (w.alloc (.cells cs t)) w.heap.size t cs := heap_alloc_new w _
theorem Blk.new1 (w : World) (o : Obj) (t : TypeId) (cs : Array Value) : Blk ((w.alloc o).alloc (.cells cs t)) (w.heap.size + 1) t cs := by
  have := heap_alloc_new (w.alloc o) (.cells cs t); rwa [World.size_alloc] at this
theorem Blk.new2 (w : World) (o o' : Obj) (t : TypeId) (cs : Array Value) : Blk (((w.alloc o).alloc o').alloc (.cells cs t)) (w.heap.size + 1 + 1) t cs := by
  have := heap_alloc_new ((w.alloc o).alloc o') (.cells cs t); rwa [World.size_alloc, World.size_alloc] at this
theorem Blk.new3 (w : World) (o o' o'' : Obj) (t : TypeId) (cs : Array Value) : Blk ((((w.alloc o).alloc o').alloc o'').alloc (.cells cs t)) (w.heap.size + 1 + 1 + 1) t cs := by
  have := heap_alloc_new (((w.alloc o).alloc o').alloc o'') (.cells cs t); rwa [World.size_alloc, World.size_alloc, World.size_alloc] at this
theorem Blk.up (h : Blk w g t cs) (hw : New w w') : Blk w' g t cs := (hw.block g h.lt).trans h
theorem Blk.al (h : Blk w g t cs) (o : Obj) : Blk (w.alloc o) g t cs := h.up (new_alloc (new_refl w) o)
theorem Blk.far (h : Blk w g t cs) {p : Addr} (hp : g ≠ p.block) (u : Value) : Blk (w.setCell p u) g t cs := (Below.heap_setCell w p u g hp).trans h
theorem Blk.set_ (h : Blk w g t cs) (i : Nat) (u : Value) : Blk (w.setCell ⟨g, i, none⟩ u) g t (cs.setIfInBounds i u) := by
  unfold Blk at h ⊢
  simp [World.setCell, Array.getElem?_modify, h]
end
theorem Blk.set4 {w : World} {g : Nat} {t : TypeId} {a b c d : Value} (h : Blk w g t #[a, b, c, d]) (x0 x1 x2 x3 : Value) :
    Blk ((((w.setCell ⟨g, 0, none⟩ x0).setCell ⟨g, 1, none⟩ x1).setCell ⟨g, 2, none⟩ x2).setCell ⟨g, 3, none⟩ x3) g t #[x0, x1, x2, x3] := by
  have := (((h.set_ 0 x0).set_ 1 x1).set_ 2 x2).set_ 3 x3
  simpa using this
theorem Blk.far4 {w : World} {g g' : Nat} {t : TypeId} {cs : Array Value} (h : Blk w g t cs) (hne : g ≠ g') (x0 x1 x2 x3 : Value) :
    Blk ((((w.setCell ⟨g', 0, none⟩ x0).setCell ⟨g', 1, none⟩ x1).setCell ⟨g', 2, none⟩ x2).setCell ⟨g', 3, none⟩ x3) g t cs :=
  (((h.far hne x0).far hne x1).far hne x2).far hne x3
theorem new_set4 {W w : World} (h : New W w) {g : Nat} (hg : W.heap.size ≤ g) (x0 x1 x2 x3 : Value) :
    New W ((((w.setCell ⟨g, 0, none⟩ x0).setCell ⟨g, 1, none⟩ x1).setCell ⟨g, 2, none⟩ x2).setCell ⟨g, 3, none⟩ x3) :=
  new_set (p := ⟨g, 3, none⟩) (new_set (p := ⟨g, 2, none⟩) (new_set (p := ⟨g, 1, none⟩) (new_set (p := ⟨g, 0, none⟩) h hg x0) hg x1) hg x2) hg x3
@[reducible] def u (n : Nat) : Value := .agg #[.int .u64 (lim n 0), .int .u64 (lim n 1), .int .u64 (lim n 2), .int .u64 (lim n 3)]
theorem u_mod (n : Nat) : u (n % M256) = u n := by
  have h0 : lim (n % M256) 0 = lim n 0 := by unfold M256; simp only [lim0]; omega
  have h1 : lim (n % M256) 1 = lim n 1 := by unfold M256; simp only [lim1]; omega
  have h2 : lim (n % M256) 2 = lim n 2 := by unfold M256; simp only [lim2]; omega
  have h3 : lim (n % M256) 3 = lim n 3 := by unfold M256; simp only [lim3]; omega
  rw [u, u, h0, h1, h2, h3]
theorem mod_lt (n : Nat) : n % M256 < M256 := Nat.mod_lt _ (by decide)
theorem u_small (n : Nat) (h : n < 18446744073709551616) : u n = .agg #[.int .u64 (n : Int), .int .u64 0, .int .u64 0, .int .u64 0] := by
  have h0 : lim n 0 = n := by simp only [lim0]; omega
  have h1 : lim n 1 = 0 := by simp only [lim1]; omega
  have h2 : lim n 2 = 0 := by simp only [lim2]; omega
  have h3 : lim n 3 = 0 := by simp only [lim3]; omega
  rw [u, h0, h1, h2, h3]
theorem u_zero : u 0 = .agg #[.int .u64 0, .int .u64 0, .int .u64 0, .int .u64 0] := u_small 0 (by decide)
theorem u_one : u 1 = .agg #[.int .u64 1, .int .u64 0, .int .u64 0, .int .u64 0] := u_small 1 (by decide)
@[reducible] def uc (n : Nat) : Array Value := #[.int .u64 (lim n 0), .int .u64 (lim n 1), .int .u64 (lim n 2), .int .u64 (lim n 3)]
@[reducible] def z4 : Array Value := #[.int .u64 0, .int .u64 0, .int .u64 0, .int .u64 0]
def mk4 (x0 x1 x2 x3 : Int) : Nat := (x0 + 18446744073709551616 * x1 + 340282366920938463463374607431768211456 * x2 + 6277101735386680763835789423207666416102355444464034512896 * x3).toNat
end Go.Proofs.YtcfefmbbbfdppaaGreatDoor
