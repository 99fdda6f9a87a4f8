/- Small words for the walks of this seat: hiding facts, worlds that only grow, results. No conditions. -/
import Derived.Test.YtdmlmcoeklgapaaDoorProg
import Derived.Test.YtdmlmcoeklgapaaDoorMath
import Derived.WalkKit
import Derived.WalkSpells
import Derived.WalkLawsBesides
import Derived.Deep.QuietTactic
import Derived.BigQuiet
import Derived.Deep.RegionHeld3
import Derived.Deep.DeepCutAuto
import Derived.IntWalk
import Derived.OpenShut
namespace Go.Proofs.YtdmlmcoeklgapaaDoor
open Go.RowKit
set_option linter.unusedVariables false

theorem hide {p : Prop} (h : p) : Hid p := h
theorem unhide {p : Prop} (h : Hid p) : p := h

theorem ret_int {k : IntKind} {a b : Int} (h : a = b) : Ending.returned (.int k a) = .returned (.int k b) := by rw [h]
theorem ret_bool {a b : Bool} (h : a = b) : Ending.returned (.bool a) = .returned (.bool b) := by rw [h]
theorem ret_val {a b : Value} (h : a = b) : Ending.returned a = .returned b := by rw [h]

/-- w' is w with new blocks alone -/
abbrev New (w w' : World) : Prop := Below w.heap.size w w'

theorem new_refl (w : World) : New w w := Below.refl _ _
theorem new_alloc {a w : World} (h : New a w) (o : Obj) : New a (w.alloc o) := h.alloc h.size o
theorem new_drew {a w : World} (h : New a w) : New a w.drew := h.drew
theorem new_drewN {a w : World} (h : New a w) (n : Nat) : New a (w.drewN n) := ⟨h.os, h.tape, h.output, h.size, h.block⟩
theorem new_set {a w : World} (h : New a w) {p : Addr} (hp : a.heap.size ≤ p.block) (u : Value) : New a (w.setCell p u) := h.setCell hp u
theorem new_freeze {a w : World} (h : New a w) {p : Addr} (hp : a.heap.size ≤ p.block) (n : Nat) : New a (w.freeze p n) := by
  refine h.trans ⟨?_, ?_, ?_, ?_, ?_⟩
  all_goals unfold World.freeze
  · split <;> rfl
  · split <;> rfl
  · split <;> rfl
  · split <;> simp
  · intro k hk
    split
    · rfl
    · simp only [Array.getElem?_modify]
      rw [if_neg (by omega)]
/-- a callee's growth behind the caller's -/
theorem new_trans {a b c : World} (h : New a b) (k : New b c) : New a c := h.trans (k.mono h.size)

theorem bcell {W w1 : World} (hb : New W w1) : (∀ b o, b < W.heap.size → w1.cell? ⟨b, o, none⟩ = W.cell? ⟨b, o, none⟩) ∧ (∀ b o, b < W.heap.size → w1.frozen? ⟨b, o, none⟩ = W.frozen? ⟨b, o, none⟩) :=
  ⟨fun b o h => hb.cell (p := ⟨b, o, none⟩) h, fun b o h => hb.frozen (p := ⟨b, o, none⟩) h⟩

theorem tmod_emod (n m : Int) (hm : 0 < m) : n % m = if n.tmod m < 0 then n.tmod m + m else n.tmod m := by
  rw [Int.tmod_eq_emod]
  have h1 := Int.emod_nonneg n (by omega : m ≠ 0)
  have h2 := Int.emod_lt_of_pos n hm
  split
  · simp; omega
  · rw [if_pos (by omega)]; omega

/-- in w block g is just these cells, of element type t, none frozen -/
def Blk (w : World) (g : Nat) (t : TypeId) (cs : Array Value) : Prop := w.heap[g]? = some (.cells cs t (0, 0))

section
variable {w w' : World} {g : Nat} {t : TypeId} {cs : Array Value}
theorem Blk.lt (h : Blk w g t cs) : g < w.heap.size := by
  rcases Nat.lt_or_ge g w.heap.size with hlt | hge
  · exact hlt
  · unfold Blk at h; rw [Array.getElem?_eq_none hge] at h; cases h
theorem Blk.cell (h : Blk w g t cs) (i : Nat) : w.cell? ⟨g, i, none⟩ = cs[i]? := cell_of_row w g i cs t (0, 0) h
theorem Blk.free (h : Blk w g t cs) (i : Nat) : w.frozen? ⟨g, i, none⟩ = false := by
  unfold Blk at h
  simp [World.frozen?, h]
theorem Blk.new_ (w : World) (t : TypeId) (cs : Array Value) : Blk (w.alloc (.cells cs t)) w.heap.size t cs := heap_alloc_new w _
theorem Blk.new1 (w : World) (o : Obj) (t : TypeId) (cs : Array Value) : Blk ((w.alloc o).alloc (.cells cs t)) (w.heap.size + 1) t cs := by
  have := heap_alloc_new (w.alloc o) (.cells cs t); rwa [World.size_alloc] at this
theorem Blk.new2 (w : World) (o o' : Obj) (t : TypeId) (cs : Array Value) : Blk (((w.alloc o).alloc o').alloc (.cells cs t)) (w.heap.size + 1 + 1) t cs := by
  have := heap_alloc_new ((w.alloc o).alloc o') (.cells cs t); rwa [World.size_alloc, World.size_alloc] at this
theorem Blk.new3 (w : World) (o o' o'' : Obj) (t : TypeId) (cs : Array Value) : Blk ((((w.alloc o).alloc o').alloc o'').alloc (.cells cs t)) (w.heap.size + 1 + 1 + 1) t cs := by
  have := heap_alloc_new (((w.alloc o).alloc o').alloc o'') (.cells cs t); rwa [World.size_alloc, World.size_alloc, World.size_alloc] at this
theorem Blk.new4 (w : World) (o o' o'' o3 : Obj) (t : TypeId) (cs : Array Value) : Blk (((((w.alloc o).alloc o').alloc o'').alloc o3).alloc (.cells cs t)) (w.heap.size + 1 + 1 + 1 + 1) t cs := by
  have := heap_alloc_new ((((w.alloc o).alloc o').alloc o'').alloc o3) (.cells cs t); rwa [World.size_alloc, World.size_alloc, World.size_alloc, World.size_alloc] at this
theorem Blk.up (h : Blk w g t cs) (hw : New w w') : Blk w' g t cs := (hw.block g h.lt).trans h
theorem Blk.al (h : Blk w g t cs) (o : Obj) : Blk (w.alloc o) g t cs := h.up (new_alloc (new_refl w) o)
theorem Blk.far (h : Blk w g t cs) {p : Addr} (hp : g ≠ p.block) (u : Value) : Blk (w.setCell p u) g t cs := (Below.heap_setCell w p u g hp).trans h
theorem Blk.set_ (h : Blk w g t cs) (i : Nat) (u : Value) : Blk (w.setCell ⟨g, i, none⟩ u) g t (cs.setIfInBounds i u) := by
  unfold Blk at h ⊢
  simp [World.setCell, Array.getElem?_modify, h]
end

/-- a variable of four cells written anew, cell by cell -/
theorem Blk.set4 {w : World} {g : Nat} {t : TypeId} {a b c d : Value} (h : Blk w g t #[a, b, c, d]) (x0 x1 x2 x3 : Value) :
    Blk ((((w.setCell ⟨g, 0, none⟩ x0).setCell ⟨g, 1, none⟩ x1).setCell ⟨g, 2, none⟩ x2).setCell ⟨g, 3, none⟩ x3) g t #[x0, x1, x2, x3] := by
  have := (((h.set_ 0 x0).set_ 1 x1).set_ 2 x2).set_ 3 x3
  simpa using this
theorem Blk.far4 {w : World} {g g' : Nat} {t : TypeId} {cs : Array Value} (h : Blk w g t cs) (hne : g ≠ g') (x0 x1 x2 x3 : Value) :
    Blk ((((w.setCell ⟨g', 0, none⟩ x0).setCell ⟨g', 1, none⟩ x1).setCell ⟨g', 2, none⟩ x2).setCell ⟨g', 3, none⟩ x3) g t cs :=
  (((h.far hne x0).far hne x1).far hne x2).far hne x3
theorem new_set4 {W w : World} (h : New W w) {g : Nat} (hg : W.heap.size ≤ g) (x0 x1 x2 x3 : Value) :
    New W ((((w.setCell ⟨g, 0, none⟩ x0).setCell ⟨g, 1, none⟩ x1).setCell ⟨g, 2, none⟩ x2).setCell ⟨g, 3, none⟩ x3) :=
  new_set (p := ⟨g, 3, none⟩) (new_set (p := ⟨g, 2, none⟩) (new_set (p := ⟨g, 1, none⟩) (new_set (p := ⟨g, 0, none⟩) h hg x0) hg x1) hg x2) hg x3

/-- three parameters in boxes of their own -/
theorem box3 (w : World) (c1 c2 c3 : Array Value) (t1 t2 t3 : TypeId) : ∃ (W : World) (g1 g2 g3 : Nat), W = ((w.alloc (.cells c1 t1)).alloc (.cells c2 t2)).alloc (.cells c3 t3) ∧ g1 = w.heap.size ∧ g2 = w.heap.size + 1 ∧ g3 = w.heap.size + 1 + 1 ∧
    New w W ∧ Blk W g1 t1 c1 ∧ Blk W g2 t2 c2 ∧ Blk W g3 t3 c3 :=
  ⟨_, _, _, _, rfl, rfl, rfl, rfl, new_alloc (new_alloc (new_alloc (new_refl _) _) _) _, ((Blk.new_ w t1 c1).al _).al _, (Blk.new1 w _ t2 c2).al _, Blk.new2 w _ _ t3 c3⟩
theorem box2 (w : World) (c1 c2 : Array Value) (t1 t2 : TypeId) : ∃ (W : World) (g1 g2 : Nat), W = (w.alloc (.cells c1 t1)).alloc (.cells c2 t2) ∧ g1 = w.heap.size ∧ g2 = w.heap.size + 1 ∧
    New w W ∧ Blk W g1 t1 c1 ∧ Blk W g2 t2 c2 :=
  ⟨_, _, _, rfl, rfl, rfl, new_alloc (new_alloc (new_refl _) _) _, (Blk.new_ w t1 c1).al _, Blk.new1 w _ t2 c2⟩
theorem box1 (w : World) (c1 : Array Value) (t1 : TypeId) : ∃ (W : World) (g1 : Nat), W = w.alloc (.cells c1 t1) ∧ g1 = w.heap.size ∧ New w W ∧ Blk W g1 t1 c1 :=
  ⟨_, _, rfl, rfl, new_alloc (new_refl _) _, Blk.new_ w t1 c1⟩

/-- a 256-bit number as a value: four limbs, the lowest one first -/
@[reducible] def u (n : Nat) : Value := .agg #[.int .u64 (lim n 0), .int .u64 (lim n 1), .int .u64 (lim n 2), .int .u64 (lim n 3)]

theorem u_mod (n : Nat) : u (n % M256) = u n := by
  have h0 : lim (n % M256) 0 = lim n 0 := by unfold M256; simp only [lim0]; omega
  have h1 : lim (n % M256) 1 = lim n 1 := by unfold M256; simp only [lim1]; omega
  have h2 : lim (n % M256) 2 = lim n 2 := by unfold M256; simp only [lim2]; omega
  have h3 : lim (n % M256) 3 = lim n 3 := by unfold M256; simp only [lim3]; omega
  rw [u, u, h0, h1, h2, h3]

theorem mod_lt (n : Nat) : n % M256 < M256 := Nat.mod_lt _ (by decide)

theorem u_small (n : Nat) (h : n < 18446744073709551616) : u n = .agg #[.int .u64 (n : Int), .int .u64 0, .int .u64 0, .int .u64 0] := by
  have h0 : lim n 0 = n := by simp only [lim0]; omega
  have h1 : lim n 1 = 0 := by simp only [lim1]; omega
  have h2 : lim n 2 = 0 := by simp only [lim2]; omega
  have h3 : lim n 3 = 0 := by simp only [lim3]; omega
  rw [u, h0, h1, h2, h3]

theorem u_zero : u 0 = .agg #[.int .u64 0, .int .u64 0, .int .u64 0, .int .u64 0] := u_small 0 (by decide)
theorem u_one : u 1 = .agg #[.int .u64 1, .int .u64 0, .int .u64 0, .int .u64 0] := u_small 1 (by decide)

@[reducible] def uc (n : Nat) : Array Value := #[.int .u64 (lim n 0), .int .u64 (lim n 1), .int .u64 (lim n 2), .int .u64 (lim n 3)]
@[reducible] def z4 : Array Value := #[.int .u64 0, .int .u64 0, .int .u64 0, .int .u64 0]

/-- the number of four limbs -/
def mk4 (x0 x1 x2 x3 : Int) : Nat := (x0 + 18446744073709551616 * x1 + 340282366920938463463374607431768211456 * x2 + 6277101735386680763835789423207666416102355444464034512896 * x3).toNat

theorem mk4_lims {x0 x1 x2 x3 : Int} (h0 : 0 ≤ x0 ∧ x0 < 18446744073709551616) (h1 : 0 ≤ x1 ∧ x1 < 18446744073709551616) (h2 : 0 ≤ x2 ∧ x2 < 18446744073709551616) (h3 : 0 ≤ x3 ∧ x3 < 18446744073709551616) :
    lim (mk4 x0 x1 x2 x3) 0 = x0 ∧ lim (mk4 x0 x1 x2 x3) 1 = x1 ∧ lim (mk4 x0 x1 x2 x3) 2 = x2 ∧ lim (mk4 x0 x1 x2 x3) 3 = x3 :=
  lim_of _ x0 x1 x2 x3 0 h0.1 h0.2 h1.1 h1.2 h2.1 h2.2 h3.1 h3.2 (by unfold mk4; omega)

theorem mk4_lt {x0 x1 x2 x3 : Int} (h0 : 0 ≤ x0 ∧ x0 < 18446744073709551616) (h1 : 0 ≤ x1 ∧ x1 < 18446744073709551616) (h2 : 0 ≤ x2 ∧ x2 < 18446744073709551616) (h3 : 0 ≤ x3 ∧ x3 < 18446744073709551616) :
    mk4 x0 x1 x2 x3 < M256 := by unfold mk4 M256; omega

theorem u_mk4 {x0 x1 x2 x3 : Int} (h0 : 0 ≤ x0 ∧ x0 < 18446744073709551616) (h1 : 0 ≤ x1 ∧ x1 < 18446744073709551616) (h2 : 0 ≤ x2 ∧ x2 < 18446744073709551616) (h3 : 0 ≤ x3 ∧ x3 < 18446744073709551616) :
    Value.agg #[.int .u64 x0, .int .u64 x1, .int .u64 x2, .int .u64 x3] = u (mk4 x0 x1 x2 x3) := by
  obtain ⟨e0, e1, e2, e3⟩ := mk4_lims h0 h1 h2 h3
  rw [u, e0, e1, e2, e3]

theorem wrapu_bd (x : Int) : 0 ≤ IntKind.u64.wrap x ∧ IntKind.u64.wrap x < 18446744073709551616 := by rw [IntKind.wrap_u64]; omega
theorem bitsu_bd (op : BinOp) (x y : Int) : 0 ≤ bits op .u64 x y ∧ bits op .u64 x y < 18446744073709551616 := by
  have := bounds_u64 (wf_bits op .u64 x y); omega

end Go.Proofs.YtdmlmcoeklgapaaDoor
