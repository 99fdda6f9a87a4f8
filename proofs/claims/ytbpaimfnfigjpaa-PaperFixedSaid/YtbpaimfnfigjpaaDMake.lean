/- make of a slice of bytes: noughts. Of any program. No conditions. -/
import Derived.Test.YtbpaimfnfigjpaaDConv
import Derived.Laws.MakeOwn
namespace Go.Proofs.Ytbpaimfnfigjpaa
open Go.RowKit Go.Lib
set_option linter.unusedVariables false

section
variable {P : Program} {o : Oper} {ρ : Slots} {m : Mem}
theorem r_makeB {T E : TypeId} {by_ : Nat} [ha : HasSl P T E] [ht : HasTy P E ⟨false, 1, [.int .u8 0]⟩] [hb : HasBy P E by_] {x y : Operand} {n : Nat} (ho : o.op = .makeSlice T x y) (hx : oev ρ x = some (.int .i64 n)) (hy : oev ρ y = some (.int .i64 n)) (hn : n ≤ 16777216) (hby : Nat.ble by_ 1048576 = true) : OpSound P o (Eff.val (.slice .frozen n (bs (List.replicate n 0)))) ρ m := by
  refine sound_mk rfl fun B G a w m' hs h => ?_
  have hp := h x (by simp [ho, Op.operands]) _ hx
  have hq := h y (by simp [ho, Op.operands]) _ hy
  generalize hev : a.eval x = vx at hp
  generalize hev2 : a.eval y = vy at hq
  cases hp; cases hq
  obtain ⟨z, hz, hzr, hz1⟩ := ht.zero_
  obtain ⟨i, hi, hiz⟩ := Option.bind_eq_some_iff.1 hz
  obtain ⟨j, hj, hjs⟩ := Option.map_eq_some_iff.1 ht.size
  rw [hi] at hj; cases hj
  obtain ⟨j, hj, hjb⟩ := Option.map_eq_some_iff.1 hb.bytes
  rw [hi] at hj; cases hj
  have hzc := hzr G w
  have hsz : z.cells.size = 1 := hzc.1
  have hz0 : z.cells[0]? = some (.int .u8 0) := by
    have e : z.cells[0]? = some (z.cells[0]'(by omega)) := Array.getElem?_eq_getElem _
    have := hzc.2 0 _ _ rfl e
    rw [e]
    generalize z.cells[0]'(by omega) = u at this
    cases this; rfl
  have hby' := Nat.le_of_ble_eq_true hby
  have hrun := run_make (P := P) w T E i z ha.sl hi hiz .i64 .i64 (n : Int) (n : Int) (by omega) (Int.le_refl _) (by
    rw [hjb]
    have : by_ * n ≤ 1048576 * 16777216 := Nat.mul_le_mul hby' hn
    have e : ((by_ : Int) * (n : Int)) = ((by_ * n : Nat) : Int) := by push_cast; rfl
    rw [e]; omega) (by omega)
  rw [hjs] at hrun
  simp only [Int.toNat_natCast, Nat.mul_one] at hrun
  have hnew : New w (w.alloc (.cells (madeCells z.cells n) E)) := new_alloc (new_refl w) _
  refine ⟨.slice (some ⟨w.heap.size, 0, none⟩) n n, _, fun b => if b = w.heap.size then n else G.hw b, by simp only [execOp, ho, hev, hev2, Sem.run_bind, hrun, Result.andThen_ok, Sem.run_pure], hnew, fun b hb => ?_, fun b hb => by simp [Nat.ne_of_lt hb], ?_⟩
  · by_cases e : b = w.heap.size
    · subst e
      simp only [if_pos]
      exact ⟨madeCells z.cells n, E, (0, 0), heap_alloc_new w _, by rw [size_madeCells]; exact Nat.le_refl _⟩
    · simp only [if_neg e] at hb ⊢
      obtain ⟨vs, T', fr, h1, h2⟩ := hs.data b hb
      exact ⟨vs, T', fr, (hnew.block b (Array.getElem?_eq_some_iff.1 h1).1).trans h1, h2⟩
  · have hbl : (bs (List.replicate n 0)).length = n := by rw [bs_len, List.length_replicate]
    have hcell : ∀ k, k < n → (madeCells z.cells n)[k]? = some (.int .u8 0) := fun k hk => by
      unfold madeCells
      rw [Array.getElem?_map, Array.getElem?_range, if_pos hk, Option.map_some, hsz, Nat.mod_one, getElem!_pos z.cells 0 (by omega)]
      rw [← hz0]; exact (Array.getElem?_eq_getElem _).symm
    refine .slice .frozen n _ w.heap.size 0 n (madeCells z.cells n) (by rw [hbl, size_madeCells]) (fun d hd => ?_) (fun k d v hd hv => ?_) (by rw [hbl]; show 0 + n ≤ (if w.heap.size = w.heap.size then n else _); rw [if_pos rfl]; omega) (fun k hk => ?_) (by rw [World.size_alloc]; omega) (Nat.le_refl _) trivial
    · unfold bs at hd
      obtain ⟨c, _, rfl⟩ := List.mem_map.1 hd
      exact ⟨rfl, rfl⟩
    · have hk : k < n := by rw [← hbl]; exact (List.getElem?_eq_some_iff.1 hd).1
      rw [hcell k hk] at hv
      have := bs_get (List.replicate n 0) k 0 (by rw [List.getElem?_replicate, if_pos hk])
      rw [this] at hd
      cases hd; cases hv
      exact .int _ _
    · rw [hbl] at hk
      rw [cell_of_row _ _ _ (madeCells z.cells n) E (0, 0) (heap_alloc_new w _), Nat.zero_add]
end
section
variable {P : Program} {ρ : Slots} {m : Mem} {nx : Nat} {ops : Array Oper} {os : List Oper} {K : List Eff → Slots → Mem → Nat → Prop}
theorem k_makeB {t : Tmp} {T E : TypeId} {by_ : Nat} [HasSl P T E] [HasTy P E ⟨false, 1, [.int .u8 0]⟩] [HasBy P E by_] {x y : Operand} {n : Nat} {V : TypeId} {pos : String} {af : Array Edge} {gd : Option (Nat × Bool)} (hg : gok ops ρ ⟨some t, .makeSlice T x y, V, pos, af, gd⟩ = some true) (hx : oev ρ x = some (.int .i64 n)) (hy : oev ρ y = some (.int .i64 n)) (hn : n ≤ 16777216) (hby : Nat.ble by_ 1048576 = true) (hh : R P ops os (fun Es => K (Eff.val (.slice .frozen n (bs (List.replicate n 0))) :: Es)) ((t, .slice .frozen n (bs (List.replicate n 0))) :: ρ) m nx) :
    R P ops (⟨some t, .makeSlice T x y, V, pos, af, gd⟩ :: os) K ρ m nx := R_cons hg (r_makeB rfl hx hy hn hby) rfl hh
end
end Go.Proofs.Ytbpaimfnfigjpaa
