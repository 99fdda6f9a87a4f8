/- More of what a law's row opens: slices of bytes; arrays of words. No conditions. -/
import Derived.Test.YtokijcdanegooaaDoorRow
import Derived.Test.YtokijcdanegooaaDoorRowH
import Derived.Test.YtokijcdanegooaaDoorDConv
import Derived.Lib.LaidTab
import Derived.Deep.Slices
namespace Go.Proofs.YtokijcdanegooaaDoor
open Go.ChangeShapes Go.WideShapes Go.RowKit Go.Joins Go.Deep Go.Lib
set_option linter.unusedVariables false
set_option maxRecDepth 100000

section
variable {H : Type} {enc : TypeId × Value → H} {P : Program}
/-- the cells of an array of ints -/
theorem ints_of_trod {w : World} {base : Nat} {sp : Nat → Bool} {held : Bool} {fuel : Nat} {t e : TypeId} {n : Nat} {k : IntKind} {cs : List Value} {y : DataW H × List MemPlace}
    (ht : P.underlying t = some (.array n e)) (he : P.underlying e = some (.int k)) (hce : P.cellsOf e = 1) (hct : P.cellsOf t = n)
    (h : DataW.trod enc P w base sp held fuel t cs = some y) : cs.length = n ∧ ∀ i, i < n → ∃ z, cs[i]? = some (.int k z) ∧ (Lit.int k z).wf = true := by
  cases fuel with
  | zero => simp [DataW.trod] at h
  | succ fuel =>
    simp only [DataW.trod, ht, hce, hct, Nat.mul_one] at h
    split at h
    · rename_i hl
      obtain ⟨xs, hm, hx⟩ := Option.map_eq_some_iff.1 h
      refine ⟨hl, fun i hi => ?_⟩
      obtain ⟨b, hb, hf⟩ := mapM_at hm i i (by simp [hi])
      obtain ⟨z, hc, _, wz⟩ := DataW.trod_int he hf
      refine ⟨z, ?_, wz⟩
      have := congrArg (·[0]?) hc
      simpa [List.getElem?_take, List.getElem?_drop] using this
    · cases h
end

section
variable {H : Type} {enc : TypeId × Value → H}
/-- an array of 25 words -/
theorem open_lanes {w : World} {base : Nat} {spare : Nat → Bool} {held : Bool} {r : Reach} {b0 : Nat} {v : Value} {d : DataW H} {p : List MemPlace} (hv : Value.okWide Tryd.prog w r b0 31 v) (h : DataW.Trod enc Tryd.prog w base spare held 31 v d p) :
    ∃ f : Nat → BitVec 64, v = .agg ((List.range 25).map fun j => Value.int .u64 ((f j).toNat : Int)).toArray := by
  simp only [Value.okWide, Tryd.underlying31] at hv
  obtain ⟨cs, rfl, hsz, _⟩ := hv
  obtain ⟨fuel, hf⟩ := h
  obtain ⟨hl, hx⟩ := ints_of_trod Tryd.underlying31 Tryd.underlying22 (by kernel_rfl) (by kernel_rfl) hf
  have hel : ∀ i, ∃ x : BitVec 64, i < 25 → cs[i]? = some (.int .u64 (x.toNat : Int)) := fun i => by
    by_cases hi : i < 25
    · obtain ⟨z, hz, wz⟩ := hx i hi
      have h3 : (decide (IntKind.u64.min ≤ z) && decide (z ≤ IntKind.u64.max)) = true := wz
      rw [Bool.and_eq_true, decide_eq_true_iff, decide_eq_true_iff] at h3
      have e1 : IntKind.u64.min = 0 := by decide
      have e2 : IntKind.u64.max = 18446744073709551615 := by decide
      rw [e1, e2] at h3
      refine ⟨BitVec.ofNat 64 z.toNat, fun _ => ?_⟩
      rw [BitVec.toNat_ofNat, Nat.mod_eq_of_lt (by omega), Int.toNat_of_nonneg h3.1]
      simpa [Value.cells] using hz
    · exact ⟨0, fun h => absurd h hi⟩
  refine ⟨fun i => Classical.choose (hel i), ?_⟩
  congr 1
  apply Array.ext_getElem?
  intro i
  have hl' : cs.size = 25 := by simpa [Value.cells] using hl
  by_cases hi : i < 25
  · rw [Classical.choose_spec (hel i) hi]
    simp [hi]
  · rw [Array.getElem?_eq_none (by omega), Array.getElem?_eq_none (by simp; omega)]
theorem open_bytes {w : World} {base : Nat} {spare : Nat → Bool} {held : Bool} {r : Reach} {b0 : Nat} {v : Value} {d : DataW H} {p : List MemPlace} (hv : Value.okWide Tryd.prog w r b0 35 v) (h : DataW.Trod enc Tryd.prog w base spare held 35 v d p) :
    ∃ l : List UInt8, Rep (bare (allhw w)) w (.slice .frozen l.length (bs l)) v := by
  simp only [Value.okWide, Tryd.underlying35, Cell.okWide, Cell.ok] at hv
  obtain ⟨fuel, hf⟩ := h
  cases v <;> first | exact False.elim hv | skip
  rename_i ao len cap
  cases ao with
  | none =>
    cases len <;> cases cap <;> first | exact False.elim hv | skip
    exact ⟨[], .nil _⟩
  | some ad =>
    obtain ⟨hle, hmxl, _, hsp, row, cells, hsh, hli⟩ := hv
    rcases open_slice Tryd.underlying35 hf with ⟨h0, _⟩ | ⟨a', len', cap', m, n, Df, Pl, hcs, hb, hl, hmx, hm, _, hx⟩
    · simp [Value.cells] at h0
    · simp only [Value.cells, List.cons.injEq, Value.slice.injEq, Option.some.injEq, and_true] at hcs
      obtain ⟨rfl, rfl, rfl⟩ := hcs
      obtain ⟨b, o, sp⟩ := ad
      simp only at hsp
      subst hsp
      have hC : (Tryd.prog).cellsOf 5 = 1 := by kernel_rfl
      rw [hC] at hx
      obtain ⟨vs, fr, hblk, hcells⟩ : ∃ vs fr, w.heap[b]? = some (.cells vs row fr) ∧ vs.size = cells := by
        unfold World.shape? at hsh
        split at hsh
        · rename_i c el fr hh
          simp only [Option.some.injEq, Prod.mk.injEq] at hsh
          obtain ⟨rfl, rfl⟩ := hsh
          exact ⟨c, fr, hh, rfl⟩
        · cases hsh
      have hmem : b < w.heap.size := (Array.getElem?_eq_some_iff.1 hblk).1
      have hall : allhw w b = vs.size := by unfold allhw; rw [hblk]
      have ho : o ≤ vs.size := by
        have : o ≤ _ := liesAt_le hli
        have h2 := Nat.div_mul_le_self cells ((Tryd.prog).cellsOf row)
        omega
      have hcl : ∀ i, w.cell? ⟨b, i, none⟩ = vs[i]? := fun i => cell_of_row w _ _ vs row fr hblk
      have hlm : len ≤ m := by rw [hm]; split <;> omega
      have hel : ∀ i, ∃ x : UInt8, i < len → vs[o + i]? = some (.int .u8 (x.toNat : Int)) := by
        intro i
        by_cases hi : i < len
        · obtain ⟨cs', h1, h2⟩ := hx i (by omega)
          obtain ⟨_, hlen, hat⟩ := World.cells?_some h1
          match cs', hlen with
          | [c0], _ =>
            obtain ⟨k, e0, _, wk⟩ := DataW.trod_int Tryd.underlying5 h2
            simp at e0
            subst e0
            have hk : 0 ≤ k ∧ k < 256 := by
              have h3 : (decide (IntKind.u8.min ≤ k) && decide (k ≤ IntKind.u8.max)) = true := wk
              rw [Bool.and_eq_true, decide_eq_true_iff, decide_eq_true_iff] at h3
              have e1 : IntKind.u8.min = 0 := by decide
              have e2 : IntKind.u8.max = 255 := by decide
              rw [e1, e2] at h3
              omega
            refine ⟨UInt8.ofNat k.toNat, fun _ => ?_⟩
            have := hat 0 (by decide)
            rw [show ((⟨_, o, none⟩ : Addr).add (i * 1)).add 0 = ⟨_, o + i, none⟩ from by rw [add_off, add_off, Nat.mul_one, Nat.add_zero], hcl] at this
            rw [this, UInt8.toNat_ofNat']
            simp
            omega
        · exact ⟨0, fun h => absurd h hi⟩
      let R : Nat → UInt8 := fun i => Classical.choose (hel i)
      have hR : ∀ i, i < len → vs[o + i]? = some (.int .u8 ((R i).toNat : Int)) := fun i => Classical.choose_spec (hel i)
      refine ⟨(List.range len).map R, ?_⟩
      · have hlen : ((List.range len).map R).length = len := by simp
        rw [hlen]
        have hget : ∀ i, i < len → (bs ((List.range len).map R))[i]? = some (.int .u8 ((R i).toNat : Int)) := fun i hi => bs_get _ i _ (by rw [List.getElem?_map, List.getElem?_range hi]; rfl)
        have hbl : (bs ((List.range len).map R)).length = len := by rw [bs_len, hlen]
        have hsz : o + len ≤ vs.size := by
          rcases Nat.eq_zero_or_pos len with h0 | h0
          · subst h0; omega
          · have := hR (len - 1) (by omega)
            have := (Array.getElem?_eq_some_iff.1 this).1
            omega
        refine .slice .frozen len _ b o cap (vs.extract o (o + len)) (by rw [hbl]; simp; omega) (fun d hd => ⟨?_, D.cls_mem (bs_cl _) d hd⟩) (fun i d v hd hv => ?_) (by show _ ≤ allhw w b; rw [hbl, hall]; exact hsz) (fun i hi => ?_) hmem hle trivial
        · unfold bs at hd
          obtain ⟨x, _, rfl⟩ := List.mem_map.1 hd
          rfl
        · have hi : i < len := by rw [← hbl]; exact (List.getElem?_eq_some_iff.1 hd).1
          rw [hget i hi] at hd
          rw [Array.getElem?_extract, if_pos (by omega), hR i hi] at hv
          cases hd; cases hv
          exact .int _ _
        · rw [hbl] at hi
          rw [hcl, Array.getElem?_extract, if_pos (by omega)]
end
end Go.Proofs.YtokijcdanegooaaDoor
