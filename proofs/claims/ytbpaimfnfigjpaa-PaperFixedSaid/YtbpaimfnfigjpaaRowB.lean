/- More of what a law's row opens: slices of bytes; arrays of words. No conditions. -/
import Derived.Test.YtbpaimfnfigjpaaRow
import Derived.Test.YtbpaimfnfigjpaaRowH
import Derived.Test.YtbpaimfnfigjpaaDConv
import Derived.Lib.LaidTab
import Derived.Deep.Slices
namespace Go.Proofs.Ytbpaimfnfigjpaa
open Go.ChangeShapes Go.WideShapes Go.RowKit Go.Joins Go.Deep Go.Lib
set_option linter.unusedVariables false
set_option maxRecDepth 100000

section
variable {H : Type} {enc : TypeId × Value → H} {P : Program}
/-- the cells of an array of ints -/
theorem ints_of_trod {w : World} {base : Nat} {sp : Nat → Bool} {held : Bool} {fuel : Nat} {t e : TypeId} {n : Nat} {k : IntKind} {cs : List Value} {y : DataW H × List MemPlace}
    (ht : P.underlying t = some (.array n e)) (he : P.underlying e = some (.int k)) (hce : P.cellsOf e = 1) (hct : P.cellsOf t = n)
    (h : DataW.trod enc P w base sp held fuel t cs = some y) : cs.length = n ∧ ∀ i, i < n → ∃ z, cs[i]? = some (.int k z) ∧ (Lit.int k z).wf = true := by
  cases fuel with
  | zero => simp [DataW.trod] at h
  | succ fuel =>
    simp only [DataW.trod, ht, hce, hct, Nat.mul_one] at h
    split at h
    · rename_i hl
      obtain ⟨xs, hm, hx⟩ := Option.map_eq_some_iff.1 h
      refine ⟨hl, fun i hi => ?_⟩
      obtain ⟨b, hb, hf⟩ := mapM_at hm i i (by simp [hi])
      obtain ⟨z, hc, _, wz⟩ := DataW.trod_int he hf
      refine ⟨z, ?_, wz⟩
      have := congrArg (·[0]?) hc
      simpa [List.getElem?_take, List.getElem?_drop] using this
    · cases h
end

section
variable {H : Type} {enc : TypeId × Value → H}
theorem open_bytes {w : World} {base : Nat} {spare : Nat → Bool} {held : Bool} {r : Reach} {b0 : Nat} {v : Value} {d : DataW H} {p : List MemPlace} (hv : Value.okWide Try.prog w r b0 27 v) (h : DataW.Trod enc Try.prog w base spare held 27 v d p) :
    ∃ l : List UInt8, Rep (bare (allhw w)) w (.slice .frozen l.length (bs l)) v := by
  simp only [Value.okWide, Try.underlying27, Cell.okWide, Cell.ok] at hv
  obtain ⟨fuel, hf⟩ := h
  cases v <;> first | exact False.elim hv | skip
  rename_i ao len cap
  cases ao with
  | none =>
    cases len <;> cases cap <;> first | exact False.elim hv | skip
    exact ⟨[], .nil _⟩
  | some ad =>
    obtain ⟨hle, hmxl, _, hsp, row, cells, hsh, hli⟩ := hv
    rcases open_slice Try.underlying27 hf with ⟨h0, _⟩ | ⟨a', len', cap', m, n, Df, Pl, hcs, hb, hl, hmx, hm, _, hx⟩
    · simp [Value.cells] at h0
    · simp only [Value.cells, List.cons.injEq, Value.slice.injEq, Option.some.injEq, and_true] at hcs
      obtain ⟨rfl, rfl, rfl⟩ := hcs
      obtain ⟨b, o, sp⟩ := ad
      simp only at hsp
      subst hsp
      have hC : (Try.prog).cellsOf 5 = 1 := by kernel_rfl
      rw [hC] at hx
      obtain ⟨vs, fr, hblk, hcells⟩ : ∃ vs fr, w.heap[b]? = some (.cells vs row fr) ∧ vs.size = cells := by
        unfold World.shape? at hsh
        split at hsh
        · rename_i c el fr hh
          simp only [Option.some.injEq, Prod.mk.injEq] at hsh
          obtain ⟨rfl, rfl⟩ := hsh
          exact ⟨c, fr, hh, rfl⟩
        · cases hsh
      have hmem : b < w.heap.size := (Array.getElem?_eq_some_iff.1 hblk).1
      have hall : allhw w b = vs.size := by unfold allhw; rw [hblk]
      have ho : o ≤ vs.size := by
        have : o ≤ _ := liesAt_le hli
        have h2 := Nat.div_mul_le_self cells ((Try.prog).cellsOf row)
        omega
      have hcl : ∀ i, w.cell? ⟨b, i, none⟩ = vs[i]? := fun i => cell_of_row w _ _ vs row fr hblk
      have hlm : len ≤ m := by rw [hm]; split <;> omega
      have hel : ∀ i, ∃ x : UInt8, i < len → vs[o + i]? = some (.int .u8 (x.toNat : Int)) := by
        intro i
        by_cases hi : i < len
        · obtain ⟨cs', h1, h2⟩ := hx i (by omega)
          obtain ⟨_, hlen, hat⟩ := World.cells?_some h1
          match cs', hlen with
          | [c0], _ =>
            obtain ⟨k, e0, _, wk⟩ := DataW.trod_int Try.underlying5 h2
            simp at e0
            subst e0
            have hk : 0 ≤ k ∧ k < 256 := by
              have h3 : (decide (IntKind.u8.min ≤ k) && decide (k ≤ IntKind.u8.max)) = true := wk
              rw [Bool.and_eq_true, decide_eq_true_iff, decide_eq_true_iff] at h3
              have e1 : IntKind.u8.min = 0 := by decide
              have e2 : IntKind.u8.max = 255 := by decide
              rw [e1, e2] at h3
              omega
            refine ⟨UInt8.ofNat k.toNat, fun _ => ?_⟩
            have := hat 0 (by decide)
            rw [show ((⟨_, o, none⟩ : Addr).add (i * 1)).add 0 = ⟨_, o + i, none⟩ from by rw [add_off, add_off, Nat.mul_one, Nat.add_zero], hcl] at this
            rw [this, UInt8.toNat_ofNat']
            simp
            omega
        · exact ⟨0, fun h => absurd h hi⟩
      let R : Nat → UInt8 := fun i => Classical.choose (hel i)
      have hR : ∀ i, i < len → vs[o + i]? = some (.int .u8 ((R i).toNat : Int)) := fun i => Classical.choose_spec (hel i)
      refine ⟨(List.range len).map R, ?_⟩
      · have hlen : ((List.range len).map R).length = len := by simp
        rw [hlen]
        have hget : ∀ i, i < len → (bs ((List.range len).map R))[i]? = some (.int .u8 ((R i).toNat : Int)) := fun i hi => bs_get _ i _ (by rw [List.getElem?_map, List.getElem?_range hi]; rfl)
        have hbl : (bs ((List.range len).map R)).length = len := by rw [bs_len, hlen]
        have hsz : o + len ≤ vs.size := by
          rcases Nat.eq_zero_or_pos len with h0 | h0
          · subst h0; omega
          · have := hR (len - 1) (by omega)
            have := (Array.getElem?_eq_some_iff.1 this).1
            omega
        refine .slice .frozen len _ b o cap (vs.extract o (o + len)) (by rw [hbl]; simp; omega) (fun d hd => ⟨?_, D.cls_mem (bs_cl _) d hd⟩) (fun i d v hd hv => ?_) (by show _ ≤ allhw w b; rw [hbl, hall]; exact hsz) (fun i hi => ?_) hmem hle trivial
        · unfold bs at hd
          obtain ⟨x, _, rfl⟩ := List.mem_map.1 hd
          rfl
        · have hi : i < len := by rw [← hbl]; exact (List.getElem?_eq_some_iff.1 hd).1
          rw [hget i hi] at hd
          rw [Array.getElem?_extract, if_pos (by omega), hR i hi] at hv
          cases hd; cases hv
          exact .int _ _
        · rw [hbl] at hi
          rw [hcl, Array.getElem?_extract, if_pos (by omega)]
/-- bytes that a row gives are no more than a process can hold -/
theorem bytes_short {w : World} {base : Nat} {spare : Nat → Bool} {held : Bool} {G : Gh} {v : Value} {d : DataW H} {p : List MemPlace} {n : Nat} {z : List D} (h : DataW.Trod enc Try.prog w base spare held 27 v d p) (hr : Rep G w (.slice .frozen n z) v) (hw : ∀ x ∈ d.weights Try.prog 27, x ≤ reachBytes) : n ≤ 140737488351232 := by
  obtain ⟨fuel, hf⟩ := h
  cases hr with
  | nil tk => exact Nat.zero_le _
  | slice tk n cs b o cap vs hl' h1 hh hhw hc hb' hn ht' =>
    rcases open_slice Try.underlying27 hf with ⟨h0, _⟩ | ⟨a', len', cap', m, n', Df, Pl, hcs, hb, hl, hmx, hm, hd, hx⟩
    · simp [Value.cells] at h0
    · simp only [Value.cells, List.cons.injEq, Value.slice.injEq, Option.some.injEq, and_true] at hcs
      obtain ⟨rfl, rfl, rfl⟩ := hcs
      have hd1 := congrArg Prod.fst hd
      dsimp only at hd1
      subst hd1
      have hC : (Try.prog).bytesOf 5 = 1 := by kernel_rfl
      have := hw ((((List.range n).map Df).length + ((List.range (m - n)).map fun j => Df (n + j)).length) * (Try.prog).bytesOf 5) (by
        unfold DataW.weights
        rw [Try.underlying27]
        exact List.mem_cons_self ..)
      rw [hC] at this
      simp only [List.length_map, List.length_range, reachBytes] at this
      omega
end
end Go.Proofs.Ytbpaimfnfigjpaa
