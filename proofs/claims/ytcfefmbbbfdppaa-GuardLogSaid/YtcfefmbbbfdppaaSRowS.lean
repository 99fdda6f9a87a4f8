/- More of what a law's row opens: slices of raw things. No conditions. -/
import Derived.Test.YtcfefmbbbfdppaaSGf
import Derived.Test.YtcfefmbbbfdppaaSFlat
import Derived.Deep.Slices
namespace Go.Proofs.Ytcfefmbbbfdppaa
open Go.ChangeShapes Go.WideShapes Go.RowKit Go.Joins Go.Deep
set_option linter.unusedVariables false
set_option maxRecDepth 100000
structure RawT where
  k : Int
  a : Int
  b : Int
  s : ByteArray
def RawT.cells (r : RawT) : List D := [.int .i64 r.k, .int .i64 r.a, .int .i64 r.b, .str r.s]
def RawT.ok (r : RawT) : Prop := (Lit.int .i64 r.k).wf = true ∧ (Lit.int .i64 r.a).wf = true ∧ (Lit.int .i64 r.b).wf = true ∧ r.s.size ≤ maxLen
def RawT.vals (r : RawT) : List Value := [.int .i64 r.k, .int .i64 r.a, .int .i64 r.b, .string r.s]
def rws (l : List RawT) : List D := l.flatMap RawT.cells
theorem rws_len (l : List RawT) : (rws l).length = l.length * 4 := fl_len (f := RawT.cells) (s := 4) (fun _ => rfl) l
section
variable {H : Type} {enc : TypeId × Value → H}
theorem open_raws {w : World} {base : Nat} {spare : Nat → Bool} {held : Bool} {r : Reach} {b0 : Nat} {v : Value} {d : DataW H} {p : List MemPlace} (hv : Value.okWide Try.prog w r b0 24 v) (h : DataW.Trod enc Try.prog w base spare held 24 v d p) :
    ∃ l : List RawT, (∀ x ∈ l, x.ok) ∧ Rep (bare (allhw w)) w (.slice .frozen l.length (rws l)) v := by
  simp only [Value.okWide, Try.underlying24, Cell.okWide, Cell.ok] at hv
  obtain ⟨fuel, hf⟩ := h
  cases v <;> first | exact False.elim hv | skip
  rename_i ao len cap
  cases ao with
  | none =>
    cases len <;> cases cap <;> first | exact False.elim hv | skip
    exact ⟨[], fun x hx => by simp at hx, .nil _⟩
  | some ad =>
    obtain ⟨hle, _, _, hsp, row, cells, hsh, hli⟩ := hv
    rcases open_slice Try.underlying24 hf with ⟨h0, _⟩ | ⟨a', len', cap', m, n, Df, Pl, hcs, hb, hl, hmx, hm, _, hx⟩
    · simp [Value.cells] at h0
    · simp only [Value.cells, List.cons.injEq, Value.slice.injEq, Option.some.injEq, and_true] at hcs
      obtain ⟨rfl, rfl, rfl⟩ := hcs
      obtain ⟨b, o, sp⟩ := ad
      simp only at hsp
      subst hsp
      have hC : (Try.prog).cellsOf 23 = 4 := by kernel_rfl
      rw [hC] at hx
      obtain ⟨vs, fr, hblk, hcells⟩ : ∃ vs fr, w.heap[b]? = some (.cells vs row fr) ∧ vs.size = cells := by
        unfold World.shape? at hsh
        split at hsh
        · rename_i c el fr hh
          simp only [Option.some.injEq, Prod.mk.injEq] at hsh
          obtain ⟨rfl, rfl⟩ := hsh
          exact ⟨c, fr, hh, rfl⟩
        · cases hsh
      have hmem : b < w.heap.size := (Array.getElem?_eq_some_iff.1 hblk).1
      have hall : allhw w b = vs.size := by unfold allhw; rw [hblk]
      have ho : o ≤ vs.size := by
        have : o ≤ _ := liesAt_le hli
        have h2 := Nat.div_mul_le_self cells ((Try.prog).cellsOf row)
        omega
      have hcl : ∀ i, w.cell? ⟨b, i, none⟩ = vs[i]? := fun i => cell_of_row w _ _ vs row fr hblk
      have hlm : len ≤ m := by rw [hm]; split <;> omega
      have hel : ∀ i, ∃ x : RawT, i < len → x.ok ∧ ∀ j, j < 4 → vs[o + i * 4 + j]? = x.vals[j]? := by
        intro i
        by_cases hi : i < len
        · obtain ⟨cs', h1, h2⟩ := hx i (by omega)
          obtain ⟨_, hlen, hat⟩ := World.cells?_some h1
          match cs', hlen with
          | [c0, c1, c2, c3], _ =>
            obtain ⟨y0, y1, y2, y3, nn, _, _, hy0, hy1, hy2, hy3⟩ := trod_struct4 Try.underlying23 h2
            have k1 : (Try.prog).cellsOf 3 = 1 := by kernel_rfl
            have k2 : (Try.prog).cellsOf 9 = 1 := by kernel_rfl
            simp only [k1, k2] at hy0 hy1 hy2 hy3
            obtain ⟨k, e0, _, wk⟩ := DataW.trod_int Try.underlying3 hy0
            obtain ⟨a, e1, _, wa⟩ := DataW.trod_int Try.underlying3 hy1
            obtain ⟨b, e2, _, wb⟩ := DataW.trod_int Try.underlying3 hy2
            obtain ⟨s, e3, _, ws⟩ := DataW.trod_string Try.underlying9 hy3
            simp at e0 e1 e2 e3
            subst e0 e1 e2 e3
            refine ⟨⟨k, a, b, s⟩, fun _ => ⟨⟨wk, wa, wb, ws⟩, fun j hj => ?_⟩⟩
            have := hat j hj
            rw [show ((⟨_, o, none⟩ : Addr).add (i * 4)).add j = ⟨_, o + i * 4 + j, none⟩ from by rw [add_off, add_off], hcl] at this
            exact this
        · exact ⟨⟨0, 0, 0, ⟨#[]⟩⟩, fun h => absurd h hi⟩
      let R : Nat → RawT := fun i => Classical.choose (hel i)
      have hR : ∀ i, i < len → (R i).ok ∧ ∀ j, j < 4 → vs[o + i * 4 + j]? = (R i).vals[j]? := fun i => Classical.choose_spec (hel i)
      refine ⟨(List.range len).map R, fun x hx => ?_, ?_⟩
      · obtain ⟨i, hi, rfl⟩ := List.mem_map.1 hx
        exact (hR i (List.mem_range.1 hi)).1
      · have hlen : ((List.range len).map R).length = len := by simp
        rw [hlen]
        have hrl := rws_len ((List.range len).map R)
        rw [hlen] at hrl
        have hget : ∀ i, i < len * 4 → (rws ((List.range len).map R))[i]? = ((R (i / 4)).cells)[i % 4]? := fun i hi => by
          unfold rws
          rw [fl_get (f := RawT.cells) (s := 4) (by decide) (fun _ => rfl)]
          have h1 : i / 4 < len := by omega
          simp [h1]
        have hval : ∀ i, i < len * 4 → vs[o + i]? = ((R (i / 4)).vals)[i % 4]? := fun i hi => by
          have := (hR (i / 4) (by omega)).2 (i % 4) (Nat.mod_lt _ (by decide))
          rw [show o + i / 4 * 4 + i % 4 = o + i from by omega] at this
          exact this
        have hsz : o + len * 4 ≤ vs.size := by
          rcases Nat.eq_zero_or_pos len with h0 | h0
          · subst h0; omega
          · have := hval (len * 4 - 1) (by omega)
            have h4 : (len * 4 - 1) % 4 < 4 := Nat.mod_lt _ (by decide)
            have hlt : o + (len * 4 - 1) < vs.size := by
              rcases Nat.lt_or_ge (o + (len * 4 - 1)) vs.size with h | h
              · exact h
              · rw [Array.getElem?_eq_none h, eq_comm, List.getElem?_eq_none_iff] at this
                simp [RawT.vals] at this; omega
            omega
        refine .slice .frozen len _ b o cap (vs.extract o (o + len * 4)) (by rw [hrl]; simp; omega) (fun d hd => ?_) (fun i d v hd hv => ?_) (by show _ ≤ allhw w b; rw [hrl, hall]; exact hsz) (fun i hi => ?_) hmem hle trivial
        · obtain ⟨x, _, hx2⟩ := List.mem_flatMap.1 hd
          simp only [RawT.cells, List.mem_cons, List.not_mem_nil, or_false] at hx2
          rcases hx2 with rfl | rfl | rfl | rfl <;> exact ⟨rfl, rfl⟩
        · have hi : i < len * 4 := by rw [← hrl]; exact (List.getElem?_eq_some_iff.1 hd).1
          rw [hget i hi] at hd
          rw [Array.getElem?_extract, if_pos (by omega), hval i hi] at hv
          have h4 : i % 4 < 4 := Nat.mod_lt _ (by decide)
          generalize i % 4 = q at hd hv h4
          obtain rfl | rfl | rfl | rfl : q = 0 ∨ q = 1 ∨ q = 2 ∨ q = 3 := by omega
          all_goals
            simp [RawT.cells] at hd
            simp [RawT.vals] at hv
            subst hd; subst hv
            first | exact .int _ _ | exact .str _
        · rw [hrl] at hi
          rw [hcl, Array.getElem?_extract, if_pos (by omega)]
end
end Go.Proofs.Ytcfefmbbbfdppaa
