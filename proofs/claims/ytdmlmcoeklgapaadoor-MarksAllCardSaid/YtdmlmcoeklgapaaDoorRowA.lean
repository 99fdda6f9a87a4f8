/- More of what a law's row opens: an array of four words. No conditions. -/
import Derived.Test.YtdmlmcoeklgapaaDoorRow
import Derived.Laws.IdiomArrays
namespace Go.Proofs.YtdmlmcoeklgapaaDoor
open Go.ChangeShapes Go.WideShapes Go.RowKit Go.Joins
set_option linter.unusedVariables false
section
variable {H : Type} {enc : TypeId × Value → H}
/-- four words -/
theorem open_page {w : World} {base : Nat} {spare : Nat → Bool} {held : Bool} {r : Reach} {b0 : Nat} {v : Value} {d : DataW H} {p : List MemPlace} (hv : Value.okWide Tryd.prog w r b0 23 v) (h : DataW.Trod enc Tryd.prog w base spare held 23 v d p) :
    ∃ (a b c e : Int), v = .agg #[.int .u64 a, .int .u64 b, .int .u64 c, .int .u64 e] ∧ (Lit.int .u64 a).wf = true ∧ (Lit.int .u64 b).wf = true ∧ (Lit.int .u64 c).wf = true ∧ (Lit.int .u64 e).wf = true := by
  simp only [Value.okWide, Tryd.underlying23] at hv
  obtain ⟨cs, rfl, hsz, _⟩ := hv
  have hsz4 : cs.size = 4 := hsz.trans (by kernel_rfl)
  obtain ⟨c0, c1, c2, c3, rfl⟩ := array4 hsz4
  obtain ⟨fuel, hf⟩ := h
  obtain ⟨y0, y1, y2, y3, n, hx, h0, h1, h2, h3⟩ := trod_array4 Tryd.underlying23 (by kernel_rfl) hf
  obtain ⟨k, e0, _, wk⟩ := DataW.trod_int Tryd.underlying22 h0
  obtain ⟨a, e1, _, wa⟩ := DataW.trod_int Tryd.underlying22 h1
  obtain ⟨b, e2, _, wb⟩ := DataW.trod_int Tryd.underlying22 h2
  obtain ⟨c, e3, _, wc⟩ := DataW.trod_int Tryd.underlying22 h3
  simp at e0 e1 e2 e3
  subst e0 e1 e2 e3
  exact ⟨k, a, b, c, rfl, wk, wa, wb, wc⟩
end
end Go.Proofs.YtdmlmcoeklgapaaDoor
