/- What a card's row needs more: the tables lie as they were laid; a start at which they do. No conditions. -/
import Derived.Test.YtdmlmcoeklgapaaDoorRow
import Derived.Test.YtdmlmcoeklgapaaDoorTie
import Derived.Test.YtdmlmcoeklgapaaDoorCards
import Derived.Test.YtdmlmcoeklgapaaDoorD
import Derived.ChangeSame
import Derived.ChangeVars
import Derived.JoinedOf
import Derived.LaidLaws
import Derived.LaidHandle
import Derived.LaidMore
import Derived.Stop.Joined
import Derived.Stop.LaidErr
import Derived.Lib.LaidTab
import Derived.SevenTiedAt
namespace Go.Proofs.YtdmlmcoeklgapaaDoor
open Go.ChangeShapes Go.WideShapes Go.RowKit Go.Joins Go.Lib Go.Stop
set_option linter.unusedVariables false

def laidL : List (String × DataW Unit) := [("math/bits.deBruijn64tab", Rows.laid_math_bits_deBruijn64tab)]
theorem tab_at {W : World} {name : String} {k : IntKind} {zs : List Int} {g : Nat} (h : TabIs Tryd.prog W name k zs) (hg : Tryd.prog.globalNamed name = some g) : ∃ E fr, W.heap[g]? = some (.cells (zs.map (Value.int k)).toArray E fr) := by
  unfold TabIs World.var? at h
  rw [hg] at h
  simp only [Option.bind_some] at h
  split at h
  · rename_i cs E fr hh
    injection h with h
    subst h
    exact ⟨E, fr, hh⟩
  · cases h
theorem tabs_of {W : World} (h : laidMetH Tryd.prog laidL W) : GTab W [] := by
  have h' : laidMet Tryd.prog laidL W := h
  have t0 := tabIs_of_head (g := 0) (k := .u8) (zs := [0, 1, 56, 2, 57, 49, 28, 3, 61, 58, 42, 50, 38, 29, 17, 4, 62, 47, 59, 36, 45, 43, 51, 22, 53, 39, 33, 30, 24, 18, 12, 5, 63, 55, 48, 27, 60, 41, 37, 16, 46, 35, 44, 21, 52, 32, 23, 11, 54, 26, 40, 15, 34, 20, 31, 10, 25, 14, 19, 9, 13, 8, 7, 6]) (t := 36) (e := 5) (n := 64) (by kernel_rfl) (by kernel_rfl) Tryd.underlying36 Tryd.underlying5 (by kernel_rfl) (by kernel_rfl) h'
  have a0 := tab_at t0 (g := 0) (by kernel_rfl)
  intro x hx
  refine ⟨by simp, ?_⟩
  unfold gtab at hx
  rcases List.mem_cons.1 hx with rfl | hx
  · exact a0
  · cases hx
theorem door_met (os : Os) (args : Array Value) : laidMetH Tryd.prog laidL ((World.doorLaid Tryd.prog 400 os).forCall (fun _ _ => 0) ⟨#[], args, []⟩).memory :=
  laidMetH_of_parts3 (fuel := 8) (laidMet_of_run' 8 (by kernel_rfl) (by kernel_rfl)) (by kernel_rfl) (by kernel_rfl)
end Go.Proofs.YtdmlmcoeklgapaaDoor
