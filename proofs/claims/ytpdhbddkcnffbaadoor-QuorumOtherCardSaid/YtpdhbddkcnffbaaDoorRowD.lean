/- What a card's row needs more: the tables lie as they were laid; a start at which they do. No conditions. -/
import Derived.Test.YtpdhbddkcnffbaaDoorRow
import Derived.Test.YtpdhbddkcnffbaaDoorTie
import Derived.Test.YtpdhbddkcnffbaaDoorCards
import Derived.Test.YtpdhbddkcnffbaaDoorD
import Derived.ChangeSame
import Derived.ChangeVars
import Derived.JoinedOf
import Derived.LaidLaws
import Derived.LaidHandle
import Derived.LaidMore
import Derived.Stop.Joined
import Derived.Stop.LaidErr
import Derived.Lib.LaidTab
import Derived.SevenTiedAt
namespace Go.Proofs.YtpdhbddkcnffbaaDoor
open Go.ChangeShapes Go.WideShapes Go.RowKit Go.Joins Go.Lib Go.Stop
set_option linter.unusedVariables false
set_option linter.unusedVariables false

def laidL : List (String × DataW Unit) := [("bascule/keccak.rounds", Rows.laid_bascule_keccak_rounds), ("bascule/keccak.turns", Rows.laid_bascule_keccak_turns)]
theorem tab_at {W : World} {name : String} {k : IntKind} {zs : List Int} {g : Nat} (h : TabIs Tryd.prog W name k zs) (hg : Tryd.prog.globalNamed name = some g) : ∃ E fr, W.heap[g]? = some (.cells (zs.map (Value.int k)).toArray E fr) := by
  unfold TabIs World.var? at h
  rw [hg] at h
  simp only [Option.bind_some] at h
  split at h
  · rename_i cs E fr hh
    injection h with h
    subst h
    exact ⟨E, fr, hh⟩
  · cases h
theorem tabs_of {W : World} (h : laidMetH Tryd.prog laidL W) : GTab W [] := by
  have h' : laidMet Tryd.prog laidL W := h
  have t0 := tabIs_of_head (g := 0) (k := .u64) (zs := [1, 32898, 9223372036854808714, 9223372039002292224, 32907, 2147483649, 9223372039002292353, 9223372036854808585, 138, 136, 2147516425, 2147483658, 2147516555, 9223372036854775947, 9223372036854808713, 9223372036854808579, 9223372036854808578, 9223372036854775936, 32778, 9223372039002259466, 9223372039002292353, 9223372036854808704, 2147483649, 9223372039002292232]) (t := 131) (e := 22) (n := 24) (by kernel_rfl) (by kernel_rfl) Tryd.underlying131 Tryd.underlying22 (by kernel_rfl) (by kernel_rfl) h'
  have t1 := tabIs_of_head (g := 1) (k := .i64) (zs := [0, 1, 62, 28, 27, 36, 44, 6, 55, 20, 3, 10, 43, 25, 39, 41, 45, 15, 21, 8, 18, 2, 61, 56, 14]) (t := 134) (e := 3) (n := 25) (by kernel_rfl) (by kernel_rfl) Tryd.underlying134 Tryd.underlying3 (by kernel_rfl) (by kernel_rfl) (laidMet.tail h')
  have a0 := tab_at t0 (g := 0) (by kernel_rfl)
  have a1 := tab_at t1 (g := 1) (by kernel_rfl)
  intro x hx
  refine ⟨by simp, ?_⟩
  unfold gtab at hx
  rcases List.mem_cons.1 hx with rfl | hx
  · exact a0
  · rcases List.mem_cons.1 hx with rfl | hx
    · exact a1
    · cases hx
theorem door_met (os : Os) (args : Array Value) : laidMetH Tryd.prog laidL ((World.doorLaid Tryd.prog 400 os).forCall (fun _ _ => 0) ⟨#[], args, []⟩).memory :=
  laidMetH_of_parts3 (fuel := 8) (laidMet_of_run' 8 (by kernel_rfl) (by kernel_rfl)) (by kernel_rfl) (by kernel_rfl)
end Go.Proofs.YtpdhbddkcnffbaaDoor
