/- seen.All: a slice of all marks of a page, the lowest one first; nothing that lay is turned. Condition: words of 64 bits. -/
import Derived.Test.YtdmlmcoeklgapaaDoorMarks1
namespace Go.Proofs.YtdmlmcoeklgapaaDoor
open Go.RowKit Go.Shelf
set_option linter.unusedVariables false
attribute [local go_sem] Oper.semAt_some

set_option maxHeartbeats 1000000 in
/-- marks(p): the page is boxed; the function value captures the box -/
theorem marks_in (n : Nat) (a b c d : Int) (w : World) :
    CallsIn Fence.wide n Tryd.prog 6 #[.agg #[.int .u64 a, .int .u64 b, .int .u64 c, .int .u64 d]] w fun e w' => e = .returned (.func (.func 8) #[] #[.pointer (some ⟨w.heap.size, 0, none⟩)]) ∧ w' = w.alloc (.cells #[.int .u64 a, .int .u64 b, .int .u64 c, .int .u64 d] 29) := by
  refine callsIn_of_wp Tryd.func6 rfl trivial ?_ rfl
  simp only [Tryd.ntmps6, List.size_toArray, List.length_cons, List.length_nil, Nat.reduceAdd, Nat.reduceSub, Array.replicate_succ, Array.replicate_zero, List.push_toArray, List.append_toArray, List.nil_append, List.cons_append]
  gi_wp2
  go_ret
  exact ⟨rfl, rfl⟩

theorem cells4 (w : World) (a b c d : Value) (T : TypeId) : (w.alloc (.cells #[a, b, c, d] T)).cell? ⟨w.heap.size, 0, none⟩ = some a ∧ (w.alloc (.cells #[a, b, c, d] T)).cell? ⟨w.heap.size, 1, none⟩ = some b ∧
    (w.alloc (.cells #[a, b, c, d] T)).cell? ⟨w.heap.size, 2, none⟩ = some c ∧ (w.alloc (.cells #[a, b, c, d] T)).cell? ⟨w.heap.size, 3, none⟩ = some d := by
  have h := World.alloc_heap_new w (.cells #[a, b, c, d] T)
  refine ⟨?_, ?_, ?_, ?_⟩ <;> (unfold World.cell?; rw [h]; rfl)

theorem pageL_len (X : Nat → Nat) : (pageL 0 [X 0, X 1, X 2, X 3]).length ≤ 256 := by
  rw [pageL_all]; exact Nat.le_trans (List.length_filter_le _ _) (by simp)

theorem all_stops (n : Nat) (hn : 1 ≤ n) (Bn n₀ : Nat) (X : Nat → Nat) (hX : ∀ k, X k < 18446744073709551616) (w : World) (hBn : Bn < w.heap.size) (hn₀ : n₀ ≤ w.heap.size)
    (hp0 : w.cell? ⟨Bn, 0, none⟩ = some (.int .u64 (X 0))) (hp1 : w.cell? ⟨Bn, 1, none⟩ = some (.int .u64 (X 1))) (hp2 : w.cell? ⟨Bn, 2, none⟩ = some (.int .u64 (X 2))) (hp3 : w.cell? ⟨Bn, 3, none⟩ = some (.int .u64 (X 3)))
    (hT : TabM w) (hg : 0 < n₀) :
    SeqStopsK Fence.wide n Tryd.prog 8 #[.pointer (some ⟨Bn, 0, none⟩)] (fun x : Nat => #[Value.int .i64 x]) (Below n₀) (fun ys => ys = pageL 0 [X 0, X 1, X 2, X 3]) (fun pre => pre <+: pageL 0 [X 0, X 1, X 2, X 3]) 256 w := fun l J Jx W hW _ _ hY h0 =>
  marks1_in n hn l Bn n₀ X hX J Jx hY W ((hW.cell (p := ⟨Bn, 0, none⟩) hBn).trans hp0) ((hW.cell (p := ⟨Bn, 1, none⟩) hBn).trans hp1) ((hW.cell (p := ⟨Bn, 2, none⟩) hBn).trans hp2) ((hW.cell (p := ⟨Bn, 3, none⟩) hBn).trans hp3)
    (fun j hj => (hW.cell (p := ⟨0, j, none⟩) (Nat.lt_of_lt_of_le hg hn₀)).trans (hT j hj)) hg h0

theorem infoI : (Tryd.prog.info? 3).map (fun i => (i.zero, i.size, i.bytes)) = some (some (.int .i64 0), 1, 8) := by kernel_rfl

set_option maxRecDepth 100000 in
set_option maxHeartbeats 2000000 in
theorem All_in (n : Nat) (hn : 3 ≤ n) (X : Nat → Nat) (hX : ∀ k, X k < 18446744073709551616) (w : World) (hT : TabM w) (hg : 0 < w.heap.size) :
    CallsIn Fence.wide n Tryd.prog 4 #[.agg #[.int .u64 (X 0), .int .u64 (X 1), .int .u64 (X 2), .int .u64 (X 3)]] w fun e W' => ∃ v, e = .returned v ∧ W'.ownsRow w.heap.size 3 1 v (pageL 0 [X 0, X 1, X 2, X 3]).length ((pageL 0 [X 0, X 1, X 2, X 3]).map fun x : Nat => Value.int .i64 x) ∧ Below w.heap.size w W' := by
  have h1 : 1 ≤ n := by omega
  obtain ⟨i0, hi, hz0, hz1, hz2⟩ := info_parts infoI
  refine callsIn_of_wp_marks Tryd.func4 rfl trivial ?_ rfl
  simp only [Tryd.ntmps4, List.size_toArray, List.length_cons, List.length_nil, Nat.reduceAdd, Nat.reduceSub, Array.replicate_succ, Array.replicate_zero, List.push_toArray, List.append_toArray, List.nil_append, List.cons_append]
  gi_wp2_with (refine ⟨trivial, ?_⟩; gi_at_call 6; refine (marks_in (n - 1) _ _ _ _ _).mono ?_; rintro e w' ⟨rfl, rfl⟩)
  have hc4 := cells4 ((w.alloc (.cells #[.int .u64 (X 0), .int .u64 (X 1), .int .u64 (X 2), .int .u64 (X 3)] 29)).alloc (.cells #[.slice none 0 0] 24)) (.int .u64 (X 0)) (.int .u64 (X 1)) (.int .u64 (X 2)) (.int .u64 (X 3)) 29
  have bO := Boxed.new (w.alloc (.cells #[.int .u64 (X 0), .int .u64 (X 1), .int .u64 (X 2), .int .u64 (X 3)] 29)) 24 (.slice none 0 0)
  rw [World.size_alloc] at bO
  rw [World.size_alloc, World.size_alloc] at hc4
  have hB0 : Below w.heap.size w (((w.alloc (.cells #[.int .u64 (X 0), .int .u64 (X 1), .int .u64 (X 2), .int .u64 (X 3)] 29)).alloc (.cells #[.slice none 0 0] 24)).alloc (.cells #[.int .u64 (X 0), .int .u64 (X 1), .int .u64 (X 2), .int .u64 (X 3)] 29)) :=
    (((Below.refl _ w).alloc (Nat.le_refl _) _).alloc (by simp) _).alloc (by simp; omega) _
  refine wpIn_rangeFunc_ownG rfl h1 (gf := 8) (lb := #[.pointer (some ⟨w.heap.size + 1 + 1, 0, none⟩)]) rfl trivial (enters_of Tryd.func8 (by kernel_rfl) rfl)
    (all_stops (n - 1) (by omega) (w.heap.size + 1 + 1) w.heap.size X hX _ (by simp) (by simp; omega) hc4.1 hc4.2.1 hc4.2.2.1 hc4.2.2.2 (fun j hj => (hB0.cell (p := ⟨0, j, none⟩) hg).trans (hT j hj)) hg) belowK_t (belowK_b (by simp; omega)) (Below.refl _ _) (fun _ => rfl)
    (fun pre W => (∃ v, Boxed W (w.heap.size + 1) 24 v ∧ W.ownsRow w.heap.size 3 1 v pre.length (pre.map fun x : Nat => Value.int .i64 x) ∧ True) ∧ Below w.heap.size w W)
    (fun _ _ _ => False)
    (OwnFrom.and (Own.from (holdsRow_own w.heap.size (w.heap.size + 1) 24 3 1 (fun pre : List Nat => pre.length) (fun pre => pre.map fun x : Nat => Value.int .i64 x) (fun _ _ => True)) _) (ownFrom_below (Nat.le_refl _) (by simp; omega)))
    (fun _ _ _ _ _ hs _ _ => hs)
    ⟨⟨_, bO.alloc _, World.ownsRow_nil _ _ _ _, trivial⟩, hB0⟩
    (fun x => { tmps := #[.agg #[.int .u64 (X 0), .int .u64 (X 1), .int .u64 (X 2), .int .u64 (X 3)], .pointer (some ⟨w.heap.size, 0, none⟩), .slice none 0 0, .pointer (some ⟨w.heap.size + 1, 0, none⟩), .int .i64 x, .agg #[.int .u64 (X 0), .int .u64 (X 1), .int .u64 (X 2), .int .u64 (X 3)], .func (.func 8) #[] #[.pointer (some ⟨w.heap.size + 1 + 1, 0, none⟩)], .int .i64 x, undef, undef, undef, undef, undef], defers := [] }) ?assign ?body ?done ?stop
  case assign =>
    intro l x W K hK
    gi_wp2
    exact hK
  case body =>
    rintro l pre x W ⟨⟨v, hv, hrow, -⟩, hB⟩ hlt
    have hc := hv.cell
    gi_wp2_with (gi_at_builtin; refine wpListIn_append_own _ rfl _ _ 24 rfl w.heap.size 3 i0 (.int .i64 0) 1 8 Tryd.underlying24 hi hz0 hz1 hz2 rfl (by decide) _ _ _ rfl (hrow.alloc _) ⟨W.heap.size, 0, none⟩ 1 1 [.int .i64 x] rfl rfl (cell_one_new _ _ _) (by simp [Value.oneCell']) (by unfold maxLen; omega) (by omega) (by have := hB.size; simp; omega) ?_; intro v' w1 hown' hgrow _; obtain ⟨g', cap', rfl⟩ := ownsRow_succ hown'; obtain ⟨hv1, hv2, hr2, hk2, hb2⟩ := hv.appended (by decide) hrow hB.size (by omega) hown' hgrow; have hc1 := hv1.cell; have hf1 := hv1.frozen)
    exact ⟨hk2.from _, hb2, ⟨_, hv2, by simpa using hr2, trivial⟩, hB.trans hb2⟩
  case done =>
    rintro D ys W hD rfl ⟨⟨v, hv, hrow, -⟩, hB⟩ hK
    have hc := hv.cell
    gi_wp2
    refine ⟨by simp, .inl ⟨_, _, rfl, run_takeDeferred hK, ?_⟩⟩
    exact ⟨_, results_tmp rfl _ _ _, v, rfl, ownsRow_putObj hrow _ hK rfl, hB.trans (belowK_b (w := w) (Nat.le_refl _) W D _ _ (by simp at hD; omega) hK rfl rfl)⟩
  case stop =>
    rintro D c pre W _ _ h _
    exact h.elim
end Go.Proofs.YtdmlmcoeklgapaaDoor
