/- Gates: what has passed, what waits; plain, and as data. No conditions. -/
import Derived.Test.YtnlacdclnhoghaaFlat
import Derived.Test.YtnlacdclnhoghaaDK
import Derived.Test.YtnlacdclnhoghaaDInst
import Derived.Test.YtnlacdclnhoghaaDCls
namespace Go.Proofs.Ytnlacdclnhoghaa
open Go.RowKit
set_option linter.unusedVariables false
set_option maxRecDepth 100000

/-- a transfer that has passed, or waits -/
structure QT where
  id : Nat
  val : Nat
  ch : Nat
  at_ : Nat
def QT.cells (q : QT) : List D := [.int .i64 q.id, .int .i64 q.val, .int .i64 q.ch, .int .i64 q.at_]
def qsC (l : List QT) : List D := l.flatMap QT.cells
theorem qs_len (l : List QT) : (qsC l).length = l.length * 4 := fl_len (f := QT.cells) (s := 4) (fun _ => rfl) l
theorem qs_cls (l : List QT) : D.cls (qsC l) = true := D.cls_of fun d hd => by
  obtain ⟨q, _, hq⟩ := List.mem_flatMap.1 hd
  rcases List.mem_cons.1 hq with rfl | hq
  · rfl
  rcases List.mem_cons.1 hq with rfl | hq
  · rfl
  rcases List.mem_cons.1 hq with rfl | hq
  · rfl
  rcases List.mem_cons.1 hq with rfl | hq
  · rfl
  exact absurd hq List.not_mem_nil
theorem qs_app (a b : List QT) : qsC (a ++ b) = qsC a ++ qsC b := List.flatMap_append
theorem qs_one (q : QT) : qsC [q] = q.cells := by simp [qsC]
theorem qs_cut (l : List QT) (j : Nat) (q : QT) (h : l[j]? = some q) (ze : List D) : cut ⟨true, 4, ze⟩ 0 ((qsC l).drop ((j : Int).toNat * 4)) = some (.agg [.int .i64 q.id, .int .i64 q.val, .int .i64 q.ch, .int .i64 q.at_]) := by
  have hl := qs_len l
  have hlt := (List.getElem?_eq_some_iff.1 h).1
  unfold cut
  simp only [cond_true, Int.toNat_natCast, Nat.zero_add, List.length_drop, hl, List.drop_zero]
  rw [Nat.ble_eq_true_of_le (by omega), cond_true]
  unfold qsC
  rw [fl_at (f := QT.cells) (s := 4) (fun _ => rfl) l j q h]
  rfl
theorem qs_take (l : List QT) (j : Nat) : (qsC l).take (j * 4) = qsC (l.take j) := fl_take (f := QT.cells) (s := 4) (fun _ => rfl) l j
theorem qs_snoc (l : List QT) (j : Nat) (q : QT) (h : l[j]? = some q) : qsC (l.take j) ++ q.cells = qsC (l.take (j + 1)) := by
  rw [List.take_add_one, h, Option.toList_some, qs_app, qs_one]

/-- limits, and what is big, chain by chain -/
structure GT where
  l0 : Nat
  l1 : Nat
  l2 : Nat
  b0 : Nat
  b1 : Nat
  b2 : Nat
  now : Nat
  past : List QT
  queue : List QT
def gC (l0 l1 l2 b0 b1 b2 now : Nat) (p q : D) : List D := [.int .i64 l0, .int .i64 l1, .int .i64 l2, .int .i64 b0, .int .i64 b1, .int .i64 b2, .int .i64 now, p, q]
def qD (l : List QT) : D := .slice .frozen l.length (qsC l)
def GT.cells (g : GT) : List D := gC g.l0 g.l1 g.l2 g.b0 g.b1 g.b2 g.now (qD g.past) (qD g.queue)
def GT.lim (g : GT) (c : Nat) : Nat := if c = 0 then g.l0 else if c = 1 then g.l1 else g.l2
def GT.big (g : GT) (c : Nat) : Nat := if c = 0 then g.b0 else if c = 1 then g.b1 else g.b2
/-- a gate that may be -/
structure GT.ok (g : GT) : Prop where
  lims : ∀ x ∈ [g.l0, g.l1, g.l2, g.b0, g.b1, g.b2], x ≤ 1073741824
  now : g.now ≤ 1099511627776
  plen : g.past.length ≤ 40
  qlen : g.queue.length ≤ 40
  each : ∀ x ∈ g.past ++ g.queue, x.val ≤ 1073741824 ∧ x.ch < 3 ∧ x.at_ ≤ g.now ∧ x.id < 1099511627776
  ids : ((g.past ++ g.queue).map QT.id).Nodup

/-- what has passed of a chain within the last day -/
def used (ch now : Nat) : List QT → Nat
  | [] => 0
  | x :: r => (if x.ch = ch ∧ now - x.at_ < 24 then x.val else 0) + used ch now r
theorem used_app (ch now : Nat) : ∀ (a b : List QT), used ch now (a ++ b) = used ch now a + used ch now b
  | [], b => by simp [used]
  | x :: a, b => by simp only [List.cons_append, used, used_app ch now a b]; omega
theorem used_snoc (ch now : Nat) (l : List QT) (j : Nat) (q : QT) (h : l[j]? = some q) : used ch now (l.take (j + 1)) = used ch now (l.take j) + (if q.ch = ch ∧ now - q.at_ < 24 then q.val else 0) := by
  rw [List.take_add_one, h, Option.toList_some, used_app]; simp [used]
theorem used_le (ch now m : Nat) : ∀ (l : List QT), (∀ x ∈ l, x.val ≤ m) → used ch now l ≤ l.length * m
  | [], _ => by simp [used]
  | x :: l, h => by
    have h1 := used_le ch now m l fun y hy => h y (List.mem_cons.2 (.inr hy))
    have h2 := h x (List.mem_cons.2 (.inl rfl))
    simp only [used, List.length_cons, Nat.succ_mul]
    split <;> omega
def GT.fits (g : GT) (x : QT) : Bool := decide (x.val < g.big x.ch) && (decide (used x.ch g.now g.past + x.val ≤ g.lim x.ch) && decide (g.past.length < 40))
end Go.Proofs.Ytnlacdclnhoghaa
