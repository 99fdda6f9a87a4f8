/- Lists laid end to end, all of one length. Plain. No conditions. -/
import Derived.Test.YtpdhbddkcnffbaaDoorGd
namespace Go.Proofs.YtpdhbddkcnffbaaDoor

section
variable {α β : Type} {f : α → List β} {s : Nat}
theorem fl_len (hf : ∀ a, (f a).length = s) : ∀ (l : List α), (l.flatMap f).length = l.length * s
  | [] => by simp
  | a :: l => by rw [List.flatMap_cons, List.length_append, hf a, fl_len hf l, List.length_cons, Nat.succ_mul, Nat.add_comm]
theorem fl_drop (hf : ∀ a, (f a).length = s) : ∀ (l : List α) (n : Nat), (l.flatMap f).drop (n * s) = (l.drop n).flatMap f
  | l, 0 => by simp
  | [], n + 1 => by simp
  | a :: l, n + 1 => by
    rw [List.flatMap_cons, List.drop_succ_cons, List.drop_append, hf a, Nat.succ_mul]
    rw [List.drop_eq_nil_of_le (by rw [hf a]; omega), Nat.add_sub_cancel, fl_drop hf l n]
    simp
theorem fl_at (hf : ∀ a, (f a).length = s) (l : List α) (n : Nat) (a : α) (h : l[n]? = some a) : ((l.flatMap f).drop (n * s)).take s = f a := by
  rw [fl_drop hf]
  have hlt := (List.getElem?_eq_some_iff.1 h).1
  rw [List.drop_eq_getElem_cons hlt, List.flatMap_cons]
  have : l[n] = a := (List.getElem?_eq_some_iff.1 h).2
  rw [this, List.take_append, hf a, Nat.sub_self, List.take_zero, List.append_nil, List.take_of_length_le (by rw [hf a]; exact Nat.le_refl _)]
end
end Go.Proofs.YtpdhbddkcnffbaaDoor
