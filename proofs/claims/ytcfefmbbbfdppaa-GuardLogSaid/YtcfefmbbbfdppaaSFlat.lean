/- Lists laid end to end, all of one length. Plain. No conditions. -/
import Derived.Test.YtcfefmbbbfdppaaSDPart
namespace Go.Proofs.Ytcfefmbbbfdppaa
section
variable {α β : Type} {f : α → List β} {s : Nat}
theorem fl_len (hf : ∀ a, (f a).length = s) : ∀ (l : List α), (l.flatMap f).length = l.length * s
  | [] => by simp
  | a :: l => by rw [List.flatMap_cons, List.length_append, hf a, fl_len hf l, List.length_cons, Nat.succ_mul, Nat.add_comm]
theorem fl_get (hs : 0 < s) (hf : ∀ a, (f a).length = s) : ∀ (l : List α) (i : Nat), (l.flatMap f)[i]? = (l[i / s]?).bind fun a => (f a)[i % s]?
  | [], i => by simp
  | a :: l, i => by
    rw [List.flatMap_cons, List.getElem?_append, hf a]
    by_cases h : i < s
    · rw [if_pos h, Nat.div_eq_of_lt h, Nat.mod_eq_of_lt h]; simp
    · rw [if_neg h, fl_get hs hf l (i - s)]
      have e1 : i / s = (i - s) / s + 1 := by
        conv => lhs; rw [show i = (i - s) + s from by omega]
        rw [Nat.add_div_right _ hs]
      have e2 : (i - s) % s = i % s := by
        conv => rhs; rw [show i = (i - s) + s from by omega]
        rw [Nat.add_mod_right]
      rw [e1, e2]; simp
theorem fl_drop (hf : ∀ a, (f a).length = s) : ∀ (l : List α) (n : Nat), (l.flatMap f).drop (n * s) = (l.drop n).flatMap f
  | l, 0 => by simp
  | [], n + 1 => by simp
  | a :: l, n + 1 => by
    rw [List.flatMap_cons, List.drop_succ_cons, List.drop_append, hf a, Nat.succ_mul]
    rw [List.drop_eq_nil_of_le (by rw [hf a]; omega), Nat.add_sub_cancel, fl_drop hf l n]
    simp
theorem fl_take (hf : ∀ a, (f a).length = s) : ∀ (l : List α) (n : Nat), (l.flatMap f).take (n * s) = (l.take n).flatMap f
  | l, 0 => by simp
  | [], n + 1 => by simp
  | a :: l, n + 1 => by
    rw [List.flatMap_cons, List.take_succ_cons, List.flatMap_cons, List.take_append, hf a, Nat.succ_mul]
    rw [List.take_of_length_le (by rw [hf a]; omega), Nat.add_sub_cancel, fl_take hf l n]
theorem fl_at (hf : ∀ a, (f a).length = s) (l : List α) (n : Nat) (a : α) (h : l[n]? = some a) : ((l.flatMap f).drop (n * s)).take s = f a := by
  rw [fl_drop hf]
  have hlt := (List.getElem?_eq_some_iff.1 h).1
  rw [List.drop_eq_getElem_cons hlt, List.flatMap_cons]
  have : l[n] = a := (List.getElem?_eq_some_iff.1 h).2
  rw [this, List.take_append, hf a, Nat.sub_self, List.take_zero, List.append_nil, List.take_of_length_le (by rw [hf a]; exact Nat.le_refl _)]
end
end Go.Proofs.Ytcfefmbbbfdppaa
