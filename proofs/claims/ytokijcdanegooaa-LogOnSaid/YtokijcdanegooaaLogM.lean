/- Records in bytes, in plain terms. No program in sight. No conditions. -/
import Derived.Test.YtokijcdanegooaaDConv
namespace Go.Proofs.Ytokijcdanegooaa
open Go.RowKit Go.Lib
set_option linter.unusedVariables false

abbrev By := List UInt8
def tl8 (r : By) : UInt8 := r.foldl (fun s c => s + c) 0
/-- a record on the disk -/
def rec8 (r : By) : By := UInt8.ofNat (r.length / 256) :: UInt8.ofNat r.length :: (r ++ [tl8 r])
theorem rec8_len (r : By) : (rec8 r).length = r.length + 3 := by simp [rec8]
def cat8 (l : List By) : By := l.flatMap rec8
theorem cat8_app (a b : List By) : cat8 (a ++ b) = cat8 a ++ cat8 b := by simp [cat8]
/-- how long the next record says that it is -/
def hdr (b : By) : Nat := (b[0]?.getD 0).toNat * 256 + (b[1]?.getD 0).toNat
/-- no whole record stands ahead -/
def stopB (b : By) : Prop := b.length < 3 ∨ 200 < hdr b ∨ b.length < hdr b + 3 ∨ some (tl8 ((b.drop 2).take (hdr b))) ≠ b[hdr b + 2]?
instance (b : By) : Decidable (stopB b) := by unfold stopB; infer_instance
/-- the whole records, and how many bytes they have -/
def opn (b : By) : List By × Nat :=
  if h : stopB b then ([], 0)
  else let q := opn (b.drop (hdr b + 3)); ((b.drop 2).take (hdr b) :: q.1, hdr b + 3 + q.2)
termination_by b.length
decreasing_by
  simp only [List.length_drop]
  unfold stopB at h
  omega
theorem opn_stop (b : By) (h : stopB b) : opn b = ([], 0) := by rw [opn, dif_pos h]
theorem opn_go (b : By) (h : ¬ stopB b) : opn b = ((b.drop 2).take (hdr b) :: (opn (b.drop (hdr b + 3))).1, hdr b + 3 + (opn (b.drop (hdr b + 3))).2) := by
  rw [opn, dif_neg h]
theorem opn_le : ∀ (k : Nat) (b : By), b.length ≤ k → (opn b).2 ≤ b.length
  | 0, b, h => by rw [opn_stop b (.inl (by omega))]; exact Nat.zero_le _
  | k + 1, b, h => by
    by_cases hs : stopB b
    · rw [opn_stop b hs]; exact Nat.zero_le _
    · rw [opn_go b hs]
      have h2 : ¬ b.length < hdr b + 3 := fun e => hs (.inr (.inr (.inl e)))
      have := opn_le k (b.drop (hdr b + 3)) (by rw [List.length_drop]; omega)
      rw [List.length_drop] at this
      show hdr b + 3 + _ ≤ _
      omega
theorem hdr_rec (r t : By) (hr : r.length ≤ 200) : hdr (rec8 r ++ t) = r.length := by
  unfold hdr rec8
  simp only [List.cons_append, List.getElem?_cons_zero, List.getElem?_cons_succ, Option.getD_some]
  rw [Nat.div_eq_of_lt (by omega)]
  have : (UInt8.ofNat r.length).toNat = r.length := by rw [UInt8.toNat_ofNat']; omega
  rw [this]
  show (UInt8.ofNat 0).toNat * 256 + _ = _
  simp
theorem opn_rec (r t : By) (hr : r.length ≤ 200) : opn (rec8 r ++ t) = (r :: (opn t).1, r.length + 3 + (opn t).2) := by
  have hh := hdr_rec r t hr
  have hl : (rec8 r ++ t).length = r.length + 3 + t.length := by rw [List.length_append, rec8_len]
  have e1 : ((rec8 r ++ t).drop 2).take r.length = r := by
    show ((r ++ [tl8 r]) ++ t).take r.length = r
    rw [List.append_assoc, List.take_left]
  have e2 : (rec8 r ++ t)[r.length + 2]? = some (tl8 r) := by
    show ((UInt8.ofNat (r.length / 256) :: UInt8.ofNat r.length :: (r ++ [tl8 r])) ++ t)[r.length + 2]? = _
    simp
  have e3 : (rec8 r ++ t).drop (r.length + 3) = t := by
    rw [← rec8_len r, List.drop_left]
  have hns : ¬ stopB (rec8 r ++ t) := by
    unfold stopB
    rw [hh, e1, e2]
    rintro (h | h | h | h)
    · omega
    · omega
    · omega
    · exact h rfl
  rw [opn_go _ hns, hh, e1, e3]
theorem opn_cat (l : List By) (t : By) (hl : ∀ r ∈ l, r.length ≤ 200) : opn (cat8 l ++ t) = (l ++ (opn t).1, (cat8 l).length + (opn t).2) := by
  induction l with
  | nil => simp [cat8]
  | cons r l ih =>
    have := ih fun x hx => hl x (List.mem_cons_of_mem _ hx)
    have e : cat8 (r :: l) ++ t = rec8 r ++ (cat8 l ++ t) := by simp [cat8]
    rw [e, opn_rec r _ (hl r (by simp)), this]
    simp [cat8, rec8_len, Nat.add_assoc]
/-- a part of a record is none -/
theorem opn_part (r : By) (hr : r.length ≤ 200) (k : Nat) (hk : k < (rec8 r).length) : opn ((rec8 r).take k) = ([], 0) := by
  rw [rec8_len] at hk
  have hlen : ((rec8 r).take k).length = k := by rw [List.length_take, rec8_len]; omega
  refine opn_stop _ ?_
  by_cases h3 : k < 3
  · exact .inl (by omega)
  · refine .inr (.inr (.inl ?_))
    have hh := hdr_rec r [] hr
    rw [List.append_nil] at hh
    have : hdr ((rec8 r).take k) = hdr (rec8 r) := by
      unfold hdr
      rw [List.getElem?_take, List.getElem?_take, if_pos (by omega), if_pos (by omega)]
    rw [this, hh, hlen]; omega
/-- what lasts of records -/
theorem opn_cut : ∀ (l : List By) (k : Nat), (∀ r ∈ l, r.length ≤ 200) → ∃ j, j ≤ l.length ∧ (opn ((cat8 l).take k)).1 = l.take j ∧ (opn ((cat8 l).take k)).2 = (cat8 (l.take j)).length
  | [], k, _ => ⟨0, Nat.le_refl _, by simp [cat8]; rw [opn_stop _ (.inl (by simp))], by simp [cat8]; rw [opn_stop _ (.inl (by simp))]⟩
  | r :: l, k, h => by
    have hr := h r (by simp)
    have e : cat8 (r :: l) = rec8 r ++ cat8 l := by simp [cat8]
    rw [e]
    rcases Nat.lt_or_ge k (rec8 r).length with hk | hk
    · rw [List.take_append_of_le_length (by omega), opn_part r hr k hk]
      exact ⟨0, Nat.zero_le _, by simp, by simp [cat8]⟩
    · obtain ⟨j, h1, h2, h3⟩ := opn_cut l (k - (rec8 r).length) (fun x hx => h x (List.mem_cons_of_mem _ hx))
      rw [List.take_append, List.take_of_length_le hk, opn_rec r _ hr]
      refine ⟨j + 1, by simp; omega, by simp [h2], ?_⟩
      show r.length + 3 + _ = _
      rw [h3]
      simp [cat8, rec8_len]

/-! as data -/
def lg (a b : By) : List D := [.slice .frozen a.length (bs a), .slice .frozen b.length (bs b)]
def rcs (l : List By) : List D := l.map fun r => .slice .frozen r.length (bs r)
theorem rcs_len (l : List By) : (rcs l).length = l.length := by simp [rcs]
theorem bs_app (a b : By) : bs (a ++ b) = bs a ++ bs b := by simp [bs]
theorem bs_take (a : By) (k : Nat) : (bs a).take k = bs (a.take k) := by simp [bs, List.map_take]
theorem bs_drop (a : By) (k : Nat) : (bs a).drop k = bs (a.drop k) := by simp [bs, List.map_drop]
end Go.Proofs.Ytokijcdanegooaa
