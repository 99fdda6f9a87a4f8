/- '==' of arrays of integers: true just if all elements are the same. No program in sight but its types. -/
import Derived.Test.YtcfefmbbbfdppaaGreatDoorSKit
namespace Go.Proofs.YtcfefmbbbfdppaaGreatDoor
open Go.RowKit
set_option linter.unusedVariables false
section
variable {P : Program}
theorem run_part_int (e : TypeId) (k : IntKind) (he : P.underlying e = some (.int k)) (xs : List Int) (j : Nat) (x : Int) (hx : xs[j]? = some x) (w : World) :
    (part e (xs.map (Value.int k)).toArray j).run P w = .ok (.int k x) w := by
  have h : (xs.map (Value.int k)).toArray[j]? = some (Value.int k x) := by simp [hx]
  simp [part, isAgg, run_underlying he, h]
theorem run_equalIn_ints (d : Nat) (t e : TypeId) (n : Nat) (k : IntKind) (ht : P.underlying t = some (.array n e)) (he : P.underlying e = some (.int k)) (i : TypeInfo) (hi : P.info? e = some i) (hs : i.size = 1)
    (xs ys : List Int) (hx : xs.length = n) (hy : ys.length = n) (w : World) :
    (Op.equalIn (d + 2) t (.agg (xs.map (Value.int k)).toArray) (.agg (ys.map (Value.int k)).toArray)).run P w = .ok (xs == ys) w := by
  rw [Op.equalIn]
  simp only [Sem.run_bind, run_underlying ht, Result.andThen_ok, sizeOf, typeInfo, hi, run_program, Sem.run_pure, hs]
  rw [Std.Legacy.Range.forIn_eq_forIn_range']
  simp only [Std.Legacy.Range.size, Nat.sub_zero, Nat.add_sub_cancel, Nat.div_one]
  have key : ∀ (m j : Nat), j + m = n → xs.take j = ys.take j →
      (Sem.run P
            (forIn (List.range' j m) ((none : Option Bool), ()) fun i __s => do
              let __do_lift ← part e (List.map (Value.int k) xs).toArray (i * 1)
              let __do_lift_1 ← part e (List.map (Value.int k) ys).toArray (i * 1)
              let __do_lift ← Op.equalIn (d + 1) e __do_lift __do_lift_1
              if (!__do_lift) = true then pure (ForInStep.done (some false, ())) else pure (ForInStep.yield ((none : Option Bool), ())))
            w) = .ok (if xs == ys then none else some false, ()) w := by
    intro m
    induction m with
    | zero =>
      intro j hj ht
      rw [List.take_of_length_le (by omega), List.take_of_length_le (by omega)] at ht
      simp [ht]
    | succ m ih =>
      intro j hj ht
      have hxj : xs[j]? = some (xs[j]'(by omega)) := List.getElem?_eq_getElem (by omega)
      have hyj : ys[j]? = some (ys[j]'(by omega)) := List.getElem?_eq_getElem (by omega)
      rw [List.range'_succ]
      simp only [List.forIn_cons, Sem.run_bind, Nat.mul_one, run_part_int e k he xs j _ hxj, run_part_int e k he ys j _ hyj, Result.andThen_ok, run_equalIn_int w d e k k _ _ he]
      by_cases h : xs[j]'(by omega) = ys[j]'(by omega)
      · simp only [h, beq_self_eq_true, Bool.not_true, Bool.false_eq_true, if_false, Sem.run_pure, Result.andThen_ok]
        have := ih (j + 1) (by omega) (by rw [List.take_add_one, List.take_add_one, ht, hxj, hyj, h])
        simpa using this
      · have hne : (xs == ys) = false := by
          rw [beq_eq_false_iff_ne]; rintro rfl; exact h rfl
        have h' : (xs[j]'(by omega) == ys[j]'(by omega)) = false := by simpa using h
        simp only [h', Bool.not_false, if_true, Sem.run_pure, Result.andThen_ok, hne, Bool.false_eq_true, if_false]
  have := key n 0 (by omega) (by simp)
  simp only [this, Result.andThen_ok]
  split <;> rename_i hh <;> simp_all
end
end Go.Proofs.YtcfefmbbbfdppaaGreatDoor
