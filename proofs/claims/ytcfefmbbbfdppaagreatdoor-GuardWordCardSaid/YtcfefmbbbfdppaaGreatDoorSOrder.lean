/- A region that draws its order of evaluation, by an invariant: what holds of the frame and the world whatever part of the operations has been carried out. Of any program. No conditions. -/
import Derived.Test.YtcfefmbbbfdppaaGreatDoorSKit
namespace Go.Proofs.YtcfefmbbbfdppaaGreatDoor
open Go.RowKit
set_option linter.unusedVariables false
section
variable {P : Program} {ops : Array Oper} {Q : Exit → Act → World → Prop}
def left (n : Nat) (listed : Array Bool) : Nat := ((List.range n).filter fun j => !listed.getD j true).length
theorem left_lt (n i : Nat) (listed : Array Bool) (hi : i < n) (hs : listed.size = n) (hl : listed.getD i true = false) : left n (listed.setIfInBounds i true) < left n listed := by
  unfold left
  have e : (List.range n).filter (fun j => !(listed.setIfInBounds i true).getD j true) = ((List.range n).filter fun j => !listed.getD j true).filter (fun j => j != i) := by
    rw [List.filter_filter]
    congr 1
    funext j
    by_cases hj : j = i
    · subst hj; simp [Array.getD_eq_getD_getElem?, hs, hi]
    · have : ¬ i = j := fun h => hj h.symm
      simp [Array.getD_eq_getD_getElem?, this, hj]
  rw [e, List.length_filter_lt_length_iff_exists]
  rw [Array.getD_eq_getD_getElem?] at hl
  exact ⟨i, by simp [hi, hl], by simp⟩
theorem wpAny_inv (I : (Nat → Bool) → Act → World → Prop)
    (hac : ∀ i o, ops[i]? = some o → ∀ e ∈ o.after.toList, Region.binds .any e = true → e.on < i)
    (hstep : ∀ i o, ops[i]? = some o → ∀ done a w, I done a w → done i = false → (∀ e ∈ o.after.toList, Region.binds .any e = true → done e.on = true) → wpOp P ops Q i (I fun j => done j || j == i) a w)
    (hend : ∀ done a w, I done a w → (∀ i, i < ops.size → done i = true) → Q .normal a w) :
    ∀ (fuel : Nat) (listed : Array Bool) (a : Act) (w : World), listed.size = ops.size → left ops.size listed ≤ fuel → I (fun j => listed.getD j true) a w → wpAny P .any ops Q fuel listed a w := by
  have hall : ∀ (listed : Array Bool), listed.size = ops.size → Region.ready .any ops listed = [] → ∀ i, i < ops.size → listed.getD i true = true := by
    intro listed hs hr i
    induction i using Nat.strongRecOn with
    | _ i ih =>
      intro hi
      cases hl : listed.getD i true with
      | true => rfl
      | false =>
        exfalso
        have hmem : i ∈ Region.ready .any ops listed := by
          unfold Region.ready
          rw [List.mem_filter]
          refine ⟨List.mem_range.2 hi, ?_⟩
          have ho : ops[i]? = some ops[i] := Array.getElem?_eq_getElem hi
          rw [hl, ho]
          simp only [Bool.not_false, Bool.true_and, Option.map_some, Option.getD_some]
          rw [Array.all_eq_true']
          intro e he
          cases hb : Region.binds .any e with
          | false => rfl
          | true =>
            have hlt := hac i _ ho e (by simpa using he) hb
            have := ih e.on hlt (by omega)
            have h2 : listed.getD e.on false = true := by
              rw [Array.getD_eq_getD_getElem?] at this ⊢
              rw [Array.getElem?_eq_getElem (by omega)] at this ⊢
              simpa using this
            simp [h2]
        rw [hr] at hmem
        cases hmem
  intro fuel
  induction fuel with
  | zero =>
    intro listed a w hs hf hI
    have h0 : ∀ i, i < ops.size → listed.getD i true = true := by
      intro i hi
      cases hl : listed.getD i true with
      | true => rfl
      | false => have := left_lt ops.size i listed hi hs hl; omega
    refine ⟨?_, hend _ a w hI h0⟩
    unfold Region.ready
    rw [List.filter_eq_nil_iff]
    intro i hi
    simp [h0 i (List.mem_range.1 hi)]
  | succ fuel ih =>
    intro listed a w hs hf hI
    refine ⟨fun hr => hend _ a w hI (hall listed hs hr), fun i hi => ?_⟩
    unfold Region.ready at hi
    rw [List.mem_filter] at hi
    obtain ⟨hi1, hi2⟩ := hi
    have hin := List.mem_range.1 hi1
    have ho : ops[i]? = some ops[i] := Array.getElem?_eq_getElem hin
    rw [ho] at hi2
    simp only [Option.map_some, Option.getD_some, Bool.and_eq_true, Bool.not_eq_eq_eq_not, Bool.not_true] at hi2
    obtain ⟨hl, hp⟩ := hi2
    rw [Array.all_eq_true'] at hp
    have hstep' := hstep i _ ho (fun j => listed.getD j true) a w hI hl (fun e he hb => by
      have := hp e (by simpa using he)
      rw [hb] at this
      simp only [Bool.not_true, Bool.false_or] at this
      have hlt := hac i _ ho e he hb
      rw [Array.getD_eq_getD_getElem?] at this ⊢
      rw [Array.getElem?_eq_getElem (by omega)] at this ⊢
      simpa using this)
    refine wpOp_mono (fun a' w' hI' => ih _ a' w' (by simpa using hs) ?_ ?_) hstep'
    · have := left_lt ops.size i listed hin hs hl; omega
    · have e : (fun j => (listed.setIfInBounds i true).getD j true) = fun j => listed.getD j true || j == i := by
        funext j
        by_cases hj : j = i
        · subst hj; simp [Array.getD_eq_getD_getElem?, hs, hin]
        · have : ¬ i = j := fun h => hj h.symm
          simp [Array.getD_eq_getD_getElem?, this, hj]
      rw [e]; exact hI'
theorem wp_region_inv {id : Nat} {a : Act} {w : World} (hm : P.follows .mixedOrders = true) (I : (Nat → Bool) → Act → World → Prop)
    (hac : ∀ i o, ops[i]? = some o → ∀ e ∈ o.after.toList, Region.binds .any e = true → e.on < i)
    (h0 : I (fun j => decide (ops.size ≤ j)) a { w with drawn := w.drawn + 1 })
    (hstep : ∀ i o, ops[i]? = some o → ∀ done a w, I done a w → done i = false → (∀ e ∈ o.after.toList, Region.binds .any e = true → done e.on = true) → wpOp P ops Q i (I fun j => done j || j == i) a w)
    (hend : ∀ done a w, I done a w → (∀ i, i < ops.size → done i = true) → Q .normal a w) : (Code.region id ops true).wp P Q a w := by
  refine wp_region_any hm (wpAny_inv I hac hstep hend ops.size _ a _ (by simp) ?_ ?_)
  · unfold left; exact Nat.le_trans (List.length_filter_le _ _) (by simp)
  · have e : (fun j => (Array.replicate ops.size false).getD j true) = fun j => decide (ops.size ≤ j) := by
      funext j
      rw [Array.getD_eq_getD_getElem?, Array.getElem?_replicate]
      by_cases h : j < ops.size
      · simp [h]
      · simp [h]; omega
    rw [e]; exact h0
abbrev Kind := Sum Value (Sum (TypeId × Array Value) (Nat × Array Value))
def gives (g : Nat) : Kind → Value
  | .inl v => v
  | .inr (.inl _) => .pointer (some ⟨g, 0, none⟩)
  | .inr (.inr _) => undef
def frame (g : Nat → Nat) : List Oper → List Kind → Nat → Act → Act
  | o :: os, k :: ks, i, a => frame g os ks (i + 1) (a.put o.dst (gives (g i) k))
  | _, _, _, a => a
theorem put_size (a : Act) (d : Option Tmp) (v : Value) : (a.put d v).tmps.size = a.tmps.size := by cases d <;> simp [Act.put]
theorem put_defers (a : Act) (d : Option Tmp) (v : Value) : (a.put d v).defers = a.defers := by cases d <;> simp [Act.put]
theorem put_other (a : Act) (d : Option Tmp) (v : Value) (t : Tmp) (h : d ≠ some t) : (a.put d v).tmps[t]? = a.tmps[t]? := by
  cases d with
  | none => rfl
  | some d =>
    have : ¬ d = t := fun e => h (by rw [e])
    simp [Act.put, this]
theorem put_same (a : Act) (v : Value) (t : Tmp) (h : t < a.tmps.size) : (a.put (some t) v).tmps[t]? = some v := by
  simp [Act.put, h]
theorem frame_size (g : Nat → Nat) : ∀ (os : List Oper) (ks : List Kind) (i : Nat) (a : Act), (frame g os ks i a).tmps.size = a.tmps.size
  | [], _, _, _ => rfl
  | _ :: _, [], _, _ => rfl
  | o :: os, k :: ks, i, a => by rw [frame, frame_size, put_size]
theorem frame_defers (g : Nat → Nat) : ∀ (os : List Oper) (ks : List Kind) (i : Nat) (a : Act), (frame g os ks i a).defers = a.defers
  | [], _, _, _ => rfl
  | _ :: _, [], _, _ => rfl
  | o :: os, k :: ks, i, a => by rw [frame, frame_defers, put_defers]
theorem frame_other (g : Nat → Nat) (t : Tmp) : ∀ (os : List Oper) (ks : List Kind) (i : Nat) (a : Act), (∀ o ∈ os, o.dst ≠ some t) → (frame g os ks i a).tmps[t]? = a.tmps[t]?
  | [], _, _, _, _ => rfl
  | _ :: _, [], _, _, _ => rfl
  | o :: os, k :: ks, i, a, h => by
    rw [frame, frame_other g t os ks _ _ (fun o ho => h o (by simp [ho])), put_other _ _ _ _ (h o (by simp))]
theorem frame_at (g : Nat → Nat) (t : Tmp) : ∀ (os : List Oper) (ks : List Kind) (i : Nat) (a : Act) (j : Nat) (o : Oper) (k : Kind), os.length = ks.length → (os.filterMap (·.dst)).Nodup → os[j]? = some o → ks[j]? = some k → o.dst = some t → t < a.tmps.size →
    (frame g os ks i a).tmps[t]? = some (gives (g (i + j)) k)
  | [], _, _, _, _, _, _, _, _, ho, _, _, _ => by simp at ho
  | _ :: _, [], _, _, _, _, _, hl, _, _, _, _, _ => by simp at hl
  | o0 :: os, k0 :: ks, i, a, j, o, k, hl, hd, ho, hk, ht, hs => by
    rw [frame]
    cases j with
    | zero =>
      simp only [List.getElem?_cons_zero, Option.some.injEq] at ho hk
      subst ho; subst hk
      rw [frame_other, ht, put_same _ _ _ hs]
      · rfl
      · intro o' ho' he
        have hd' : (t :: os.filterMap (·.dst)).Nodup := by simpa [List.filterMap_cons, ht] using hd
        exact (List.nodup_cons.1 hd').1 (List.mem_filterMap.2 ⟨o', ho', he⟩)
    | succ j =>
      simp only [List.getElem?_cons_succ] at ho hk
      have := frame_at g t os ks (i + 1) (a.put o0.dst (gives (g i) k0)) j o k (by simpa using hl)
        (by
          rw [List.filterMap_cons] at hd
          split at hd
          · exact hd
          · exact (List.nodup_cons.1 hd).2) ho hk ht (by rw [put_size]; exact hs)
      rw [this]; congr 2; congr 1; omega
theorem wpOp_plain {i : Nat} {o : Oper} {a : Act} {w : World} {K : Act → World → Prop} (ho : ops[i]? = some o) (hg : o.guard = none) (h : o.wp P a w K Q) : wpOp P ops Q i K a w := by
  unfold wpOp
  simp only [ho]
  rw [if_pos (by simp [Region.wanted, hg])]
  exact .inl h
theorem region_pure {id : Nat} {a0 : Act} {w0 : World} (hm : P.follows .mixedOrders = true) (K : List Kind) (hlen : K.length = ops.size)
    (hg : ∀ o ∈ ops.toList, o.guard = none) (hac : ∀ (i : Nat) (o : Oper), ops[i]? = some o → ∀ e ∈ o.after.toList, Region.binds .any e = true → e.on < i)
    (hnd : (ops.toList.filterMap (·.dst)).Nodup) (hsz : ∀ o ∈ ops.toList, ∀ t, o.dst = some t → t < a0.tmps.size)
    (hval : ∀ (i : Nat) (o : Oper) (v : Value), ops[i]? = some o → K[i]? = some (.inl v) → ∀ (a : Act) (w : World) (Kc : Act → World → Prop), New w0 w →
      (∀ t, (∀ o' ∈ ops.toList, o'.dst ≠ some t) → a.eval (.tmp t) = a0.eval (.tmp t)) →
      (∀ e ∈ o.after.toList, Region.binds .any e = true → ∀ (o' : Oper) (v' : Value) (t : Tmp), ops[e.on]? = some o' → o'.dst = some t → K[e.on]? = some (.inl v') → a.eval (.tmp t) = v') →
      (∀ w', New w w' → Kc (a.put o.dst v) w') → o.wp P a w Kc Q)
    (hbox : ∀ (i : Nat) (o : Oper) (T : TypeId) (z : Array Value), ops[i]? = some o → K[i]? = some (.inr (.inl (T, z))) → ∀ (a : Act) (w : World) (Kc : Act → World → Prop),
      Kc (a.put o.dst (.pointer (some ⟨w.heap.size, 0, none⟩))) (w.alloc (.cells z T)) → o.wp P a w Kc Q)
    (hput : ∀ (i : Nat) (o : Oper) (j : Nat) (cs : Array Value), ops[i]? = some o → K[i]? = some (.inr (.inr (j, cs))) → o.dst = none ∧ (∀ (i' : Nat) (cs' : Array Value), K[i']? = some (.inr (.inr (j, cs'))) → i' = i) ∧ ∃ (T : TypeId) (z : Array Value) (t : Tmp) (oj : Oper), K[j]? = some (.inr (.inl (T, z))) ∧ ops[j]? = some oj ∧ oj.dst = some t ∧
      (∃ e ∈ o.after.toList, Region.binds .any e = true ∧ e.on = j) ∧ ∀ (a : Act) (w : World) (Kc : Act → World → Prop) (g : Nat), a.eval (.tmp t) = .pointer (some ⟨g, 0, none⟩) → w.heap[g]? = some (.cells z T (0, 0)) →
        (∀ t, (∀ o' ∈ ops.toList, o'.dst ≠ some t) → a.eval (.tmp t) = a0.eval (.tmp t)) →
        (∀ e ∈ o.after.toList, Region.binds .any e = true → ∀ (o' : Oper) (v' : Value) (t : Tmp), ops[e.on]? = some o' → o'.dst = some t → K[e.on]? = some (.inl v') → a.eval (.tmp t) = v') →
        (∀ w', w.grownBy w' (some g) → w'.heap[g]? = some (.cells cs T (0, 0)) → Kc (a.put o.dst undef) w') → o.wp P a w Kc Q)
    (hend : ∀ (g : Nat → Nat) (w' : World), New w0 w' → (∀ (j : Nat) (T : TypeId) (z : Array Value) (i : Nat) (cs : Array Value), K[j]? = some (.inr (.inl (T, z))) → K[i]? = some (.inr (.inr (j, cs))) → w0.heap.size ≤ g j ∧ w'.heap[g j]? = some (.cells cs T (0, 0))) →
      (∀ (j j' : Nat) (T : TypeId) (z : Array Value) (T' : TypeId) (z' : Array Value), K[j]? = some (.inr (.inl (T, z))) → K[j']? = some (.inr (.inl (T', z'))) → j ≠ j' → g j ≠ g j') → Q .normal (frame g ops.toList K 0 a0) w') :
    (Code.region id ops true).wp P Q a0 w0 := by
  have hsame : ∀ (i i' : Nat) (o o' : Oper) (t : Tmp), ops[i]? = some o → ops[i']? = some o' → o.dst = some t → o'.dst = some t → i = i' := by
    intro i i' o o' t ho ho' ht ht'
    have key : ∀ (l : List Oper), (l.filterMap (·.dst)).Nodup → ∀ (i i' : Nat), l[i]? = some o → l[i']? = some o' → i = i' := by
      intro l
      induction l with
      | nil => intro _ i i' h; simp at h
      | cons x l ih =>
        intro hn i i' h h'
        have htail : (l.filterMap (·.dst)).Nodup := by
          rw [List.filterMap_cons] at hn
          split at hn
          · exact hn
          · exact (List.nodup_cons.1 hn).2
        have clash : ∀ (y : Oper), x.dst = some t → y ∈ l → y.dst = some t → False := by
          intro y hx hy hyt
          rw [List.filterMap_cons, hx] at hn
          exact (List.nodup_cons.1 hn).1 (List.mem_filterMap.2 ⟨y, hy, hyt⟩)
        cases i with
        | zero =>
          cases i' with
          | zero => rfl
          | succ i' =>
            simp only [List.getElem?_cons_zero, Option.some.injEq, List.getElem?_cons_succ] at h h'
            subst h
            exact (clash o' ht (List.mem_of_getElem? h') ht').elim
        | succ i =>
          cases i' with
          | zero =>
            simp only [List.getElem?_cons_zero, Option.some.injEq, List.getElem?_cons_succ] at h h'
            subst h'
            exact (clash o ht' (List.mem_of_getElem? h) ht).elim
          | succ i' =>
            simp only [List.getElem?_cons_succ] at h h'
            rw [ih htail i i' h h']
    exact key ops.toList hnd i i' (by simpa using ho) (by simpa using ho')
  have hmem : ∀ (i : Nat) (o : Oper), ops[i]? = some o → o ∈ ops.toList := fun i o h => by
    have : ops.toList[i]? = some o := by simpa using h
    exact List.mem_of_getElem? this
  have hltK : ∀ (i : Nat) (k : Kind), K[i]? = some k → i < ops.size := fun i k h => by
    have := (List.getElem?_eq_some_iff.1 h).1; omega
  refine wp_region_inv hm (fun done a w => ∃ g : Nat → Nat, New w0 w ∧ a.defers = a0.defers ∧ a.tmps.size = a0.tmps.size ∧
    (∀ (t : Tmp), (∀ (i : Nat) (o : Oper), ops[i]? = some o → done i = true → o.dst ≠ some t) → a.tmps[t]? = a0.tmps[t]?) ∧
    (∀ (i : Nat) (o : Oper) (k : Kind) (t : Tmp), ops[i]? = some o → K[i]? = some k → done i = true → o.dst = some t → a.tmps[t]? = some (gives (g i) k)) ∧
    (∀ (j : Nat) (T : TypeId) (z : Array Value), K[j]? = some (.inr (.inl (T, z))) → done j = true → w0.heap.size ≤ g j ∧ ∃ c, w.heap[g j]? = some (.cells c T (0, 0)) ∧
      ((∃ (i : Nat) (cs : Array Value), K[i]? = some (.inr (.inr (j, cs))) ∧ done i = true ∧ c = cs) ∨ ((∀ (i : Nat) (cs : Array Value), K[i]? = some (.inr (.inr (j, cs))) → done i = false) ∧ c = z))) ∧
    (∀ (j j' : Nat) (T : TypeId) (z : Array Value) (T' : TypeId) (z' : Array Value), K[j]? = some (.inr (.inl (T, z))) → K[j']? = some (.inr (.inl (T', z'))) → done j = true → done j' = true → j ≠ j' → g j ≠ g j') ∧
    (∀ (i j : Nat) (cs : Array Value), K[i]? = some (.inr (.inr (j, cs))) → done i = true → done j = true)) hac ?_ ?_ ?_
  · refine ⟨fun _ => 0, new_drew (new_refl w0), rfl, rfl, fun t _ => rfl, ?_, ?_, ?_, ?_⟩
    · intro i o k t ho _ hd; have := (Array.getElem?_eq_some_iff.1 ho).1; simp at hd; omega
    · intro j T z hK hd; have := hltK j _ hK; simp at hd; omega
    · intro j j' T z T' z' hK _ hd; have := hltK j _ hK; simp at hd; omega
    · intro i j cs hK hd; have := hltK i _ hK; simp at hd; omega
  · rintro i o ho done a w ⟨g, hN, hdf, hs, hA, hB, hC, hD, hE⟩ hdone haft
    have hil : i < ops.size := (Array.getElem?_eq_some_iff.1 ho).1
    have hk : K[i]? = some (K[i]'(by omega)) := List.getElem?_eq_getElem (by omega)
    have ev0 : ∀ t, (∀ o' ∈ ops.toList, o'.dst ≠ some t) → a.eval (.tmp t) = a0.eval (.tmp t) := by
      intro t ht
      have := hA t (fun i' o' ho' _ => ht o' (hmem i' o' ho'))
      simp only [Act.eval, Array.getD_eq_getD_getElem?, this]
    have ev1 : ∀ e ∈ o.after.toList, Region.binds .any e = true → ∀ (o' : Oper) (k' : Kind) (t : Tmp), ops[e.on]? = some o' → o'.dst = some t → K[e.on]? = some k' → a.eval (.tmp t) = gives (g e.on) k' := by
      intro e he hb o' k' t ho' ht hk'
      have := hB e.on o' k' t ho' hk' (haft e he hb) ht
      simp only [Act.eval, Array.getD_eq_getD_getElem?, this, Option.getD_some]
    have ev2 : ∀ e ∈ o.after.toList, Region.binds .any e = true → ∀ (o' : Oper) (v' : Value) (t : Tmp), ops[e.on]? = some o' → o'.dst = some t → K[e.on]? = some (.inl v') → a.eval (.tmp t) = v' :=
      fun e he hb o' v' t ho' ht hk' => ev1 e he hb o' _ t ho' ht hk'
    have frA : ∀ (v : Value) (t : Tmp), (∀ (i' : Nat) (o' : Oper), ops[i']? = some o' → (done i' || i' == i) = true → o'.dst ≠ some t) → (a.put o.dst v).tmps[t]? = a0.tmps[t]? := by
      intro v t ht
      rw [put_other _ _ _ _ (ht i o ho (by simp))]
      exact hA t (fun i' o' ho' hd => ht i' o' ho' (by simp [hd]))
    have frB : ∀ (v : Value) (g' : Nat → Nat), (∀ j, done j = true → g' j = g j) → (∀ t, o.dst = some t → v = gives (g' i) (K[i]'(by omega))) → ∀ (i' : Nat) (o' : Oper) (k' : Kind) (t : Tmp), ops[i']? = some o' → K[i']? = some k' → (done i' || i' == i) = true → o'.dst = some t → (a.put o.dst v).tmps[t]? = some (gives (g' i') k') := by
      intro v g' hg' hv i' o' k' t ho' hk' hd ht
      by_cases hi : i' = i
      · subst hi
        rw [ho] at ho'; cases ho'
        rw [hk] at hk'; cases hk'
        rw [ht, put_same _ _ _ (by rw [hs]; exact hsz o (hmem _ _ ho) t ht), hv t ht]
      · have hd' : done i' = true := by simpa [hi] using hd
        rw [put_other _ _ _ _ (fun h => hi (hsame i' i o' o t ho' ho ht h)), hg' i' hd']
        exact hB i' o' k' t ho' hk' hd' ht
    refine wpOp_plain ho (hg o (hmem i o ho)) ?_
    cases hki : K[i]'(by omega) with
    | inl v =>
      rw [hki] at hk
      refine hval i o v ho hk a w _ hN ev0 ev2 fun w' hw' => ?_
      refine ⟨g, new_trans hN hw', by rw [put_defers]; exact hdf, by rw [put_size]; exact hs, frA v, frB v g (fun _ _ => rfl) (fun _ _ => by rw [hki]; rfl), ?_, ?_, ?_⟩
      · intro j T z hK hd
        have hj : j ≠ i := by rintro rfl; rw [hk] at hK; cases hK
        have hd' : done j = true := by simpa [hj] using hd
        obtain ⟨h1, c, h2, h3⟩ := hC j T z hK hd'
        refine ⟨h1, c, ?_, ?_⟩
        · rw [hw'.block _ (by rcases Nat.lt_or_ge (g j) w.heap.size with h | h; exact h; rw [Array.getElem?_eq_none h] at h2; cases h2)]; exact h2
        · rcases h3 with ⟨i', cs, hp, hdi, hc⟩ | ⟨hn, hc⟩
          · exact .inl ⟨i', cs, hp, by simp [hdi], hc⟩
          · refine .inr ⟨fun i' cs hp => ?_, hc⟩
            have : i' ≠ i := by rintro rfl; rw [hk] at hp; cases hp
            simp [hn i' cs hp, this]
      · intro j j' T z T' z' hK hK' hd hd' hne
        have hj : j ≠ i := by rintro rfl; rw [hk] at hK; cases hK
        have hj' : j' ≠ i := by rintro rfl; rw [hk] at hK'; cases hK'
        exact hD j j' T z T' z' hK hK' (by simpa [hj] using hd) (by simpa [hj'] using hd') hne
      · intro i' j' cs' hp hd
        have hi' : i' ≠ i := by rintro rfl; rw [hk] at hp; cases hp
        simp [hE i' j' cs' hp (by simpa [hi'] using hd)]
    | inr kk =>
     cases kk with
     | inl Tz =>
      obtain ⟨T, z⟩ := Tz
      rw [hki] at hk
      refine hbox i o T z ho hk a w _ ?_
      refine ⟨fun j => if j = i then w.heap.size else g j, new_alloc hN _, by rw [put_defers]; exact hdf, by rw [put_size]; exact hs, frA _,
        frB _ _ (fun j hj => by have : j ≠ i := by { rintro rfl; rw [hj] at hdone; cases hdone }; simp [this]) (fun _ _ => by rw [hki]; simp [gives]), ?_, ?_, ?_⟩
      · intro j T' z' hK hd
        by_cases hj : j = i
        · subst hj
          rw [hk] at hK; cases hK
          refine ⟨by simpa using hN.size, z, by simp only [if_true]; exact heap_alloc_new w _, ?_⟩
          refine .inr ⟨fun i' cs hp => ?_, rfl⟩
          have hi' : i' ≠ j := by rintro rfl; rw [hk] at hp; cases hp
          cases hd2 : done i' with
          | false => simp [hi', hd2]
          | true =>
            exfalso
            have := hE i' j cs hp hd2
            rw [this] at hdone; cases hdone
        · have hd' : done j = true := by simpa [hj] using hd
          obtain ⟨h1, c, h2, h3⟩ := hC j T' z' hK hd'
          simp only [hj, if_false]
          refine ⟨h1, c, ?_, ?_⟩
          · rw [Below.heap_alloc _ _ _ (by rcases Nat.lt_or_ge (g j) w.heap.size with h | h; exact h; rw [Array.getElem?_eq_none h] at h2; cases h2)]; exact h2
          · rcases h3 with ⟨i', cs, hp, hdi, hc⟩ | ⟨hn, hc⟩
            · exact .inl ⟨i', cs, hp, by simp [hdi], hc⟩
            · refine .inr ⟨fun i' cs hp => ?_, hc⟩
              have : i' ≠ i := by rintro rfl; rw [hk] at hp; cases hp
              simp [hn i' cs hp, this]
      · intro j j' T1 z1 T2 z2 hK hK' hd hd' hne
        have lt : ∀ (j : Nat) (T : TypeId) (z : Array Value), K[j]? = some (.inr (.inl (T, z))) → done j = true → g j < w.heap.size := by
          intro j T z hK hd
          obtain ⟨_, c, h2, _⟩ := hC j T z hK hd
          rcases Nat.lt_or_ge (g j) w.heap.size with h | h
          · exact h
          · rw [Array.getElem?_eq_none h] at h2; cases h2
        by_cases hj : j = i
        · have hj' : j' ≠ i := fun h => hne (by rw [hj, h])
          have := lt j' _ _ hK' (by simpa [hj'] using hd')
          simp only [hj, hj', if_true, if_false]; omega
        · by_cases hj' : j' = i
          · have := lt j _ _ hK (by simpa [hj] using hd)
            simp only [hj, hj', if_true, if_false]; omega
          · simp only [hj, hj', if_false]
            exact hD j j' _ _ _ _ hK hK' (by simpa [hj] using hd) (by simpa [hj'] using hd') hne
      · intro i' j' cs' hp hd
        have hi' : i' ≠ i := by rintro rfl; rw [hk] at hp; cases hp
        simp [hE i' j' cs' hp (by simpa [hi'] using hd)]
     | inr jcs =>
      obtain ⟨j, cs⟩ := jcs
      rw [hki] at hk
      obtain ⟨hdst, huni, T, z, t, oj, hbj, hoj, htj, ⟨e, he, hb, hon⟩, hp⟩ := hput i o j cs ho hk
      have hdj : done j = true := by rw [← hon]; exact haft e he hb
      obtain ⟨h1, c, h2, h3⟩ := hC j T z hbj hdj
      have hcz : c = z := by
        rcases h3 with ⟨i', cs', hp', hdi, _⟩ | ⟨_, hc⟩
        · rw [huni i' cs' hp'] at hdi; rw [hdi] at hdone; cases hdone
        · exact hc
      subst hcz
      have hev : a.eval (.tmp t) = .pointer (some ⟨g j, 0, none⟩) := by
        have := ev1 e he hb oj (.inr (.inl (T, c))) t (by rw [hon]; exact hoj) htj (by rw [hon]; exact hbj)
        rw [hon] at this; exact this
      refine hp a w _ (g j) hev h2 ev0 ev2 fun w' hw' hc' => ?_
      refine ⟨g, ?_, by rw [put_defers]; exact hdf, by rw [put_size]; exact hs, frA undef, frB undef g (fun _ _ => rfl) (fun _ h => by rw [hdst] at h; cases h), ?_, ?_, ?_⟩
      · exact ⟨hw'.os.trans hN.os, hw'.tape.trans hN.tape, hw'.output.trans hN.output, Nat.le_trans hN.size hw'.size, fun k hk => (hw'.block k (Nat.lt_of_lt_of_le hk hN.size) (fun h => by cases h; omega)).trans (hN.block k hk)⟩
      · intro j2 T2 z2 hK hd
        by_cases hj : j2 = j
        · subst hj
          rw [hbj] at hK; cases hK
          exact ⟨h1, cs, hc', .inl ⟨i, cs, hk, by simp, rfl⟩⟩
        · have hji : j2 ≠ i := by rintro rfl; rw [hk] at hK; cases hK
          have hd' : done j2 = true := by simpa [hji] using hd
          obtain ⟨h1', c', h2', h3'⟩ := hC j2 T2 z2 hK hd'
          have hne := hD j2 j T2 z2 T c hK hbj hd' hdj hj
          refine ⟨h1', c', ?_, ?_⟩
          · rw [hw'.block _ (by rcases Nat.lt_or_ge (g j2) w.heap.size with h | h; exact h; rw [Array.getElem?_eq_none h] at h2'; cases h2') (fun h => hne (by injection h))]; exact h2'
          · rcases h3' with ⟨i', cs', hp', hdi, hc⟩ | ⟨hn, hc⟩
            · exact .inl ⟨i', cs', hp', by simp [hdi], hc⟩
            · refine .inr ⟨fun i' cs' hp' => ?_, hc⟩
              have : i' ≠ i := by rintro rfl; rw [hk] at hp'; cases hp'; exact hj rfl
              simp [hn i' cs' hp', this]
      · intro j1 j2 T1 z1 T2 z2 hK hK' hd hd' hne
        have hj1 : j1 ≠ i := by rintro rfl; rw [hk] at hK; cases hK
        have hj2 : j2 ≠ i := by rintro rfl; rw [hk] at hK'; cases hK'
        exact hD j1 j2 _ _ _ _ hK hK' (by simpa [hj1] using hd) (by simpa [hj2] using hd') hne
      · intro i' j' cs' hp' hd
        by_cases hi' : i' = i
        · subst hi'
          rw [hk] at hp'; cases hp'
          simp [hdj]
        · simp [hE i' j' cs' hp' (by simpa [hi'] using hd)]
  · rintro done a w ⟨g, hN, hdf, hs, hA, hB, hC, hD, _⟩ hall
    have ea : a = frame g ops.toList K 0 a0 := by
      have e1 : a.tmps = (frame g ops.toList K 0 a0).tmps := by
        apply Array.ext_getElem?
        intro t
        by_cases ht : ∃ (i : Nat) (o : Oper), ops[i]? = some o ∧ o.dst = some t
        · obtain ⟨i, o, ho, hot⟩ := ht
          have hil : i < ops.size := (Array.getElem?_eq_some_iff.1 ho).1
          have hk : K[i]? = some (K[i]'(by omega)) := List.getElem?_eq_getElem (by omega)
          rw [hB i o _ t ho hk (hall i hil) hot]
          have := frame_at g t ops.toList K 0 a0 i o _ (by simp [hlen]) hnd (by simpa using ho) hk hot (hsz o (hmem i o ho) t hot)
          rw [this, Nat.zero_add]
        · rw [hA t (fun i o ho _ h => ht ⟨i, o, ho, h⟩), frame_other]
          intro o ho h
          obtain ⟨i, hi⟩ := List.getElem?_of_mem ho
          exact ht ⟨i, o, by simpa using hi, h⟩
      have e2 : a.defers = (frame g ops.toList K 0 a0).defers := by rw [frame_defers]; exact hdf
      cases a; cases hfr : frame g ops.toList K 0 a0; rw [hfr] at e1 e2; simp only at e1 e2; rw [e1, e2]
    rw [ea]
    refine hend g w hN ?_ ?_
    · intro j T z i cs hK hp
      obtain ⟨h1, c, h2, h3⟩ := hC j T z hK (hall j (hltK j _ hK))
      refine ⟨h1, ?_⟩
      rcases h3 with ⟨i', cs', hp', _, hc⟩ | ⟨hn, _⟩
      · have hil := hltK i _ hp
        have ho' : ops[i]? = some ops[i] := Array.getElem?_eq_getElem hil
        have := (hput i _ j cs ho' hp).2.1 i' cs' hp'
        subst this
        rw [hp] at hp'; cases hp'
        rw [hc] at h2; exact h2
      · have := hn i cs hp
        rw [hall i (hltK i _ hp)] at this; cases this
    · intro j j' T z T' z' hK hK' hne
      exact hD j j' T z T' z' hK hK' (hall j (hltK j _ hK)) (hall j' (hltK j' _ hK')) hne
end
end Go.Proofs.YtcfefmbbbfdppaaGreatDoor
