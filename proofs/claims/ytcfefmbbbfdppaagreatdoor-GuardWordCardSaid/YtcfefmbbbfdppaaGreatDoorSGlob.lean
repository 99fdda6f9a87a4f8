/- The program's tables, as far as they are read: the block in which each lies, its type, its cells. No conditions. -/
import Derived.Test.YtcfefmbbbfdppaaGreatDoorSOrder
namespace Go.Proofs.YtcfefmbbbfdppaaGreatDoor
open Go.RowKit
set_option linter.unusedVariables false
section
variable {P : Program} {ops : Array Oper} {Q : Exit → Act → World → Prop}
def Old (ops : Array Oper) (a0 a : Act) : Prop := ∀ t : Tmp, (ops.toList.all fun o => o.dst != some t) = true → a.eval (.tmp t) = a0.eval (.tmp t)
def Pred (ops : Array Oper) (K : List Kind) (o : Oper) (a : Act) : Prop := ∀ (i : Nat) (t : Tmp) (v : Value), (o.after.toList.any fun e => Region.binds .any e && e.on == i) = true → (ops[i]?).bind (·.dst) = some t → K[i]? = some (.inl v) → a.eval (.tmp t) = v
def OpOk (P : Program) (ops : Array Oper) (K : List Kind) (Q : Exit → Act → World → Prop) (a0 : Act) (w0 : World) (o : Oper) : Kind → Prop
  | .inl v => ∀ (a : Act) (w : World) (Kc : Act → World → Prop), New w0 w → Old ops a0 a → Pred ops K o a → (∀ w', New w w' → Kc (a.put o.dst v) w') → o.wp P a w Kc Q
  | .inr (.inl (T, z)) => ∀ (a : Act) (w : World) (Kc : Act → World → Prop), Kc (a.put o.dst (.pointer (some ⟨w.heap.size, 0, none⟩))) (w.alloc (.cells z T)) → o.wp P a w Kc Q
  | .inr (.inr (j, cs)) => o.dst = none ∧ (o.after.toList.any fun e => Region.binds .any e && e.on == j) = true ∧ ∃ (T : TypeId) (z : Array Value) (t : Tmp), K[j]? = some (.inr (.inl (T, z))) ∧ (ops[j]?).bind (·.dst) = some t ∧
      ∀ (a : Act) (w : World) (Kc : Act → World → Prop) (g : Nat), a.eval (.tmp t) = .pointer (some ⟨g, 0, none⟩) → w.heap[g]? = some (.cells z T (0, 0)) → Old ops a0 a → Pred ops K o a →
        (∀ w', w.grownBy w' (some g) → w'.heap[g]? = some (.cells cs T (0, 0)) → Kc (a.put o.dst undef) w') → o.wp P a w Kc Q
def noDup : List Nat → Bool
  | [] => true
  | x :: xs => !xs.contains x && noDup xs
theorem noDup_nodup : ∀ {l : List Nat}, noDup l = true → l.Nodup
  | [], _ => List.nodup_nil
  | x :: xs, h => by
    simp only [noDup, Bool.and_eq_true] at h
    exact List.nodup_cons.2 ⟨by simpa using h.1, noDup_nodup h.2⟩
def puts (K : List Kind) : List Nat := K.filterMap fun | .inr (.inr (j, _)) => some j | _ => none
def opsOk (n : Nat) (l : List Oper) : Bool :=
  l.all (fun o => o.guard.isNone) && (l.zipIdx.all fun (o, i) => o.after.toList.all fun e => !Region.binds .any e || decide (e.on < i)) &&
  l.all (fun o => match o.dst with | some t => decide (t < n) | none => true) && decide (l.filterMap (·.dst)).Nodup
theorem puts_uni (j : Nat) : ∀ (K : List Kind), (puts K).Nodup → ∀ (i i' : Nat) (cs cs' : Array Value), K[i]? = some (.inr (.inr (j, cs))) → K[i']? = some (.inr (.inr (j, cs'))) → i' = i := by
  intro K
  induction K with
  | nil => intro _ i i' cs cs' h; simp at h
  | cons k K ih =>
    intro hn i i' cs cs' h h'
    have mem : ∀ (i : Nat) (cs : Array Value), K[i]? = some (.inr (.inr (j, cs))) → j ∈ puts K := fun i cs h => List.mem_filterMap.2 ⟨_, List.mem_of_getElem? h, rfl⟩
    cases i with
    | zero =>
      cases i' with
      | zero => rfl
      | succ i' =>
        simp only [List.getElem?_cons_zero, Option.some.injEq, List.getElem?_cons_succ] at h h'
        subst h
        exact absurd (mem i' cs' h') (List.nodup_cons.1 (by simpa [puts] using hn)).1
    | succ i =>
      cases i' with
      | zero =>
        simp only [List.getElem?_cons_zero, Option.some.injEq, List.getElem?_cons_succ] at h h'
        subst h'
        exact absurd (mem i cs h) (List.nodup_cons.1 (by simpa [puts] using hn)).1
      | succ i' =>
        simp only [List.getElem?_cons_succ] at h h'
        have ht : (puts K).Nodup := by
          unfold puts at hn ⊢
          rw [List.filterMap_cons] at hn
          split at hn
          · exact hn
          · exact (List.nodup_cons.1 hn).2
        rw [ih ht i i' cs cs' h h']
def AllOk (p : Oper → Kind → Prop) : List Oper → List Kind → Prop
  | o :: os, k :: ks => p o k ∧ AllOk p os ks
  | _, _ => True
theorem AllOk.zip {p : Oper → Kind → Prop} : ∀ {os : List Oper} {ks : List Kind}, AllOk p os ks → ∀ x ∈ os.zip ks, p x.1 x.2
  | [], _, _, _, hx => by simp at hx
  | _ :: _, [], _, _, hx => by simp at hx
  | o :: os, k :: ks, h, x, hx => by
    rw [List.zip_cons_cons] at hx
    rcases List.mem_cons.1 hx with rfl | hx
    · exact h.1
    · exact h.2.zip x hx
theorem region_ok {id : Nat} {a0 : Act} {w0 : World} (hm : P.follows .mixedOrders = true) (K : List Kind) (hlen : K.length = ops.size) (hops : opsOk a0.tmps.size ops.toList = true) (hputs' : noDup (puts K) = true)
    (hall' : AllOk (OpOk P ops K Q a0 w0) ops.toList K)
    (hend : ∀ (g : Nat → Nat) (w' : World), New w0 w' → (∀ (j : Nat) (T : TypeId) (z : Array Value) (i : Nat) (cs : Array Value), K[j]? = some (.inr (.inl (T, z))) → K[i]? = some (.inr (.inr (j, cs))) → w0.heap.size ≤ g j ∧ w'.heap[g j]? = some (.cells cs T (0, 0))) →
      (∀ (j j' : Nat) (T : TypeId) (z : Array Value) (T' : TypeId) (z' : Array Value), K[j]? = some (.inr (.inl (T, z))) → K[j']? = some (.inr (.inl (T', z'))) → j ≠ j' → g j ≠ g j') → Q .normal (frame g ops.toList K 0 a0) w') :
    (Code.region id ops true).wp P Q a0 w0 := by
  have hall := hall'.zip
  have hputs := noDup_nodup hputs'
  unfold opsOk at hops
  simp only [Bool.and_eq_true, decide_eq_true_iff] at hops
  obtain ⟨⟨⟨h1, h2⟩, h3⟩, h4⟩ := hops
  rw [List.all_eq_true] at h1 h2 h3
  have hmem : ∀ (i : Nat) (o : Oper), ops[i]? = some o → o ∈ ops.toList := fun i o h => by
    have : ops.toList[i]? = some o := by simpa using h
    exact List.mem_of_getElem? this
  have hok : ∀ (i : Nat) (o : Oper) (k : Kind), ops[i]? = some o → K[i]? = some k → OpOk P ops K Q a0 w0 o k := by
    intro i o k ho hk
    have h : (ops.toList.zip K)[i]? = some (o, k) := by
      rw [List.getElem?_zip_eq_some]
      exact ⟨by simpa using ho, hk⟩
    exact hall _ (List.mem_of_getElem? h)
  have hold : ∀ (a : Act), (∀ t, (∀ o' ∈ ops.toList, o'.dst ≠ some t) → a.eval (.tmp t) = a0.eval (.tmp t)) → Old ops a0 a := by
    intro a h t ht
    rw [List.all_eq_true] at ht
    exact h t fun o' ho' => by have := ht o' ho'; simpa using this
  have hpred : ∀ (o : Oper) (a : Act), (∀ e ∈ o.after.toList, Region.binds .any e = true → ∀ (o' : Oper) (v' : Value) (t : Tmp), ops[e.on]? = some o' → o'.dst = some t → K[e.on]? = some (.inl v') → a.eval (.tmp t) = v') → Pred ops K o a := by
    intro o a h i t v hi ht hk
    rw [List.any_eq_true] at hi
    obtain ⟨e, he, hb⟩ := hi
    simp only [Bool.and_eq_true, beq_iff_eq] at hb
    obtain ⟨hb, rfl⟩ := hb
    obtain ⟨o', ho', hd⟩ := Option.bind_eq_some_iff.1 ht
    exact h e he hb o' v t ho' hd hk
  refine region_pure hm K hlen (fun o ho => by have := h1 o ho; simpa using this) ?_ h4 ?_ ?_ ?_ ?_ hend
  · intro i o ho e he hb
    have hz : (o, i) ∈ ops.toList.zipIdx := by
      rw [List.mem_zipIdx_iff_getElem?]; simpa using ho
    have := h2 _ hz
    simp only [List.all_eq_true] at this
    have := this e he
    rw [hb] at this
    simpa using this
  · intro o ho t ht
    have := h3 o ho
    rw [ht] at this
    simpa using this
  · intro i o v ho hk a w Kc hN h0 hp hK
    exact hok i o _ ho hk a w Kc hN (hold a h0) (hpred o a hp) hK
  · intro i o T z ho hk a w Kc hK
    exact hok i o _ ho hk a w Kc hK
  · intro i o j cs ho hk
    obtain ⟨hd, ha, T, z, t, hb, hoj, hw⟩ := hok i o _ ho hk
    obtain ⟨oj, hoj, htj⟩ := Option.bind_eq_some_iff.1 hoj
    refine ⟨hd, ?_, T, z, t, oj, hb, hoj, htj, ?_, fun a w Kc g h1 h2 h3 h4 h5 => hw a w Kc g h1 h2 (hold a h3) (hpred o a h4) h5⟩
    · intro i' cs' hk'
      exact puts_uni j K hputs i i' cs cs' hk hk'
    · rw [List.any_eq_true] at ha
      obtain ⟨e, he, hb⟩ := ha
      simp only [Bool.and_eq_true, beq_iff_eq] at hb
      exact ⟨e, he, hb.1, hb.2⟩
variable {K : List Kind} {a0 : Act} {w0 : World} {o : Oper}
theorem ok_alloc (T : TypeId) (z : Array Value) (ho : o.op = .alloc T) (hz : ∀ w, (zeroValue T).run P w = .ok (.agg z) w) : OpOk P ops K Q a0 w0 o (.inr (.inl (T, z))) := by
  intro a w Kc hK
  have h : (execOp a.eval o).run P w = .ok (.value (.pointer (some ⟨w.heap.size, 0, none⟩))) (w.alloc (.cells z T)) := by
    unfold execOp
    simp only [ho, Instr.alloc, Sem.run_bind, hz, newVar, newRow, newObj, Value.cells, Result.andThen_ok]
    rfl
  unfold Oper.wp
  rw [h, Oper.upon_value]
  exact hK
theorem ok_store (T : TypeId) (j : Nat) (t c : Tmp) (k : Nat) (z cs : Array Value) (ho : o.op = .store T (.tmp t) (.tmp c)) (hd : o.dst = none) (hj : (o.after.toList.any fun e => Region.binds .any e && e.on == j) = true)
    (hk : (o.after.toList.any fun e => Region.binds .any e && e.on == k) = true) (hbj : K[j]? = some (.inr (.inl (T, z)))) (hoj : (ops[j]?).bind (·.dst) = some t) (hok : (ops[k]?).bind (·.dst) = some c) (hvk : K[k]? = some (.inl (.agg cs)))
    (hi : (P.info? T).map (·.size) = some cs.size) (hs : z.size = cs.size) (h1 : cs.all (·.oneCell') = true) : OpOk P ops K Q a0 w0 o (.inr (.inr (j, cs))) := by
  refine ⟨hd, hj, T, z, t, hbj, hoj, ?_⟩
  intro a w Kc g hx hg _ hpred hK
  refine wp_store_row T (.tmp t) (.tmp c) ho g cs hx (hpred k c _ hk hok hvk) T z hg hi hs h1 (hK _ ?_ ?_)
  · refine ⟨rfl, rfl, rfl, by simp [World.setRow], fun i hi hne => ?_⟩
    have : ¬ g = i := fun h => hne (by rw [h])
    simp [World.setRow, Array.getElem?_modify, this]
  · exact setRow_heap w g z cs T (0, 0) hg
end
end Go.Proofs.YtcfefmbbbfdppaaGreatDoor
namespace Go.Proofs.YtcfefmbbbfdppaaGreatDoor
open Go.RowKit
set_option linter.unusedVariables false
structure Keep (T : List Nat) (w0 w : World) : Prop where
  os : w.os = w0.os
  tape : w.tape = w0.tape
  output : w.output = w0.output
  size : w0.heap.size ≤ w.heap.size
  block : ∀ k, k < w0.heap.size → k ∉ T → w.heap[k]? = w0.heap[k]?
theorem Keep.refl (T : List Nat) (w : World) : Keep T w w := ⟨rfl, rfl, rfl, Nat.le_refl _, fun _ _ _ => rfl⟩
theorem Keep.new {T : List Nat} {w0 w w' : World} (h : Keep T w0 w) (k : New w w') : Keep T w0 w' :=
  ⟨k.os.trans h.os, k.tape.trans h.tape, k.output.trans h.output, Nat.le_trans h.size k.size, fun i hi hT => (k.block i (Nat.lt_of_lt_of_le hi h.size)).trans (h.block i hi hT)⟩
theorem Keep.since {T : List Nat} {W w0 w : World} (h : Keep T w0 w) (k : New W w0) (hT : ∀ x ∈ T, W.heap.size ≤ x) : New W w :=
  ⟨h.os.trans k.os, h.tape.trans k.tape, h.output.trans k.output, Nat.le_trans k.size h.size, fun i hi => (h.block i (Nat.lt_of_lt_of_le hi k.size) (fun hm => by have := hT i hm; omega)).trans (k.block i hi)⟩
section
variable {P : Program} {ops : Array Oper} {Q : Exit → Act → World → Prop}
def Intact (ops : Array Oper) (K : List Kind) (T : List Nat) (w0 : World) (i : Nat) (w : World) : Prop :=
  ∀ (j g i' : Nat) (cs : Array Value), K[i']? = some (.inr (.inr (j, cs))) → T[j]? = some g → ((ops[i']?).any fun o' => o'.after.toList.any fun e => Region.binds .any e && e.on == i) = true →
    ∀ (z : Array Value) (t : TypeId), w0.heap[g]? = some (.cells z t (0, 0)) → w.heap[g]? = some (.cells z t (0, 0))
def SetOk (P : Program) (ops : Array Oper) (K : List Kind) (Q : Exit → Act → World → Prop) (T : List Nat) (a0 : Act) (w0 : World) (i : Nat) (o : Oper) : Kind → Prop
  | .inl v => ∀ (a : Act) (w : World) (Kc : Act → World → Prop), Keep T w0 w → Intact ops K T w0 i w → Old ops a0 a → Pred ops K o a → (∀ w', New w w' → Kc (a.put o.dst v) w') → o.wp P a w Kc Q
  | .inr (.inl _) => False
  | .inr (.inr (j, cs)) => o.dst = none ∧ ∃ (g : Nat) (t : TypeId) (z : Array Value), T[j]? = some g ∧ w0.heap[g]? = some (.cells z t (0, 0)) ∧
      ∀ (a : Act) (w : World) (Kc : Act → World → Prop), w.heap[g]? = some (.cells z t (0, 0)) → Old ops a0 a → Pred ops K o a →
        (∀ w', w.grownBy w' (some g) → w'.heap[g]? = some (.cells cs t (0, 0)) → Kc (a.put o.dst undef) w') → o.wp P a w Kc Q
def AllOkI (p : Nat → Oper → Kind → Prop) : Nat → List Oper → List Kind → Prop
  | n, o :: os, k :: ks => p n o k ∧ AllOkI p (n + 1) os ks
  | _, _, _ => True
theorem AllOkI.at_ {p : Nat → Oper → Kind → Prop} : ∀ {n : Nat} {os : List Oper} {ks : List Kind}, AllOkI p n os ks → ∀ (i : Nat) (o : Oper) (k : Kind), os[i]? = some o → ks[i]? = some k → p (n + i) o k
  | _, [], _, _, i, o, k, ho, _ => by simp at ho
  | _, _ :: _, [], _, i, o, k, _, hk => by simp at hk
  | n, o' :: os, k' :: ks, h, i, o, k, ho, hk => by
    cases i with
    | zero =>
      simp only [List.getElem?_cons_zero, Option.some.injEq] at ho hk
      subst ho; subst hk; exact h.1
    | succ i =>
      simp only [List.getElem?_cons_succ] at ho hk
      have := h.2.at_ i o k ho hk
      rw [show n + 1 + i = n + (i + 1) from by omega] at this
      exact this
theorem region_set {id : Nat} {a0 : Act} {w0 : World} (hm : P.follows .mixedOrders = true) (K : List Kind) (T : List Nat) (hT : T.Nodup) (hlen : K.length = ops.size) (hops : opsOk a0.tmps.size ops.toList = true) (hputs' : noDup (puts K) = true)
    (hall' : AllOkI (SetOk P ops K Q T a0 w0) 0 ops.toList K)
    (hend : ∀ (w' : World), Keep T w0 w' → (∀ (j g i : Nat) (cs z : Array Value) (t : TypeId), K[i]? = some (.inr (.inr (j, cs))) → T[j]? = some g → w0.heap[g]? = some (.cells z t (0, 0)) → w'.heap[g]? = some (.cells cs t (0, 0))) → Q .normal (frame (fun _ => 0) ops.toList K 0 a0) w') :
    (Code.region id ops true).wp P Q a0 w0 := by
  have hputs := noDup_nodup hputs'
  have huni : ∀ (j i i' : Nat) (cs cs' : Array Value), K[i]? = some (.inr (.inr (j, cs))) → K[i']? = some (.inr (.inr (j, cs'))) → i' = i := fun j i i' cs cs' h h' => puts_uni j K hputs i i' cs cs' h h'
  unfold opsOk at hops
  simp only [Bool.and_eq_true, decide_eq_true_iff] at hops
  obtain ⟨⟨⟨h1, h2⟩, h3⟩, hnd⟩ := hops
  rw [List.all_eq_true] at h1 h2 h3
  have hsame : ∀ (i i' : Nat) (o o' : Oper) (t : Tmp), ops[i]? = some o → ops[i']? = some o' → o.dst = some t → o'.dst = some t → i = i' := by
    intro i i' o o' t ho ho' ht ht'
    have key : ∀ (l : List Oper), (l.filterMap (·.dst)).Nodup → ∀ (i i' : Nat), l[i]? = some o → l[i']? = some o' → i = i' := by
      intro l
      induction l with
      | nil => intro _ i i' h; simp at h
      | cons x l ih =>
        intro hn i i' h h'
        have htail : (l.filterMap (·.dst)).Nodup := by
          rw [List.filterMap_cons] at hn
          split at hn
          · exact hn
          · exact (List.nodup_cons.1 hn).2
        have clash : ∀ (y : Oper), x.dst = some t → y ∈ l → y.dst = some t → False := by
          intro y hx hy hyt
          rw [List.filterMap_cons, hx] at hn
          exact (List.nodup_cons.1 hn).1 (List.mem_filterMap.2 ⟨y, hy, hyt⟩)
        cases i with
        | zero =>
          cases i' with
          | zero => rfl
          | succ i' =>
            simp only [List.getElem?_cons_zero, Option.some.injEq, List.getElem?_cons_succ] at h h'
            subst h
            exact (clash o' ht (List.mem_of_getElem? h') ht').elim
        | succ i =>
          cases i' with
          | zero =>
            simp only [List.getElem?_cons_zero, Option.some.injEq, List.getElem?_cons_succ] at h h'
            subst h'
            exact (clash o ht' (List.mem_of_getElem? h) ht).elim
          | succ i' =>
            simp only [List.getElem?_cons_succ] at h h'
            rw [ih htail i i' h h']
    exact key ops.toList hnd i i' (by simpa using ho) (by simpa using ho')
  have hmem : ∀ (i : Nat) (o : Oper), ops[i]? = some o → o ∈ ops.toList := fun i o h => by
    have : ops.toList[i]? = some o := by simpa using h
    exact List.mem_of_getElem? this
  have hltK : ∀ (i : Nat) (k : Kind), K[i]? = some k → i < ops.size := fun i k h => by
    have := (List.getElem?_eq_some_iff.1 h).1; omega

  have hok : ∀ (i : Nat) (o : Oper) (k : Kind), ops[i]? = some o → K[i]? = some k → SetOk P ops K Q T a0 w0 i o k := by
    intro i o k ho hk
    have := hall'.at_ i o k (by simpa using ho) hk
    rwa [Nat.zero_add] at this
  have hsz : ∀ o ∈ ops.toList, ∀ t, o.dst = some t → t < a0.tmps.size := fun o ho t ht => by
    have := h3 o ho
    rw [ht] at this
    simpa using this
  refine wp_region_inv hm (fun done a w => Keep T w0 w ∧ a.defers = a0.defers ∧ a.tmps.size = a0.tmps.size ∧
    (∀ (t : Tmp), (∀ (i : Nat) (o : Oper), ops[i]? = some o → done i = true → o.dst ≠ some t) → a.tmps[t]? = a0.tmps[t]?) ∧
    (∀ (i : Nat) (o : Oper) (k : Kind) (t : Tmp), ops[i]? = some o → K[i]? = some k → done i = true → o.dst = some t → a.tmps[t]? = some (gives 0 k)) ∧
    (∀ (j g : Nat), T[j]? = some g → (∃ (i : Nat) (cs : Array Value), K[i]? = some (.inr (.inr (j, cs))) ∧ done i = true ∧ ∀ (z : Array Value) (t : TypeId), w0.heap[g]? = some (.cells z t (0, 0)) → w.heap[g]? = some (.cells cs t (0, 0))) ∨
      ((∀ (i : Nat) (cs : Array Value), K[i]? = some (.inr (.inr (j, cs))) → done i = false) ∧ ∀ (z : Array Value) (t : TypeId), w0.heap[g]? = some (.cells z t (0, 0)) → w.heap[g]? = some (.cells z t (0, 0)))) ∧
    (∀ (i' : Nat) (o' : Oper), ops[i']? = some o' → done i' = true → ∀ e ∈ o'.after.toList, Region.binds .any e = true → done e.on = true)) ?_ ?_ ?_ ?_
  · intro i o ho e he hb
    have hz : (o, i) ∈ ops.toList.zipIdx := by
      rw [List.mem_zipIdx_iff_getElem?]; simpa using ho
    have := h2 _ hz
    simp only [List.all_eq_true] at this
    have := this e he
    rw [hb] at this
    simpa using this
  · refine ⟨⟨rfl, rfl, rfl, Nat.le_refl _, fun _ _ _ => rfl⟩, rfl, rfl, fun t _ => rfl, ?_, ?_, ?_⟩
    · intro i o k t ho _ hd; have := (Array.getElem?_eq_some_iff.1 ho).1; simp at hd; omega
    rotate_left
    · intro i' o' ho hd; have := (Array.getElem?_eq_some_iff.1 ho).1; simp at hd; omega
    · intro j g _
      exact .inr ⟨fun i cs hK => by have := hltK i _ hK; simp; omega, fun z t h => h⟩
  · rintro i o ho done a w ⟨hN, hdf, hs, hA, hB, hC, hD⟩ hdone haft
    have hil : i < ops.size := (Array.getElem?_eq_some_iff.1 ho).1
    have hk : K[i]? = some (K[i]'(by omega)) := List.getElem?_eq_getElem (by omega)
    have ev0 : Old ops a0 a := by
      intro t ht
      rw [List.all_eq_true] at ht
      have := hA t (fun i' o' ho' _ => by have := ht o' (hmem i' o' ho'); simpa using this)
      simp only [Act.eval, Array.getD_eq_getD_getElem?, this]
    have ev2 : Pred ops K o a := by
      intro i t v hi ht hk
      rw [List.any_eq_true] at hi
      obtain ⟨e, he, hb⟩ := hi
      simp only [Bool.and_eq_true, beq_iff_eq] at hb
      obtain ⟨hb, rfl⟩ := hb
      obtain ⟨o', ho', hd⟩ := Option.bind_eq_some_iff.1 ht
      have := hB e.on o' _ t ho' hk (haft e he hb) hd
      simp only [Act.eval, Array.getD_eq_getD_getElem?, this, Option.getD_some]; rfl
    have frA : ∀ (v : Value) (t : Tmp), (∀ (i' : Nat) (o' : Oper), ops[i']? = some o' → (done i' || i' == i) = true → o'.dst ≠ some t) → (a.put o.dst v).tmps[t]? = a0.tmps[t]? := by
      intro v t ht
      rw [put_other _ _ _ _ (ht i o ho (by simp))]
      exact hA t (fun i' o' ho' hd => ht i' o' ho' (by simp [hd]))
    have frB : ∀ (v : Value), (∀ t, o.dst = some t → v = gives 0 (K[i]'(by omega))) → ∀ (i' : Nat) (o' : Oper) (k' : Kind) (t : Tmp), ops[i']? = some o' → K[i']? = some k' → (done i' || i' == i) = true → o'.dst = some t → (a.put o.dst v).tmps[t]? = some (gives 0 k') := by
      intro v hv i' o' k' t ho' hk' hd ht
      by_cases hi : i' = i
      · subst hi
        rw [ho] at ho'; cases ho'
        rw [hk] at hk'; cases hk'
        rw [ht, put_same _ _ _ (by rw [hs]; exact hsz o (hmem _ _ ho) t ht), hv t ht]
      · have hd' : done i' = true := by simpa [hi] using hd
        rw [put_other _ _ _ _ (fun h => hi (hsame i' i o' o t ho' ho ht h))]
        exact hB i' o' k' t ho' hk' hd' ht
    have hlt : ∀ (g : Nat) (z : Array Value) (t : TypeId), w.heap[g]? = some (.cells z t (0, 0)) → g < w.heap.size := by
      intro g z t h
      rcases Nat.lt_or_ge g w.heap.size with h' | h'
      · exact h'
      · rw [Array.getElem?_eq_none h'] at h; cases h
    have hD' : ∀ (i' : Nat) (o' : Oper), ops[i']? = some o' → (done i' || i' == i) = true → ∀ e ∈ o'.after.toList, Region.binds .any e = true → (done e.on || e.on == i) = true := by
      intro i' o' ho' hd e he hb
      by_cases hi : i' = i
      · subst hi
        rw [ho] at ho'; cases ho'
        simp [haft e he hb]
      · simp [hD i' o' ho' (by simpa [hi] using hd) e he hb]
    have hint : Intact ops K T w0 i w := by
      intro j g i' cs hp hTj haf z t hz
      have hd : done i' = false := by
        cases hdi : done i' with
        | false => rfl
        | true =>
          exfalso
          cases ho' : ops[i']? with
          | none => rw [ho'] at haf; cases haf
          | some o' =>
            rw [ho'] at haf
            simp only [Option.any_some, List.any_eq_true, Bool.and_eq_true, beq_iff_eq] at haf
            obtain ⟨e, he, hb, hon⟩ := haf
            have := hD i' o' ho' hdi e he hb
            rw [hon, hdone] at this; cases this
      rcases hC j g hTj with ⟨i2, cs2, hp2, hdi, _⟩ | ⟨_, hc⟩
      · rw [huni j i' i2 cs cs2 hp hp2] at hdi; rw [hdi] at hd; cases hd
      · exact hc z t hz
    refine wpOp_plain ho (by have := h1 o (hmem i o ho); simpa using this) ?_
    have hoki := hok i o _ ho hk
    cases hki : K[i]'(by omega) with
    | inl v =>
      rw [hki] at hk hoki
      refine hoki a w _ hN hint ev0 ev2 fun w' hw' => ?_
      refine ⟨hN.new hw', by rw [put_defers]; exact hdf, by rw [put_size]; exact hs, frA v, frB v (fun _ _ => by rw [hki]; rfl), ?_, hD'⟩
      intro j g hj
      rcases hC j g hj with ⟨i', cs, hp, hdi, hc⟩ | ⟨hn, hc⟩
      · exact .inl ⟨i', cs, hp, by simp [hdi], fun z t hz => (hw'.block g (hlt g _ _ (hc z t hz))).trans (hc z t hz)⟩
      · refine .inr ⟨fun i' cs hp => ?_, fun z t hz => (hw'.block g (hlt g _ _ (hc z t hz))).trans (hc z t hz)⟩
        have : i' ≠ i := by rintro rfl; rw [hk] at hp; cases hp
        simp [hn i' cs hp, this]
    | inr kk =>
     cases kk with
     | inl Tz => rw [hki] at hoki; exact hoki.elim
     | inr jcs =>
      obtain ⟨j, cs⟩ := jcs
      rw [hki] at hk hoki
      obtain ⟨hdst, g, t, z, hTj, hz, hw⟩ := hoki
      have hgz : w.heap[g]? = some (.cells z t (0, 0)) := by
        rcases hC j g hTj with ⟨i', cs', hp, hdi, _⟩ | ⟨_, hc⟩
        · rw [huni j i i' cs cs' hk hp] at hdi; rw [hdi] at hdone; cases hdone
        · exact hc z t hz
      refine hw a w _ hgz ev0 ev2 fun w' hw' hc' => ?_
      have hgT : g ∈ T := List.mem_of_getElem? hTj
      refine ⟨⟨hw'.os.trans hN.os, hw'.tape.trans hN.tape, hw'.output.trans hN.output, Nat.le_trans hN.size hw'.size, fun k hk hkT => (hw'.block k (Nat.lt_of_lt_of_le hk hN.size) (fun h => by cases h; exact hkT hgT)).trans (hN.block k hk hkT)⟩,
        by rw [put_defers]; exact hdf, by rw [put_size]; exact hs, frA undef, frB undef (fun _ h => by rw [hdst] at h; cases h), ?_, hD'⟩
      intro j2 g2 hj2
      by_cases hj : j2 = j
      · subst hj
        rw [hTj] at hj2; cases hj2
        exact .inl ⟨i, cs, hk, by simp, fun z' t' hz' => by rw [hz] at hz'; cases hz'; exact hc'⟩
      · have hne : g2 ≠ g := by
          rintro rfl
          exact hj ((List.getElem?_inj (List.getElem?_eq_some_iff.1 hj2).1 hT).1 (hj2.trans hTj.symm))
        rcases hC j2 g2 hj2 with ⟨i', cs', hp, hdi, hc⟩ | ⟨hn, hc⟩
        · exact .inl ⟨i', cs', hp, by simp [hdi], fun z' t' hz' => (hw'.block g2 (hlt g2 _ _ (hc z' t' hz')) (fun h => hne (by injection h))).trans (hc z' t' hz')⟩
        · refine .inr ⟨fun i' cs' hp => ?_, fun z' t' hz' => (hw'.block g2 (hlt g2 _ _ (hc z' t' hz')) (fun h => hne (by injection h))).trans (hc z' t' hz')⟩
          have : i' ≠ i := by rintro rfl; rw [hk] at hp; cases hp; exact hj rfl
          simp [hn i' cs' hp, this]
  · rintro done a w ⟨hN, hdf, hs, hA, hB, hC, _⟩ hall
    have ea : a = frame (fun _ => 0) ops.toList K 0 a0 := by
      have e1 : a.tmps = (frame (fun _ => 0) ops.toList K 0 a0).tmps := by
        apply Array.ext_getElem?
        intro t
        by_cases ht : ∃ (i : Nat) (o : Oper), ops[i]? = some o ∧ o.dst = some t
        · obtain ⟨i, o, ho, hot⟩ := ht
          have hil : i < ops.size := (Array.getElem?_eq_some_iff.1 ho).1
          have hk : K[i]? = some (K[i]'(by omega)) := List.getElem?_eq_getElem (by omega)
          rw [hB i o _ t ho hk (hall i hil) hot]
          exact (frame_at (fun _ => 0) t ops.toList K 0 a0 i o _ (by simp [hlen]) hnd (by simpa using ho) hk hot (hsz o (hmem i o ho) t hot)).symm
        · rw [hA t (fun i o ho _ h => ht ⟨i, o, ho, h⟩), frame_other]
          intro o ho h
          obtain ⟨i, hi⟩ := List.getElem?_of_mem ho
          exact ht ⟨i, o, by simpa using hi, h⟩
      have e2 : a.defers = (frame (fun _ => 0) ops.toList K 0 a0).defers := by rw [frame_defers]; exact hdf
      cases a; cases hfr : frame (fun _ => 0) ops.toList K 0 a0; rw [hfr] at e1 e2; simp only at e1 e2; rw [e1, e2]
    rw [ea]
    refine hend w hN ?_
    intro j g i cs z t hK hj hz
    rcases hC j g hj with ⟨i', cs', hp, _, hc⟩ | ⟨hn, _⟩
    · have := huni j i i' cs cs' hK hp
      subst this
      rw [hK] at hp; cases hp
      exact hc z t hz
    · have := hn i cs hK
      rw [hall i (hltK i _ hK)] at this; cases this
variable {K : List Kind} {T : List Nat} {a0 : Act} {w0 : World} {o : Oper}
theorem set_read {i : Nat} (v : Value) (h : ∀ (ρ : Operand → Value) (w : World), Keep T w0 w → Intact ops K T w0 i w → (∀ v, ρ (.const v) = v) → (∀ t : Tmp, (ops.toList.all fun o => o.dst != some t) = true → ρ (.tmp t) = a0.eval (.tmp t)) →
      (∀ (i : Nat) (t : Tmp) (v : Value), (o.after.toList.any fun e => Region.binds .any e && e.on == i) = true → (ops[i]?).bind (·.dst) = some t → K[i]? = some (.inl v) → ρ (.tmp t) = v) → (execOp ρ o).run P w = .ok (.value v) w) : SetOk P ops K Q T a0 w0 i o (.inl v) := by
  intro a w Kc hN hI h0 hp hK
  unfold Oper.wp
  rw [h a.eval w hN hI (fun _ => rfl) h0 hp, Oper.upon_value]
  exact hK w (new_refl w)
theorem set_val {i : Nat} (v : Value) (h : ∀ (ρ : Operand → Value) (w : World), Keep T w0 w → (∀ v, ρ (.const v) = v) → (∀ t : Tmp, (ops.toList.all fun o => o.dst != some t) = true → ρ (.tmp t) = a0.eval (.tmp t)) →
      (∀ (i : Nat) (t : Tmp) (v : Value), (o.after.toList.any fun e => Region.binds .any e && e.on == i) = true → (ops[i]?).bind (·.dst) = some t → K[i]? = some (.inl v) → ρ (.tmp t) = v) → (execOp ρ o).run P w = .ok (.value v) w) : SetOk P ops K Q T a0 w0 i o (.inl v) :=
  set_read v fun ρ w hN _ => h ρ w hN
theorem set_call {i : Nat} (F : FuncId) (fn : Func) (args : Array Operand) (ts : Array TypeId) (xs : Array Value) (v : Value) (ho : o.op = .call { callee := .value (.func F), args := args, argTypes := ts })
    (hf : P.funcs[F]? = some fn) (hn : (fn.name == "runtime.NumGoroutine") = false) (hb : fn.body.isNone = false)
    (hx : ∀ a, Old ops a0 a → Pred ops K o a → args.map a.eval = xs) (hc : ∀ w, Calls P F xs w fun e w' => e = .returned v ∧ New w w') : SetOk P ops K Q T a0 w0 i o (.inl v) := by
  intro a w Kc _ _ hold hpred hK
  have h : (execOp a.eval o).run P w = .ok (.enter F xs) w := by
    unfold execOp
    have e : a.eval (.func F) = .func (.func F) #[] #[] := rfl
    simp only [ho, resolve, e, Deferred.ofValue, Sem.run_bind, Sem.run_pure, Result.andThen_ok, invoke, callFunc, run_program, hf, hn, hb]
    simp [hx a hold hpred]
  unfold Oper.wp
  rw [h, Oper.upon_enter]
  refine (hc w).mono fun e w' ⟨he, hw⟩ => ?_
  subst he
  exact hK w' hw
theorem set_cell {i : Nat} (Ty : TypeId) (j g n : Nat) (p c : Tmp) (q k : Nat) (t : TypeId) (z : Array Value) (v : Value) (ho : o.op = .store Ty (.tmp p) (.tmp c)) (hd : o.dst = none) (hTj : T[j]? = some g) (hz : w0.heap[g]? = some (.cells z t (0, 0))) (hn : n < z.size)
    (hq : (o.after.toList.any fun e => Region.binds .any e && e.on == q) = true) (hoq : (ops[q]?).bind (·.dst) = some p) (hvq : K[q]? = some (.inl (.pointer (some ⟨g, n, none⟩))))
    (hk : (o.after.toList.any fun e => Region.binds .any e && e.on == k) = true) (hok : (ops[k]?).bind (·.dst) = some c) (hvk : K[k]? = some (.inl v)) (h1 : v.oneCell' = true)
    (hrun : ∀ w u, w.cell? ⟨g, n, none⟩ = some u → w.frozen? ⟨g, n, none⟩ = false → (Instr.storeAt Ty (.pointer (some ⟨g, n, none⟩)) v).run P w = .ok () (w.setCell ⟨g, n, none⟩ v)) : SetOk P ops K Q T a0 w0 i o (.inr (.inr (j, z.setIfInBounds n v))) := by
  refine ⟨hd, g, t, z, hTj, hz, ?_⟩
  intro a w Kc hg hold hpred hK
  have B : Blk w g t z := hg
  have hx := hpred q p _ hq hoq hvq
  have hy := hpred k c _ hk hok hvk
  have h : (execOp a.eval o).run P w = .ok .skip (w.setCell ⟨g, n, none⟩ v) := by
    unfold execOp
    simp only [ho, hx, hy, Sem.run_bind, hrun w z[n] (by rw [B.cell]; simp [hn]) (B.free n), Result.andThen_ok, Sem.run_pure]
  unfold Oper.wp
  rw [h, Oper.upon_skip]
  refine hK _ ⟨rfl, rfl, rfl, by simp [World.setCell], fun i hi hne => ?_⟩ (B.set_ n v)
  exact Below.heap_setCell _ _ _ _ (fun h => hne (by rw [h]))
theorem set_store {i : Nat} (Ty : TypeId) (j g : Nat) (p c : Tmp) (k : Nat) (t : TypeId) (z cs : Array Value) (ho : o.op = .store Ty (.tmp p) (.tmp c)) (hd : o.dst = none) (hTj : T[j]? = some g) (hz : w0.heap[g]? = some (.cells z t (0, 0)))
    (hp : (ops.toList.all fun o => o.dst != some p) = true) (hx : a0.eval (.tmp p) = .pointer (some ⟨g, 0, none⟩))
    (hk : (o.after.toList.any fun e => Region.binds .any e && e.on == k) = true) (hok : (ops[k]?).bind (·.dst) = some c) (hvk : K[k]? = some (.inl (.agg cs)))
    (hi : (P.info? Ty).map (·.size) = some cs.size) (hs : z.size = cs.size) (h1 : cs.all (·.oneCell') = true) : SetOk P ops K Q T a0 w0 i o (.inr (.inr (j, cs))) := by
  refine ⟨hd, g, t, z, hTj, hz, ?_⟩
  intro a w Kc hg hold hpred hK
  refine wp_store_row Ty (.tmp p) (.tmp c) ho g cs ((hold p hp).trans hx) (hpred k c _ hk hok hvk) t z hg hi hs h1 (hK _ ?_ ?_)
  · refine ⟨rfl, rfl, rfl, by simp [World.setRow], fun i hi hne => ?_⟩
    have : ¬ g = i := fun h => hne (by rw [h])
    simp [World.setRow, Array.getElem?_modify, this]
  · exact setRow_heap w g z cs t (0, 0) hg
end
end Go.Proofs.YtcfefmbbbfdppaaGreatDoor
namespace Go.Proofs.YtcfefmbbbfdppaaGreatDoor
open Go.RowKit
set_option linter.unusedVariables false
def gtab : List (Nat × List Value) := [(0, [0x0000000000000001, 0x0000000000008082, 0x800000000000808a, 0x8000000080008000, 0x000000000000808b, 0x0000000080000001, 0x8000000080008081, 0x8000000000008009, 0x000000000000008a, 0x0000000000000088, 0x0000000080008009, 0x000000008000000a, 0x000000008000808b, 0x800000000000008b, 0x8000000000008089, 0x8000000000008003, 0x8000000000008002, 0x8000000000000080, 0x000000000000800a, 0x800000008000000a, 0x8000000080008081, 0x8000000000008080, 0x0000000080000001, 0x8000000080008008].map (.int .u64)), (1, [0, 1, 62, 28, 27, 36, 44, 6, 55, 20, 3, 10, 43, 25, 39, 41, 45, 15, 21, 8, 18, 2, 61, 56, 14].map (.int .i64))]
end Go.Proofs.YtcfefmbbbfdppaaGreatDoor
