/- Regions that draw their order, with guarded operations. Of any program. No conditions. -/
import Derived.Test.YtdelfiijbkhldaaReg
namespace Go.Proofs.Ytdelfiijbkhldaa
open Go.RowKit
set_option linter.unusedVariables false
set_option linter.unusedSimpArgs false

section
variable {P : Program} {ops : Array Oper} {Q : Exit → Act → World → Prop}

/-- THE LAW for such a region: behind it the frame is 'frame g', the variables lie in blocks of their own, and nothing that was there has turned. -/
theorem region_pureG {id : Nat} {a0 : Act} {w0 : World} (hm : P.follows .mixedOrders = true) (K : List Kind) (hlen : K.length = ops.size)
    (hac : ∀ (i : Nat) (o : Oper), ops[i]? = some o → ∀ e ∈ o.after.toList, Region.binds .any e = true → e.on < i)
    (hnd : (ops.toList.filterMap (·.dst)).Nodup) (hsz : ∀ o ∈ ops.toList, ∀ t, o.dst = some t → t < a0.tmps.size)
    (hval : ∀ (i : Nat) (o : Oper) (v : Value), ops[i]? = some o → K[i]? = some (.inl v) → ∀ (a : Act) (w : World) (Kc : Act → World → Prop), New w0 w →
      (∀ t, (∀ o' ∈ ops.toList, o'.dst ≠ some t) → a.eval (.tmp t) = a0.eval (.tmp t)) →
      (∀ e ∈ o.after.toList, Region.binds .any e = true → ∀ (o' : Oper) (v' : Value) (t : Tmp), ops[e.on]? = some o' → o'.dst = some t → K[e.on]? = some (.inl v') → a.eval (.tmp t) = v') →
      (∀ w', New w w' → Kc (a.put o.dst v) w') → wpOp P ops Q i Kc a w)
    (hbox : ∀ (i : Nat) (o : Oper) (T : TypeId) (z : Array Value), ops[i]? = some o → K[i]? = some (.inr (.inl (T, z))) → ∀ (a : Act) (w : World) (Kc : Act → World → Prop),
      Kc (a.put o.dst (.pointer (some ⟨w.heap.size, 0, none⟩))) (w.alloc (.cells z T)) → wpOp P ops Q i Kc a w)
    (hput : ∀ (i : Nat) (o : Oper) (j : Nat) (cs : Array Value), ops[i]? = some o → K[i]? = some (.inr (.inr (j, cs))) → o.dst = none ∧ (∀ (i' : Nat) (cs' : Array Value), K[i']? = some (.inr (.inr (j, cs'))) → i' = i) ∧ ∃ (T : TypeId) (z : Array Value) (t : Tmp) (oj : Oper), K[j]? = some (.inr (.inl (T, z))) ∧ ops[j]? = some oj ∧ oj.dst = some t ∧
      (∃ e ∈ o.after.toList, Region.binds .any e = true ∧ e.on = j) ∧ ∀ (a : Act) (w : World) (Kc : Act → World → Prop) (g : Nat), a.eval (.tmp t) = .pointer (some ⟨g, 0, none⟩) → w.heap[g]? = some (.cells z T (0, 0)) →
        (∀ t, (∀ o' ∈ ops.toList, o'.dst ≠ some t) → a.eval (.tmp t) = a0.eval (.tmp t)) →
        (∀ e ∈ o.after.toList, Region.binds .any e = true → ∀ (o' : Oper) (v' : Value) (t : Tmp), ops[e.on]? = some o' → o'.dst = some t → K[e.on]? = some (.inl v') → a.eval (.tmp t) = v') →
        (∀ w', w.grownBy w' (some g) → w'.heap[g]? = some (.cells cs T (0, 0)) → Kc (a.put o.dst undef) w') → wpOp P ops Q i Kc a w)
    (hend : ∀ (g : Nat → Nat) (w' : World), New w0 w' → (∀ (j : Nat) (T : TypeId) (z : Array Value) (i : Nat) (cs : Array Value), K[j]? = some (.inr (.inl (T, z))) → K[i]? = some (.inr (.inr (j, cs))) → w0.heap.size ≤ g j ∧ w'.heap[g j]? = some (.cells cs T (0, 0))) →
      (∀ (j j' : Nat) (T : TypeId) (z : Array Value) (T' : TypeId) (z' : Array Value), K[j]? = some (.inr (.inl (T, z))) → K[j']? = some (.inr (.inl (T', z'))) → j ≠ j' → g j ≠ g j') → Q .normal (frame g ops.toList K 0 a0) w') :
    (Code.region id ops true).wp P Q a0 w0 := by
  have hsame : ∀ (i i' : Nat) (o o' : Oper) (t : Tmp), ops[i]? = some o → ops[i']? = some o' → o.dst = some t → o'.dst = some t → i = i' := by
    intro i i' o o' t ho ho' ht ht'
    have key : ∀ (l : List Oper), (l.filterMap (·.dst)).Nodup → ∀ (i i' : Nat), l[i]? = some o → l[i']? = some o' → i = i' := by
      intro l
      induction l with
      | nil => intro _ i i' h; simp at h
      | cons x l ih =>
        intro hn i i' h h'
        have htail : (l.filterMap (·.dst)).Nodup := by
          rw [List.filterMap_cons] at hn
          split at hn
          · exact hn
          · exact (List.nodup_cons.1 hn).2
        have clash : ∀ (y : Oper), x.dst = some t → y ∈ l → y.dst = some t → False := by
          intro y hx hy hyt
          rw [List.filterMap_cons, hx] at hn
          exact (List.nodup_cons.1 hn).1 (List.mem_filterMap.2 ⟨y, hy, hyt⟩)
        cases i with
        | zero =>
          cases i' with
          | zero => rfl
          | succ i' =>
            simp only [List.getElem?_cons_zero, Option.some.injEq, List.getElem?_cons_succ] at h h'
            subst h
            exact (clash o' ht (List.mem_of_getElem? h') ht').elim
        | succ i =>
          cases i' with
          | zero =>
            simp only [List.getElem?_cons_zero, Option.some.injEq, List.getElem?_cons_succ] at h h'
            subst h'
            exact (clash o ht' (List.mem_of_getElem? h) ht).elim
          | succ i' =>
            simp only [List.getElem?_cons_succ] at h h'
            rw [ih htail i i' h h']
    exact key ops.toList hnd i i' (by simpa using ho) (by simpa using ho')
  have hmem : ∀ (i : Nat) (o : Oper), ops[i]? = some o → o ∈ ops.toList := fun i o h => by
    have : ops.toList[i]? = some o := by simpa using h
    exact List.mem_of_getElem? this
  have hltK : ∀ (i : Nat) (k : Kind), K[i]? = some k → i < ops.size := fun i k h => by
    have := (List.getElem?_eq_some_iff.1 h).1; omega
  refine wp_region_inv hm (fun done a w => ∃ g : Nat → Nat, New w0 w ∧ a.defers = a0.defers ∧ a.tmps.size = a0.tmps.size ∧
    (∀ (t : Tmp), (∀ (i : Nat) (o : Oper), ops[i]? = some o → done i = true → o.dst ≠ some t) → a.tmps[t]? = a0.tmps[t]?) ∧
    (∀ (i : Nat) (o : Oper) (k : Kind) (t : Tmp), ops[i]? = some o → K[i]? = some k → done i = true → o.dst = some t → a.tmps[t]? = some (gives (g i) k)) ∧
    (∀ (j : Nat) (T : TypeId) (z : Array Value), K[j]? = some (.inr (.inl (T, z))) → done j = true → w0.heap.size ≤ g j ∧ ∃ c, w.heap[g j]? = some (.cells c T (0, 0)) ∧
      ((∃ (i : Nat) (cs : Array Value), K[i]? = some (.inr (.inr (j, cs))) ∧ done i = true ∧ c = cs) ∨ ((∀ (i : Nat) (cs : Array Value), K[i]? = some (.inr (.inr (j, cs))) → done i = false) ∧ c = z))) ∧
    (∀ (j j' : Nat) (T : TypeId) (z : Array Value) (T' : TypeId) (z' : Array Value), K[j]? = some (.inr (.inl (T, z))) → K[j']? = some (.inr (.inl (T', z'))) → done j = true → done j' = true → j ≠ j' → g j ≠ g j') ∧
    (∀ (i j : Nat) (cs : Array Value), K[i]? = some (.inr (.inr (j, cs))) → done i = true → done j = true)) hac ?_ ?_ ?_
  · refine ⟨fun _ => 0, new_drew (new_refl w0), rfl, rfl, fun t _ => rfl, ?_, ?_, ?_, ?_⟩
    · intro i o k t ho _ hd; have := (Array.getElem?_eq_some_iff.1 ho).1; simp at hd; omega
    · intro j T z hK hd; have := hltK j _ hK; simp at hd; omega
    · intro j j' T z T' z' hK _ hd; have := hltK j _ hK; simp at hd; omega
    · intro i j cs hK hd; have := hltK i _ hK; simp at hd; omega
  · rintro i o ho done a w ⟨g, hN, hdf, hs, hA, hB, hC, hD, hE⟩ hdone haft
    have hil : i < ops.size := (Array.getElem?_eq_some_iff.1 ho).1
    have hk : K[i]? = some (K[i]'(by omega)) := List.getElem?_eq_getElem (by omega)
    have ev0 : ∀ t, (∀ o' ∈ ops.toList, o'.dst ≠ some t) → a.eval (.tmp t) = a0.eval (.tmp t) := by
      intro t ht
      have := hA t (fun i' o' ho' _ => ht o' (hmem i' o' ho'))
      simp only [Act.eval, Array.getD_eq_getD_getElem?, this]
    have ev1 : ∀ e ∈ o.after.toList, Region.binds .any e = true → ∀ (o' : Oper) (k' : Kind) (t : Tmp), ops[e.on]? = some o' → o'.dst = some t → K[e.on]? = some k' → a.eval (.tmp t) = gives (g e.on) k' := by
      intro e he hb o' k' t ho' ht hk'
      have := hB e.on o' k' t ho' hk' (haft e he hb) ht
      simp only [Act.eval, Array.getD_eq_getD_getElem?, this, Option.getD_some]
    have ev2 : ∀ e ∈ o.after.toList, Region.binds .any e = true → ∀ (o' : Oper) (v' : Value) (t : Tmp), ops[e.on]? = some o' → o'.dst = some t → K[e.on]? = some (.inl v') → a.eval (.tmp t) = v' :=
      fun e he hb o' v' t ho' ht hk' => ev1 e he hb o' _ t ho' ht hk'
    -- the frame behind the operation, whatever it gives
    have frA : ∀ (v : Value) (t : Tmp), (∀ (i' : Nat) (o' : Oper), ops[i']? = some o' → (done i' || i' == i) = true → o'.dst ≠ some t) → (a.put o.dst v).tmps[t]? = a0.tmps[t]? := by
      intro v t ht
      rw [put_other _ _ _ _ (ht i o ho (by simp))]
      exact hA t (fun i' o' ho' hd => ht i' o' ho' (by simp [hd]))
    have frB : ∀ (v : Value) (g' : Nat → Nat), (∀ j, done j = true → g' j = g j) → (∀ t, o.dst = some t → v = gives (g' i) (K[i]'(by omega))) → ∀ (i' : Nat) (o' : Oper) (k' : Kind) (t : Tmp), ops[i']? = some o' → K[i']? = some k' → (done i' || i' == i) = true → o'.dst = some t → (a.put o.dst v).tmps[t]? = some (gives (g' i') k') := by
      intro v g' hg' hv i' o' k' t ho' hk' hd ht
      by_cases hi : i' = i
      · subst hi
        rw [ho] at ho'; cases ho'
        rw [hk] at hk'; cases hk'
        rw [ht, put_same _ _ _ (by rw [hs]; exact hsz o (hmem _ _ ho) t ht), hv t ht]
      · have hd' : done i' = true := by simpa [hi] using hd
        rw [put_other _ _ _ _ (fun h => hi (hsame i' i o' o t ho' ho ht h)), hg' i' hd']
        exact hB i' o' k' t ho' hk' hd' ht
    cases hki : K[i]'(by omega) with
    | inl v =>
      rw [hki] at hk
      refine hval i o v ho hk a w _ hN ev0 ev2 fun w' hw' => ?_
      refine ⟨g, new_trans hN hw', by rw [put_defers]; exact hdf, by rw [put_size]; exact hs, frA v, frB v g (fun _ _ => rfl) (fun _ _ => by rw [hki]; rfl), ?_, ?_, ?_⟩
      · intro j T z hK hd
        have hj : j ≠ i := by rintro rfl; rw [hk] at hK; cases hK
        have hd' : done j = true := by simpa [hj] using hd
        obtain ⟨h1, c, h2, h3⟩ := hC j T z hK hd'
        refine ⟨h1, c, ?_, ?_⟩
        · rw [hw'.block _ (by rcases Nat.lt_or_ge (g j) w.heap.size with h | h; exact h; rw [Array.getElem?_eq_none h] at h2; cases h2)]; exact h2
        · rcases h3 with ⟨i', cs, hp, hdi, hc⟩ | ⟨hn, hc⟩
          · exact .inl ⟨i', cs, hp, by simp [hdi], hc⟩
          · refine .inr ⟨fun i' cs hp => ?_, hc⟩
            have : i' ≠ i := by rintro rfl; rw [hk] at hp; cases hp
            simp [hn i' cs hp, this]
      · intro j j' T z T' z' hK hK' hd hd' hne
        have hj : j ≠ i := by rintro rfl; rw [hk] at hK; cases hK
        have hj' : j' ≠ i := by rintro rfl; rw [hk] at hK'; cases hK'
        exact hD j j' T z T' z' hK hK' (by simpa [hj] using hd) (by simpa [hj'] using hd') hne
      · intro i' j' cs' hp hd
        have hi' : i' ≠ i := by rintro rfl; rw [hk] at hp; cases hp
        simp [hE i' j' cs' hp (by simpa [hi'] using hd)]
    | inr kk =>
     cases kk with
     | inl Tz =>
      obtain ⟨T, z⟩ := Tz
      rw [hki] at hk
      refine hbox i o T z ho hk a w _ ?_
      refine ⟨fun j => if j = i then w.heap.size else g j, new_alloc hN _, by rw [put_defers]; exact hdf, by rw [put_size]; exact hs, frA _,
        frB _ _ (fun j hj => by have : j ≠ i := by { rintro rfl; rw [hj] at hdone; cases hdone }; simp [this]) (fun _ _ => by rw [hki]; simp [gives]), ?_, ?_, ?_⟩
      · intro j T' z' hK hd
        by_cases hj : j = i
        · subst hj
          rw [hk] at hK; cases hK
          refine ⟨by simpa using hN.size, z, by simp only [if_true]; exact heap_alloc_new w _, ?_⟩
          refine .inr ⟨fun i' cs hp => ?_, rfl⟩
          have hi' : i' ≠ j := by rintro rfl; rw [hk] at hp; cases hp
          cases hd2 : done i' with
          | false => simp [hi', hd2]
          | true =>
            exfalso
            have := hE i' j cs hp hd2
            rw [this] at hdone; cases hdone
        · have hd' : done j = true := by simpa [hj] using hd
          obtain ⟨h1, c, h2, h3⟩ := hC j T' z' hK hd'
          simp only [hj, if_false]
          refine ⟨h1, c, ?_, ?_⟩
          · rw [Below.heap_alloc _ _ _ (by rcases Nat.lt_or_ge (g j) w.heap.size with h | h; exact h; rw [Array.getElem?_eq_none h] at h2; cases h2)]; exact h2
          · rcases h3 with ⟨i', cs, hp, hdi, hc⟩ | ⟨hn, hc⟩
            · exact .inl ⟨i', cs, hp, by simp [hdi], hc⟩
            · refine .inr ⟨fun i' cs hp => ?_, hc⟩
              have : i' ≠ i := by rintro rfl; rw [hk] at hp; cases hp
              simp [hn i' cs hp, this]
      · intro j j' T1 z1 T2 z2 hK hK' hd hd' hne
        have lt : ∀ (j : Nat) (T : TypeId) (z : Array Value), K[j]? = some (.inr (.inl (T, z))) → done j = true → g j < w.heap.size := by
          intro j T z hK hd
          obtain ⟨_, c, h2, _⟩ := hC j T z hK hd
          rcases Nat.lt_or_ge (g j) w.heap.size with h | h
          · exact h
          · rw [Array.getElem?_eq_none h] at h2; cases h2
        by_cases hj : j = i
        · have hj' : j' ≠ i := fun h => hne (by rw [hj, h])
          have := lt j' _ _ hK' (by simpa [hj'] using hd')
          simp only [hj, hj', if_true, if_false]; omega
        · by_cases hj' : j' = i
          · have := lt j _ _ hK (by simpa [hj] using hd)
            simp only [hj, hj', if_true, if_false]; omega
          · simp only [hj, hj', if_false]
            exact hD j j' _ _ _ _ hK hK' (by simpa [hj] using hd) (by simpa [hj'] using hd') hne
      · intro i' j' cs' hp hd
        have hi' : i' ≠ i := by rintro rfl; rw [hk] at hp; cases hp
        simp [hE i' j' cs' hp (by simpa [hi'] using hd)]
     | inr jcs =>
      obtain ⟨j, cs⟩ := jcs
      rw [hki] at hk
      obtain ⟨hdst, huni, T, z, t, oj, hbj, hoj, htj, ⟨e, he, hb, hon⟩, hp⟩ := hput i o j cs ho hk
      have hdj : done j = true := by rw [← hon]; exact haft e he hb
      obtain ⟨h1, c, h2, h3⟩ := hC j T z hbj hdj
      have hcz : c = z := by
        rcases h3 with ⟨i', cs', hp', hdi, _⟩ | ⟨_, hc⟩
        · rw [huni i' cs' hp'] at hdi; rw [hdi] at hdone; cases hdone
        · exact hc
      subst hcz
      have hev : a.eval (.tmp t) = .pointer (some ⟨g j, 0, none⟩) := by
        have := ev1 e he hb oj (.inr (.inl (T, c))) t (by rw [hon]; exact hoj) htj (by rw [hon]; exact hbj)
        rw [hon] at this; exact this
      refine hp a w _ (g j) hev h2 ev0 ev2 fun w' hw' hc' => ?_
      refine ⟨g, ?_, by rw [put_defers]; exact hdf, by rw [put_size]; exact hs, frA undef, frB undef g (fun _ _ => rfl) (fun _ h => by rw [hdst] at h; cases h), ?_, ?_, ?_⟩
      · exact ⟨hw'.os.trans hN.os, hw'.tape.trans hN.tape, hw'.output.trans hN.output, Nat.le_trans hN.size hw'.size, fun k hk => (hw'.block k (Nat.lt_of_lt_of_le hk hN.size) (fun h => by cases h; omega)).trans (hN.block k hk)⟩
      · intro j2 T2 z2 hK hd
        by_cases hj : j2 = j
        · subst hj
          rw [hbj] at hK; cases hK
          exact ⟨h1, cs, hc', .inl ⟨i, cs, hk, by simp, rfl⟩⟩
        · have hji : j2 ≠ i := by rintro rfl; rw [hk] at hK; cases hK
          have hd' : done j2 = true := by simpa [hji] using hd
          obtain ⟨h1', c', h2', h3'⟩ := hC j2 T2 z2 hK hd'
          have hne := hD j2 j T2 z2 T c hK hbj hd' hdj hj
          refine ⟨h1', c', ?_, ?_⟩
          · rw [hw'.block _ (by rcases Nat.lt_or_ge (g j2) w.heap.size with h | h; exact h; rw [Array.getElem?_eq_none h] at h2'; cases h2') (fun h => hne (by injection h))]; exact h2'
          · rcases h3' with ⟨i', cs', hp', hdi, hc⟩ | ⟨hn, hc⟩
            · exact .inl ⟨i', cs', hp', by simp [hdi], hc⟩
            · refine .inr ⟨fun i' cs' hp' => ?_, hc⟩
              have : i' ≠ i := by rintro rfl; rw [hk] at hp'; cases hp'; exact hj rfl
              simp [hn i' cs' hp', this]
      · intro j1 j2 T1 z1 T2 z2 hK hK' hd hd' hne
        have hj1 : j1 ≠ i := by rintro rfl; rw [hk] at hK; cases hK
        have hj2 : j2 ≠ i := by rintro rfl; rw [hk] at hK'; cases hK'
        exact hD j1 j2 _ _ _ _ hK hK' (by simpa [hj1] using hd) (by simpa [hj2] using hd') hne
      · intro i' j' cs' hp' hd
        by_cases hi' : i' = i
        · subst hi'
          rw [hk] at hp'; cases hp'
          simp [hdj]
        · simp [hE i' j' cs' hp' (by simpa [hi'] using hd)]
  · rintro done a w ⟨g, hN, hdf, hs, hA, hB, hC, hD, _⟩ hall
    have ea : a = frame g ops.toList K 0 a0 := by
      have e1 : a.tmps = (frame g ops.toList K 0 a0).tmps := by
        apply Array.ext_getElem?
        intro t
        by_cases ht : ∃ (i : Nat) (o : Oper), ops[i]? = some o ∧ o.dst = some t
        · obtain ⟨i, o, ho, hot⟩ := ht
          have hil : i < ops.size := (Array.getElem?_eq_some_iff.1 ho).1
          have hk : K[i]? = some (K[i]'(by omega)) := List.getElem?_eq_getElem (by omega)
          rw [hB i o _ t ho hk (hall i hil) hot]
          have := frame_at g t ops.toList K 0 a0 i o _ (by simp [hlen]) hnd (by simpa using ho) hk hot (hsz o (hmem i o ho) t hot)
          rw [this, Nat.zero_add]
        · rw [hA t (fun i o ho _ h => ht ⟨i, o, ho, h⟩), frame_other]
          intro o ho h
          obtain ⟨i, hi⟩ := List.getElem?_of_mem ho
          exact ht ⟨i, o, by simpa using hi, h⟩
      have e2 : a.defers = (frame g ops.toList K 0 a0).defers := by rw [frame_defers]; exact hdf
      cases a; cases hfr : frame g ops.toList K 0 a0; rw [hfr] at e1 e2; simp only at e1 e2; rw [e1, e2]
    rw [ea]
    refine hend g w hN ?_ ?_
    · intro j T z i cs hK hp
      obtain ⟨h1, c, h2, h3⟩ := hC j T z hK (hall j (hltK j _ hK))
      refine ⟨h1, ?_⟩
      rcases h3 with ⟨i', cs', hp', _, hc⟩ | ⟨hn, _⟩
      · have hil := hltK i _ hp
        have ho' : ops[i]? = some ops[i] := Array.getElem?_eq_getElem hil
        have := (hput i _ j cs ho' hp).2.1 i' cs' hp'
        subst this
        rw [hp] at hp'; cases hp'
        rw [hc] at h2; exact h2
      · have := hn i cs hp
        rw [hall i (hltK i _ hp)] at this; cases this
    · intro j j' T z T' z' hK hK' hne
      exact hD j j' T z T' z' hK hK' (hall j (hltK j _ hK)) (hall j' (hltK j' _ hK')) hne

def OpOkG (P : Program) (ops : Array Oper) (K : List Kind) (Q : Exit → Act → World → Prop) (a0 : Act) (w0 : World) (i : Nat) (o : Oper) : Kind → Prop
  | .inl v => ∀ (a : Act) (w : World) (Kc : Act → World → Prop), New w0 w → Old ops a0 a → Pred ops K o a → (∀ w', New w w' → Kc (a.put o.dst v) w') → wpOp P ops Q i Kc a w
  | .inr (.inl (T, z)) => ∀ (a : Act) (w : World) (Kc : Act → World → Prop), Kc (a.put o.dst (.pointer (some ⟨w.heap.size, 0, none⟩))) (w.alloc (.cells z T)) → wpOp P ops Q i Kc a w
  | .inr (.inr (j, cs)) => o.dst = none ∧ (o.after.toList.any fun e => Region.binds .any e && e.on == j) = true ∧ ∃ (T : TypeId) (z : Array Value) (t : Tmp), K[j]? = some (.inr (.inl (T, z))) ∧ (ops[j]?).bind (·.dst) = some t ∧
      ∀ (a : Act) (w : World) (Kc : Act → World → Prop) (g : Nat), a.eval (.tmp t) = .pointer (some ⟨g, 0, none⟩) → w.heap[g]? = some (.cells z T (0, 0)) → Old ops a0 a → Pred ops K o a →
        (∀ w', w.grownBy w' (some g) → w'.heap[g]? = some (.cells cs T (0, 0)) → Kc (a.put o.dst undef) w') → wpOp P ops Q i Kc a w

/-- what may be asked of the operations by looking at them -/
def opsOkG (n : Nat) (l : List Oper) : Bool :=
  (l.zipIdx.all fun (o, i) => o.after.toList.all fun e => !Region.binds .any e || decide (e.on < i)) &&
  l.all (fun o => match o.dst with | some t => decide (t < n) | none => true) && decide (l.filterMap (·.dst)).Nodup

theorem region_okG {id : Nat} {a0 : Act} {w0 : World} (hm : P.follows .mixedOrders = true) (K : List Kind) (hlen : K.length = ops.size) (hops : opsOkG a0.tmps.size ops.toList = true) (hputs' : noDup (puts K) = true)
    (hall' : AllOkI (OpOkG P ops K Q a0 w0) 0 ops.toList K)
    (hend : ∀ (g : Nat → Nat) (w' : World), New w0 w' → (∀ (j : Nat) (T : TypeId) (z : Array Value) (i : Nat) (cs : Array Value), K[j]? = some (.inr (.inl (T, z))) → K[i]? = some (.inr (.inr (j, cs))) → w0.heap.size ≤ g j ∧ w'.heap[g j]? = some (.cells cs T (0, 0))) →
      (∀ (j j' : Nat) (T : TypeId) (z : Array Value) (T' : TypeId) (z' : Array Value), K[j]? = some (.inr (.inl (T, z))) → K[j']? = some (.inr (.inl (T', z'))) → j ≠ j' → g j ≠ g j') → Q .normal (frame g ops.toList K 0 a0) w') :
    (Code.region id ops true).wp P Q a0 w0 := by
  have hputs := noDup_nodup hputs'
  unfold opsOkG at hops
  simp only [Bool.and_eq_true, decide_eq_true_iff] at hops
  obtain ⟨⟨h2, h3⟩, h4⟩ := hops
  rw [List.all_eq_true] at h2 h3
  have hmem : ∀ (i : Nat) (o : Oper), ops[i]? = some o → o ∈ ops.toList := fun i o h => by
    have : ops.toList[i]? = some o := by simpa using h
    exact List.mem_of_getElem? this
  have hok : ∀ (i : Nat) (o : Oper) (k : Kind), ops[i]? = some o → K[i]? = some k → OpOkG P ops K Q a0 w0 i o k := by
    intro i o k ho hk
    have h := hall'.at_ i o k (by simpa using ho) hk
    rw [Nat.zero_add] at h
    exact h
  have hold : ∀ (a : Act), (∀ t, (∀ o' ∈ ops.toList, o'.dst ≠ some t) → a.eval (.tmp t) = a0.eval (.tmp t)) → Old ops a0 a := by
    intro a h t ht
    rw [List.all_eq_true] at ht
    exact h t fun o' ho' => by have := ht o' ho'; simpa using this
  have hpred : ∀ (o : Oper) (a : Act), (∀ e ∈ o.after.toList, Region.binds .any e = true → ∀ (o' : Oper) (v' : Value) (t : Tmp), ops[e.on]? = some o' → o'.dst = some t → K[e.on]? = some (.inl v') → a.eval (.tmp t) = v') → Pred ops K o a := by
    intro o a h i t v hi ht hk
    rw [List.any_eq_true] at hi
    obtain ⟨e, he, hb⟩ := hi
    simp only [Bool.and_eq_true, beq_iff_eq] at hb
    obtain ⟨hb, rfl⟩ := hb
    obtain ⟨o', ho', hd⟩ := Option.bind_eq_some_iff.1 ht
    exact h e he hb o' v t ho' hd hk
  refine region_pureG hm K hlen ?_ h4 ?_ ?_ ?_ ?_ hend
  · intro i o ho e he hb
    have hz : (o, i) ∈ ops.toList.zipIdx := by
      rw [List.mem_zipIdx_iff_getElem?]; simpa using ho
    have := h2 _ hz
    simp only [List.all_eq_true] at this
    have := this e he
    rw [hb] at this
    simpa using this
  · intro o ho t ht
    have := h3 o ho
    rw [ht] at this
    simpa using this
  · intro i o v ho hk a w Kc hN h0 hp hK
    exact hok i o _ ho hk a w Kc hN (hold a h0) (hpred o a hp) hK
  · intro i o T z ho hk a w Kc hK
    exact hok i o _ ho hk a w Kc hK
  · intro i o j cs ho hk
    obtain ⟨hd, ha, T, z, t, hb, hoj, hw⟩ := hok i o _ ho hk
    obtain ⟨oj, hoj, htj⟩ := Option.bind_eq_some_iff.1 hoj
    refine ⟨hd, ?_, T, z, t, oj, hb, hoj, htj, ?_, fun a w Kc g h1 h2 h3 h4 h5 => hw a w Kc g h1 h2 (hold a h3) (hpred o a h4) h5⟩
    · intro i' cs' hk'
      exact puts_uni j K hputs i i' cs cs' hk hk'
    · rw [List.any_eq_true] at ha
      obtain ⟨e, he, hb⟩ := ha
      simp only [Bool.and_eq_true, beq_iff_eq] at hb
      exact ⟨e, he, hb.1, hb.2⟩


variable {K : List Kind} {a0 : Act} {w0 : World} {o : Oper}

theorem okg_plain {i : Nat} {k : Kind} (ho : ops[i]? = some o) (hg : o.guard = none) (h : OpOk P ops K Q a0 w0 o k) : OpOkG P ops K Q a0 w0 i o k := by
  match k, h with
  | .inl v, h => exact fun a w Kc h1 h2 h3 h4 => wpOp_plain ho hg (h a w Kc h1 h2 h3 h4)
  | .inr (.inl (T, z)), h => exact fun a w Kc h1 => wpOp_plain ho hg (h a w Kc h1)
  | .inr (.inr (j, cs)), ⟨hd, ha, T, z, t, h1, h2, h3⟩ => exact ⟨hd, ha, T, z, t, h1, h2, fun a w Kc g k1 k2 k3 k4 k5 => wpOp_plain ho hg (h3 a w Kc g k1 k2 k3 k4 k5)⟩

theorem yielded_of (j : Nat) (t : Tmp) (a : Act) (b : Bool) (ht : (ops[j]?).bind (·.dst) = some t) (h : a.eval (.tmp t) = .bool b) : yielded ops a.tmps j = some b := by
  unfold yielded
  rw [ht]
  simp only [Act.eval, Array.getD_eq_getD_getElem?] at h
  simp only [Option.bind_some]
  cases e : a.tmps[t]? with
  | none => rw [e] at h; cases h
  | some v => rw [e] at h; simp only [Option.getD_some] at h; subst h; rfl

/-- a guarded operation whose guard holds -/
theorem okg_on {i : Nat} (j : Nat) (t : Tmp) (b : Bool) (v : Value) (ho : ops[i]? = some o) (hg : o.guard = some (j, b)) (ha : (o.after.toList.any fun e => Region.binds .any e && e.on == j) = true)
    (ht : (ops[j]?).bind (·.dst) = some t) (hk : K[j]? = some (.inl (.bool b))) (h : OpOk P ops K Q a0 w0 o (.inl v)) : OpOkG P ops K Q a0 w0 i o (.inl v) := by
  intro a w Kc h1 h2 h3 h4
  have hy := yielded_of j t a b ht (h3 j t _ ha ht hk)
  unfold wpOp
  simp only [ho]
  rw [if_pos (by simp [Region.wanted, hg, hy])]
  exact .inl (h a w Kc h1 h2 h3 h4)
/-- a guarded operation whose guard does not hold -/
theorem okg_off {i : Nat} (j : Nat) (t : Tmp) (b b' : Bool) (ho : ops[i]? = some o) (hg : o.guard = some (j, b)) (ha : (o.after.toList.any fun e => Region.binds .any e && e.on == j) = true)
    (ht : (ops[j]?).bind (·.dst) = some t) (hk : K[j]? = some (.inl (.bool b'))) (hb : (b' == b) = false) : OpOkG P ops K Q a0 w0 i o (.inl undef) := by
  intro a w Kc h1 h2 h3 h4
  have hy := yielded_of j t a b' ht (h3 j t _ ha ht hk)
  unfold wpOp
  simp only [ho]
  rw [if_neg (by simpa [Region.wanted, hg, hy] using hb)]
  exact h4 w (new_refl w)

theorem allokI_cons {p : Nat → Oper → Kind → Prop} {n : Nat} {o : Oper} {os : List Oper} {k : Kind} {ks : List Kind} (h : p n o k) (t : AllOkI p (n + 1) os ks) : AllOkI p n (o :: os) (k :: ks) := ⟨h, t⟩
theorem allokI_nil {p : Nat → Oper → Kind → Prop} {n : Nat} : AllOkI p n [] [] := trivial
theorem region_okGA {id : Nat} (hm : P.follows .mixedOrders = true) (hall : AllOkI (OpOkG P ops K Q a0 w0) 0 ops.toList K) (hlen : K.length = ops.size) (hops : opsOkG a0.tmps.size ops.toList = true) (hputs : noDup (puts K) = true)
    (hend : ∀ (g : Nat → Nat) (w' : World), New w0 w' → (∀ (j : Nat) (T : TypeId) (z : Array Value) (i : Nat) (cs : Array Value), K[j]? = some (.inr (.inl (T, z))) → K[i]? = some (.inr (.inr (j, cs))) → w0.heap.size ≤ g j ∧ w'.heap[g j]? = some (.cells cs T (0, 0))) →
      (∀ (j j' : Nat) (T : TypeId) (z : Array Value) (T' : TypeId) (z' : Array Value), K[j]? = some (.inr (.inl (T, z))) → K[j']? = some (.inr (.inl (T', z'))) → j ≠ j' → g j ≠ g j') → Q .normal (frame g ops.toList K 0 a0) w') :
    (Code.region id ops true).wp P Q a0 w0 := region_okG hm K hlen hops hputs hall hend
end
end Go.Proofs.Ytdelfiijbkhldaa
