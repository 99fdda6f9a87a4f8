/- Regions that make variables, call and store: one lemma for each kind of operation. Of any program. No conditions. -/
import Derived.Test.YtdmlmcoeklgapaaDoorOrder
namespace Go.Proofs.YtdmlmcoeklgapaaDoor
open Go.RowKit
set_option linter.unusedVariables false

section
variable {P : Program} {ops : Array Oper} {Q : Exit → Act → World → Prop}

def Old (ops : Array Oper) (a0 a : Act) : Prop := ∀ t : Tmp, (ops.toList.all fun o => o.dst != some t) = true → a.eval (.tmp t) = a0.eval (.tmp t)
/-- operation i is bound to stand ahead, it gives a known value, and that stands in slot t -/
def Pred (ops : Array Oper) (K : List Kind) (o : Oper) (a : Act) : Prop := ∀ (i : Nat) (t : Tmp) (v : Value), (o.after.toList.any fun e => Region.binds .any e && e.on == i) = true → (ops[i]?).bind (·.dst) = some t → K[i]? = some (.inl v) → a.eval (.tmp t) = v

def OpOk (P : Program) (ops : Array Oper) (K : List Kind) (Q : Exit → Act → World → Prop) (a0 : Act) (w0 : World) (o : Oper) : Kind → Prop
  | .inl v => ∀ (a : Act) (w : World) (Kc : Act → World → Prop), New w0 w → Old ops a0 a → Pred ops K o a → (∀ w', New w w' → Kc (a.put o.dst v) w') → o.wp P a w Kc Q
  | .inr (.inl (T, z)) => ∀ (a : Act) (w : World) (Kc : Act → World → Prop), Kc (a.put o.dst (.pointer (some ⟨w.heap.size, 0, none⟩))) (w.alloc (.cells z T)) → o.wp P a w Kc Q
  | .inr (.inr (j, cs)) => o.dst = none ∧ (o.after.toList.any fun e => Region.binds .any e && e.on == j) = true ∧ ∃ (T : TypeId) (z : Array Value) (t : Tmp), K[j]? = some (.inr (.inl (T, z))) ∧ (ops[j]?).bind (·.dst) = some t ∧
      ∀ (a : Act) (w : World) (Kc : Act → World → Prop) (g : Nat), a.eval (.tmp t) = .pointer (some ⟨g, 0, none⟩) → w.heap[g]? = some (.cells z T (0, 0)) → Old ops a0 a → Pred ops K o a →
        (∀ w', w.grownBy w' (some g) → w'.heap[g]? = some (.cells cs T (0, 0)) → Kc (a.put o.dst undef) w') → o.wp P a w Kc Q

def noDup : List Nat → Bool
  | [] => true
  | x :: xs => !xs.contains x && noDup xs

theorem noDup_nodup : ∀ {l : List Nat}, noDup l = true → l.Nodup
  | [], _ => List.nodup_nil
  | x :: xs, h => by
    simp only [noDup, Bool.and_eq_true] at h
    exact List.nodup_cons.2 ⟨by simpa using h.1, noDup_nodup h.2⟩

def puts (K : List Kind) : List Nat := K.filterMap fun | .inr (.inr (j, _)) => some j | _ => none

/-- what may be asked of the operations by looking at them -/
def opsOk (n : Nat) (l : List Oper) : Bool :=
  l.all (fun o => o.guard.isNone) && (l.zipIdx.all fun (o, i) => o.after.toList.all fun e => !Region.binds .any e || decide (e.on < i)) &&
  l.all (fun o => match o.dst with | some t => decide (t < n) | none => true) && decide (l.filterMap (·.dst)).Nodup

/-- one store a variable -/
theorem puts_uni (j : Nat) : ∀ (K : List Kind), (puts K).Nodup → ∀ (i i' : Nat) (cs cs' : Array Value), K[i]? = some (.inr (.inr (j, cs))) → K[i']? = some (.inr (.inr (j, cs'))) → i' = i := by
  intro K
  induction K with
  | nil => intro _ i i' cs cs' h; simp at h
  | cons k K ih =>
    intro hn i i' cs cs' h h'
    have mem : ∀ (i : Nat) (cs : Array Value), K[i]? = some (.inr (.inr (j, cs))) → j ∈ puts K := fun i cs h => List.mem_filterMap.2 ⟨_, List.mem_of_getElem? h, rfl⟩
    cases i with
    | zero =>
      cases i' with
      | zero => rfl
      | succ i' =>
        simp only [List.getElem?_cons_zero, Option.some.injEq, List.getElem?_cons_succ] at h h'
        subst h
        exact absurd (mem i' cs' h') (List.nodup_cons.1 (by simpa [puts] using hn)).1
    | succ i =>
      cases i' with
      | zero =>
        simp only [List.getElem?_cons_zero, Option.some.injEq, List.getElem?_cons_succ] at h h'
        subst h'
        exact absurd (mem i cs h) (List.nodup_cons.1 (by simpa [puts] using hn)).1
      | succ i' =>
        simp only [List.getElem?_cons_succ] at h h'
        have ht : (puts K).Nodup := by
          unfold puts at hn ⊢
          rw [List.filterMap_cons] at hn
          split at hn
          · exact hn
          · exact (List.nodup_cons.1 hn).2
        rw [ih ht i i' cs cs' h h']

def AllOk (p : Oper → Kind → Prop) : List Oper → List Kind → Prop
  | o :: os, k :: ks => p o k ∧ AllOk p os ks
  | _, _ => True

theorem AllOk.zip {p : Oper → Kind → Prop} : ∀ {os : List Oper} {ks : List Kind}, AllOk p os ks → ∀ x ∈ os.zip ks, p x.1 x.2
  | [], _, _, _, hx => by simp at hx
  | _ :: _, [], _, _, hx => by simp at hx
  | o :: os, k :: ks, h, x, hx => by
    rw [List.zip_cons_cons] at hx
    rcases List.mem_cons.1 hx with rfl | hx
    · exact h.1
    · exact h.2.zip x hx

theorem region_ok {id : Nat} {a0 : Act} {w0 : World} (hm : P.follows .mixedOrders = true) (K : List Kind) (hlen : K.length = ops.size) (hops : opsOk a0.tmps.size ops.toList = true) (hputs' : noDup (puts K) = true)
    (hall' : AllOk (OpOk P ops K Q a0 w0) ops.toList K)
    (hend : ∀ (g : Nat → Nat) (w' : World), New w0 w' → (∀ (j : Nat) (T : TypeId) (z : Array Value) (i : Nat) (cs : Array Value), K[j]? = some (.inr (.inl (T, z))) → K[i]? = some (.inr (.inr (j, cs))) → w0.heap.size ≤ g j ∧ w'.heap[g j]? = some (.cells cs T (0, 0))) →
      (∀ (j j' : Nat) (T : TypeId) (z : Array Value) (T' : TypeId) (z' : Array Value), K[j]? = some (.inr (.inl (T, z))) → K[j']? = some (.inr (.inl (T', z'))) → j ≠ j' → g j ≠ g j') → Q .normal (frame g ops.toList K 0 a0) w') :
    (Code.region id ops true).wp P Q a0 w0 := by
  have hall := hall'.zip
  have hputs := noDup_nodup hputs'
  unfold opsOk at hops
  simp only [Bool.and_eq_true, decide_eq_true_iff] at hops
  obtain ⟨⟨⟨h1, h2⟩, h3⟩, h4⟩ := hops
  rw [List.all_eq_true] at h1 h2 h3
  have hmem : ∀ (i : Nat) (o : Oper), ops[i]? = some o → o ∈ ops.toList := fun i o h => by
    have : ops.toList[i]? = some o := by simpa using h
    exact List.mem_of_getElem? this
  have hok : ∀ (i : Nat) (o : Oper) (k : Kind), ops[i]? = some o → K[i]? = some k → OpOk P ops K Q a0 w0 o k := by
    intro i o k ho hk
    have h : (ops.toList.zip K)[i]? = some (o, k) := by
      rw [List.getElem?_zip_eq_some]
      exact ⟨by simpa using ho, hk⟩
    exact hall _ (List.mem_of_getElem? h)
  have hold : ∀ (a : Act), (∀ t, (∀ o' ∈ ops.toList, o'.dst ≠ some t) → a.eval (.tmp t) = a0.eval (.tmp t)) → Old ops a0 a := by
    intro a h t ht
    rw [List.all_eq_true] at ht
    exact h t fun o' ho' => by have := ht o' ho'; simpa using this
  have hpred : ∀ (o : Oper) (a : Act), (∀ e ∈ o.after.toList, Region.binds .any e = true → ∀ (o' : Oper) (v' : Value) (t : Tmp), ops[e.on]? = some o' → o'.dst = some t → K[e.on]? = some (.inl v') → a.eval (.tmp t) = v') → Pred ops K o a := by
    intro o a h i t v hi ht hk
    rw [List.any_eq_true] at hi
    obtain ⟨e, he, hb⟩ := hi
    simp only [Bool.and_eq_true, beq_iff_eq] at hb
    obtain ⟨hb, rfl⟩ := hb
    obtain ⟨o', ho', hd⟩ := Option.bind_eq_some_iff.1 ht
    exact h e he hb o' v t ho' hd hk
  refine region_pure hm K hlen (fun o ho => by have := h1 o ho; simpa using this) ?_ h4 ?_ ?_ ?_ ?_ hend
  · intro i o ho e he hb
    have hz : (o, i) ∈ ops.toList.zipIdx := by
      rw [List.mem_zipIdx_iff_getElem?]; simpa using ho
    have := h2 _ hz
    simp only [List.all_eq_true] at this
    have := this e he
    rw [hb] at this
    simpa using this
  · intro o ho t ht
    have := h3 o ho
    rw [ht] at this
    simpa using this
  · intro i o v ho hk a w Kc hN h0 hp hK
    exact hok i o _ ho hk a w Kc hN (hold a h0) (hpred o a hp) hK
  · intro i o T z ho hk a w Kc hK
    exact hok i o _ ho hk a w Kc hK
  · intro i o j cs ho hk
    obtain ⟨hd, ha, T, z, t, hb, hoj, hw⟩ := hok i o _ ho hk
    obtain ⟨oj, hoj, htj⟩ := Option.bind_eq_some_iff.1 hoj
    refine ⟨hd, ?_, T, z, t, oj, hb, hoj, htj, ?_, fun a w Kc g h1 h2 h3 h4 h5 => hw a w Kc g h1 h2 (hold a h3) (hpred o a h4) h5⟩
    · intro i' cs' hk'
      exact puts_uni j K hputs i i' cs cs' hk hk'
    · rw [List.any_eq_true] at ha
      obtain ⟨e, he, hb⟩ := ha
      simp only [Bool.and_eq_true, beq_iff_eq] at hb
      exact ⟨e, he, hb.1, hb.2⟩

variable {K : List Kind} {a0 : Act} {w0 : World} {o : Oper}

theorem ok_load (T : TypeId) (p : Tmp) (g : Nat) (t : TypeId) (cs : Array Value) (fr : Nat × Nat) (d : TypeDesc) (ho : o.op = .load T (.tmp p)) (hp : (ops.toList.all fun o => o.dst != some p) = true) (hx : a0.eval (.tmp p) = .pointer (some ⟨g, 0, none⟩))
    (hg : w0.heap[g]? = some (.cells cs t fr)) (hu : P.underlying T = some d) (hd : (match d with | .struct _ | .array _ _ => true | _ => false) = true) (hi : (P.info? T).map (·.size) = some cs.size) : OpOk P ops K Q a0 w0 o (.inl (.agg cs)) := by
  intro a w Kc hN hold _ hK
  have hlt : g < w0.heap.size := by
    rcases Nat.lt_or_ge g w0.heap.size with h | h
    · exact h
    · rw [Array.getElem?_eq_none h] at hg; cases hg
  exact wp_load_row T (.tmp p) ho g ((hold p hp).trans hx) t cs fr d ((hN.block g hlt).trans hg) hu hd hi (hK w (new_refl w))

theorem ok_call (F : FuncId) (fn : Func) (args : Array Operand) (ts : Array TypeId) (xs : Array Value) (v : Value) (ho : o.op = .call { callee := .value (.func F), args := args, argTypes := ts })
    (hf : P.funcs[F]? = some fn) (hn : (fn.name == "runtime.NumGoroutine") = false) (hb : fn.body.isNone = false)
    (hx : ∀ a, Old ops a0 a → Pred ops K o a → args.map a.eval = xs) (hc : ∀ w, Calls P F xs w fun e w' => e = .returned v ∧ New w w') : OpOk P ops K Q a0 w0 o (.inl v) := by
  intro a w Kc hN hold hpred hK
  have h : (execOp a.eval o).run P w = .ok (.enter F xs) w := by
    unfold execOp
    have e : a.eval (.func F) = .func (.func F) #[] #[] := rfl
    simp only [ho, resolve, e, Deferred.ofValue, Sem.run_bind, Sem.run_pure, Result.andThen_ok, invoke, callFunc, run_program, hf, hn, hb]
    simp [hx a hold hpred]
  unfold Oper.wp
  rw [h, Oper.upon_enter]
  refine (hc w).mono fun e w' ⟨he, hw⟩ => ?_
  subst he
  exact hK w' hw

theorem ok_alloc (T : TypeId) (z : Array Value) (ho : o.op = .alloc T) (hz : ∀ w, (zeroValue T).run P w = .ok (.agg z) w) : OpOk P ops K Q a0 w0 o (.inr (.inl (T, z))) := by
  intro a w Kc hK
  have h : (execOp a.eval o).run P w = .ok (.value (.pointer (some ⟨w.heap.size, 0, none⟩))) (w.alloc (.cells z T)) := by
    unfold execOp
    simp only [ho, Instr.alloc, Sem.run_bind, hz, newVar, newRow, newObj, Value.cells, Result.andThen_ok]
    rfl
  unfold Oper.wp
  rw [h, Oper.upon_value]
  exact hK

theorem ok_store (T : TypeId) (j : Nat) (t c : Tmp) (k : Nat) (z cs : Array Value) (ho : o.op = .store T (.tmp t) (.tmp c)) (hd : o.dst = none) (hj : (o.after.toList.any fun e => Region.binds .any e && e.on == j) = true)
    (hk : (o.after.toList.any fun e => Region.binds .any e && e.on == k) = true) (hbj : K[j]? = some (.inr (.inl (T, z)))) (hoj : (ops[j]?).bind (·.dst) = some t) (hok : (ops[k]?).bind (·.dst) = some c) (hvk : K[k]? = some (.inl (.agg cs)))
    (hi : (P.info? T).map (·.size) = some cs.size) (hs : z.size = cs.size) (h1 : cs.all (·.oneCell') = true) : OpOk P ops K Q a0 w0 o (.inr (.inr (j, cs))) := by
  refine ⟨hd, hj, T, z, t, hbj, hoj, ?_⟩
  intro a w Kc g hx hg _ hpred hK
  refine wp_store_row T (.tmp t) (.tmp c) ho g cs hx (hpred k c _ hk hok hvk) T z hg hi hs h1 (hK _ ?_ ?_)
  · refine ⟨rfl, rfl, rfl, by simp [World.setRow], fun i hi hne => ?_⟩
    have : ¬ g = i := fun h => hne (by rw [h])
    simp [World.setRow, Array.getElem?_modify, this]
  · exact setRow_heap w g z cs T (0, 0) hg
end
end Go.Proofs.YtdmlmcoeklgapaaDoor
