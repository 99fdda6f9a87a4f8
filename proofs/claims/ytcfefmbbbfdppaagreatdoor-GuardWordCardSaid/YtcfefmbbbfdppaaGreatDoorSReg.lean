/- Regions that draw their order: more kinds of operations. Of any program. No conditions. -/
import Derived.Test.YtcfefmbbbfdppaaGreatDoorSGlob
namespace Go.Proofs.YtcfefmbbbfdppaaGreatDoor
open Go.RowKit
set_option linter.unusedVariables false
set_option maxRecDepth 100000
section
variable {P : Program} {ops : Array Oper} {Q : Exit → Act → World → Prop} {K : List Kind} {T : List Nat} {a0 : Act} {w0 : World} {o : Oper}
theorem ok_val (v : Value) (h : ∀ (ρ : Operand → Value) (w : World), New w0 w → (∀ v, ρ (.const v) = v) → (∀ F, ρ (.func F) = .func (.func F) #[] #[]) → (∀ t : Tmp, (ops.toList.all fun o => o.dst != some t) = true → ρ (.tmp t) = a0.eval (.tmp t)) →
      (∀ (i : Nat) (t : Tmp) (v : Value), (o.after.toList.any fun e => Region.binds .any e && e.on == i) = true → (ops[i]?).bind (·.dst) = some t → K[i]? = some (.inl v) → ρ (.tmp t) = v) → (execOp ρ o).run P w = .ok (.value v) w) : OpOk P ops K Q a0 w0 o (.inl v) := by
  intro a w Kc hN h0 hp hK
  unfold Oper.wp
  rw [h a.eval w hN (fun _ => rfl) (fun _ => rfl) h0 hp, Oper.upon_value]
  exact hK w (new_refl w)
theorem allok_cons {p : Oper → Kind → Prop} {o : Oper} {os : List Oper} {k : Kind} {ks : List Kind} (h : p o k) (t : AllOk p os ks) : AllOk p (o :: os) (k :: ks) := ⟨h, t⟩
theorem allok_nil {p : Oper → Kind → Prop} : AllOk p [] [] := trivial
theorem region_okA {id : Nat} (hm : P.follows .mixedOrders = true) (hall : AllOk (OpOk P ops K Q a0 w0) ops.toList K) (hlen : K.length = ops.size) (hops : opsOk a0.tmps.size ops.toList = true) (hputs : noDup (puts K) = true)
    (hend : ∀ (g : Nat → Nat) (w' : World), New w0 w' → (∀ (j : Nat) (T : TypeId) (z : Array Value) (i : Nat) (cs : Array Value), K[j]? = some (.inr (.inl (T, z))) → K[i]? = some (.inr (.inr (j, cs))) → w0.heap.size ≤ g j ∧ w'.heap[g j]? = some (.cells cs T (0, 0))) →
      (∀ (j j' : Nat) (T : TypeId) (z : Array Value) (T' : TypeId) (z' : Array Value), K[j]? = some (.inr (.inl (T, z))) → K[j']? = some (.inr (.inl (T', z'))) → j ≠ j' → g j ≠ g j') → Q .normal (frame g ops.toList K 0 a0) w') :
    (Code.region id ops true).wp P Q a0 w0 := region_ok hm K hlen hops hputs hall hend
end
theorem boxes2 {w W : World} {c1 : Array Value} {c2 : Array Value} {t1 t2 : TypeId} (h : ((w.alloc (.cells c1 t1)).alloc (.cells c2 t2)) = W) :
    New w W ∧ Blk W (w.heap.size) t1 c1 ∧ Blk W (w.heap.size + 1) t2 c2 := by
  subst h
  exact ⟨new_alloc (new_alloc (new_refl _) _) _, ((show Blk (w.alloc (.cells c1 t1)) (w.heap.size) t1 c1 by have := heap_alloc_new w (.cells c1 t1); simpa only [Blk, World.size_alloc] using this).al _), (show Blk ((w.alloc (.cells c1 t1)).alloc (.cells c2 t2)) (w.heap.size + 1) t2 c2 by have := heap_alloc_new (w.alloc (.cells c1 t1)) (.cells c2 t2); simpa only [Blk, World.size_alloc] using this)⟩
theorem boxes4 {w W : World} {c1 : Array Value} {c2 : Array Value} {c3 : Array Value} {c4 : Array Value} {t1 t2 t3 t4 : TypeId} (h : ((((w.alloc (.cells c1 t1)).alloc (.cells c2 t2)).alloc (.cells c3 t3)).alloc (.cells c4 t4)) = W) :
    New w W ∧ Blk W (w.heap.size) t1 c1 ∧ Blk W (w.heap.size + 1) t2 c2 ∧ Blk W (w.heap.size + 1 + 1) t3 c3 ∧ Blk W (w.heap.size + 1 + 1 + 1) t4 c4 := by
  subst h
  exact ⟨new_alloc (new_alloc (new_alloc (new_alloc (new_refl _) _) _) _) _, ((((show Blk (w.alloc (.cells c1 t1)) (w.heap.size) t1 c1 by have := heap_alloc_new w (.cells c1 t1); simpa only [Blk, World.size_alloc] using this).al _).al _).al _), (((show Blk ((w.alloc (.cells c1 t1)).alloc (.cells c2 t2)) (w.heap.size + 1) t2 c2 by have := heap_alloc_new (w.alloc (.cells c1 t1)) (.cells c2 t2); simpa only [Blk, World.size_alloc] using this).al _).al _), ((show Blk (((w.alloc (.cells c1 t1)).alloc (.cells c2 t2)).alloc (.cells c3 t3)) (w.heap.size + 1 + 1) t3 c3 by have := heap_alloc_new ((w.alloc (.cells c1 t1)).alloc (.cells c2 t2)) (.cells c3 t3); simpa only [Blk, World.size_alloc] using this).al _), (show Blk ((((w.alloc (.cells c1 t1)).alloc (.cells c2 t2)).alloc (.cells c3 t3)).alloc (.cells c4 t4)) (w.heap.size + 1 + 1 + 1) t4 c4 by have := heap_alloc_new (((w.alloc (.cells c1 t1)).alloc (.cells c2 t2)).alloc (.cells c3 t3)) (.cells c4 t4); simpa only [Blk, World.size_alloc] using this)⟩
theorem boxes5 {w W : World} {c1 : Array Value} {c2 : Array Value} {c3 : Array Value} {c4 : Array Value} {c5 : Array Value} {t1 t2 t3 t4 t5 : TypeId} (h : (((((w.alloc (.cells c1 t1)).alloc (.cells c2 t2)).alloc (.cells c3 t3)).alloc (.cells c4 t4)).alloc (.cells c5 t5)) = W) :
    New w W ∧ Blk W (w.heap.size) t1 c1 ∧ Blk W (w.heap.size + 1) t2 c2 ∧ Blk W (w.heap.size + 1 + 1) t3 c3 ∧ Blk W (w.heap.size + 1 + 1 + 1) t4 c4 ∧ Blk W (w.heap.size + 1 + 1 + 1 + 1) t5 c5 := by
  subst h
  exact ⟨new_alloc (new_alloc (new_alloc (new_alloc (new_alloc (new_refl _) _) _) _) _) _, (((((show Blk (w.alloc (.cells c1 t1)) (w.heap.size) t1 c1 by have := heap_alloc_new w (.cells c1 t1); simpa only [Blk, World.size_alloc] using this).al _).al _).al _).al _), ((((show Blk ((w.alloc (.cells c1 t1)).alloc (.cells c2 t2)) (w.heap.size + 1) t2 c2 by have := heap_alloc_new (w.alloc (.cells c1 t1)) (.cells c2 t2); simpa only [Blk, World.size_alloc] using this).al _).al _).al _), (((show Blk (((w.alloc (.cells c1 t1)).alloc (.cells c2 t2)).alloc (.cells c3 t3)) (w.heap.size + 1 + 1) t3 c3 by have := heap_alloc_new ((w.alloc (.cells c1 t1)).alloc (.cells c2 t2)) (.cells c3 t3); simpa only [Blk, World.size_alloc] using this).al _).al _), ((show Blk ((((w.alloc (.cells c1 t1)).alloc (.cells c2 t2)).alloc (.cells c3 t3)).alloc (.cells c4 t4)) (w.heap.size + 1 + 1 + 1) t4 c4 by have := heap_alloc_new (((w.alloc (.cells c1 t1)).alloc (.cells c2 t2)).alloc (.cells c3 t3)) (.cells c4 t4); simpa only [Blk, World.size_alloc] using this).al _), (show Blk (((((w.alloc (.cells c1 t1)).alloc (.cells c2 t2)).alloc (.cells c3 t3)).alloc (.cells c4 t4)).alloc (.cells c5 t5)) (w.heap.size + 1 + 1 + 1 + 1) t5 c5 by have := heap_alloc_new ((((w.alloc (.cells c1 t1)).alloc (.cells c2 t2)).alloc (.cells c3 t3)).alloc (.cells c4 t4)) (.cells c5 t5); simpa only [Blk, World.size_alloc] using this)⟩
end Go.Proofs.YtcfefmbbbfdppaaGreatDoor
