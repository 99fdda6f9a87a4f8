/- Slices that a call has made itself: append of a 256-bit number; what later worlds keep of them. No conditions. -/
import Derived.Test.YtdelfiijbkhldaaReg
import Derived.Test.YtdelfiijbkhldaaLaw
import Derived.Laws.AppendOwn
namespace Go.Proofs.Ytdelfiijbkhldaa
open Go.RowKit
set_option linter.unusedVariables false

theorem own_new {w w' : World} {base : Nat} {e : TypeId} {size : Nat} {v : Value} {n : Nat} {xs : List Value} (h : w.ownsRow base e size v n xs) (k : New w w') : w'.ownsRow base e size v n xs :=
  h.kept (row := none) ⟨k.os, k.tape, k.output, k.size, fun i hi _ => k.block i hi⟩ (by cases v.ownBlock <;> simp)
theorem own_block {w : World} {base : Nat} {e : TypeId} {size : Nat} {v : Value} {n : Nat} {xs : List Value} (h : w.ownsRow base e size v n xs) : ∀ k, v.ownBlock = some k → base ≤ k := fun k hk => (h.lt k hk).1
theorem new_grown {a w w' : World} {base : Nat} {e : TypeId} {size : Nat} {v : Value} {n : Nat} {xs : List Value} (h : New a w) (ho : w.ownsRow base e size v n xs) (hb : a.heap.size ≤ base) (hg : w.grownBy w' v.ownBlock) : New a w' :=
  h.trans ⟨hg.os, hg.tape, hg.output, hg.size, fun k hk => hg.block k (Nat.lt_of_lt_of_le hk h.size) (fun e => by have := own_block ho k e.symm; omega)⟩
theorem Blk.grown {w w' : World} {base : Nat} {e : TypeId} {size : Nat} {v : Value} {n : Nat} {xs : List Value} {g : Nat} {t : TypeId} {cs : Array Value} (B : Blk w g t cs) (ho : w.ownsRow base e size v n xs) (hb : g < base) (hg : w.grownBy w' v.ownBlock) : Blk w' g t cs :=
  (hg.block g B.lt (fun e => by have := own_block ho g e.symm; omega)).trans B

theorem info_parts' {P : Program} {t : TypeId} {x : Option Value × Nat × Nat} (h : (P.info? t).map (fun i => (i.zero, i.size, i.bytes)) = some x) : ∃ i, P.info? t = some i ∧ i.zero = x.1 ∧ i.size = x.2.1 ∧ i.bytes = x.2.2 := by
  obtain ⟨i, hi, hx⟩ := Option.map_eq_some_iff.1 h
  exact ⟨i, hi, by rw [← hx], by rw [← hx], by rw [← hx]⟩
theorem info_u : (Try.prog.info? 26).map (fun i => (i.zero, i.size, i.bytes)) = some (some (.agg z4), 4, 32) := by kernel_rfl

theorem append_u {ops : Array Oper} {rest : List Oper} {o : Oper} {a : Act} {Q : Exit → Act → World → Prop} {w : World} (hgd : o.guard = none) (s x : Operand)
    (ho : o.op = .call { callee := .builtin .append, args := #[s, x], argTypes := #[27, 27] })
    (base : Nat) (v : Value) (n : Nat) (xs : List Value) (hs : a.eval s = v) (hown : w.ownsRow base 26 4 v n xs) (g : Nat) (tt : TypeId) (r : Nat) (B : Blk w g tt (uc r)) (hx : a.eval x = .slice (some ⟨g, 0, none⟩) 1 1)
    (hn : n ≤ 1000) (hbase : base ≤ w.heap.size)
    (h : ∀ v' w', w'.ownsRow base 26 4 v' (n + 1) (xs ++ (uc r).toList) → w.grownBy w' v.ownBlock → wpList Try.prog ops Q rest (a.put o.dst v') w') : wpList Try.prog ops Q (o :: rest) a w := by
  obtain ⟨i0, hi, hz0, hz1, hz2⟩ := info_parts' info_u
  refine wpList_append_own w hgd s x _ ho base _ i0 (.agg z4) 4 32 Try.underlying27 hi hz0 hz1 hz2 rfl (by decide) v n xs hs hown ⟨g, 0, none⟩ 1 1 (uc r).toList hx rfl ?_ (by simp [Value.oneCell']) (by unfold maxLen; omega) (by omega) hbase (fun v' w' h1 h2 _ => h v' w' h1 h2)
  intro j u hu
  have := B.cell j
  rw [show (⟨g, 0, none⟩ : Addr).add j = ⟨g, j, none⟩ from by simp only [Addr.add]; split <;> simp_all, this]
  simpa using hu

/-- behind it: the slice's block, and its cells -/
theorem own_cells {w : World} {base : Nat} {e : TypeId} {size : Nat} {v : Value} {n : Nat} {xs : List Value} (h : w.ownsRow base e size v (n + 1) xs) :
    ∃ g cap cur, v = .slice (some ⟨g, 0, none⟩) (n + 1) cap ∧ base ≤ g ∧ Blk w g e cur ∧ n + 1 ≤ cap ∧ ∀ (i : Nat) (u : Value), xs[i]? = some u → cur[i]? = some u := by
  rcases h.2 with ⟨_, h0⟩ | ⟨g, cap, cur, hv, hg, hh, hn, hc, hs, ht⟩
  · omega
  · refine ⟨g, cap, cur, hv, hg, hh, hn, fun i u hu => ?_⟩
    rw [← ht] at hu
    rw [List.getElem?_take] at hu
    split at hu
    · simpa using hu
    · cases hu
end Go.Proofs.Ytdelfiijbkhldaa
