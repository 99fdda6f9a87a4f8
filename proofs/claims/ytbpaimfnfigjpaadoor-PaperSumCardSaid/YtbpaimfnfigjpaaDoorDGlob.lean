/- The program's tables as data: loaded whole, or cell by cell. Of any program. No conditions but that the table lies where it was laid. -/
import Derived.Test.YtbpaimfnfigjpaaDoorDK2
import Derived.Test.YtbpaimfnfigjpaaDoorDCode
namespace Go.Proofs.YtbpaimfnfigjpaaDoor
open Go.RowKit
set_option linter.unusedVariables false
set_option linter.unusedSimpArgs false

def ofVals : List Value → Option (List D)
  | [] => some []
  | v :: vs => match ofVal v, ofVals vs with | some d, some ds => some (d :: ds) | _, _ => none
theorem ofVals_reps {G : Gh} {w : World} : ∀ {vs : List Value} {ds : List D}, ofVals vs = some ds → Reps G w ds vs.toArray ∧ ∀ d ∈ ds, d.one = true
  | [], ds, h => by simp [ofVals] at h; subst h; exact ⟨Reps.nil, fun d hd => by simp at hd⟩
  | v :: vs, ds, h => by
    simp only [ofVals] at h
    split at h
    · rename_i d ds' h1 h2
      injection h with h
      subst h
      obtain ⟨h3, h4⟩ := ofVals_reps (G := G) (w := w) h2
      refine ⟨Reps.cons (ofVal_rep h1) h3, fun x hx => ?_⟩
      rcases List.mem_cons.1 hx with rfl | hx
      · exact ofVal_one h1
      · exact h4 x hx
    · cases h

section
variable {P : Program} {o : Oper} {ρ : Slots} {m : Mem}
theorem r_loadg {T : TypeId} {ty : Ty} [ht : HasTy P T ty] {x : Operand} {g off : Nat} {vs : List Value} {cs : List D} {d : D} (ho : o.op = .load T x) (hx : oev ρ x = some (.raw (.pointer (some ⟨g, off, none⟩)))) (hg : (g, vs) ∈ gtab) (hcs : ofVals vs = some cs) (hd : cut ty off cs = some d) : OpSound P o (Eff.val d) ρ m := by
  refine sound_val fun B G a w m' hs h _ => ?_
  obtain ⟨_, T', fr, hv⟩ := hs.gtab_ _ hg
  obtain ⟨hr, h1⟩ := ofVals_reps (G := G) (w := w) hcs
  have hp := h x (by simp [ho, Op.operands]) _ hx
  have he : a.eval x = .pointer (some ⟨g, off, none⟩) := (show ∀ v, Rep G w (.raw (.pointer (some ⟨g, off, none⟩))) v → v = .pointer (some ⟨g, off, none⟩) from fun v h => by cases h; rfl) _ hp
  obtain ⟨v, h2, h3⟩ := run_cut (P := P) (T := T) (b := g) (o := 0) hr h1 (fun i _ => by rw [cell_of_row w _ _ vs.toArray T' fr hv, Nat.zero_add]) hd
  rw [Nat.zero_add] at h2
  exact ⟨v, by simp [execOp, ho, Instr.loadAt, Instr.sureAddr, he, Sem.run_bind, h2], h3⟩
theorem r_indexAddrg {T : TypeId} {x ix : Operand} {n : Nat} {E : TypeId} {ty : Ty} [ha : HasArr P T n E] [ht : HasTy P E ty] {g off : Nat} {k : IntKind} {j : Int} (ho : o.op = .indexAddr T x ix) (hx : oev ρ x = some (.raw (.pointer (some ⟨g, off, none⟩)))) (hix : oev ρ ix = some (.int k j)) (hj : 0 ≤ j ∧ j < n) : OpSound P o (Eff.val (.raw (.pointer (some ⟨g, off + j.toNat * ty.size, none⟩)))) ρ m := by
  refine sound_val fun B G a w m' hs h _ => ?_
  have hp := h x (by simp [ho, Op.operands]) _ hx
  have hq := h ix (by simp [ho, Op.operands]) _ hix
  generalize hev : a.eval x = vx at hp
  generalize hevi : a.eval ix = vi at hq
  cases hq
  cases hp
  obtain ⟨i, hi, hsi⟩ := Option.map_eq_some_iff.1 ht.size
  refine ⟨.pointer (some ⟨g, off + j.toNat * ty.size, none⟩), ?_, .raw _ rfl⟩
  simp [execOp, ho, hev, hevi, Instr.indexAt, Instr.sureAddr, Sem.run_bind, run_underlying ha.arr, asIntOf, hj.1, hj.2, sizeOf, typeInfo, hi, hsi, add_off]
end
section
variable {P : Program} {ρ : Slots} {m : Mem} {nx : Nat} {ops : Array Oper} {os : List Oper} {K : List Eff → Slots → Mem → Nat → Prop}
theorem k_loadg {t : Tmp} {T : TypeId} {ty : Ty} [HasTy P T ty] {x : Operand} {g off : Nat} {vs : List Value} {cs : List D} {d : D} {V : TypeId} {pos : String} {af : Array Edge} {gd : Option (Nat × Bool)} (hg : gok ops ρ ⟨some t, .load T x, V, pos, af, gd⟩ = some true)
    (hx : oev ρ x = some (.raw (.pointer (some ⟨g, off, none⟩)))) (hgt : (g, vs) ∈ gtab) (hcs : ofVals vs = some cs) (hd : cut ty off cs = some d)
    (hh : R P ops os (fun Es => K (Eff.val d :: Es)) ((t, d) :: ρ) m nx) : R P ops (⟨some t, .load T x, V, pos, af, gd⟩ :: os) K ρ m nx := R_cons hg (r_loadg rfl hx hgt hcs hd) rfl hh
theorem k_indexAddrg {t : Tmp} {T : TypeId} {x ix : Operand} {n : Nat} {E : TypeId} {ty : Ty} [HasArr P T n E] [HasTy P E ty] {g off : Nat} {k : IntKind} {j : Int} {V : TypeId} {pos : String} {af : Array Edge} {gd : Option (Nat × Bool)} (hg : gok ops ρ ⟨some t, .indexAddr T x ix, V, pos, af, gd⟩ = some true)
    (hx : oev ρ x = some (.raw (.pointer (some ⟨g, off, none⟩)))) (hix : oev ρ ix = some (.int k j)) (hj : 0 ≤ j ∧ j < n)
    (hh : R P ops os (fun Es => K (Eff.val (.raw (.pointer (some ⟨g, off + j.toNat * ty.size, none⟩))) :: Es)) ((t, .raw (.pointer (some ⟨g, off + j.toNat * ty.size, none⟩))) :: ρ) m nx) : R P ops (⟨some t, .indexAddr T x ix, V, pos, af, gd⟩ :: os) K ρ m nx := R_cons hg (r_indexAddrg rfl hx hix hj) rfl hh
end
end Go.Proofs.YtbpaimfnfigjpaaDoor
