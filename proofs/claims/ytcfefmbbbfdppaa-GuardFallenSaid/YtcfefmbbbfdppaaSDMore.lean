/- Still more operations over data: the smaller and the greater one of two numbers. Of any program. No conditions. -/
import Derived.Test.YtcfefmbbbfdppaaSDPart
import Derived.Scope
namespace Go.Proofs.Ytcfefmbbbfdppaa
open Go.RowKit
set_option linter.unusedVariables false
section
variable {P : Program} {o : Oper} {ρ : Slots} {m : Mem}
theorem run_min_ {ts : Array TypeId} {v1 v2 : Value} {w : World} {x y : Operand} {a : Act} {r : Value} (ho : o.op = .call { callee := .builtin .min, args := #[x, y], argTypes := ts }) (he : a.eval x = v1) (he2 : a.eval y = v2) (h : (Builtin.min_ ts o.type #[v1, v2]).run P w = .ok r w) : (execOp a.eval o).run P w = .ok (.value r) w := by
  simp only [execOp, ho, resolve, Sem.run_bind, Sem.run_pure, Result.andThen_ok, invoke]
  simp [builtin, he, he2, h]
theorem run_max_ {ts : Array TypeId} {v1 v2 : Value} {w : World} {x y : Operand} {a : Act} {r : Value} (ho : o.op = .call { callee := .builtin .max, args := #[x, y], argTypes := ts }) (he : a.eval x = v1) (he2 : a.eval y = v2) (h : (Builtin.max_ ts o.type #[v1, v2]).run P w = .ok r w) : (execOp a.eval o).run P w = .ok (.value r) w := by
  simp only [execOp, ho, resolve, Sem.run_bind, Sem.run_pure, Result.andThen_ok, invoke]
  simp [builtin, he, he2, h]
theorem r_min {ts : Array TypeId} {x y : Operand} {k k' : IntKind} {p q c : Int} (ho : o.op = .call { callee := .builtin .min, args := #[x, y], argTypes := ts }) (hx : oev ρ x = some (.int k p)) (hy : oev ρ y = some (.int k' q)) (h : min p q = c) : OpSound P o (Eff.val (.int k c)) ρ m := by
  refine sound_val fun B G a w m' _ hh _ => ?_
  have hp := hh x (by simp [ho, Op.operands, Call.operands]) _ hx
  have hq := hh y (by simp [ho, Op.operands, Call.operands]) _ hy
  generalize hev : a.eval x = vx at hp
  generalize hev2 : a.eval y = vy at hq
  cases hp; cases hq
  refine ⟨.int k c, run_min_ ho hev hev2 ?_, .int k c⟩
  have e : (if q < p then q else p) = c := by rw [← h]; split <;> omega
  simp [Builtin.min_, Builtin.min2, e]
theorem r_max {ts : Array TypeId} {x y : Operand} {k k' : IntKind} {p q c : Int} (ho : o.op = .call { callee := .builtin .max, args := #[x, y], argTypes := ts }) (hx : oev ρ x = some (.int k p)) (hy : oev ρ y = some (.int k' q)) (h : max p q = c) : OpSound P o (Eff.val (.int k c)) ρ m := by
  refine sound_val fun B G a w m' _ hh _ => ?_
  have hp := hh x (by simp [ho, Op.operands, Call.operands]) _ hx
  have hq := hh y (by simp [ho, Op.operands, Call.operands]) _ hy
  generalize hev : a.eval x = vx at hp
  generalize hev2 : a.eval y = vy at hq
  cases hp; cases hq
  refine ⟨.int k c, run_max_ ho hev hev2 ?_, .int k c⟩
  have e : (if p < q then q else p) = c := by rw [← h]; split <;> omega
  simp [Builtin.max_, Builtin.max2, e]
end
section
variable {P : Program} {ops : Array Oper} {os : List Oper} {K : List Eff → Slots → Mem → Nat → Prop} {ρ : Slots} {m : Mem} {nx : Nat}
theorem k_min {t : Tmp} {ts : Array TypeId} {x y : Operand} {k k' : IntKind} {p q c : Int} {V : TypeId} {pos : String} {af : Array Edge} {gd : Option (Nat × Bool)} (hg : gok ops ρ ⟨some t, .call { callee := .builtin .min, args := #[x, y], argTypes := ts }, V, pos, af, gd⟩ = some true) (hx : oev ρ x = some (.int k p)) (hy : oev ρ y = some (.int k' q)) (h : min p q = c) (hh : R P ops os (fun Es => K (Eff.val (.int k c) :: Es)) ((t, .int k c) :: ρ) m nx) :
    R P ops (⟨some t, .call { callee := .builtin .min, args := #[x, y], argTypes := ts }, V, pos, af, gd⟩ :: os) K ρ m nx := R_cons hg (r_min rfl hx hy h) rfl hh
theorem k_max {t : Tmp} {ts : Array TypeId} {x y : Operand} {k k' : IntKind} {p q c : Int} {V : TypeId} {pos : String} {af : Array Edge} {gd : Option (Nat × Bool)} (hg : gok ops ρ ⟨some t, .call { callee := .builtin .max, args := #[x, y], argTypes := ts }, V, pos, af, gd⟩ = some true) (hx : oev ρ x = some (.int k p)) (hy : oev ρ y = some (.int k' q)) (h : max p q = c) (hh : R P ops os (fun Es => K (Eff.val (.int k c) :: Es)) ((t, .int k c) :: ρ) m nx) :
    R P ops (⟨some t, .call { callee := .builtin .max, args := #[x, y], argTypes := ts }, V, pos, af, gd⟩ :: os) K ρ m nx := R_cons hg (r_max rfl hx hy h) rfl hh
end
section
variable {P : Program} {B : Base} {N : Nat} {Q : Post} {ρ : Slots} {m : Mem} {nx : Nat}
def scopeD (Q : Post) : Post := fun e ρ m nx => match e with | .goto _ => False | e => Q e ρ m nx
theorem W_scope {c : Code} (h : W P B N c (scopeD Q) ρ m nx) : W P B N (.scope c) Q ρ m nx := by
  intro G a w hs
  refine wp_scope_straight (wp_mono (h G a w hs) ?_)
  rintro e a' w' ⟨ρ', m', nx', G', hs', hq⟩
  cases e with
  | goto l => exact hq.elim
  | _ => exact ⟨ρ', m', nx', G', hs', hq⟩
theorem q_scoper (h : Q .ret ρ m nx) : scopeD Q .ret ρ m nx := h
end
end Go.Proofs.Ytcfefmbbbfdppaa
