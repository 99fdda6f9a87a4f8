/- Slices of variables, read cell by cell. Of any program. No conditions. -/
import Derived.Test.YtnlacdclnhoghaaDK2
import Derived.Test.YtnlacdclnhoghaaDCode
namespace Go.Proofs.Ytnlacdclnhoghaa
open Go.RowKit
set_option linter.unusedVariables false
set_option linter.unusedSimpArgs false
mutual
/-- what names nothing lies below any name -/
theorem bel_cl (n : Nat) : ∀ (d : D), d.cl = true → d.bel n = true
  | .agg cs, h => by simp only [D.cl] at h; simp only [D.bel]; exact bels_cls n cs h
  | .tup cs, h => by simp only [D.cl] at h; simp only [D.bel]; exact bels_cls n cs h
  | .fn f cs, h => by simp only [D.cl] at h; simp only [D.bel]; exact bels_cls n cs h
  | .slice tk k cs, h => by cases tk <;> simp [D.cl] at h <;> rfl
  | .ptr l off, h => by simp [D.cl] at h
  | .ms l off k, h => by simp [D.cl] at h
  | .rs l k, h => by simp [D.cl] at h
  | .mp l, h => by simp [D.cl] at h
  | .int _ _, _ => rfl
  | .bool _, _ => rfl
  | .str _, _ => rfl
  | .eptr _, _ => rfl
  | .raw _, _ => rfl
  | .opq, _ => rfl
  | .undef, _ => rfl
theorem bels_cls (n : Nat) : ∀ (ds : List D), D.cls ds = true → D.bels n ds = true
  | [], _ => rfl
  | d :: ds, h => by
    simp only [D.cls, Bool.and_eq_true] at h
    simp only [D.bels, bel_cl n d h.1, bels_cls n ds h.2, Bool.and_self]
end
section
variable {P : Program} {o : Oper} {ρ : Slots} {m : Mem}
theorem r_indexAddrM {T : TypeId} {x ix : Operand} {E : TypeId} {ty : Ty} [ha : HasSl P T E] [ht : HasTy P E ty] {l off n : Nat} {k : IntKind} {j : Int} (ho : o.op = .indexAddr T x ix) (hx : oev ρ x = some (.ms l off n)) (hix : oev ρ ix = some (.int k j)) (hj : 0 ≤ j ∧ j < n) : OpSound P o (Eff.val (.ptr l (off + j.toNat * ty.size))) ρ m := by
  refine sound_val fun B G a w m' hs h _ => ?_
  have hp := h x (by simp [ho, Op.operands]) _ hx
  have hq := h ix (by simp [ho, Op.operands]) _ hix
  generalize hev : a.eval x = vx at hp
  generalize hevi : a.eval ix = vi at hq
  cases hq
  cases hp with
  | ms l off n cap hk hn =>
    obtain ⟨i, hi, hsi⟩ := Option.map_eq_some_iff.1 ht.size
    refine ⟨.pointer (some ⟨G.g l, off + j.toNat * ty.size, none⟩), ?_, .ptr l _ hk⟩
    simp [execOp, ho, hev, hevi, Instr.indexAt, Instr.sureAddr, Sem.run_bind, run_underlying ha.sl, asIntOf, hj.1, hj.2, sizeOf, typeInfo, hi, hsi, add_off]
theorem r_lenM {x : Operand} {t E : TypeId} [ha : HasSl P t E] {l off n : Nat} (ho : o.op = .call { callee := .builtin .len, args := #[x], argTypes := #[t] }) (hx : oev ρ x = some (.ms l off n)) : OpSound P o (Eff.val (.int .i64 n)) ρ m := by
  refine sound_val fun B G a w m' _ hh _ => ?_
  have hp := hh x (by simp [ho, Op.operands, Call.operands]) _ hx
  generalize hev : a.eval x = vx at hp
  refine ⟨.int .i64 n, run_len_ ho hev ?_, .int _ _⟩
  cases hp <;> simp [Builtin.len_, Sem.run_bind, run_underlying ha.sl, goInt]
end
section
variable {P : Program} {ρ : Slots} {m : Mem} {nx : Nat} {ops : Array Oper} {os : List Oper} {K : List Eff → Slots → Mem → Nat → Prop}
theorem k_indexAddrM {t : Tmp} {T : TypeId} {x ix : Operand} {E : TypeId} {ty : Ty} [HasSl P T E] [HasTy P E ty] {l off n : Nat} {k : IntKind} {j : Int} {V : TypeId} {pos : String} {af : Array Edge} {gd : Option (Nat × Bool)} (hg : gok ops ρ ⟨some t, .indexAddr T x ix, V, pos, af, gd⟩ = some true)
    (hx : oev ρ x = some (.ms l off n)) (hix : oev ρ ix = some (.int k j)) (hj : 0 ≤ j ∧ j < n)
    (hh : R P ops os (fun Es => K (Eff.val (.ptr l (off + j.toNat * ty.size)) :: Es)) ((t, .ptr l (off + j.toNat * ty.size)) :: ρ) m nx) : R P ops (⟨some t, .indexAddr T x ix, V, pos, af, gd⟩ :: os) K ρ m nx := R_cons hg (r_indexAddrM rfl hx hix hj) rfl hh
theorem k_lenM {t : Tmp} {T E : TypeId} [HasSl P T E] {x : Operand} {l off n : Nat} {V : TypeId} {pos : String} {af : Array Edge} {gd : Option (Nat × Bool)} (hg : gok ops ρ ⟨some t, .call { callee := .builtin .len, args := #[x], argTypes := #[T] }, V, pos, af, gd⟩ = some true) (hx : oev ρ x = some (.ms l off n)) (hh : R P ops os (fun Es => K (Eff.val ((.int .i64 n)) :: Es)) ((t, (.int .i64 n)) :: ρ) m nx) :
    R P ops (⟨some t, .call { callee := .builtin .len, args := #[x], argTypes := #[T] }, V, pos, af, gd⟩ :: os) K ρ m nx := R_cons hg (r_lenM rfl hx) rfl hh
end
end Go.Proofs.Ytnlacdclnhoghaa
