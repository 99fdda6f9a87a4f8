/- A string's byte; strings behind one another. Of any program. No conditions. -/
import Derived.Test.YtcgdcnhggejgbaaDConv
namespace Go.Proofs.Ytcgdcnhggejgbaa
open Go.RowKit Go.Lib
set_option linter.unusedVariables false

section
variable {P : Program} {o : Oper} {ρ : Slots} {m : Mem}
theorem r_idxs {T : TypeId} {x ix : Operand} {s : ByteArray} {k : IntKind} {j : Int} {c : UInt8} (hT : P.underlying T = some .string) (ho : o.op = .index T x ix) (hx : oev ρ x = some (.str s)) (hix : oev ρ ix = some (.int k j)) (hj : 0 ≤ j) (hd : s[j.toNat]? = some c) : OpSound P o (Eff.val (.int .u8 (c.toNat : Int))) ρ m := by
  refine sound_val fun B G a w m' hs h _ => ?_
  have hp := h x (by simp [ho, Op.operands]) _ hx
  have hq := h ix (by simp [ho, Op.operands]) _ hix
  generalize hev : a.eval x = vx at hp
  generalize hevi : a.eval ix = vi at hq
  cases hq
  cases hp
  refine ⟨.int .u8 (c.toNat : Int), ?_, .int _ _⟩
  simp [execOp, ho, hev, hevi, Instr.index, Sem.run_bind, run_underlying hT, asIntOf, hj, hd]
theorem r_cats {T U : TypeId} {x y : Operand} {s t : ByteArray} {r : ByteArray} (ho : o.op = .binOp .add T x y U) (hx : oev ρ x = some (.str s)) (hy : oev ρ y = some (.str t)) (hsz : s.size + t.size ≤ 9223372036854775807) (h : s ++ t = r) : OpSound P o (Eff.val (.str r)) ρ m :=
  sound_bin ho hx hy fun G w vx vy h1 h2 => by
    cases h1; cases h2
    have hb : ∀ w, (binOp .add T (.string s) (.string t)).run P w = .ok (.string r) w := fun w => by
      show (Op.stringOp .add s t).run P w = _
      unfold Op.stringOp
      have hm : ¬ (((s.size + t.size : Nat) : Int) > IntKind.i64.max) := by
        have : IntKind.i64.max = 9223372036854775807 := by decide
        omega
      simp only [if_neg hm]
      rw [← h]; rfl
    exact ⟨.string r, by simp [eqGuard, hb], .str r⟩
end

section
variable {P : Program} {ρ : Slots} {m : Mem} {nx : Nat} {ops : Array Oper} {os : List Oper} {K : List Eff → Slots → Mem → Nat → Prop}
theorem k_idxs {t : Tmp} {T : TypeId} {x ix : Operand} {s : ByteArray} {k : IntKind} {j : Int} {c : UInt8} {V : TypeId} {pos : String} {af : Array Edge} {gd : Option (Nat × Bool)} (hg : gok ops ρ ⟨some t, .index T x ix, V, pos, af, gd⟩ = some true) (hT : P.underlying T = some .string) (hx : oev ρ x = some (.str s)) (hix : oev ρ ix = some (.int k j)) (hj : 0 ≤ j) (hd : s[j.toNat]? = some c) (hh : R P ops os (fun Es => K (Eff.val (.int .u8 (c.toNat : Int)) :: Es)) ((t, .int .u8 (c.toNat : Int)) :: ρ) m nx) :
    R P ops (⟨some t, .index T x ix, V, pos, af, gd⟩ :: os) K ρ m nx := R_cons hg (r_idxs hT rfl hx hix hj hd) rfl hh
theorem k_cats {t : Tmp} {T U : TypeId} {x y : Operand} {s s' r : ByteArray} {V : TypeId} {pos : String} {af : Array Edge} {gd : Option (Nat × Bool)} (hg : gok ops ρ ⟨some t, .binOp .add T x y U, V, pos, af, gd⟩ = some true) (hx : oev ρ x = some (.str s)) (hy : oev ρ y = some (.str s')) (hsz : s.size + s'.size ≤ 9223372036854775807) (h : s ++ s' = r) (hh : R P ops os (fun Es => K (Eff.val (.str r) :: Es)) ((t, .str r) :: ρ) m nx) :
    R P ops (⟨some t, .binOp .add T x y U, V, pos, af, gd⟩ :: os) K ρ m nx := R_cons hg (r_cats rfl hx hy hsz h) rfl hh
end
end Go.Proofs.Ytcgdcnhggejgbaa
