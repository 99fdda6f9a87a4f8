/- append of nothing: the same slice. Conditions: as said. -/
import Derived.Test.YtcfefmbbbfdppaaSDApp
import Derived.Test.YtcfefmbbbfdppaaSDPart
namespace Go.Proofs.Ytcfefmbbbfdppaa
open Go.RowKit Go.Lib Go.IntWalk
set_option linter.unusedVariables false
section
variable {P : Program} {ρ : Slots} {m : Mem} {o : Oper}
theorem r_append0 {t tx E E2 : TypeId} {ty : Ty} [ha : HasSl P t E] [hax : HasSl P tx E2] [ht : HasTy P E ty] {x y : Operand} {tk tk2 : Tok} {n : Nat} {cs cs2 : List D} (ho : o.op = .call { callee := .builtin .append, args := #[x, y], argTypes := #[t, tx] }) (hx : oev ρ x = some (.slice tk n cs)) (hy : oev ρ y = some (.slice tk2 0 cs2))
    (hn2 : 0 = cs2.length) : OpSound P o (Eff.val (.slice tk n cs)) ρ m := by
  refine sound_val fun B G a w m' hs h _ => ?_
  have hpx := h x (by simp [ho, Op.operands, Call.operands]) _ hx
  have hpy := h y (by simp [ho, Op.operands, Call.operands]) _ hy
  obtain ⟨i, hi, hsi⟩ := Option.map_eq_some_iff.1 ht.size
  have hsrc : Src P i.size tx (a.eval y) 0 [] w := by
    generalize a.eval y = vy at hpy
    cases hpy with
    | nil tk => exact Src.ofNil w hax.sl _
    | slice tk n cs b o' cap vs hl' h1 hh hhw hc hb' hn ht' => exact Src.ofSlice w hax.sl ⟨b, o', none⟩ 0 cap [] (by simp) (fun j u hj => by simp at hj) (fun u hu => by simp at hu)
  generalize hev : a.eval x = vx at hpx
  refine ⟨vx, ?_, hpx⟩
  have hrun : ∃ base cap, vx = .slice base n cap ∧ n ≤ cap := by
    cases hpx with
    | nil tk => exact ⟨none, 0, rfl, Nat.le_refl _⟩
    | slice tk n cs b o' cap vs hl' h1 hh hhw hc hb' hn ht' => exact ⟨_, cap, rfl, hn⟩
  obtain ⟨base, cap, rfl, hle⟩ := hrun
  have hr := run_append_nothing (P := P) w t tx o.type E i ha.sl hi base n cap hle (a.eval y) hsrc
  unfold execOp
  simp only [ho, resolve, invoke, builtin, Sem.run_bind, Sem.run_pure, Result.andThen_ok, List.map_toArray, List.map_cons, List.map_nil, hev, hr]
end
section
variable {P : Program} {ρ : Slots} {m : Mem} {nx : Nat} {ops : Array Oper} {os : List Oper} {K : List Eff → Slots → Mem → Nat → Prop}
theorem k_append0 {t : Tmp} {tt tx E E2 : TypeId} {ty : Ty} [HasSl P tt E] [HasSl P tx E2] [HasTy P E ty] {x y : Operand} {tk tk2 : Tok} {n : Nat} {cs cs2 : List D} {V : TypeId} {pos : String} {af : Array Edge} {gd : Option (Nat × Bool)} (hg : gok ops ρ ⟨some t, .call { callee := .builtin .append, args := #[x, y], argTypes := #[tt, tx] }, V, pos, af, gd⟩ = some true)
    (hx : oev ρ x = some (.slice tk n cs)) (hy : oev ρ y = some (.slice tk2 0 cs2)) (hn2 : 0 = cs2.length)
    (hh : R P ops os (fun Es => K (Eff.val (.slice tk n cs) :: Es)) ((t, .slice tk n cs) :: ρ) m nx) : R P ops (⟨some t, .call { callee := .builtin .append, args := #[x, y], argTypes := #[tt, tx] }, V, pos, af, gd⟩ :: os) K ρ m nx := R_cons hg (r_append0 rfl hx hy hn2) rfl hh
end
end Go.Proofs.Ytcfefmbbbfdppaa
