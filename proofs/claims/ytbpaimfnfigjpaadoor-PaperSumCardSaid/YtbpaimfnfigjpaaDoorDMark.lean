/- Bytes of a constant string: a slice that was built is marked. Of any program. No conditions. -/
import Derived.Test.YtbpaimfnfigjpaaDoorDConv
namespace Go.Proofs.YtbpaimfnfigjpaaDoor
open Go.RowKit Go.Lib
set_option linter.unusedVariables false

theorem freeze_other (w : World) (b : Nat) (o : Nat) (k : Nat) (h : k ≠ b) : (w.freeze ⟨b, o, none⟩ 1).heap[k]? = w.heap[k]? := by
  simp [World.freeze, Array.getElem?_modify, Ne.symm h]
theorem freeze_same (w : World) (b : Nat) (o : Nat) (vs : Array Value) (E : TypeId) (h : w.heap[b]? = some (.cells vs E (0, 0))) : (w.freeze ⟨b, o, none⟩ 1).heap[b]? = some (.cells vs E (o, o + 1)) := by
  simp [World.freeze, Array.getElem?_modify, h]
theorem Sim.mark_ {B : Base} {G : Gh} {m : Mem} {w : World} (h : Sim B G m w) {k : Nat} {E : TypeId} {s : Nat} (hm : mget m k = some (.tok E s)) (hnl : G.nl k = false) {o : Nat} :
    ∃ G', Ext G w G' (w.freeze ⟨G.g k, o, none⟩ 1) ∧ Sim B G' ((k, none) :: m) (w.freeze ⟨G.g k, o, none⟩ 1) ∧ (∀ l, G'.kn l = true → G.kn l = true) := by
  obtain ⟨k1, k2, k3⟩ := h.tok k E s hm
  obtain ⟨k4, k5, cur, k6, k7, k8⟩ := k3 hnl
  have hsame := freeze_same w (G.g k) o cur E k6
  have hblk : ∀ b, b ≠ G.g k → (w.freeze ⟨G.g k, o, none⟩ 1).heap[b]? = w.heap[b]? := fun b hb => freeze_other w _ _ b hb
  have hsize : (w.freeze ⟨G.g k, o, none⟩ 1).heap.size = w.heap.size := by simp [World.freeze]
  have hcell : ∀ b i, (w.freeze ⟨G.g k, o, none⟩ 1).cell? ⟨b, i, none⟩ = w.cell? ⟨b, i, none⟩ := fun b i => by
    by_cases e : b = G.g k
    · subst e; simp only [World.cell?, hsame, k6]
    · simp only [World.cell?, hblk b e]
  have hap : ∀ x c, x ≠ k → mget m x = some c → G.nl x = false → G.g x ≠ G.g k := fun x c hne hc hn => h.inj x k (by rw [hc]; rfl) (by rw [hm]; rfl) hne hn hnl
  have hnd : ∀ b, b < B.W.heap.size → b ∉ B.T → b ≠ G.g k := fun b hb hT e => by
    rcases k4 with h | h
    · omega
    · exact hT (e ▸ h)
  let G' : Gh := { G with al := fun x => G.al x && !(x == k) }
  have hx : Ext G w G' (w.freeze ⟨G.g k, o, none⟩ 1) := by
    refine ⟨fun x hkx => ⟨hkx, rfl, fun ha => ?_, rfl, rfl⟩, fun b => Nat.le_refl _, fun b i _ => hcell b i, by rw [hsize]; exact Nat.le_refl _⟩
    simp only [G', Bool.and_eq_true] at ha
    exact ⟨ha.1, fun _ => rfl⟩
  have hget : ∀ x c, mget ((k, none) :: m) x = some c → x ≠ k ∧ mget m x = some c := fun x c hc => by
    by_cases e : x = k
    · subst e; rw [mget_eq] at hc; cases hc
    · rw [mget_ne _ _ e] at hc; exact ⟨e, hc⟩
  refine ⟨G', hx, ⟨⟨h.new.os, h.new.tape, h.new.output, by rw [hsize]; exact h.new.size, fun b hb hT => (hblk b (hnd b hb hT)).trans (h.new.block b hb hT)⟩, h.ext.trans hx, fun b hb hT => h.old b hb hT, fun x T cs' hc => ?_, fun x E' s' hc => ?_, fun x K cs' hc => ?_, fun x y hxm hym hne n1 n2 => ?_, fun b hb => ?_⟩, fun l hl => hl⟩
  · obtain ⟨hne, hc⟩ := hget x _ hc
    obtain ⟨a1, a2, a3, a4, vs', a5, a6, a7⟩ := h.var x T cs' hc
    exact ⟨a1, a2, a3, a4, vs', (hblk _ (hap x _ hne hc a4)).trans a5, a6.mono hx, a7⟩
  · obtain ⟨hne, hc⟩ := hget x _ hc
    obtain ⟨a1, a2, a3⟩ := h.tok x E' s' hc
    refine ⟨a1, by simp [G', a2, hne], fun hn => ?_⟩
    obtain ⟨c1, c2, vs', c3, c4, c5⟩ := a3 hn
    exact ⟨c1, c2, vs', (hblk _ (hap x _ hne hc hn)).trans c3, c4, c5⟩
  · obtain ⟨hne, hc⟩ := hget x _ hc
    obtain ⟨a1, a2, a3⟩ := h.obj x K cs' hc
    refine ⟨a1, a2, fun hn => ?_⟩
    obtain ⟨c1, c2, o, c3, c4⟩ := a3 hn
    exact ⟨c1, c2, o, (hblk _ (hap x _ hne hc hn)).trans c3, c4.mono hx⟩
  · obtain ⟨c1, hc1⟩ := Option.isSome_iff_exists.1 hxm
    obtain ⟨c2, hc2⟩ := Option.isSome_iff_exists.1 hym
    exact h.inj x y (by rw [(hget x _ hc1).2]; rfl) (by rw [(hget y _ hc2).2]; rfl) hne n1 n2
  · obtain ⟨vs', T', fr, h1, h2⟩ := h.data b hb
    by_cases e : b = G.g k
    · subst e
      rw [k6] at h1; cases h1
      exact ⟨_, _, _, hsame, h2⟩
    · exact ⟨vs', T', fr, (hblk b e).trans h1, h2⟩

section
variable {P : Program} {o : Oper} {ρ : Slots} {m : Mem}
theorem r_mark {S E : TypeId} [ha : HasSl P S E] {x : Operand} {k n s : Nat} {E' : TypeId} {cs : List D} (hE : P.underlying E = some (.int .u8)) (ho : o.op = .convert S S x) (hx : oev ρ x = some (.slice (.own k) n cs)) (hm : mget m k = some (.tok E' s)) (hcs : Nat.blt 0 cs.length = true) : OpSound P o ⟨.slice .frozen n cs, [], [(k, none)], []⟩ ρ m := by
  intro B G a w m' K Q hs h hag hn hK
  have hp := h x (by simp [ho, Op.operands]) _ hx
  have hm' : mget m' k = some (.tok E' s) := (hag k (by unfold Eff.touch Eff.writes; simp)).trans hm
  obtain ⟨k1, k2, k3⟩ := hs.tok k _ _ hm'
  generalize hev : a.eval x = vx at hp
  cases hp with
  | nil => simp [Nat.blt] at hcs
  | slice tk n cs b o' cap vs hl h1 hh hhw hc hb hn' htk =>
    obtain ⟨e1, e2, e3, e4, e5⟩ := htk.2 k2
    subst e2; subst e3
    obtain ⟨k4, k5, cur, k6, k7, k8⟩ := k3 e1
    obtain ⟨G', g1, g2, g3⟩ := hs.mark_ hm' e1 (o := cur.size)
    have hsh : w.shape? (G.g k) = some (E', cur.size) := by simp [World.shape?, k6]
    have hrun : (execOp a.eval o).run P w = .ok (.value (.slice (some ⟨G.g k, 0, none⟩) n cap)) (w.freeze ⟨G.g k, cur.size, none⟩ 1) := by
      simp [execOp, ho, hev, convert, Sem.run_bind, run_underlying ha.sl, run_underlying hE, markStringish, hsh, Result.andThen]
    unfold Oper.wp
    rw [hrun, Oper.upon_value]
    have hr : Rep G w (.slice .frozen n cs) (.slice (some ⟨G.g k, 0, none⟩) n cap) := .slice .frozen n cs _ 0 cap vs hl h1 hh hhw hc hb hn' trivial
    exact hK _ _ G' g1 g2 (hr.mono g1) fun l hl => .inl (g3 l hl)
end
section
variable {P : Program} {ρ : Slots} {m : Mem} {nx : Nat} {ops : Array Oper} {os : List Oper} {K : List Eff → Slots → Mem → Nat → Prop}
theorem k_mark {t : Tmp} {S E : TypeId} [HasSl P S E] {x : Operand} {k n s : Nat} {E' : TypeId} {cs : List D} {V : TypeId} {pos : String} {af : Array Edge} {gd : Option (Nat × Bool)} (hg : gok ops ρ ⟨some t, .convert S S x, V, pos, af, gd⟩ = some true) (hE : P.underlying E = some (.int .u8)) (hx : oev ρ x = some (.slice (.own k) n cs)) (hm : mget m k = some (.tok E' s)) (hcs : Nat.blt 0 cs.length = true)
    (hh : R P ops os (fun Es => K (⟨.slice .frozen n cs, [], [(k, none)], []⟩ :: Es)) ((t, .slice .frozen n cs) :: ρ) ((k, none) :: m) nx) : R P ops (⟨some t, .convert S S x, V, pos, af, gd⟩ :: os) K ρ m nx :=
  R_cons hg (r_mark hE rfl hx hm hcs) rfl hh
end
end Go.Proofs.YtbpaimfnfigjpaaDoor
