/- copy of a slice's bytes into an array's slice. Of any program. No conditions. -/
import Derived.Test.YtpdhbddkcnffbaaDoorDOp2
import Derived.Test.YtpdhbddkcnffbaaDoorDFun
import Derived.Deep.Upon
import Derived.Test.YtpdhbddkcnffbaaDoorDInst
import Derived.Lib.BytesEntry
import Derived.Scope
import Derived.Lib.ConvBytes
import Derived.Laws.IdiomStrings
namespace Go.Proofs.YtpdhbddkcnffbaaDoor
open Go.RowKit
set_option linter.unusedVariables false
set_option linter.unusedVariables false
set_option linter.unusedSimpArgs false

/-- new memory that holds data, and maybe more cells behind it -/
theorem Sim.row_ {B : Base} {G : Gh} {m : Mem} {w w' : World} (h : Sim B G m w) (hn : New w w') {l : Nat} (hl : G.kn l = false) {E : TypeId} {s cap : Nat} {cs : List D} {vs ws : Array Value} (hw' : w'.heap[w.heap.size]? = some (.cells ws E (0, 0))) (kills : Mem) (hk : ∀ x, (kills.any fun y => Nat.beq y.1 x) = true → mget kills x = none)
    (hr : Reps G w cs vs) (h1 : ∀ d ∈ cs, d.one = true ∧ d.cl = true) (hw : vs.size ≤ ws.size) (hv : ∀ i, i < vs.size → ws[i]? = vs[i]?) (hcap : ws.size = cap * s) (hmax : cap ≤ maxLen) :
    ∃ G', Ext G w G' w' ∧ Sim B G' ((l, some (.tok E s)) :: (kills ++ m)) w' ∧ (∀ l', G'.kn l' = true → G.kn l' = true ∨ l' = l) ∧
      ∀ n, n ≤ cap → Rep G' w' (.slice (.own l) n cs) (.slice (some ⟨w.heap.size, 0, none⟩) n cap) := by
  have h0 := h.none_
  let G' : Gh := ⟨fun x => G.kn x || x == l, fun x => if x = l then w.heap.size else G.g x, fun x => (G.al x && (G.nl x || decide (G.g x < w.heap.size))) || x == l, fun b => if b = w.heap.size then vs.size else G.hw b, fun x => G.nl x && !(x == l), fun x => if x = l then cap else G.cp x⟩
  have hkl : ∀ x, G.kn x = true → x ≠ l := fun x hx e => by rw [e, hl] at hx; cases hx
  have hml : mget m l = none := by
    cases hm : mget m l with
    | none => rfl
    | some c => have := h.known (l := l) (by rw [hm]; rfl); rw [hl] at this; cases this
  have hwb : ∀ b, b < w.heap.size → G'.hw b = G.hw b := fun b hb => by simp [G', show b ≠ w.heap.size from by omega]
  have hgl : G'.g l = w.heap.size := by simp [G']
  have hget : ∀ x, x ≠ l → mget ((l, some (.tok E s)) :: (kills ++ m)) x = mget m x ∨ mget ((l, some (.tok E s)) :: (kills ++ m)) x = none := fun x hne => by
    rw [mget_ne _ _ hne, mget_append]
    by_cases c : (kills.any fun y => Nat.beq y.1 x) = true
    · rw [if_pos c]; exact .inr (hk x c)
    · rw [if_neg c]; exact .inl rfl
  obtain ⟨hx, hS⟩ := h.fresh_ (G' := G') (m' := (l, some (.tok E s)) :: (kills ++ m)) (c := .tok E s) hn hl ⟨fun x hkx => by
      have hne := hkl x hkx
      refine ⟨by simp [G', hkx], by simp [G', hne], by simp [G', hne], by simp [G', hne], fun ha => ?_⟩
      simp only [G', Bool.or_eq_true, Bool.and_eq_true, decide_eq_true_iff, beq_iff_eq, hne, or_false] at ha
      exact ⟨ha.1, fun hnl => hwb _ (ha.2.resolve_left (by rw [hnl]; simp))⟩, fun x => by
      by_cases e : x = l
      · subst e; exact .inr (.inr ⟨rfl, mget_eq _ _ _⟩)
      · rcases hget x e with h | h
        · exact .inl h
        · exact .inr (.inl h)⟩
    (fun x E' s' hne hm => by
      rcases hget x hne with h' | h'
      · rw [h'] at hm
        obtain ⟨a1, a2, a3⟩ := h.tok x E' s' hm
        simp only [G', Bool.or_eq_true, Bool.and_eq_true, decide_eq_true_iff]
        refine .inl ⟨a2, ?_⟩
        cases hnl : G.nl x with
        | true => exact .inl rfl
        | false => exact .inr (h.lt (by rw [hm]; rfl) hnl)
      · rw [h'] at hm; cases hm)
    hwb (fun b hb => by
      by_cases e : b = w.heap.size
      · subst e
        exact ⟨ws, E, (0, 0), hw', by simp [G']; exact hw⟩
      · have hb' : 0 < G.hw b := by simpa [G', e] using hb
        obtain ⟨vs', T', fr, hv', hs⟩ := h.data b hb'
        have hlt := (Array.getElem?_eq_some_iff.1 hv').1
        exact ⟨vs', T', fr, (hn.block _ hlt).trans hv', by rw [hwb b hlt]; exact hs⟩) hml (fun _ => hgl)
    ⟨fun T' cs' hm => by rw [mget_eq] at hm; simp at hm, fun E' s' hm => by
      rw [mget_eq] at hm
      simp only [Option.some.injEq, Loc.tok.injEq] at hm
      obtain ⟨rfl, rfl⟩ := hm
      refine ⟨by simp [G'], by simp [G'], fun _ => ⟨by simp [G']; exact hmax, ws, by rw [hgl]; exact hw', by rw [hgl]; simp [G']; exact hw, by simp [G']; exact hcap⟩⟩, fun K cs hm => by rw [mget_eq] at hm; simp at hm⟩
  refine ⟨G', hx, hS, fun x hk => by simpa [G'] using hk, fun n hnc => ?_⟩
  have hsz' := hr.1
  refine .slice (.own l) n cs w.heap.size 0 cap vs hr.1 h1 (hr.mono hx).2 (by simp [G']; omega) (fun i hi => ?_) (by
    have := (Array.getElem?_eq_some_iff.1 hw').1; omega) hnc ⟨by simp [G'], fun _ => ⟨by simp [G'], hgl.symm, rfl, by simp [G']; omega, by simp [G']⟩⟩
  rw [Nat.zero_add, cell_of_row _ _ _ ws E (0, 0) hw']
  exact hv i (by omega)

/-- MORE DATA BEHIND WHAT IS THERE, in the same block -/
theorem Sim.inplace_ {B : Base} {G : Gh} {m : Mem} {w w' : World} (h : Sim B G m w) {k l : Nat} {E : TypeId} {s : Nat} (hm : mget m k = some (.tok E s)) (hnl : G.nl k = false) (hl : G.kn l = false) {cs : List D} {vs ws : Array Value} (hg : w.grownBy w' (some (G.g k))) (hw' : w'.heap[G.g k]? = some (.cells ws E (0, 0)))
    (hsz : ws.size = G.cp k * s) (hr : Reps G w cs vs) (h1 : ∀ d ∈ cs, d.one = true ∧ d.cl = true) (hhw : G.hw (G.g k) ≤ vs.size) (hfit : vs.size ≤ ws.size) (hv : ∀ i, i < vs.size → ws[i]? = vs[i]?) (hold : ∀ i, i < G.hw (G.g k) → w'.cell? ⟨G.g k, i, none⟩ = w.cell? ⟨G.g k, i, none⟩) :
    ∃ G', Ext G w G' w' ∧ Sim B G' ((l, some (.tok E s)) :: (k, none) :: m) w' ∧ (∀ l', G'.kn l' = true → G.kn l' = true ∨ l' = l) ∧
      ∀ n, n ≤ G.cp k → Rep G' w' (.slice (.own l) n cs) (.slice (some ⟨G.g k, 0, none⟩) n (G.cp k)) := by
  obtain ⟨k1, k2, k3⟩ := h.tok k E s hm
  obtain ⟨k4, k5, cur, k6, k7, k8⟩ := k3 hnl
  have hlt : G.g k < w.heap.size := (Array.getElem?_eq_some_iff.1 k6).1
  have hkl : ∀ x, G.kn x = true → x ≠ l := fun x hx e => by rw [e, hl] at hx; cases hx
  have hml : mget m l = none := by
    cases hm : mget m l with
    | none => rfl
    | some c => have := h.known (l := l) (by rw [hm]; rfl); rw [hl] at this; cases this
  have hblk : ∀ b, b < w.heap.size → b ≠ G.g k → w'.heap[b]? = w.heap[b]? := fun b hb hne => hg.block b hb (fun e => by injection e with e; exact hne e)
  let G' : Gh := ⟨fun x => G.kn x || x == l, fun x => if x = l then G.g k else G.g x, fun x => (G.al x && (G.nl x || !decide (G.g x = G.g k))) || x == l, fun b => if b = G.g k then vs.size else G.hw b, fun x => G.nl x && !(x == l), fun x => if x = l then G.cp k else G.cp x⟩
  have hwb : ∀ b, b ≠ G.g k → G'.hw b = G.hw b := fun b hb => by simp [G', hb]
  have hwk : G'.hw (G.g k) = vs.size := by simp [G']
  have hgl : G'.g l = G.g k := by simp [G']
  have hg' : ∀ x, G.kn x = true → G'.g x = G.g x ∧ G'.nl x = G.nl x ∧ G'.cp x = G.cp x := fun x hx => by simp [G', hkl x hx]
  have hx : Ext G w G' w' := by
    refine ⟨fun x hkx => ?_, fun b => ?_, fun b i hi => ?_, hg.size⟩
    · obtain ⟨e1, e2, e3⟩ := hg' x hkx
      refine ⟨by simp [G', hkx], e1, fun ha => ?_, e2, e3⟩
      simp only [G', Bool.or_eq_true, Bool.and_eq_true, Bool.not_eq_true', decide_eq_false_iff_not, beq_iff_eq, hkl x hkx, or_false] at ha
      exact ⟨ha.1, fun hn => hwb _ (ha.2.resolve_left (by rw [hn]; simp))⟩
    · by_cases e : b = G.g k
      · subst e; rw [hwk]; exact hhw
      · rw [hwb b e]; exact Nat.le_refl _
    · by_cases e : b = G.g k
      · subst e; exact hold i hi
      · obtain ⟨vs', T', fr, hv', _⟩ := h.data b (by omega)
        simp only [World.cell?, hblk b (Array.getElem?_eq_some_iff.1 hv').1 e]
  have hget : ∀ x c, x ≠ l → mget ((l, some (.tok E s)) :: (k, none) :: m) x = some c → x ≠ k ∧ mget m x = some c := fun x c hne hc => by
    rw [mget_ne _ _ hne] at hc
    by_cases e : x = k
    · subst e; rw [mget_eq] at hc; cases hc
    · rw [mget_ne _ _ e] at hc; exact ⟨e, hc⟩
  have hap : ∀ x c, x ≠ k → mget m x = some c → G.nl x = false → G.g x ≠ G.g k := fun x c hne hc hn => h.inj x k (by rw [hc]; rfl) (by rw [hm]; rfl) hne hn hnl
  have hnd : ∀ b, b < B.W.heap.size → b ∉ B.T → b ≠ G.g k := fun b hb hT e => by
    rcases k4 with h | h
    · omega
    · exact hT (e ▸ h)
  refine ⟨G', hx, ⟨⟨hg.os.trans h.new.os, hg.tape.trans h.new.tape, hg.output.trans h.new.output, Nat.le_trans h.new.size hg.size, fun b hb hT => (hblk b (Nat.lt_of_lt_of_le hb h.new.size) (hnd b hb hT)).trans (h.new.block b hb hT)⟩, h.ext.trans hx, fun b hb hT => (hwb b (hnd b hb hT)).trans (h.old b hb hT), fun x T cs' hc => ?_, fun x E' s' hc => ?_, fun x K cs' hc => ?_, fun x y hxm hym hne n1 n2 => ?_, fun b hb => ?_⟩, fun x hk => by simpa [G'] using hk, fun n hnc => ?_⟩
  · by_cases e : x = l
    · subst e; rw [mget_eq] at hc; simp at hc
    · obtain ⟨hne, hc⟩ := hget x _ e hc
      obtain ⟨a1, a2, a3, a4, vs', a5, a6, a7⟩ := h.var x T cs' hc
      obtain ⟨e1, e2, e3⟩ := hg' x a1
      have hn := hap x _ hne hc a4
      exact ⟨by simp [G', a1], by rw [e1]; exact a2, by rw [e1, hwb _ hn]; exact a3, e2.trans a4, vs', by rw [e1]; exact (hblk _ (h.vlt hc) hn).trans a5, a6.mono hx, a7⟩
  · by_cases e : x = l
    · subst e
      rw [mget_eq] at hc
      simp only [Option.some.injEq, Loc.tok.injEq] at hc
      obtain ⟨rfl, rfl⟩ := hc
      exact ⟨by simp [G'], by simp [G'], fun _ => ⟨by rw [hgl]; exact k4, by simp [G']; exact k5, ws, by rw [hgl]; exact hw', by rw [hgl, hwk]; exact hfit, by simp [G']; exact hsz⟩⟩
    · obtain ⟨hne, hc⟩ := hget x _ e hc
      obtain ⟨a1, a2, a3⟩ := h.tok x E' s' hc
      obtain ⟨e1, e2, e3⟩ := hg' x a1
      refine ⟨by simp [G', a1], ?_, fun hn => ?_⟩
      · simp only [G', Bool.or_eq_true, Bool.and_eq_true, Bool.not_eq_true', decide_eq_false_iff_not]
        refine .inl ⟨a2, ?_⟩
        cases hn : G.nl x with
        | true => exact .inl rfl
        | false => exact .inr (hap x _ hne hc hn)
      · rw [e2] at hn
        obtain ⟨c1, c2, vs', c3, c4, c5⟩ := a3 hn
        have hn' := hap x _ hne hc hn
        exact ⟨by rw [e1]; exact c1, by rw [e3]; exact c2, vs', by rw [e1]; exact (hblk _ (h.lt (by rw [hc]; rfl) hn) hn').trans c3, by rw [e1, hwb _ hn']; exact c4, by rw [e3]; exact c5⟩
  · by_cases e : x = l
    · subst e; rw [mget_eq] at hc; simp at hc
    · obtain ⟨hne, hc⟩ := hget x _ e hc
      obtain ⟨a1, a2, a3⟩ := h.obj x K cs' hc
      obtain ⟨e1, e2, e3⟩ := hg' x a1
      refine ⟨by simp [G', a1], fun hn => a2 (e2 ▸ hn), fun hn => ?_⟩
      rw [e2] at hn
      obtain ⟨c1, c2, o, c3, c4⟩ := a3 hn
      have hn' := hap x _ hne hc hn
      exact ⟨by rw [e1]; exact c1, by rw [e1, hwb _ hn']; exact c2, o, by rw [e1]; exact (hblk _ (h.lt (by rw [hc]; rfl) hn) hn').trans c3, by rw [e3]; exact c4.mono hx⟩
  · obtain ⟨c1, hc1⟩ := Option.isSome_iff_exists.1 hxm
    obtain ⟨c2, hc2⟩ := Option.isSome_iff_exists.1 hym
    by_cases e : x = l
    · subst e
      obtain ⟨hne', hc2⟩ := hget y _ (Ne.symm hne) hc2
      obtain ⟨e1, e2, e3⟩ := hg' y (h.known (by rw [hc2]; rfl))
      rw [e2] at n2
      rw [hgl, e1]
      exact (hap y _ hne' hc2 n2).symm
    · obtain ⟨hne1, hd1⟩ := hget x _ e hc1
      obtain ⟨e1, e2, e3⟩ := hg' x (h.known (by rw [hd1]; rfl))
      rw [e2] at n1
      by_cases e' : y = l
      · subst e'
        rw [hgl, e1]
        exact hap x _ hne1 hd1 n1
      · obtain ⟨hne2, hc2⟩ := hget y _ e' hc2
        obtain ⟨e1', e2', _⟩ := hg' y (h.known (by rw [hc2]; rfl))
        rw [e2'] at n2
        rw [e1, e1']
        exact h.inj x y (by rw [hd1]; rfl) (by rw [hc2]; rfl) hne n1 n2
  · by_cases e : b = G.g k
    · subst e; exact ⟨ws, E, (0, 0), hw', by rw [hwk]; exact hfit⟩
    · rw [hwb b e] at hb
      obtain ⟨vs', T', fr, hv', hs⟩ := h.data b hb
      exact ⟨vs', T', fr, (hblk b (Array.getElem?_eq_some_iff.1 hv').1 e).trans hv', by rw [hwb b e]; exact hs⟩
  · have hsz' := hr.1
    refine .slice (.own l) n cs (G.g k) 0 (G.cp k) vs hr.1 h1 (hr.mono hx).2 (by rw [hwk]; omega) (fun i hi => ?_) (Nat.lt_of_lt_of_le hlt hg.size) hnc ⟨by simp [G'], fun _ => ⟨by simp [G'], hgl.symm, rfl, by rw [hwk]; omega, by simp [G']⟩⟩
    rw [Nat.zero_add, cell_of_row _ _ _ ws E (0, 0) hw']
    exact hv i (by omega)

/-- nothing of nothing: a right that no memory stands for -/
theorem Sim.virt_ {B : Base} {G : Gh} {m : Mem} {w : World} (h : Sim B G m w) {l : Nat} (hl : G.kn l = false) (E : TypeId) (s : Nat) (kills : Mem) (hk : ∀ x, (kills.any fun y => Nat.beq y.1 x) = true → mget kills x = none) :
    ∃ G', Ext G w G' w ∧ Sim B G' ((l, some (.tok E s)) :: (kills ++ m)) w ∧ (∀ l', G'.kn l' = true → G.kn l' = true ∨ l' = l) := by
  let G' : Gh := ⟨fun x => G.kn x || x == l, G.g, fun x => G.al x || x == l, G.hw, fun x => G.nl x || x == l, G.cp⟩
  have hne : ∀ x, G.kn x = true → x ≠ l := fun x hx e => by rw [e, hl] at hx; cases hx
  have hx : Ext G w G' w := ⟨fun x hk => by
    have := hne x hk
    refine ⟨by simp [G', hk], rfl, fun ha => ⟨by simpa [G', this] using ha, fun _ => rfl⟩, by simp [G', this], rfl⟩, fun _ => Nat.le_refl _, fun _ _ _ => rfl, Nat.le_refl _⟩
  have hget : ∀ x c, x ≠ l → mget ((l, some (.tok E s)) :: (kills ++ m)) x = some c → mget m x = some c := fun x c hne hc => by
    rw [mget_ne _ _ hne, mget_append] at hc
    by_cases d : (kills.any fun y => Nat.beq y.1 x) = true
    · rw [if_pos d, hk x d] at hc; cases hc
    · rw [if_neg d] at hc; exact hc
  refine ⟨G', hx, ⟨h.new, h.ext.trans hx, h.old, fun x T cs hc => ?_, fun x E' s' hc => ?_, fun x K cs hc => ?_, fun x y ha hb hne' n1 n2 => ?_, h.data⟩, fun x hk => by simpa [G'] using hk⟩
  · by_cases e : x = l
    · subst e; rw [mget_eq] at hc; simp at hc
    · obtain ⟨a1, a2, a3, a4, vs, a5, a6, a7⟩ := h.var x T cs (hget x _ e hc)
      exact ⟨by simp [G', a1], a2, a3, by simp [G', a4, e], vs, a5, a6.mono hx, a7⟩
  · by_cases e : x = l
    · subst e; exact ⟨by simp [G'], by simp [G'], fun hn => by simp [G'] at hn⟩
    · obtain ⟨a1, a2, a3⟩ := h.tok x E' s' (hget x _ e hc)
      exact ⟨by simp [G', a1], by simp [G', a2], fun hn => a3 (by simpa [G', e] using hn)⟩
  · by_cases e : x = l
    · subst e; rw [mget_eq] at hc; simp at hc
    · obtain ⟨a1, a2, a3⟩ := h.obj x K cs (hget x _ e hc)
      refine ⟨by simp [G', a1], fun hn => a2 (by simpa [G', e] using hn), fun hn => ?_⟩
      obtain ⟨c1, c2, o, c3, c4⟩ := a3 (by simpa [G', e] using hn)
      exact ⟨c1, c2, o, c3, c4.mono hx⟩
  · obtain ⟨c1, hc1⟩ := Option.isSome_iff_exists.1 ha
    obtain ⟨c2, hc2⟩ := Option.isSome_iff_exists.1 hb
    have e1 : x ≠ l := fun e => by subst e; simp [G'] at n1
    have e2 : y ≠ l := fun e => by subst e; simp [G'] at n2
    have h1 := hget x _ e1 hc1
    have h2 := hget y _ e2 hc2
    exact h.inj x y (by rw [h1]; rfl) (by rw [h2]; rfl) hne' (by simpa [G', e1] using n1) (by simpa [G', e2] using n2)

section
variable {P : Program} {o : Oper} {ρ : Slots} {m : Mem}
/-- the places of a slice's elements -/
def bpl (n s : Nat) : List (Nat × Nat) := (List.range n).map fun i => (i * s, s)
def zeros : Nat → List D → List D
  | 0, _ => []
  | n + 1, z => z ++ zeros n z

theorem zeros_get (z : List D) (hz : z ≠ []) : ∀ (n i : Nat), i < n * z.length → (zeros n z)[i]? = z[i % z.length]?
  | 0, i, h => by omega
  | n + 1, i, h => by
    have hz0 : 0 < z.length := List.length_pos_iff.2 hz
    unfold zeros
    rw [List.getElem?_append]
    split
    · rename_i hi; rw [Nat.mod_eq_of_lt hi]
    · rename_i hi
      have h' : i < n * z.length + z.length := by rw [← Nat.succ_mul]; exact h
      rw [zeros_get z hz n (i - z.length) (by omega)]
      conv => rhs; rw [Nat.mod_eq_sub_mod (by omega)]
theorem zeros_length (z : List D) : ∀ n, (zeros n z).length = n * z.length
  | 0 => by simp [zeros]
  | n + 1 => by unfold zeros; rw [List.length_append, zeros_length z n, Nat.succ_mul, Nat.add_comm]

theorem splice_length {off : Nat} {new cs cs' : List D} (h : splice off new cs = some cs') : cs'.length = cs.length := by
  unfold splice at h
  rcases Bool.eq_false_or_eq_true (Nat.ble (off + new.length) cs.length) with hb | hb
  · simp only [hb, cond_true, Option.some.injEq] at h
    subst h
    have := Nat.le_of_ble_eq_true hb
    simp; omega
  · simp only [hb, cond_false] at h; cases h
theorem dfill_length : ∀ (pl : List (Nat × Nat)) (xs : List (Nat × D)) (cs cs' : List D), dfill pl cs xs = some cs' → cs'.length = cs.length
  | pl, [], cs, cs', h => by simp [dfill] at h; rw [h]
  | pl, (i, d) :: xs, cs, cs', h => by
    simp only [dfill] at h
    split at h
    · rename_i off n hpl
      rcases Bool.eq_false_or_eq_true (Nat.beq d.cells.length n && d.fits) with hb | hb
      · simp only [hb, cond_true] at h
        split at h
        · rename_i cs1 hs
          rw [dfill_length pl xs cs1 cs' h, splice_length hs]
        · cases h
      · simp only [hb, cond_false] at h; cases h
    · cases h

theorem r_buildSlice {T E : TypeId} {ty : Ty} [ha : HasSl P T E] [ht : HasTy P E ty] {n : Nat} {parts : Array (Nat × Operand)} {xs : List (Nat × D)} {cs0 cs : List D} (l : Nat) (ho : o.op = .buildSlice T n parts) (hx : pevs ρ parts.toList = some xs) (hf : dfill (bpl n ty.size) (zeros n ty.zero) xs = some cs0) (hfz : D.fzs cs0 = cs) (hc : D.cls cs = true)
    (hzl : ty.zero.length = ty.size) (hsm : Nat.ble (n * ty.size) 16777216 = true) (hn16 : Nat.ble n 16777216 = true := by rfl) : OpSound P o ⟨.slice (.own l) n cs, [], [(l, some (.tok E ty.size))], [l]⟩ ρ m := by
  intro B G a w m' K Q hs hh _ hn hK
  obtain ⟨z, hz, hzr, hz1⟩ := ht.zero_
  obtain ⟨i, hi, hiz⟩ := Option.bind_eq_some_iff.1 hz
  obtain ⟨j, hj, hjs⟩ := Option.map_eq_some_iff.1 ht.size
  rw [hi] at hj; cases hj
  obtain ⟨e1, e2⟩ := pevs_reps (G := G) (w := w) (a := a) hx fun x hx' => hh x.2 (by rw [ho]; simp [Op.operands]; exact ⟨x.1, by simpa using hx'⟩)
  have hzs := (hzr G w).1
  -- the noughts
  let zc : Array Value := (Array.range (n * ty.size)).map (z.cells[· % z.cells.size]!)
  have hzc : Reps G w (zeros n ty.zero) zc := by
    refine ⟨by simp [zc, zeros_length, hzl], fun k d v hd hv => ?_⟩
    have hk : k < n * ty.size := by
      have := (List.getElem?_eq_some_iff.1 hd).1
      rw [zeros_length, hzl] at this; exact this
    have hz0 : 0 < ty.size := Nat.pos_of_mul_pos_left (by omega : 0 < n * ty.size)
    have hne : ty.zero ≠ [] := fun e => by rw [e] at hzl; simp at hzl; omega
    rw [zeros_get _ hne n k (by rw [hzl]; exact hk), hzl] at hd
    have hkm : k % ty.size < ty.size := Nat.mod_lt _ hz0
    have hv' : v = z.cells[k % ty.size]! := by
      simp only [zc, Array.getElem?_map, Array.getElem?_range, hk, if_true, Option.map_some, Option.some.injEq] at hv
      rw [← hv, hzs, hzl]
    have : z.cells[k % ty.size]? = some v := by
      rw [hv', getElem!_pos z.cells _ (by rw [hzs, hzl]; exact hkm)]
      exact Array.getElem?_eq_getElem _
    exact (hzr G w).2 _ d v hd this
  have hz1' : ∀ d ∈ zeros n ty.zero, d.one = true := by
    intro d hd
    have : ∀ k, ∀ d ∈ zeros k ty.zero, d.one = true := by
      intro k
      induction k with
      | zero => intro d hd; simp [zeros] at hd
      | succ k ih =>
        intro d hd
        unfold zeros at hd
        rcases List.mem_append.1 hd with h | h
        · exact hz1 d h
        · exact ih d h
    exact this n d hd
  obtain ⟨vs', h1, h2, h3⟩ := fill_reps (place := fun i => some (i * ty.size, ty.size)) (fun i x h => by
    unfold bpl at h
    simp only [List.getElem?_map, Option.map_eq_some_iff] at h
    obtain ⟨k, hk, rfl⟩ := h
    rw [List.getElem?_range (by rcases Nat.lt_or_ge i n with h' | h'; exact h'; rw [List.getElem?_eq_none (by simpa using h')] at hk; cases hk)] at hk
    injection hk with hk
    subst hk; rfl) xs (parts.toList.map fun x => (x.1, a.eval x.2)) _ cs0 zc e1 e2 hzc hz1' hf
  have hr' : Reps G w cs vs' := by rw [← hfz]; exact h2.fzs
  have hone : ∀ d ∈ cs, d.one = true ∧ d.cl = true := by
    intro d hd
    refine ⟨?_, D.cls_mem hc d hd⟩
    rw [← hfz] at hd
    obtain ⟨k, hk⟩ := List.getElem?_of_mem hd
    rw [D.fzs_get] at hk
    obtain ⟨d0, h0, rfl⟩ := Option.map_eq_some_iff.1 hk
    rw [D.fz_one]; exact h3 d0 (List.mem_of_getElem? h0)
  have hsm' := Nat.le_of_ble_eq_true hsm
  have hnn : n ≤ 16777216 := Nat.le_of_ble_eq_true hn16
  have hlen : vs'.size = n * ty.size := by
    have := h2.1
    rw [this, dfill_length _ _ _ _ hf, zeros_length, hzl]
  obtain ⟨G', g1, g2, g3, g4⟩ := hs.row_ (w' := w.alloc (.cells vs' E)) (new_alloc (new_refl w) _) (hn l (by simp)) (heap_alloc_new w _) [] (fun x h => by simp at h) hr' hone (Nat.le_refl _) (fun _ _ => rfl) hlen (by simp only [maxLen]; omega)
  have hrun : (execOp a.eval o).run P w = .ok (.value (.slice (some ⟨w.heap.size, 0, none⟩) n n)) (w.alloc (.cells vs' E)) := by
    have hzz : n * ty.size = 0 → zc = (Array.range (n * ty.size)).map ((#[] : Array Value)[· % (#[] : Array Value).size]!) := fun h => by simp [zc, h]
    have h1' : Instr.fill (fun i => some (i * ty.size, ty.size)) zc (List.map (fun x => (x.fst, a.eval x.snd)) parts.toList) = some vs' := h1
    simp only [execOp, ho, Instr.buildSlice, Sem.run_bind, run_underlying ha.sl, Result.andThen_ok, sizeOf, typeInfo, run_program, hi, Sem.run_pure, hjs]
    rw [if_neg (by omega)]
    by_cases h0 : n * ty.size = 0
    · rw [hzz h0] at h1'
      rw [h0] at h1'
      simp only [h0, if_true, Sem.run_bind, Sem.run_pure, Result.andThen_ok, Array.toList_map, h1', newRow, newObj]
      rfl
    · simp only [h0, if_false, zeroValue, typeInfo, Sem.run_bind, run_program, Result.andThen_ok, hi, hiz, Sem.run_pure, Array.toList_map]
      simp only [zc] at h1'
      simp only [h1', newRow, newObj]
      rfl
  unfold Oper.wp
  rw [hrun, Oper.upon_value]
  exact hK _ _ G' g1 g2 (g4 n (Nat.le_refl _)) fun l' hl => (g3 l' hl).imp id fun h => by simp [h]
end

section
variable {P : Program} {ρ : Slots} {m : Mem} {nx : Nat} {ops : Array Oper} {os : List Oper} {K : List Eff → Slots → Mem → Nat → Prop}
theorem k_buildSlice {t : Tmp} {T E : TypeId} {ty : Ty} [ha : HasSl P T E] [ht : HasTy P E ty] {n : Nat} {parts : Array (Nat × Operand)} {xs : List (Nat × D)} {cs0 cs : List D} {V : TypeId} {pos : String} {af : Array Edge} {gd : Option (Nat × Bool)} (hg : gok ops ρ ⟨some t, .buildSlice T n parts, V, pos, af, gd⟩ = some true)
    (hx : pevs ρ parts.toList = some xs) (hf : dfill (bpl n ty.size) (zeros n ty.zero) xs = some cs0) (hfz : D.fzs cs0 = cs) (hc : D.cls cs = true) (hzl : ty.zero.length = ty.size) (hsm : Nat.ble (n * ty.size) 16777216 = true)
    (hh : R P ops os (fun Es => K (⟨.slice (.own nx) n cs, [], [(nx, some (.tok E ty.size))], [nx]⟩ :: Es)) ((t, .slice (.own nx) n cs) :: ρ) ((nx, some (.tok E ty.size)) :: m) (nx + 1)) (hn16 : Nat.ble n 16777216 = true := by rfl) : R P ops (⟨some t, .buildSlice T n parts, V, pos, af, gd⟩ :: os) K ρ m nx :=
  R_new hg (r_buildSlice nx rfl hx hf hfz hc hzl hsm hn16) rfl hh
end
end Go.Proofs.YtpdhbddkcnffbaaDoor

namespace Go.Proofs.YtpdhbddkcnffbaaDoor
open Go.RowKit
set_option linter.unusedVariables false
set_option linter.unusedVariables false
set_option linter.unusedVariables false

/-- how much there is of a block -/
def allsz (w : World) (b : Nat) : Nat := match w.heap[b]? with | some (.cells vs _ _) => vs.size | _ => 0

/-- what a callee reads that keeps nothing -/
inductive Views (m : Mem) : List D → List D → List Nat → Prop where
  | nil : Views m [] [] []
  | fz {d e : D} {ds es : List D} {rd : List Nat} (h : d.fz = e) (hc : e.cl = true) (t : Views m ds es rd) : Views m (d :: ds) (e :: es) rd
  | ms {l off n : Nat} {T : TypeId} {vs cs : List D} {ds es : List D} {rd : List Nat} (c : Nat) (hm : mget m l = some (.var T vs)) (hcs : (vs.drop off).take c = cs) (hle : Nat.ble (off + c) vs.length = true) (hcl : D.cls cs = true) (t : Views m ds es rd) : Views m (.ms l off n :: ds) (.slice .frozen n cs :: es) (l :: rd)

theorem Views.reps {m m' : Mem} {B : Base} {G : Gh} {w : World} (hs : Sim B G m' w) {hw2 : Nat → Nat} (hle : ∀ b, G.hw b ≤ hw2 b) : ∀ {ds es : List D} {rd : List Nat}, Views m ds es rd → (∀ l ∈ rd, mget m' l = mget m l) → (∀ l ∈ rd, hw2 (G.g l) = allsz w (G.g l)) → ∀ {vs : Array Value}, Reps G w ds vs → Reps (bare hw2) w es vs := by
  intro ds es rd h
  induction h with
  | nil => intro _ _ vs h; rw [h.unnil]; exact Reps.nil
  | fz h hc t ih =>
    intro h1 h2 vs hr
    obtain ⟨v, rest, rfl, hv, hrest⟩ := hr.uncons
    refine Reps.cons ?_ (ih h1 h2 hrest)
    have := hv.fz
    rw [h] at this
    have := this.closed (bare G.hw) rfl hc
    exact this.mono ⟨fun l hl => by simp [bare] at hl, hle, fun _ _ _ => rfl, Nat.le_refl _⟩
  | @ms l off n T vs cs ds es rd c hm hcs hle' hcl t ih =>
    intro h1 h2 vs' hr
    obtain ⟨v, rest, rfl, hv, hrest⟩ := hr.uncons
    refine Reps.cons ?_ (ih (fun l hl => h1 l (by simp [hl])) (fun l hl => h2 l (by simp [hl])) hrest)
    have hml : mget m' l = some (.var T vs) := (h1 l (by simp)).trans hm
    obtain ⟨a1, a2, a3, a4, cur, a5, a6, a7⟩ := hs.var l T vs hml
    have hsz : hw2 (G.g l) = cur.size := by rw [h2 l (by simp)]; unfold allsz; rw [a5]
    have hle'' := Nat.le_of_ble_eq_true hle'
    have hcu := a6.1
    have hlen : cs.length = c := by rw [← hcs]; simp; omega
    cases hv with
    | ms l off n cap hk hn =>
      refine .slice .frozen n cs (G.g l) off cap (cur.extract off (off + c)) (by simp; omega) (fun d hd => ?_) (fun i d v hd hv => ?_) (by show _ ≤ hw2 (G.g l); rw [hsz]; omega) (fun i hi => ?_) (hs.vlt hml) hn trivial
      · refine ⟨?_, D.cls_mem hcl d hd⟩
        rw [← hcs] at hd
        exact a7 d (List.mem_of_mem_drop (List.mem_of_mem_take hd))
      · have hcd : d.cl = true := D.cls_mem hcl d (List.mem_of_getElem? hd)
        rw [← hcs, List.getElem?_take] at hd
        split at hd
        · rw [List.getElem?_drop] at hd
          rw [Array.getElem?_extract] at hv
          split at hv
          · exact ((a6.2 _ d v hd hv).closed (bare G.hw) rfl hcd).mono ⟨fun l hl => by simp [bare] at hl, hle, fun _ _ _ => rfl, Nat.le_refl _⟩
          · cases hv
        · cases hd
      · rw [cell_of_row w _ _ cur T (0, 0) a5, Array.getElem?_extract, if_pos (by omega)]

section
variable {P : Program} {o : Oper} {ρ : Slots} {m : Mem}
end

section
variable {P : Program} {ρ : Slots} {m : Mem} {nx : Nat} {ops : Array Oper} {os : List Oper} {K : List Eff → Slots → Mem → Nat → Prop}
end
end Go.Proofs.YtpdhbddkcnffbaaDoor

namespace Go.Proofs.YtpdhbddkcnffbaaDoor
open Go.RowKit
set_option linter.unusedVariables false
set_option linter.unusedVariables false
set_option linter.unusedSimpArgs false

section
variable {P : Program} {o : Oper} {ρ : Slots} {m : Mem}

/-- the right that ends -/
def Tok.ends : Tok → Mem
  | .own k => [(k, none)]
  | _ => []
/-- may so much be appended? -/
def Tok.may (m : Mem) (E : TypeId) (s n : Nat) : Tok → Prop
  | .own k => mget m k = some (.tok E s)
  | .nil => True
  | .tight => 0 < n
  | .frozen => False

theorem Tok.ends_none (tk : Tok) : ∀ x, (tk.ends.any fun y => Nat.beq y.1 x) = true → mget tk.ends x = none := by
  intro x h
  cases tk with
  | own k =>
    simp only [Tok.ends, List.any_cons, List.any_nil, Bool.or_false] at h
    simp [Tok.ends, mget, h]
  | _ => simp [Tok.ends] at h

theorem Reps.append {G : Gh} {w : World} {cs cs2 : List D} {vs : Array Value} {news : List Value} (h : Reps G w cs vs) (h2 : Reps G w cs2 news.toArray) : Reps G w (cs ++ cs2) (vs.toList ++ news).toArray := by
  have e1 := h.1
  have e2 := h2.1
  simp only [List.size_toArray] at e2
  refine ⟨by simp; omega, fun i d v hd hv => ?_⟩
  simp only [List.getElem?_toArray] at hv
  rw [List.getElem?_append] at hd hv
  simp only [Array.length_toList] at hv
  rw [e1] at hv
  by_cases c : i < cs.length
  · rw [if_pos c] at hd hv; exact h.2 i d v hd (by simpa using hv)
  · rw [if_neg c] at hd hv; exact h2.2 _ d v hd (by simpa using hv)

theorem Sim.append_ {B : Base} {G : Gh} {m' : Mem} {w : World} (hs : Sim B G m' w) {t tx T E : TypeId} {ty : Ty} {by_ : Nat} (ha : HasSl P t E) (ht : HasTy P E ty) (hb : HasBy P E by_) {tk : Tok} {n mm : Nat} {cs cs2 : List D} {vx vy : Value} {news : List Value}
    (hbase : Rep G w (.slice tk n cs) vx) (hmay : tk.may m' E ty.size mm) (hn1 : n * ty.size = cs.length) (hzl : ty.zero.length = ty.size) (hsrc : Src P ty.size tx vy mm news w) (hnr : Reps G w cs2 news.toArray) (h2 : ∀ d ∈ cs2, d.one = true ∧ d.cl = true) (hsm : n + mm ≤ 140737488355328) (hsz : (n + mm) * by_ ≤ 140737488355328) {l : Nat} (hl : G.kn l = false) :
    ∃ v w' G', (Builtin.append_ #[t, tx] T #[vx, vy]).run P w = .ok v w' ∧ Ext G w G' w' ∧ Sim B G' ((l, some (.tok E ty.size)) :: (tk.ends ++ m')) w' ∧ (∀ l', G'.kn l' = true → G.kn l' = true ∨ l' = l) ∧ Rep G' w' (.slice (.own l) (n + mm) (cs ++ cs2)) v := by
  obtain ⟨z, hz, hzr, hz1⟩ := ht.zero_
  obtain ⟨i, hi, hiz⟩ := Option.bind_eq_some_iff.1 hz
  obtain ⟨j, hj, hjs⟩ := Option.map_eq_some_iff.1 ht.size
  rw [hi] at hj; cases hj
  obtain ⟨j, hj, hjb⟩ := Option.map_eq_some_iff.1 hb.bytes
  rw [hi] at hj; cases hj
  have hzs : z.cells.size = ty.size := by rw [(hzr G w).1, hzl]
  have hsrc' : Src P i.size tx vy mm news w := by rw [hjs]; exact hsrc
  have hnl := hsrc.newsLen
  have hcl2 : cs2.length = mm * ty.size := by have := hnr.1; simp only [List.size_toArray] at this; omega
  have hfit : ∀ old, old < n + mm → Builtin.nextslicecap (n + mm) old * i.bytes ≤ 281474976710656 := fun old ho => growslice_fits ho (by
    rw [hjb]
    exact hsz)
  -- the way that makes a new block
  have grow : ∀ (base : Option Addr) (cap : Nat) (olds : List Value), Reps G w cs olds.toArray → (∀ d ∈ cs, d.one = true ∧ d.cl = true) → (Builtin.firstCells i.size n (.slice base n cap)).run P w.drew = .ok olds.toArray w.drew → cap < n + mm → vx = .slice base n cap →
      ∃ v w' G', (Builtin.append_ #[t, tx] T #[vx, vy]).run P w = .ok v w' ∧ Ext G w G' w' ∧ Sim B G' ((l, some (.tok E ty.size)) :: (tk.ends ++ m')) w' ∧ (∀ l', G'.kn l' = true → G.kn l' = true ∨ l' = l) ∧ Rep G' w' (.slice (.own l) (n + mm) (cs ++ cs2)) v := by
    rintro base cap olds hor h1 hold hg rfl
    have hrun := run_append_grow_src (P := P) w t tx T E i z ha.sl hi hiz base n cap olds hold vy mm news hsrc' hg (by omega) (hfit _ hg)
    have hge := grownCap_ge w (n + mm) cap E
    have hcm := grownCap_le_maxLen w (n + mm) cap E (by simp only [maxLen]; omega)
    have hol : olds.length = cs.length := by have := hor.1; simpa using this
    have hrr : Reps G w (cs ++ cs2) (olds ++ news).toArray := by have := hor.append hnr; simpa using this
    have hsz : ((olds ++ news).toArray ++ Builtin.zeroCells z.cells (grownCap w (n + mm) cap E - (n + mm))).size = grownCap w (n + mm) cap E * ty.size := by
      simp only [Array.size_append, List.size_toArray, List.length_append, size_zeroCells, hzs]
      rw [hol, ← hn1, hnl, ← Nat.add_mul, ← Nat.add_mul]
      congr 1; omega
    obtain ⟨G', g1, g2, g3, g4⟩ := hs.row_ (new_alloc (new_drew (new_refl w)) (.cells ((olds ++ news).toArray ++ Builtin.zeroCells z.cells (grownCap w (n + mm) cap E - (n + mm))) E)) hl (by have := heap_alloc_new w.drew (.cells ((olds ++ news).toArray ++ Builtin.zeroCells z.cells (grownCap w (n + mm) cap E - (n + mm))) E); simpa using this) tk.ends tk.ends_none hrr (fun d hd => by
      rcases List.mem_append.1 hd with h | h
      · exact h1 d h
      · exact h2 d h) (by simp) (fun k hk => by
      rw [Array.getElem?_append_left (by simpa using hk)]) hsz hcm
    exact ⟨_, _, G', hrun, g1, g2, g3, g4 _ hge⟩
  cases hbase with
  | nil tk =>
    have hc0 : Reps G w [] (([] : List Value).toArray) := Reps.nil
    rcases Nat.eq_zero_or_pos mm with h0 | h0
    · subst h0
      have hn0 : news = [] := List.eq_nil_of_length_eq_zero (by simpa using hnl)
      subst hn0
      have hc20 : cs2 = [] := List.eq_nil_of_length_eq_zero (by simpa using hcl2)
      subst hc20
      obtain ⟨G', g1, g2, g3⟩ := hs.virt_ hl E ty.size tk.ends tk.ends_none
      exact ⟨_, w, G', run_append_nothing (P := P) w t tx T E i ha.sl hi none 0 0 (Nat.le_refl _) vy hsrc', g1, g2, g3, .nil _⟩
    · exact grow none 0 [] hc0 (fun d hd => by simp at hd) (run_firstCells_none w.drew i.size 0 0 0) (by omega) rfl
  | slice tk n cs b o' cap vs hl' h1 hh hhw hc hb' hn ht' =>
    have hcell : ∀ j u, vs.toList[j]? = some u → w.cell? ((⟨b, o', none⟩ : Addr).add j) = some u := fun j u hj => by
      rw [add_off]
      have hj' : vs[j]? = some u := by simpa using hj
      rw [hc j (by rw [← hl']; exact (Array.getElem?_eq_some_iff.1 hj').1)]; exact hj'
    have hold : (Builtin.firstCells i.size n (.slice (some ⟨b, o', none⟩) n cap)).run P w.drew = .ok vs.toList.toArray w.drew :=
      run_firstCells_some (P := P) w.drew i.size n ⟨b, o', none⟩ n cap vs.toList (by simp [hl', ← hn1, hjs]) (by simpa using hcell)
    have hvr : Reps G w cs vs.toList.toArray := by rw [Array.toArray_toList]; exact ⟨hl', hh⟩
    cases tk with
    | frozen => exact hmay.elim
    | nil => exact ht'.elim
    | tight =>
      have e : cap = n := ht'
      have : 0 < mm := hmay
      exact grow _ cap vs.toList hvr h1 hold (by omega) rfl
    | own k =>
      have hmk : mget m' k = some (.tok E ty.size) := hmay
      by_cases hroom : n + mm ≤ cap
      · obtain ⟨k1, k2, k3⟩ := hs.tok k _ _ hmk
        obtain ⟨e1, e2, e3, e4, e5⟩ := ht'.2 k2
        obtain ⟨k4, k5, cur, k6, k7, k8⟩ := k3 e1
        subst e2; subst e3; subst e5
        rw [Nat.zero_add] at e4
        have hfit' : n * i.size + news.length ≤ cur.size := by rw [hnl, hjs, k8, ← Nat.add_mul]; exact Nat.mul_le_mul_right _ hroom
        have hst := run_storeCells_at (P := P) (G.g k) (n * i.size) E news 0 cur w k6 (by omega) hsrc.one
        simp only [Nat.add_zero] at hst
        have hrun : (Builtin.append_ #[t, tx] T #[.slice (some ⟨G.g k, 0, none⟩) n (G.cp k), vy]).run P w = .ok (.slice (some ⟨G.g k, 0, none⟩) (n + mm) (G.cp k)) (w.setRow (G.g k) (cur.toList.take (n * i.size) ++ news ++ cur.toList.drop (n * i.size + news.length)).toArray) := by
          rcases hsrc.kind with ⟨e', hk⟩ | hk <;> simp [Builtin.append_, run_underlying ha.sl, run_underlying hk, sizeOf, typeInfo, hi, hsrc'.len, hroom, hsrc'.cells, Addr.add_lit, hst]
        have htake : cur.toList.take (n * i.size) = vs.toList := by
          apply List.ext_getElem?
          intro j
          rw [List.getElem?_take]
          by_cases c : j < n * i.size
          · rw [if_pos c]
            have := hc j (by rw [← hn1, ← hjs]; exact c)
            rw [Nat.zero_add, cell_of_row w _ _ cur E (0, 0) k6] at this
            simpa using this
          · rw [if_neg c, List.getElem?_eq_none (by simp [hl', ← hn1, ← hjs]; omega)]
        have hrr : Reps G w (cs ++ cs2) (vs.toList ++ news).toArray := Reps.append ⟨hl', hh⟩ hnr
        have hvl : vs.toList.length = n * i.size := by simp [hl', ← hn1, hjs]
        have hcells := setRow_heap w (G.g k) cur (cur.toList.take (n * i.size) ++ news ++ cur.toList.drop (n * i.size + news.length)).toArray E (0, 0) k6
        have hsz : (cur.toList.take (n * i.size) ++ news ++ cur.toList.drop (n * i.size + news.length)).toArray.size = cur.size := by simp; omega
        have hpre : ∀ j, j < (vs.toList ++ news).toArray.size → (cur.toList.take (n * i.size) ++ news ++ cur.toList.drop (n * i.size + news.length)).toArray[j]? = (vs.toList ++ news).toArray[j]? := fun j hj => by
          rw [htake]
          simp only [List.getElem?_toArray]
          rw [List.getElem?_append_left (by simpa using hj)]
        obtain ⟨G', g1, g2, g3, g4⟩ := hs.inplace_ (w' := w.setRow (G.g k) (cur.toList.take (n * i.size) ++ news ++ cur.toList.drop (n * i.size + news.length)).toArray) hmk e1 hl ⟨rfl, rfl, rfl, by simp, fun b _ hb => setRow_other w _ b _ (fun e => hb (by rw [e]))⟩ hcells (by rw [hsz]; exact k8) hrr (fun d hd => by
            rcases List.mem_append.1 hd with h | h
            · exact h1 d h
            · exact h2 d h) (by rw [← e4]; simp; omega) (by rw [hsz]; simp [hvl]; omega) hpre (fun j hj => by
            rw [cell_of_row _ _ _ _ E (0, 0) hcells, cell_of_row w _ _ cur E (0, 0) k6]
            rw [htake]
            simp only [List.getElem?_toArray]
            rw [← e4] at hj
            rw [List.getElem?_append_left (by simp; omega), List.getElem?_append_left (by simp; omega), ← htake, List.getElem?_take, if_pos (by rw [← hvl]; simp; omega)]
            simp)
        exact ⟨_, _, G', hrun, g1, g2, g3, g4 _ hroom⟩
      · exact grow _ cap vs.toList hvr h1 hold (by omega) rfl

/-- append of a slice's elements -/
theorem r_appendB {t tx E E2 : TypeId} {ty : Ty} {by_ : Nat} [ha : HasSl P t E] [hax : HasSl P tx E2] [ht : HasTy P E ty] [hb : HasBy P E by_] {x y : Operand} {tk tk2 : Tok} {n mm nm : Nat} {cs cs2 cs3 : List D} (l : Nat) (ho : o.op = .call { callee := .builtin .append, args := #[x, y], argTypes := #[t, tx] }) (hx : oev ρ x = some (.slice tk n cs)) (hy : oev ρ y = some (.slice tk2 mm cs2))
    (hmay : tk.may m E ty.size mm) (hn1 : n * ty.size = cs.length) (hn2 : mm * ty.size = cs2.length) (hzl : ty.zero.length = ty.size) (hsm : n + mm ≤ 140737488355328) (hsz : (n + mm) * by_ ≤ 140737488355328) (hnm : n + mm = nm) (hcs : cs ++ cs2 = cs3) :
    OpSound P o ⟨.slice (.own l) nm cs3, [], (l, some (.tok E ty.size)) :: tk.ends, [l]⟩ ρ m := by
  subst hnm; subst hcs
  intro B G a w m' K Q hs h hag hn hK
  have hpx := h x (by simp [ho, Op.operands, Call.operands]) _ hx
  have hpy := h y (by simp [ho, Op.operands, Call.operands]) _ hy
  have hmay' : tk.may m' E ty.size mm := by
    cases tk with
    | own k => exact (hag k (by unfold Eff.touch Eff.writes; simp [Tok.ends])).trans hmay
    | _ => exact hmay
  have hsrc : ∃ news, Src P ty.size tx (a.eval y) mm news w ∧ Reps G w cs2 news.toArray ∧ ∀ d ∈ cs2, d.one = true ∧ d.cl = true := by
    generalize a.eval y = vy at hpy
    cases hpy with
    | nil tk => exact ⟨[], Src.ofNil w hax.sl 0, Reps.nil, fun d hd => by simp at hd⟩
    | slice tk n cs b o' cap vs hl' h1 hh hhw hc hb' hn ht' =>
      refine ⟨vs.toList, Src.ofSlice w hax.sl ⟨b, o', none⟩ mm cap vs.toList (by rw [Array.length_toList, hl']; exact hn2.symm) (fun j u hj => ?_) (fun u hu => ?_), by rw [Array.toArray_toList]; exact ⟨hl', hh⟩, h1⟩
      · rw [add_off]
        have hj' : vs[j]? = some u := by simpa using hj
        rw [hc j (by rw [← hl']; exact (Array.getElem?_eq_some_iff.1 hj').1)]; exact hj'
      · obtain ⟨j, hj⟩ := List.getElem?_of_mem hu
        have hj' : vs[j]? = some u := by simpa using hj
        have hlt : j < cs2.length := by rw [← hl']; exact (Array.getElem?_eq_some_iff.1 hj').1
        have hd : cs2[j]? = some cs2[j] := List.getElem?_eq_getElem hlt
        exact ((hh j _ u hd hj').one (h1 _ (List.mem_of_getElem? hd)).1).1
  obtain ⟨news, hS, hnr, h2⟩ := hsrc
  obtain ⟨v, w', G', hrun, g1, g2, g3, g4⟩ := hs.append_ (T := o.type) ha ht hb hpx hmay' hn1 hzl hS hnr h2 hsm hsz (hn l (by simp))
  have hex : (execOp a.eval o).run P w = .ok (.value v) w' := by
    unfold execOp
    simp only [ho, resolve, invoke, builtin, Sem.run_bind, Sem.run_pure, Result.andThen_ok, List.map_toArray, List.map_cons, List.map_nil, hrun]
  unfold Oper.wp
  rw [hex, Oper.upon_value]
  exact hK v w' G' g1 g2 g4 fun l' hl => (g3 l' hl).imp id fun h => by simp [h]
theorem r_append {t tx E E2 : TypeId} {ty : Ty} {by_ : Nat} [ha : HasSl P t E] [hax : HasSl P tx E2] [ht : HasTy P E ty] [hb : HasBy P E by_] {x y : Operand} {tk tk2 : Tok} {n mm nm : Nat} {cs cs2 cs3 : List D} (l : Nat) (ho : o.op = .call { callee := .builtin .append, args := #[x, y], argTypes := #[t, tx] }) (hx : oev ρ x = some (.slice tk n cs)) (hy : oev ρ y = some (.slice tk2 mm cs2))
    (hmay : tk.may m E ty.size mm) (hn1 : n * ty.size = cs.length) (hn2 : mm * ty.size = cs2.length) (hzl : ty.zero.length = ty.size) (hsm : n + mm ≤ 16777216) (hby : Nat.ble by_ 1048576 = true) (hnm : n + mm = nm) (hcs : cs ++ cs2 = cs3) :
    OpSound P o ⟨.slice (.own l) nm cs3, [], (l, some (.tok E ty.size)) :: tk.ends, [l]⟩ ρ m :=
  r_appendB l ho hx hy hmay hn1 hn2 hzl (by omega) (Nat.le_trans (Nat.mul_le_mul hsm (Nat.le_of_ble_eq_true hby)) (by decide)) hnm hcs
end

section
variable {P : Program} {ρ : Slots} {m : Mem} {nx : Nat} {ops : Array Oper} {os : List Oper} {K : List Eff → Slots → Mem → Nat → Prop}
theorem k_append {t : Tmp} {tt tx E E2 : TypeId} {ty : Ty} {by_ : Nat} [HasSl P tt E] [HasSl P tx E2] [HasTy P E ty] [HasBy P E by_] {x y : Operand} {tk tk2 : Tok} {n mm nm : Nat} {cs cs2 cs3 : List D} {V : TypeId} {pos : String} {af : Array Edge} {gd : Option (Nat × Bool)} (hg : gok ops ρ ⟨some t, .call { callee := .builtin .append, args := #[x, y], argTypes := #[tt, tx] }, V, pos, af, gd⟩ = some true)
    (hx : oev ρ x = some (.slice tk n cs)) (hy : oev ρ y = some (.slice tk2 mm cs2)) (hmay : tk.may m E ty.size mm) (hn1 : n * ty.size = cs.length) (hn2 : mm * ty.size = cs2.length) (hzl : ty.zero.length = ty.size) (hsm : n + mm ≤ 16777216) (hby : Nat.ble by_ 1048576 = true) (hnm : n + mm = nm) (hcs : cs ++ cs2 = cs3)
    (hh : R P ops os (fun Es => K (⟨.slice (.own nx) nm cs3, [], (nx, some (.tok E ty.size)) :: tk.ends, [nx]⟩ :: Es)) ((t, .slice (.own nx) nm cs3) :: ρ) ((nx, some (.tok E ty.size)) :: (tk.ends ++ m)) (nx + 1)) : R P ops (⟨some t, .call { callee := .builtin .append, args := #[x, y], argTypes := #[tt, tx] }, V, pos, af, gd⟩ :: os) K ρ m nx :=
  R_new hg (r_append nx rfl hx hy hmay hn1 hn2 hzl hsm hby hnm hcs) rfl hh
end
end Go.Proofs.YtpdhbddkcnffbaaDoor

namespace Go.Proofs.YtpdhbddkcnffbaaDoor
open Go.RowKit
set_option linter.unusedVariables false
set_option linter.unusedVariables false
set_option linter.unusedSimpArgs false

section
variable {P : Program} {o : Oper} {ρ : Slots} {m : Mem}

/-- a bound, or what stands for it -/
def bnd (ρ : Slots) (x : Option Operand) (dflt : Int) : Option Int := match x with
  | none => some dflt
  | some x => match oev ρ x with
    | some (.int _ i) => some i
    | _ => none

theorem bnd_rep {G : Gh} {w : World} {a : Act} {ρ : Slots} {x : Option Operand} {dflt i : Int} (h : bnd ρ x dflt = some i) (hx : ∀ y, x = some y → ∀ d, oev ρ y = some d → Rep G w d (a.eval y)) : (x = none ∧ i = dflt) ∨ ∃ y k, x = some y ∧ a.eval y = .int k i := by
  unfold bnd at h
  cases x with
  | none => simp at h; exact .inl ⟨rfl, h.symm⟩
  | some y =>
    simp only at h
    split at h
    · rename_i k j hd
      injection h with h
      subst h
      have := hx y rfl _ hd
      have hv : a.eval y = .int k j := by generalize a.eval y = v at this; cases this; rfl
      exact .inr ⟨y, k, rfl, hv⟩
    · cases h

theorem run_sliceBound {w : World} (k : IntKind) (i : Int) (y : Nat) (code : BoundsCode) (h : 0 ≤ i ∧ i ≤ y) : (Instr.sliceBound (.int k i) y code).run P w = .ok i.toNat w := by
  simp [Instr.sliceBound, asIntOf, h]

/-- the bounds of a part -/
theorem run_bounds {w : World} {a : Act} {low high : Option Operand} {isSlice : Bool} {len cap : Nat} {lo hi : Int} (hl : (low = none ∧ lo = 0) ∨ ∃ y k, low = some y ∧ a.eval y = .int k lo) (hh : (high = none ∧ hi = len) ∨ ∃ y k, high = some y ∧ a.eval y = .int k hi) (h : 0 ≤ lo ∧ lo ≤ hi ∧ hi ≤ cap) :
    (Instr.sliceBounds isSlice len cap (low.map a.eval) (high.map a.eval) none).run P w = .ok (lo.toNat, hi.toNat, cap) w := by
  have e : (hi.toNat : Int) = hi := Int.toNat_of_nonneg (by omega)
  unfold Instr.sliceBounds
  rcases hh with ⟨rfl, rfl⟩ | ⟨y, k, rfl, hy⟩
  · rcases hl with ⟨rfl, rfl⟩ | ⟨y', k', rfl, hy'⟩
    · simp
    · simp [hy', Sem.run_bind, run_sliceBound k' lo len _ ⟨h.1, h.2.1⟩]
  · rcases hl with ⟨rfl, rfl⟩ | ⟨y', k', rfl, hy'⟩
    · simp [hy, Sem.run_bind, run_sliceBound k hi _ _ ⟨by omega, h.2.2⟩]
    · simp [hy, hy', Sem.run_bind, run_sliceBound k hi _ _ ⟨by omega, h.2.2⟩, run_sliceBound k' lo hi.toNat _ ⟨h.1, by omega⟩]
theorem run_bounds3 {w : World} {a : Act} {low : Option Operand} {high mx : Operand} {isSlice : Bool} {len cap : Nat} {lo hi mm : Int} {k1 k2 : IntKind} (hl : (low = none ∧ lo = 0) ∨ ∃ y k, low = some y ∧ a.eval y = .int k lo) (hh : a.eval high = .int k1 hi) (hm : a.eval mx = .int k2 mm) (h : 0 ≤ lo ∧ lo ≤ hi ∧ hi ≤ mm ∧ mm ≤ cap) :
    (Instr.sliceBounds isSlice len cap (low.map a.eval) (some (a.eval high)) (some (a.eval mx))).run P w = .ok (lo.toNat, hi.toNat, mm.toNat) w := by
  have e : (hi.toNat : Int) = hi := Int.toNat_of_nonneg (by omega)
  have e' : (mm.toNat : Int) = mm := Int.toNat_of_nonneg (by omega)
  unfold Instr.sliceBounds
  rcases hl with ⟨rfl, rfl⟩ | ⟨y', k', rfl, hy'⟩
  · simp [hh, hm, Sem.run_bind, run_sliceBound k2 mm _ _ ⟨by omega, h.2.2.2⟩, run_sliceBound k1 hi mm.toNat _ ⟨by omega, by omega⟩]
  · simp [hh, hm, hy', Sem.run_bind, run_sliceBound k2 mm _ _ ⟨by omega, h.2.2.2⟩, run_sliceBound k1 hi mm.toNat _ ⟨by omega, by omega⟩, run_sliceBound k' lo hi.toNat _ ⟨h.1, by omega⟩]

/-- a part of a slice's data -/
theorem Rep.part {G : Gh} {w : World} {tk : Tok} {n : Nat} {cs : List D} {v : Value} (h : Rep G w (.slice tk n cs) v) {s lo nn mm : Nat} (hs : n * s = cs.length) (hle : lo + nn ≤ n) (tk' : Tok) (ht : tk' = .frozen ∨ (tk' = .tight ∧ mm = nn)) (hmn : nn ≤ mm)  :
    ∃ b cap, v = .slice b n cap ∧ n ≤ cap ∧ ((mm + lo ≤ cap) → Rep G w (.slice tk' nn ((cs.drop (lo * s)).take (nn * s))) (.slice (if mm + lo = lo then b else b.map (·.add (lo * s))) nn mm)) := by
  cases h with
  | nil tk =>
    have e1 : lo = 0 := by omega
    have e2 : nn = 0 := by omega
    subst e1; subst e2
    refine ⟨none, 0, rfl, Nat.le_refl _, fun h => ?_⟩
    have : mm = 0 := by omega
    subst this
    simp
    exact .nil _
  | slice tk n cs b o' cap vs hl h1 hh hhw hc hb hn htk =>
    refine ⟨some ⟨b, o', none⟩, cap, rfl, hn, fun hcap => ?_⟩
    have hms : lo * s + nn * s ≤ cs.length := by rw [← hs, ← Nat.add_mul]; exact Nat.mul_le_mul_right _ hle
    by_cases h0 : mm + lo = lo
    · have e1 : mm = 0 := by omega
      have e2 : nn = 0 := by omega
      subst e1; subst e2
      rw [if_pos h0]
      simp only [Nat.zero_mul, List.take_zero]
      refine .slice tk' 0 [] b o' 0 #[] rfl (fun d hd => by simp at hd) (fun i d v hd => by simp at hd) (by simp; omega) (fun i hi => by simp at hi) hb (Nat.le_refl _) ?_
      rcases ht with rfl | ⟨rfl, _⟩
      · trivial
      · rfl
    · rw [if_neg h0]
      simp only [Option.map_some, add_off]
      have hln : ((cs.drop (lo * s)).take (nn * s)).length = nn * s := by simp; omega
      refine .slice tk' nn _ b (o' + lo * s) mm (vs.extract (lo * s) (lo * s + nn * s)) (by rw [hln]; simp; omega) (fun d hd => h1 d (List.mem_of_mem_drop (List.mem_of_mem_take hd))) (fun i d v hd hv => ?_) (by rw [hln]; omega) (fun i hi => ?_) hb hmn ?_
      · rw [List.getElem?_take] at hd
        split at hd
        · rw [List.getElem?_drop] at hd
          rw [Array.getElem?_extract] at hv
          split at hv
          · exact hh _ d v hd hv
          · cases hv
        · cases hd
      · rw [hln] at hi
        rw [show o' + lo * s + i = o' + (lo * s + i) from by omega, hc _ (by omega), Array.getElem?_extract, if_pos (by omega)]
      · rcases ht with rfl | ⟨rfl, e⟩
        · trivial
        · exact e

theorem r_slice {T E : TypeId} {ty : Ty} [ha : HasSl P T E] [ht : HasTy P E ty] {x : Operand} {low high : Option Operand} {tk : Tok} {n nn : Nat} {cs cs' : List D} {lo hi : Int} (ho : o.op = .slice T x low high none) (hx : oev ρ x = some (.slice tk n cs)) (hlo : bnd ρ low 0 = some lo) (hhi : bnd ρ high n = some hi)
    (h : 0 ≤ lo ∧ lo ≤ hi ∧ hi ≤ n) (hlen : n * ty.size = cs.length) (hnn : (hi - lo).toNat = nn) (hcs : (cs.drop (lo.toNat * ty.size)).take (nn * ty.size) = cs') : OpSound P o (Eff.val (.slice .frozen nn cs')) ρ m := by
  subst hcs
  refine sound_val fun B G a w m' hs hh _ => ?_
  have hp := hh x (by simp [ho, Op.operands]) _ hx
  have hl := bnd_rep (G := G) (w := w) (a := a) hlo fun y hy d hd => hh y (by rw [ho]; subst hy; simp [Op.operands]) d hd
  have hh' := bnd_rep (G := G) (w := w) (a := a) hhi fun y hy d hd => hh y (by rw [ho]; subst hy; cases low <;> simp [Op.operands]) d hd
  obtain ⟨i, hi', hsi⟩ := Option.map_eq_some_iff.1 ht.size
  -- the capacity first
  have hcap : ∃ b cap, a.eval x = .slice b n cap ∧ n ≤ cap := by
    generalize a.eval x = v at hp
    cases hp with
    | nil tk => exact ⟨none, 0, rfl, Nat.le_refl _⟩
    | slice tk n cs b o' cap vs hl h1 hh hhw hc hb hn htk => exact ⟨_, cap, rfl, hn⟩
  obtain ⟨b0, cap0, hv0, hn0⟩ := hcap
  obtain ⟨b, cap, hv, hn, hrep⟩ := hp.part (s := ty.size) (lo := lo.toNat) (nn := nn) (mm := cap0 - lo.toNat) hlen (by omega) .frozen (.inl rfl) (by omega)
  rw [hv0] at hv
  injection hv with e1 e2 e3
  subst e1; subst e3
  have hr := hrep (by omega)
  refine ⟨_, ?_, hr⟩
  have hb := run_bounds (P := P) (w := w) (a := a) (isSlice := true) (len := n) (cap := cap0) hl hh' ⟨h.1, h.2.1, by omega⟩
  have e4 : hi.toNat - lo.toNat = nn := by omega
  have e5 : (cap0 = lo.toNat) = (cap0 - lo.toNat + lo.toNat = lo.toNat) := by rw [eq_iff_iff]; omega
  simp only [execOp, ho, hv0, Instr.sliceAt, Instr.slice, Sem.run_bind, run_underlying ha.sl, Result.andThen_ok, Option.map_none, hb, sizeOf, typeInfo, run_program, hi', Sem.run_pure, hsi, e4, e5]

theorem r_slice3 {T E : TypeId} {ty : Ty} [ha : HasSl P T E] [ht : HasTy P E ty] {x y z : Operand} {low : Option Operand} {tk : Tok} {n nn : Nat} {cs cs' : List D} {k1 k2 : IntKind} {lo hi : Int} (ho : o.op = .slice T x low (some y) (some z)) (hx : oev ρ x = some (.slice tk n cs)) (hlo : bnd ρ low 0 = some lo) (hhi : oev ρ y = some (.int k1 hi)) (hmx : oev ρ z = some (.int k2 hi))
    (h : 0 ≤ lo ∧ lo ≤ hi ∧ hi ≤ n) (hlen : n * ty.size = cs.length) (hnn : (hi - lo).toNat = nn) (hcs : (cs.drop (lo.toNat * ty.size)).take (nn * ty.size) = cs') : OpSound P o (Eff.val (.slice .tight nn cs')) ρ m := by
  subst hcs
  refine sound_val fun B G a w m' hs hh _ => ?_
  have hp := hh x (by simp [ho, Op.operands]) _ hx
  have hl := bnd_rep (G := G) (w := w) (a := a) hlo fun y hy d hd => hh y (by rw [ho]; subst hy; simp [Op.operands]) d hd
  have hy := hh y (by rw [ho]; cases low <;> simp [Op.operands]) _ hhi
  have hz := hh z (by rw [ho]; cases low <;> simp [Op.operands]) _ hmx
  have hy' : a.eval y = .int k1 hi := by generalize a.eval y = v at hy; cases hy; rfl
  have hz' : a.eval z = .int k2 hi := by generalize a.eval z = v at hz; cases hz; rfl
  obtain ⟨i, hi', hsi⟩ := Option.map_eq_some_iff.1 ht.size
  obtain ⟨b, cap, hv, hn, hrep⟩ := hp.part (s := ty.size) (lo := lo.toNat) (nn := nn) (mm := nn) hlen (by omega) .tight (.inr ⟨rfl, rfl⟩) (by omega)
  have hr := hrep (by omega)
  refine ⟨_, ?_, hr⟩
  have hb := run_bounds3 (P := P) (w := w) (a := a) (isSlice := true) (len := n) (cap := cap) hl hy' hz' ⟨h.1, h.2.1, Int.le_refl _, by omega⟩
  have e4 : hi.toNat - lo.toNat = nn := by omega
  have e5 : (hi.toNat = lo.toNat) = (nn + lo.toNat = lo.toNat) := by rw [eq_iff_iff]; omega
  simp only [execOp, ho, hv, Instr.sliceAt, Instr.slice, Sem.run_bind, run_underlying ha.sl, Result.andThen_ok, Option.map_some, hb, sizeOf, typeInfo, run_program, hi', Sem.run_pure, hsi, e4, e5]

/-- the part of an array that is a variable: told by its name -/
theorem r_sliceA {T E : TypeId} {n : Nat} {ty : Ty} [ha : HasArr P T n E] [ht : HasTy P E ty] {x : Operand} {low high : Option Operand} {l off off' nn : Nat} {lo hi : Int} (ho : o.op = .slice T x low high none) (hx : oev ρ x = some (.ptr l off)) (hlo : bnd ρ low 0 = some lo) (hhi : bnd ρ high n = some hi)
    (h : 0 ≤ lo ∧ lo ≤ hi ∧ hi ≤ n ∧ lo < n) (hnn : (hi - lo).toNat = nn) (hoff : off + lo.toNat * ty.size = off') : OpSound P o (Eff.val (.ms l off' nn)) ρ m := by
  subst hoff
  refine sound_val fun B G a w m' hs hh _ => ?_
  have hpr := hh x (by simp [ho, Op.operands]) _ hx
  have hl := bnd_rep (G := G) (w := w) (a := a) hlo fun y hy d hd => hh y (by rw [ho]; subst hy; simp [Op.operands]) d hd
  have hh' := bnd_rep (G := G) (w := w) (a := a) hhi fun y hy d hd => hh y (by rw [ho]; subst hy; cases low <;> simp [Op.operands]) d hd
  obtain ⟨i, hi', hsi⟩ := Option.map_eq_some_iff.1 ht.size
  generalize hev : a.eval x = v at hpr
  cases hpr with
  | ptr l off hk =>
    have hb := run_bounds (P := P) (w := w) (a := a) (isSlice := false) (len := n) (cap := n) hl hh' ⟨h.1, h.2.1, h.2.2.1⟩
    have e4 : hi.toNat - lo.toNat = nn := by omega
    refine ⟨.slice (some ⟨G.g l, off + lo.toNat * ty.size, none⟩) nn (n - lo.toNat), ?_, .ms l _ nn _ hk (by omega)⟩
    simp only [execOp, ho, hev, Instr.sliceAt, Sem.run_bind, run_underlying ha.arr, Instr.sureAddr, Sem.run_pure, Result.andThen_ok, Option.map_none, hb, sizeOf, typeInfo, run_program, hi', hsi, e4]
    rw [if_neg (by omega), add_off]

/-- the part of an array that is data -/
theorem r_sliceE {T E : TypeId} {n : Nat} {ty : Ty} [ha : HasArr P T n E] [ht : HasTy P E ty] {x : Operand} {low high : Option Operand} {cs cs' : List D} {nn : Nat} {lo hi : Int} (ho : o.op = .slice T x low high none) (hx : oev ρ x = some (.eptr cs)) (hlo : bnd ρ low 0 = some lo) (hhi : bnd ρ high n = some hi)
    (h : 0 ≤ lo ∧ lo ≤ hi ∧ hi ≤ n ∧ lo < n) (hsz : Nat.blt 0 ty.size = true) (hlen : Nat.ble (n * ty.size) cs.length = true) (hnn : (hi - lo).toNat = nn) (hcs : (cs.drop (lo.toNat * ty.size)).take (nn * ty.size) = cs') : OpSound P o (Eff.val (.slice .frozen nn cs')) ρ m := by
  subst hcs
  refine sound_val fun B G a w m' hs hh _ => ?_
  have hpr := hh x (by simp [ho, Op.operands]) _ hx
  have hl := bnd_rep (G := G) (w := w) (a := a) hlo fun y hy d hd => hh y (by rw [ho]; subst hy; simp [Op.operands]) d hd
  have hh' := bnd_rep (G := G) (w := w) (a := a) hhi fun y hy d hd => hh y (by rw [ho]; subst hy; cases low <;> simp [Op.operands]) d hd
  obtain ⟨i, hi', hsi⟩ := Option.map_eq_some_iff.1 ht.size
  have hlen' := Nat.le_of_ble_eq_true hlen
  generalize hev : a.eval x = v at hpr
  cases hpr with
  | eptr cs b o' vs hl' h1 hh2 hhw hc =>
    have hb := run_bounds (P := P) (w := w) (a := a) (isSlice := false) (len := n) (cap := n) hl hh' ⟨h.1, h.2.1, h.2.2.1⟩
    have e4 : hi.toNat - lo.toNat = nn := by omega
    have hms : lo.toNat * ty.size + nn * ty.size ≤ cs.length := by
      rw [← Nat.add_mul]
      exact Nat.le_trans (Nat.mul_le_mul_right _ (by omega)) hlen'
    have hln : ((cs.drop (lo.toNat * ty.size)).take (nn * ty.size)).length = nn * ty.size := by simp; omega
    refine ⟨.slice (some ⟨b, o' + lo.toNat * ty.size, none⟩) nn (n - lo.toNat), ?_, ?_⟩
    · simp only [execOp, ho, hev, Instr.sliceAt, Sem.run_bind, run_underlying ha.arr, Instr.sureAddr, Sem.run_pure, Result.andThen_ok, Option.map_none, hb, sizeOf, typeInfo, run_program, hi', hsi, e4]
      rw [if_neg (by omega), add_off]
    · by_cases hb0 : b < w.heap.size
      · refine .slice .frozen nn _ b (o' + lo.toNat * ty.size) (n - lo.toNat) (vs.extract (lo.toNat * ty.size) (lo.toNat * ty.size + nn * ty.size)) (by rw [hln]; simp; omega) (fun d hd => h1 d (List.mem_of_mem_drop (List.mem_of_mem_take hd))) (fun i d v hd hv => ?_) (by rw [hln]; omega) (fun i hi => ?_) hb0 (by omega) trivial
        · rw [List.getElem?_take] at hd
          split at hd
          · rw [List.getElem?_drop] at hd
            rw [Array.getElem?_extract] at hv
            split at hv
            · exact hh2 _ d v hd hv
            · cases hv
          · cases hd
        · rw [hln] at hi
          rw [show o' + lo.toNat * ty.size + i = o' + (lo.toNat * ty.size + i) from by omega, hc _ (by omega), Array.getElem?_extract, if_pos (by omega)]
      · have hn0 : 0 < ty.size := by rw [← Nat.blt_eq]; exact hsz
        have : 0 < cs.length := Nat.lt_of_lt_of_le (Nat.mul_pos (by omega) hn0) hlen'
        have h0 := hc 0 this
        have hv0 : vs[0]? = some (vs[0]'(by omega)) := Array.getElem?_eq_getElem _
        rw [hv0] at h0
        have : w.heap[b]? = none := Array.getElem?_eq_none (by omega)
        simp [World.cell?, this] at h0
end

section
variable {P : Program} {B : Base} {N : Nat} {Q : Post} {ρ : Slots} {m : Mem} {nx : Nat}
/-- a loop at a round's head -/
def WL (P : Program) (B : Base) (N : Nat) (c : Code) (Q : Post) (ρ : Slots) (m : Mem) (nx : Nat) : Prop :=
  ∀ G a w, SimS B G N ρ m nx a w → ∀ b k cs, ∃ e a' w', (∃ ρ' m' nx' G', SimS B G' N ρ' m' nx' a' w' ∧ Q e ρ' m' nx') ∧ Arrives P (lone (b.at a (.code c :: .inLoop c :: k)) cs w) b k cs e a' w'
theorem W_unroll {c : Code} (h : WL P B N c Q ρ m nx) : W P B N (.loop c) Q ρ m nx := by
  intro G a w hs b k cs
  obtain ⟨e, a', w', hq, harr⟩ := h G a w hs b k cs
  exact ⟨e, a', w', hq, .of_steps (.one step_loop) harr⟩
/-- one round of a loop, and the loop again -/
theorem WL_round {c : Code} (h : W P B N c (thenD (WL P B N c Q) Q) ρ m nx) : WL P B N c Q ρ m nx := by
  intro G a w hs b k cs
  obtain ⟨e, a₁, w₁, ⟨ρ', m', nx', G', hs', hq⟩, harr⟩ := h G a w hs b (.inLoop c :: k) cs
  cases e with
  | normal =>
    obtain ⟨e₂, a₂, w₂, hq₂, harr₂⟩ := hq G' a₁ w₁ hs' b k cs
    exact ⟨e₂, a₂, w₂, hq₂, .of_steps (Steps.trans harr (.one step_inLoop)) harr₂⟩
  | exit id => exact ⟨_, a₁, w₁, ⟨ρ', m', nx', G', hs', hq⟩, .pass (x := .inLoop c) rfl (fun _ _ => .inl (by simp)) harr⟩
  | goto l => exact ⟨_, a₁, w₁, ⟨ρ', m', nx', G', hs', hq⟩, .pass (x := .inLoop c) rfl (fun _ _ => .inl (by simp)) harr⟩
  | ret => exact ⟨_, a₁, w₁, ⟨ρ', m', nx', G', hs', hq⟩, .pass (x := .inLoop c) rfl (fun _ _ => .inl (by simp)) harr⟩
  | panic ch => exact ⟨_, a₁, w₁, ⟨ρ', m', nx', G', hs', hq⟩, .pass (x := .inLoop c) rfl (fun _ _ => .inl (by simp)) harr⟩
  | outgrown => exact ⟨_, a₁, w₁, ⟨ρ', m', nx', G', hs', hq⟩, .pass (x := .inLoop c) rfl (fun _ _ => .inl (by simp)) harr⟩
end

section
variable {P : Program} {ρ : Slots} {m : Mem} {nx : Nat} {ops : Array Oper} {os : List Oper} {K : List Eff → Slots → Mem → Nat → Prop}
theorem k_slice {t : Tmp} {T E : TypeId} {ty : Ty} [HasSl P T E] [HasTy P E ty] {x : Operand} {low high : Option Operand} {tk : Tok} {n nn : Nat} {cs cs' : List D} {lo hi : Int} {V : TypeId} {pos : String} {af : Array Edge} {gd : Option (Nat × Bool)} (hg : gok ops ρ ⟨some t, .slice T x low high none, V, pos, af, gd⟩ = some true)
    (hx : oev ρ x = some (.slice tk n cs)) (hlo : bnd ρ low 0 = some lo) (hhi : bnd ρ high n = some hi) (h : 0 ≤ lo ∧ lo ≤ hi ∧ hi ≤ n) (hlen : n * ty.size = cs.length) (hnn : (hi - lo).toNat = nn) (hcs : (cs.drop (lo.toNat * ty.size)).take (nn * ty.size) = cs')
    (hh : R P ops os (fun Es => K (Eff.val (.slice .frozen nn cs') :: Es)) ((t, .slice .frozen nn cs') :: ρ) m nx) : R P ops (⟨some t, .slice T x low high none, V, pos, af, gd⟩ :: os) K ρ m nx := R_cons hg (r_slice rfl hx hlo hhi h hlen hnn hcs) rfl hh
theorem k_slice3 {t : Tmp} {T E : TypeId} {ty : Ty} [HasSl P T E] [HasTy P E ty] {x y z : Operand} {low : Option Operand} {tk : Tok} {n nn : Nat} {cs cs' : List D} {k1 k2 : IntKind} {lo hi : Int} {V : TypeId} {pos : String} {af : Array Edge} {gd : Option (Nat × Bool)} (hg : gok ops ρ ⟨some t, .slice T x low (some y) (some z), V, pos, af, gd⟩ = some true)
    (hx : oev ρ x = some (.slice tk n cs)) (hlo : bnd ρ low 0 = some lo) (hhi : oev ρ y = some (.int k1 hi)) (hmx : oev ρ z = some (.int k2 hi)) (h : 0 ≤ lo ∧ lo ≤ hi ∧ hi ≤ n) (hlen : n * ty.size = cs.length) (hnn : (hi - lo).toNat = nn) (hcs : (cs.drop (lo.toNat * ty.size)).take (nn * ty.size) = cs')
    (hh : R P ops os (fun Es => K (Eff.val (.slice .tight nn cs') :: Es)) ((t, .slice .tight nn cs') :: ρ) m nx) : R P ops (⟨some t, .slice T x low (some y) (some z), V, pos, af, gd⟩ :: os) K ρ m nx := R_cons hg (r_slice3 rfl hx hlo hhi hmx h hlen hnn hcs) rfl hh
theorem k_sliceA {t : Tmp} {T E : TypeId} {n : Nat} {ty : Ty} [HasArr P T n E] [HasTy P E ty] {x : Operand} {low high : Option Operand} {l off off' nn : Nat} {lo hi : Int} {V : TypeId} {pos : String} {af : Array Edge} {gd : Option (Nat × Bool)} (hg : gok ops ρ ⟨some t, .slice T x low high none, V, pos, af, gd⟩ = some true)
    (hx : oev ρ x = some (.ptr l off)) (hlo : bnd ρ low 0 = some lo) (hhi : bnd ρ high n = some hi) (h : 0 ≤ lo ∧ lo ≤ hi ∧ hi ≤ n ∧ lo < n) (hnn : (hi - lo).toNat = nn) (hoff : off + lo.toNat * ty.size = off')
    (hh : R P ops os (fun Es => K (Eff.val (.ms l off' nn) :: Es)) ((t, .ms l off' nn) :: ρ) m nx) : R P ops (⟨some t, .slice T x low high none, V, pos, af, gd⟩ :: os) K ρ m nx := R_cons hg (r_sliceA rfl hx hlo hhi h hnn hoff) rfl hh
theorem k_sliceE {t : Tmp} {T E : TypeId} {n : Nat} {ty : Ty} [HasArr P T n E] [HasTy P E ty] {x : Operand} {low high : Option Operand} {cs cs' : List D} {nn : Nat} {lo hi : Int} {V : TypeId} {pos : String} {af : Array Edge} {gd : Option (Nat × Bool)} (hg : gok ops ρ ⟨some t, .slice T x low high none, V, pos, af, gd⟩ = some true)
    (hx : oev ρ x = some (.eptr cs)) (hlo : bnd ρ low 0 = some lo) (hhi : bnd ρ high n = some hi) (h : 0 ≤ lo ∧ lo ≤ hi ∧ hi ≤ n ∧ lo < n) (hsz : Nat.blt 0 ty.size = true) (hlen : Nat.ble (n * ty.size) cs.length = true) (hnn : (hi - lo).toNat = nn) (hcs : (cs.drop (lo.toNat * ty.size)).take (nn * ty.size) = cs')
    (hh : R P ops os (fun Es => K (Eff.val (.slice .frozen nn cs') :: Es)) ((t, .slice .frozen nn cs') :: ρ) m nx) : R P ops (⟨some t, .slice T x low high none, V, pos, af, gd⟩ :: os) K ρ m nx := R_cons hg (r_sliceE rfl hx hlo hhi h hsz hlen hnn hcs) rfl hh
end
end Go.Proofs.YtpdhbddkcnffbaaDoor

namespace Go.Proofs.YtpdhbddkcnffbaaDoor
open Go.RowKit Go.Lib
set_option linter.unusedVariables false
set_option linter.unusedVariables false

/-- bytes -/
def bs (l : List UInt8) : List D := l.map fun x => .int .u8 (x.toNat : Int)
theorem bs_len (l : List UInt8) : (bs l).length = l.length := by simp [bs]
theorem bs_cl (l : List UInt8) : D.cls (bs l) = true := D.cls_of fun d hd => by
  obtain ⟨x, _, rfl⟩ := List.mem_map.1 hd
  rfl

section
variable {P : Program}
theorem Rep.bytes {G : Gh} {w : World} {tk : Tok} {n : Nat} {l : List UInt8} {v : Value} (h : Rep G w (.slice tk n (bs l)) v) (hn : n = l.length) : (Extern.Bytes.bytesOf v).run P w = .ok ⟨l.toArray⟩ w := by
  generalize hcs : bs l = cs at h
  cases h with
  | nil tk =>
    have : l = [] := by cases l with | nil => rfl | cons a l => simp [bs] at hcs
    subst this
    rfl
  | slice tk n cs b o cap vs hl h1 hh hhw hc hb hn' htk =>
    subst hcs
    subst hn
    have hcell : ∀ j x, l[j]? = some x → w.cell? ((⟨b, o, none⟩ : Addr).add j) = some (.int .u8 x.toNat) := fun j x hx => by
      have hlt := (List.getElem?_eq_some_iff.1 hx).1
      have hd : (bs l)[j]? = some (.int .u8 (x.toNat : Int)) := by simp [bs, hx]
      have hv : vs[j]? = some (vs[j]'(by rw [hl, bs_len]; exact hlt)) := Array.getElem?_eq_getElem _
      have hr := hh j _ _ hd hv
      rw [add_off, hc j (by rw [bs_len]; exact hlt), hv]
      generalize vs[j]'(by rw [hl, bs_len]; exact hlt) = u at hr
      cases hr; rfl
    have := Lib.run_loadBytesX (P := P) w (l.map fun x => (x.toNat : Int)) ⟨b, o, none⟩ .empty (fun j x hx => by
      rw [List.getElem?_map] at hx
      obtain ⟨y, hy, rfl⟩ := Option.map_eq_some_iff.1 hx
      exact hcell j y hy)
    rw [List.length_map] at this
    have e : Lib.bytesOf (l.map fun x => (x.toNat : Int)) = l := by
      unfold Lib.bytesOf
      rw [List.map_map]
      conv => rhs; rw [← List.map_id l]
      apply List.map_congr_left
      intro x _
      simp
    rw [e] at this
    show (Extern.Bytes.loadBytes ⟨b, o, none⟩ l.length .empty).run P w = _
    rw [this]
    simp

/-- the entry that compares -/
class HasCmp (P : Program) (F : FuncId) : Prop where
  fn : ∃ fn, P.funcs[F]? = some fn ∧ (fn.name == "runtime.NumGoroutine") = false ∧ fn.body.isNone = true ∧ Extern.findNext fn = none ∧ Extern.find fn = some Extern.BytealgCompare.compare

variable {o : Oper} {ρ : Slots} {m : Mem}
end

section
variable {P : Program} {ρ : Slots} {m : Mem} {nx : Nat} {ops : Array Oper} {os : List Oper} {K : List Eff → Slots → Mem → Nat → Prop}
end
end Go.Proofs.YtpdhbddkcnffbaaDoor

namespace Go.Proofs.YtpdhbddkcnffbaaDoor
open Go.RowKit
set_option linter.unusedVariables false
set_option linter.unusedVariables false

section
variable {P : Program} {o : Oper} {ρ : Slots} {m : Mem}
end
section
variable {P : Program} {ops : Array Oper} {os : List Oper} {K : List Eff → Slots → Mem → Nat → Prop} {ρ : Slots} {m : Mem} {nx : Nat}
end
section
variable {P : Program} {B : Base} {N : Nat} {Q : Post} {ρ : Slots} {m : Mem} {nx : Nat}
/-- a body that holds a label, and no jump -/
def scopeD (Q : Post) : Post := fun e ρ m nx => match e with | .goto _ => False | e => Q e ρ m nx
theorem W_scope {c : Code} (h : W P B N c (scopeD Q) ρ m nx) : W P B N (.scope c) Q ρ m nx := by
  intro G a w hs
  refine wp_scope_straight (wp_mono (h G a w hs) ?_)
  rintro e a' w' ⟨ρ', m', nx', G', hs', hq⟩
  cases e with
  | goto l => exact hq.elim
  | _ => exact ⟨ρ', m', nx', G', hs', hq⟩
theorem q_scope (h : Q .normal ρ m nx) : scopeD Q .normal ρ m nx := h
theorem q_scoper (h : Q .ret ρ m nx) : scopeD Q .ret ρ m nx := h
theorem q_scopex {i : Nat} (h : Q (.exit i) ρ m nx) : scopeD Q (.exit i) ρ m nx := h
end
end Go.Proofs.YtpdhbddkcnffbaaDoor

namespace Go.Proofs.YtpdhbddkcnffbaaDoor
open Go.RowKit Go.Lib
set_option linter.unusedVariables false
set_option linter.unusedVariables false

section
variable {P : Program} {o : Oper} {ρ : Slots} {m : Mem}
theorem bs_get (l : List UInt8) (i : Nat) (x : UInt8) (h : l[i]? = some x) : (bs l)[i]? = some (.int .u8 (x.toNat : Int)) := by simp [bs, h]
end

section
variable {P : Program} {ρ : Slots} {m : Mem} {nx : Nat} {ops : Array Oper} {os : List Oper} {K : List Eff → Slots → Mem → Nat → Prop}
end
end Go.Proofs.YtpdhbddkcnffbaaDoor

namespace Go.Proofs.YtpdhbddkcnffbaaDoor
open Go.RowKit Go.Lib
set_option linter.unusedVariables false
set_option linter.unusedVariables false

def nm (l : List UInt8) : Nat := l.foldl (fun a c => a * 256 + c.toNat) 0
def toB : Nat → Nat → List UInt8
  | 0, _ => []
  | k + 1, n => toB k (n / 256) ++ [UInt8.ofNat n]
theorem toB_len : ∀ (k n : Nat), (toB k n).length = k
  | 0, _ => rfl
  | k + 1, n => by simp [toB, toB_len k]
theorem nm_snoc (l : List UInt8) (c : UInt8) : nm (l ++ [c]) = nm l * 256 + c.toNat := by simp [nm, List.foldl_append]
theorem nm_toB : ∀ (k n : Nat), nm (toB k n) = n % 256 ^ k
  | 0, n => by simp [toB, nm, Nat.mod_one]
  | k + 1, n => by
    have e : (256 : Nat) ^ (k + 1) = 256 * 256 ^ k := by rw [Nat.pow_succ, Nat.mul_comm]
    rw [toB, nm_snoc, nm_toB k, UInt8.toNat_ofNat', e, Nat.mod_mul]
    omega
theorem toB_nm : ∀ (k : Nat) (l : List UInt8), l.length = k → toB k (nm l) = l
  | 0, l, h => by
    have : l = [] := List.eq_nil_of_length_eq_zero h
    subst this; rfl
  | k + 1, l, h => by
    have hne : l ≠ [] := fun e => by rw [e] at h; cases h
    obtain ⟨i, c, rfl⟩ : ∃ i c, l = i ++ [c] := ⟨l.dropLast, l.getLast hne, (List.dropLast_concat_getLast hne).symm⟩
    have hi : i.length = k := by simp at h; exact h
    have hc := c.toNat_lt
    rw [nm_snoc, toB, show (nm i * 256 + c.toNat) / 256 = nm i from by omega, toB_nm k i hi]
    have : UInt8.ofNat (nm i * 256 + c.toNat) = c := by
      apply UInt8.toNat_inj.1
      rw [UInt8.toNat_ofNat']; omega
    rw [this]
theorem nm_lt (l : List UInt8) : nm l < 256 ^ l.length := by
  have h := toB_nm l.length l rfl
  have := nm_toB l.length (nm l)
  rw [h] at this
  rw [this]
  exact Nat.mod_lt _ (Nat.pow_pos (by decide))
theorem toB_get : ∀ (k n j : Nat), j < k → (toB k n)[j]? = some (UInt8.ofNat (n / 256 ^ (k - 1 - j)))
  | k + 1, n, j, h => by
    rw [toB]
    rcases Nat.lt_or_ge j k with h1 | h1
    · rw [List.getElem?_append_left (by rw [toB_len]; exact h1), toB_get k _ j h1, Nat.div_div_eq_div_mul]
      congr 3
      rw [← Nat.pow_succ']
      congr 1; omega
    · have : j = k := by omega
      subst this
      rw [List.getElem?_append_right (by rw [toB_len]; exact Nat.le_refl _), toB_len]
      simp
/-- the bytes of 32 -/
def b32 (n : Nat) : List UInt8 := toB 32 n
theorem b32_len (n : Nat) : (b32 n).length = 32 := toB_len 32 n
theorem nm_lt32 (l : List UInt8) (h : l.length = 32) : nm l < M256 := by
  have := nm_lt l
  rw [h] at this
  have e : (256 : Nat) ^ 32 = M256 := by decide
  omega
/-- as one puts them one by one -/
def xb (n i : Nat) : Int := ((n / 256 ^ i % 256 : Nat) : Int)
theorem b32_bs (n : Nat) : bs (b32 n) = (List.range 32).map fun j => D.int .u8 (xb n (31 - j)) := by
  apply List.ext_getElem?
  intro j
  rcases Nat.lt_or_ge j 32 with h | h
  · unfold b32
    rw [bs_get _ _ _ (toB_get 32 n j h), List.getElem?_map, List.getElem?_range h]
    show some (D.int .u8 (((UInt8.ofNat (n / 256 ^ (32 - 1 - j))).toNat : Nat) : Int)) = some _
    rw [UInt8.toNat_ofNat']; rfl
  · rw [List.getElem?_eq_none (by rw [bs_len, b32_len]; exact h), List.getElem?_eq_none (by simp; exact h)]
theorem lim_byte (n q r : Nat) (hr : r < 8) : IntKind.u8.wrap ((lim n q).fdiv (2 ^ (8 * r))) = xb n (8 * q + r) := by
  unfold lim xb
  rw [Int.fdiv_eq_ediv_of_nonneg _ (by exact Int.le_of_lt (Int.pow_pos (by decide)))]
  have e1 : ((2 : Int) ^ (8 * r)) = ((256 ^ r : Nat) : Int) := by
    rw [Int.natCast_pow, Int.pow_mul]; rfl
  rw [e1, ← Int.natCast_ediv, IntKind.wrap_u8]
  have e2 : n / 18446744073709551616 ^ q % 18446744073709551616 / 256 ^ r % 256 = n / 256 ^ (8 * q + r) % 256 := by
    have p1 : (18446744073709551616 : Nat) = 256 ^ 8 := by decide
    have p2 : (256 : Nat) ^ 8 = 256 ^ r * 256 ^ (8 - r) := by rw [← Nat.pow_add]; congr 1; omega
    rw [p1, ← Nat.pow_mul]
    conv => lhs; rw [show (256 : Nat) ^ 8 = 256 ^ r * 256 ^ (8 - r) from p2]
    rw [Nat.mod_mul_right_div_self, Nat.div_div_eq_div_mul, ← Nat.pow_add]
    rw [Nat.mod_mod_of_dvd]
    exact Nat.dvd_trans (by decide : 256 ∣ 256 ^ 1) (Nat.pow_dvd_pow 256 (by omega))
  omega
end Go.Proofs.YtpdhbddkcnffbaaDoor

namespace Go.Proofs.YtpdhbddkcnffbaaDoor
open Go.RowKit Go.Lib
set_option linter.unusedVariables false
set_option linter.unusedVariables false

end Go.Proofs.YtpdhbddkcnffbaaDoor

namespace Go.Proofs.YtpdhbddkcnffbaaDoor
open Go.RowKit Go.Lib
set_option linter.unusedVariables false
set_option linter.unusedVariables false

section
variable {P : Program} {o : Oper} {ρ : Slots} {m : Mem}
/-- copy, where the source's first bytes are known -/
theorem copy_core {dT sT E : TypeId} {ty : Ty} [ha : HasSl P dT E] [ht : HasTy P E ty] {x y : Operand} {l off n k : Nat} {T' : TypeId} {cs cs' : List D} {z : List UInt8} (hsz : ty.size = 1) (ho : o.op = .call { callee := .builtin .copy, args := #[x, y], argTypes := #[dT, sT] }) (hx : oev ρ x = some (.ms l off n)) (hm : mget m l = some (.var T' cs)) (hz : z.length = k) (hsp : splice off (bs z) cs = some cs')
    (hsrc : ∀ (G : Gh) (w : World) (a : Act), (∀ x ∈ o.op.operands, ∀ d, oev ρ x = some d → Rep G w d (a.eval x)) → ∃ sl, (Builtin.lenOf (a.eval y)).run P w = .ok sl w ∧ Nat.min sl n = k ∧ (Builtin.firstCells 1 k (a.eval y)).run P w = .ok ((z.map fun b => Value.int .u8 b.toNat).toArray) w) : OpSound P o ⟨.int .i64 k, [], [(l, some (.var T' cs'))], []⟩ ρ m := by
  intro B G a w m' K Q hs h hag hn hK
  have hml : mget m' l = some (.var T' cs) := (hag l (by unfold Eff.touch Eff.writes; simp)).trans hm
  obtain ⟨vs, hv, hr, h1'⟩ := hs.at_ hml
  have hp := h x (by simp [ho, Op.operands, Call.operands]) _ hx
  generalize hev : a.eval x = vx at hp
  cases hp with
  | ms _ _ _ cap hk hn' =>
    obtain ⟨sl, e1, e2, e3⟩ := hsrc G w a h
    have hc1 : Reps G w (bs z) (z.map fun b => Value.int .u8 b.toNat).toArray := by
      refine ⟨by simp [bs_len], fun i d v hd hv => ?_⟩
      unfold bs at hd
      rw [List.getElem?_map] at hd
      obtain ⟨b, hb, rfl⟩ := Option.map_eq_some_iff.1 hd
      simp [hb] at hv
      subst hv
      exact .int _ _
    have hc2 : ∀ d ∈ bs z, d.one = true := fun d hd => by
      obtain ⟨b, _, rfl⟩ := List.mem_map.1 hd; rfl
    obtain ⟨hle, hr', h1''⟩ := hr.splice hc1 h1' hc2 hsp
    obtain ⟨i, hi, hsi⟩ := Option.map_eq_some_iff.1 ht.size
    rw [hsz] at hsi
    have hone : ∀ v ∈ (z.map fun b => Value.int .u8 b.toNat), v.oneCell' = true := fun v hv => by
      obtain ⟨b, _, rfl⟩ := List.mem_map.1 hv; rfl
    have hst := run_storeCells_at (P := P) (G.g l) off T' (z.map fun b => Value.int .u8 b.toNat) 0 vs w hv (by simp at hle; simp; omega) hone
    simp only [Nat.add_zero, List.length_map] at hst
    have hrun : (execOp a.eval o).run P w = .ok (.value (.int .i64 k)) (w.setRow (G.g l) (vs.toList.take off ++ (z.map fun b => Value.int .u8 b.toNat) ++ vs.toList.drop (off + z.length)).toArray) := by
      unfold execOp
      simp only [ho, resolve, invoke, builtin, Sem.run_bind, Sem.run_pure, Result.andThen_ok, List.map_toArray, List.map_cons, List.map_nil, hev]
      simp [Builtin.copy_, Sem.run_bind, run_underlying ha.sl, e1, e2, sizeOf, typeInfo, hi, hsi, e3, hst, goInt, Result.andThen]
    unfold Oper.wp
    rw [hrun, Oper.upon_value]
    have hg : w.grownBy (w.setRow (G.g l) (vs.toList.take off ++ (z.map fun b => Value.int .u8 b.toNat) ++ vs.toList.drop (off + z.length)).toArray) (some (G.g l)) := by
      refine ⟨rfl, rfl, rfl, by simp [World.setRow], fun i hi hne => ?_⟩
      have : ¬ G.g l = i := fun h => hne (by rw [h])
      simp [World.setRow, Array.getElem?_modify, this]
    have hr2 : Reps G w cs' (vs.toList.take off ++ (z.map fun b => Value.int .u8 b.toNat) ++ vs.toList.drop (off + z.length)).toArray := by
      have := hr'; simpa using this
    obtain ⟨hx', hs'⟩ := hs.write hml hg (setRow_heap w _ vs _ T' (0, 0) hv) hr2 h1''
    exact hK _ _ G hx' hs' (.int _ _) fun l hl => .inl hl
theorem r_copys {dT sT E : TypeId} {ty : Ty} [HasSl P dT E] [HasTy P E ty] {x y : Operand} {l off n k : Nat} {T' : TypeId} {cs cs' : List D} {s : ByteArray} {z : List UInt8} (hsz : ty.size = 1) (ho : o.op = .call { callee := .builtin .copy, args := #[x, y], argTypes := #[dT, sT] }) (hx : oev ρ x = some (.ms l off n)) (hy : oev ρ y = some (.str s)) (hm : mget m l = some (.var T' cs)) (hk : Nat.min s.size n = k) (hz : s.data.toList.take k = z) (hsp : splice off (bs z) cs = some cs') : OpSound P o ⟨.int .i64 k, [], [(l, some (.var T' cs'))], []⟩ ρ m := by
  have hsl : s.data.toList.length = s.size := by rw [Array.length_toList]; rfl
  have hzl : z.length = k := by
    have : k ≤ s.size := by rw [← hk]; exact Nat.min_le_left _ _
    rw [← hz, List.length_take]; omega
  refine copy_core hsz ho hx hm hzl hsp fun G w a h => ?_
  have hq := h y (by simp [ho, Op.operands, Call.operands]) _ hy
  generalize a.eval y = vy at hq
  cases hq
  refine ⟨s.size, rfl, hk, ?_⟩
  simp only [Builtin.firstCells, Sem.run_pure]
  congr 1
  apply Array.ext'
  rw [Array.toList_map, ByteArray.data_extract, Array.toList_extract]
  simp only [List.extract_eq_take_drop, List.drop_zero, Nat.sub_zero]
  show List.map _ (s.data.toList.take k) = _
  rw [hz]
end
section
variable {P : Program} {ρ : Slots} {m : Mem} {nx : Nat} {ops : Array Oper} {os : List Oper} {K : List Eff → Slots → Mem → Nat → Prop}
theorem k_copys {t : Tmp} {dT sT E : TypeId} {ty : Ty} [HasSl P dT E] [HasTy P E ty] {x y : Operand} {l off n k : Nat} {T' : TypeId} {cs cs' : List D} {s : ByteArray} {z : List UInt8} {V : TypeId} {pos : String} {af : Array Edge} {gd : Option (Nat × Bool)} (hg : gok ops ρ ⟨some t, .call { callee := .builtin .copy, args := #[x, y], argTypes := #[dT, sT] }, V, pos, af, gd⟩ = some true) (hsz : ty.size = 1) (hx : oev ρ x = some (.ms l off n)) (hy : oev ρ y = some (.str s)) (hm : mget m l = some (.var T' cs)) (hk : Nat.min s.size n = k) (hz : s.data.toList.take k = z) (hsp : splice off (bs z) cs = some cs')
    (hh : R P ops os (fun Es => K (⟨.int .i64 k, [], [(l, some (.var T' cs'))], []⟩ :: Es)) ((t, .int .i64 k) :: ρ) ((l, some (.var T' cs')) :: m) nx) : R P ops (⟨some t, .call { callee := .builtin .copy, args := #[x, y], argTypes := #[dT, sT] }, V, pos, af, gd⟩ :: os) K ρ m nx := R_cons hg (r_copys hsz rfl hx hy hm hk hz hsp) rfl hh
end
end Go.Proofs.YtpdhbddkcnffbaaDoor

namespace Go.Proofs.YtpdhbddkcnffbaaDoor
open Go.RowKit Go.Lib
set_option linter.unusedVariables false
set_option linter.unusedVariables false

theorem b_len {z : List UInt8} (h : z.length = 32) : (D.agg (bs z)).cells.length = 32 := by show (bs z).length = 32; rw [bs_len, h]
theorem b_fits (z : List UInt8) : (D.agg (bs z)).fits = true := rfl
theorem b_put {z : List UInt8} (h : z.length = 32) (cs : List D) (hc : cs.length = 32) : splice 0 (bs z) cs = some (bs z) := by
  unfold splice
  rw [Nat.ble_eq_true_of_le (by rw [bs_len, h, hc]; exact Nat.le_refl _), cond_true, Nat.zero_add, List.drop_of_length_le (by rw [bs_len, h, hc]; exact Nat.le_refl _)]
  simp
theorem b_cut {z : List UInt8} (h : z.length = 32) (ze : List D) : cut ⟨true, 32, ze⟩ 0 (bs z) = some (.agg (bs z)) := by
  unfold cut
  simp only [cond_true, Nat.zero_add, List.drop_zero]
  rw [Nat.ble_eq_true_of_le (by rw [bs_len, h]; exact Nat.le_refl _), cond_true, List.take_of_length_le (by rw [bs_len, h]; exact Nat.le_refl _)]
theorem bs_fzs : ∀ (l : List UInt8), D.fzs (bs l) = bs l
  | [] => rfl
  | a :: l => by
    show (D.int .u8 (a.toNat : Int)).fz :: D.fzs (bs l) = _
    rw [bs_fzs l]; rfl
theorem b_fz (z : List UInt8) : (D.agg (bs z)).fz = .agg (bs z) := by
  show D.agg (D.fzs (bs z)) = _
  rw [bs_fzs]
theorem b_fz1 (z : List UInt8) : D.fzs [D.agg (bs z)] = [D.agg (bs z)] := by
  show [(D.agg (bs z)).fz] = _
  rw [b_fz]
theorem b_cl1 (z : List UInt8) : D.cls [D.agg (bs z)] = true := by
  show (D.cls (bs z) && true) = true
  rw [bs_cl]; rfl
end Go.Proofs.YtpdhbddkcnffbaaDoor

namespace Go.Proofs.YtpdhbddkcnffbaaDoor
open Go.RowKit
set_option linter.unusedVariables false
set_option linter.unusedVariables false
set_option linter.unusedSimpArgs false

/-- the same but that the variable is data -/
inductive Fix (k : Nat) (cs : List D) : D → D → Prop where
  | refl (d : D) : Fix k cs d d
  | ptr (off : Nat) (h : Nat.ble off cs.length = true) : Fix k cs (.ptr k off) (.eptr (cs.drop off))
  | ptr0 : Fix k cs (.ptr k 0) (.eptr cs)
  | ms (off n j : Nat) (h : Nat.ble (off + j) cs.length = true) : Fix k cs (.ms k off n) (.slice .frozen n ((cs.drop off).take j))
  | agg (ds es : List D) (hl : es.length = ds.length) (h : ∀ (i : Nat) (d e : D), ds[i]? = some d → es[i]? = some e → Fix k cs d e) : Fix k cs (.agg ds) (.agg es)
theorem Fix.one {k : Nat} {cs : List D} {d e : D} (h : Fix k cs d e) : e.one = d.one := by cases h <;> rfl
theorem Fix.rep {k : Nat} {cs : List D} {d e : D} (h : Fix k cs d e) {G : Gh} {w : World} (hp : ∀ off v, off ≤ cs.length → Rep G w (.ptr k off) v → Rep G w (.eptr (cs.drop off)) v) (hm : ∀ off n j v, off + j ≤ cs.length → Rep G w (.ms k off n) v → Rep G w (.slice .frozen n ((cs.drop off).take j)) v) : ∀ {v : Value}, Rep G w d v → Rep G w e v := by
  induction h with
  | refl => exact fun h => h
  | ptr off h => exact fun hr => hp off _ (Nat.le_of_ble_eq_true h) hr
  | ptr0 => exact fun hr => hp 0 _ (Nat.zero_le _) hr
  | ms off n j h => exact fun hr => hm off n j _ (Nat.le_of_ble_eq_true h) hr
  | agg ds es hl hu ih =>
    intro v h
    cases h with
    | agg _ vs hl' h1 hh =>
      refine .agg es vs (by omega) (fun e he => ?_) (fun i e v he hv => ?_)
      · obtain ⟨i, hi⟩ := List.getElem?_of_mem he
        have hlt := (List.getElem?_eq_some_iff.1 hi).1
        have hd : ds[i]? = some (ds[i]'(by omega)) := List.getElem?_eq_getElem _
        rw [(hu i _ e hd hi).one]; exact h1 _ (List.mem_of_getElem? hd)
      · have hlt := (List.getElem?_eq_some_iff.1 he).1
        have hd : ds[i]? = some (ds[i]'(by omega)) := List.getElem?_eq_getElem _
        exact ih i _ e hd he (hh i _ v hd hv)

def SubSx (k : Nat) (cs : List D) (ρ : Slots) : Slots → Prop
  | [] => True
  | (t, d) :: r => (∃ d0, sget ρ t = some d0 ∧ Fix k cs d0 d) ∧ SubSx k cs ρ r
/-- what else is kept of the memory: as it is -/
def SubMx (k : Nat) (m : Mem) : Mem → Prop
  | [] => True
  | (l, c) :: r => (Nat.beq l k = false ∧ c.isSome = true ∧ mget m l = c) ∧ SubMx k m r
theorem SubSx.get {k : Nat} {cs : List D} {ρ : Slots} : ∀ {ρ1 : Slots}, SubSx k cs ρ ρ1 → ∀ t d, sget ρ1 t = some d → ∃ d0, sget ρ t = some d0 ∧ Fix k cs d0 d
  | [], _, t, d, h => by simp [sget] at h
  | (j, x) :: r, h, t, d, hd => by
    simp only [sget] at hd
    rcases Bool.eq_false_or_eq_true (Nat.beq j t) with hb | hb
    · simp only [hb, cond_true, Option.some.injEq] at hd
      subst hd
      rw [← Nat.eq_of_beq_eq_true hb]; exact h.1
    · simp only [hb, cond_false] at hd
      exact SubSx.get h.2 t d hd
theorem SubMx.get {k : Nat} {m : Mem} : ∀ {m1 : Mem}, SubMx k m m1 → ∀ l c, mget m1 l = some c → l ≠ k ∧ mget m l = some c
  | [], _, l, c, h => by simp [mget] at h
  | (j, x) :: r, h, l, c, hc => by
    simp only [mget] at hc
    rcases Bool.eq_false_or_eq_true (Nat.beq j l) with hb | hb
    · simp only [hb, cond_true] at hc
      subst hc
      have := Nat.eq_of_beq_eq_true hb
      subst this
      exact ⟨fun e => (by have := h.1.1; rw [e, Nat.beq_refl] at this; cases this), h.1.2.2⟩
    · simp only [hb, cond_false] at hc
      exact SubMx.get h.2 l c hc

theorem weak_fix {B : Base} {N : Nat} {ρ ρ1 : Slots} {m m1 : Mem} {nx : Nat} {T : TypeId} (k : Nat) (cs : List D) (hm : mget m k = some (.var T cs)) (hcl : D.cls cs = true) (hρ : SubSx k cs ρ ρ1) (hmz : SubMx k m m1) : Weak B N ρ m nx ρ1 m1 nx := by
  intro G a w h
  obtain ⟨k1, k4, k5, hnl, ws, k6, k7, k8⟩ := h.sim.var k _ _ hm
  have hvl := k7.1
  let G' : Gh := { G with hw := fun b => if b = G.g k then cs.length else G.hw b, al := fun x => G.al x && (G.nl x || !decide (G.g x = G.g k)) }
  have hwb : ∀ b, b ≠ G.g k → G'.hw b = G.hw b := fun b hb => by simp [G', hb]
  have hwk : G'.hw (G.g k) = cs.length := by simp [G']
  have hx : Ext G w G' w := by
    refine ⟨fun x hk => ⟨hk, rfl, fun ha => ?_, rfl, rfl⟩, fun b => ?_, fun _ _ _ => rfl, Nat.le_refl _⟩
    · simp only [G', Bool.and_eq_true, Bool.or_eq_true, Bool.not_eq_true', decide_eq_false_iff_not] at ha
      exact ⟨ha.1, fun hn => hwb _ (ha.2.resolve_left (by rw [hn]; simp))⟩
    · by_cases e : b = G.g k
      · subst e; rw [hwk, k5]; exact Nat.zero_le _
      · rw [hwb b e]; exact Nat.le_refl _
  have hap : ∀ l c, mget m1 l = some c → G.nl l = false → G.g l ≠ G.g k := fun l c hc hn => by
    obtain ⟨hne, e⟩ := hmz.get l c hc
    exact h.sim.inj l k (by rw [e]; rfl) (by rw [hm]; rfl) hne hn hnl
  have hcell : ∀ i, i < cs.length → w.cell? ⟨G.g k, i, none⟩ = ws[i]? := fun i _ => cell_of_row w _ _ ws T (0, 0) k6
  have hcl' : ∀ d ∈ cs, d.one = true ∧ d.cl = true := fun d hd => ⟨k8 d hd, D.cls_mem hcl d hd⟩
  have hr := k7.mono hx
  have hptr : ∀ off v, off ≤ cs.length → Rep G' w (.ptr k off) v → Rep G' w (.eptr (cs.drop off)) v := fun off v hle hv => by
    cases hv
    refine .eptr _ (G.g k) off (ws.extract off ws.size) (by simp; omega) (fun d hd => hcl' d (List.mem_of_mem_drop hd)) (fun i d v hd hv => ?_) (by rw [hwk]; simp; omega) (fun i hi => ?_)
    · rw [List.getElem?_drop] at hd
      rw [Array.getElem?_extract] at hv
      split at hv
      · exact hr.2 _ d v hd hv
      · cases hv
    · simp only [List.length_drop] at hi
      rw [hcell _ (by omega), Array.getElem?_extract, if_pos (by omega)]
  have hms : ∀ off n j v, off + j ≤ cs.length → Rep G' w (.ms k off n) v → Rep G' w (.slice .frozen n ((cs.drop off).take j)) v := fun off n j v hle hv => by
    cases hv with
    | ms _ _ _ cap hk hn =>
      have hlen : ((cs.drop off).take j).length = j := by simp; omega
      refine .slice .frozen n _ (G.g k) off cap (ws.extract off (off + j)) (by rw [hlen]; simp; omega) (fun d hd => hcl' d (List.mem_of_mem_drop (List.mem_of_mem_take hd))) (fun i d v hd hv => ?_) (by rw [hwk, hlen]; omega) (fun i hi => ?_) (Array.getElem?_eq_some_iff.1 k6).1 hn trivial
      · rw [List.getElem?_take] at hd
        split at hd
        · rw [List.getElem?_drop] at hd
          rw [Array.getElem?_extract] at hv
          split at hv
          · exact hr.2 _ d v hd hv
          · cases hv
        · cases hd
      · rw [hlen] at hi
        rw [hcell _ (by omega), Array.getElem?_extract, if_pos (by omega)]
  refine ⟨G', ⟨⟨h.sim.new, h.sim.ext.trans hx, fun b hb hT => ?_, fun l T' es hl => ?_, fun l E' s' hl => ?_, fun l K es hl => ?_, fun l l' ha hb hne n1 n2 => ?_, fun b hb => ?_⟩, h.defers, h.size, fun t d hd => ?_, h.fresh⟩⟩
  · rw [hwb b fun e => ?_]
    · exact h.sim.old b hb hT
    · rcases k4 with h | h
      · omega
      · exact hT (e ▸ h)
  · obtain ⟨_, e1⟩ := hmz.get l _ hl
    obtain ⟨a1, a2, a3, a4, vs, a5, a6, a7⟩ := h.sim.var l T' es e1
    exact ⟨a1, a2, (hwb _ (hap l _ hl a4)).trans a3, a4, vs, a5, a6.mono hx, a7⟩
  · obtain ⟨_, e1⟩ := hmz.get l _ hl
    obtain ⟨a1, a2, a3⟩ := h.sim.tok l E' s' e1
    refine ⟨a1, ?_, fun hn => ?_⟩
    · simp only [G', a2, Bool.true_and, Bool.or_eq_true, Bool.not_eq_true', decide_eq_false_iff_not]
      cases hn : G.nl l with
      | true => exact .inl rfl
      | false => exact .inr (hap l _ hl hn)
    · obtain ⟨c1, c2, vs, c3, c4, c5⟩ := a3 hn
      exact ⟨c1, c2, vs, c3, by rw [hwb _ (hap l _ hl hn)]; exact c4, c5⟩
  · obtain ⟨_, e1⟩ := hmz.get l _ hl
    obtain ⟨a1, a2, a3⟩ := h.sim.obj l K es e1
    refine ⟨a1, a2, fun hn => ?_⟩
    obtain ⟨c1, c2, o, c3, c4⟩ := a3 hn
    exact ⟨c1, (hwb _ (hap l _ hl hn)).trans c2, o, c3, c4.mono hx⟩
  · obtain ⟨c1, hc1⟩ := Option.isSome_iff_exists.1 ha
    obtain ⟨c2, hc2⟩ := Option.isSome_iff_exists.1 hb
    exact h.sim.inj l l' (by rw [(hmz.get l _ hc1).2]; rfl) (by rw [(hmz.get l' _ hc2).2]; rfl) hne n1 n2
  · by_cases e : b = G.g k
    · subst e
      exact ⟨ws, T, (0, 0), k6, by rw [hwk]; omega⟩
    · rw [hwb b e] at hb ⊢
      exact h.sim.data b hb
  · obtain ⟨d0, e1, e2⟩ := hρ.get t d hd
    exact e2.rep hptr hms ((h.slots t d0 e1).mono hx)

section
variable {P : Program} {o : Oper} {ρ : Slots} {m : Mem}
/-- the end of an array that is data: nothing may be put behind it -/
theorem r_sliceEt {T E : TypeId} {n : Nat} {ty : Ty} [ha : HasArr P T n E] [ht : HasTy P E ty] {x : Operand} {low : Option Operand} {cs cs' : List D} {nn : Nat} {lo : Int} (ho : o.op = .slice T x low none none) (hx : oev ρ x = some (.eptr cs)) (hlo : bnd ρ low 0 = some lo)
    (h : 0 ≤ lo ∧ lo < n) (hsz : Nat.blt 0 ty.size = true) (hlen : Nat.ble (n * ty.size) cs.length = true) (hnn : ((n : Int) - lo).toNat = nn) (hcs : (cs.drop (lo.toNat * ty.size)).take (nn * ty.size) = cs') : OpSound P o (Eff.val (.slice .tight nn cs')) ρ m := by
  subst hcs
  refine sound_val fun B G a w m' hs hh _ => ?_
  have hpr := hh x (by simp [ho, Op.operands]) _ hx
  have hl := bnd_rep (G := G) (w := w) (a := a) hlo fun y hy d hd => hh y (by rw [ho]; subst hy; simp [Op.operands]) d hd
  have hh' : ((none : Option Operand) = none ∧ (n : Int) = n) ∨ ∃ y k, (none : Option Operand) = some y ∧ a.eval y = Value.int k (n : Int) := .inl ⟨rfl, rfl⟩
  obtain ⟨i, hi', hsi⟩ := Option.map_eq_some_iff.1 ht.size
  have hlen' := Nat.le_of_ble_eq_true hlen
  generalize hev : a.eval x = v at hpr
  cases hpr with
  | eptr cs b o' vs hl' h1 hh2 hhw hc =>
    have hb := run_bounds (P := P) (w := w) (a := a) (isSlice := false) (len := n) (cap := n) hl hh' ⟨h.1, by omega, by omega⟩
    rw [Option.map_none] at hb
    have e4 : ((n : Int)).toNat - lo.toNat = nn := by omega
    have e6 : n - lo.toNat = nn := by omega
    have hms : lo.toNat * ty.size + nn * ty.size ≤ cs.length := by
      rw [← Nat.add_mul]
      exact Nat.le_trans (Nat.mul_le_mul_right _ (by omega)) hlen'
    have hln : ((cs.drop (lo.toNat * ty.size)).take (nn * ty.size)).length = nn * ty.size := by simp; omega
    refine ⟨.slice (some ⟨b, o' + lo.toNat * ty.size, none⟩) nn nn, ?_, ?_⟩
    · simp only [execOp, ho, hev, Instr.sliceAt, Sem.run_bind, run_underlying ha.arr, Instr.sureAddr, Sem.run_pure, Result.andThen_ok, Option.map_none, hb, sizeOf, typeInfo, run_program, hi', hsi, e4, e6]
      rw [if_neg (by omega), add_off]
    · by_cases hb0 : b < w.heap.size
      · refine .slice .tight nn _ b (o' + lo.toNat * ty.size) nn (vs.extract (lo.toNat * ty.size) (lo.toNat * ty.size + nn * ty.size)) (by rw [hln]; simp; omega) (fun d hd => h1 d (List.mem_of_mem_drop (List.mem_of_mem_take hd))) (fun i d v hd hv => ?_) (by rw [hln]; omega) (fun i hi => ?_) hb0 (Nat.le_refl _) rfl
        · rw [List.getElem?_take] at hd
          split at hd
          · rw [List.getElem?_drop] at hd
            rw [Array.getElem?_extract] at hv
            split at hv
            · exact hh2 _ d v hd hv
            · cases hv
          · cases hd
        · rw [hln] at hi
          rw [show o' + lo.toNat * ty.size + i = o' + (lo.toNat * ty.size + i) from by omega, hc _ (by omega), Array.getElem?_extract, if_pos (by omega)]
      · have hn0 : 0 < ty.size := by rw [← Nat.blt_eq]; exact hsz
        have : 0 < cs.length := Nat.lt_of_lt_of_le (Nat.mul_pos (by omega) hn0) hlen'
        have h0 := hc 0 this
        have hv0 : vs[0]? = some (vs[0]'(by omega)) := Array.getElem?_eq_getElem _
        rw [hv0] at h0
        have : w.heap[b]? = none := Array.getElem?_eq_none (by omega)
        simp [World.cell?, this] at h0
end
section
variable {P : Program} {ρ : Slots} {m : Mem} {nx : Nat} {ops : Array Oper} {os : List Oper} {K : List Eff → Slots → Mem → Nat → Prop}
theorem k_sliceEt {t : Tmp} {T E : TypeId} {n : Nat} {ty : Ty} [HasArr P T n E] [HasTy P E ty] {x : Operand} {low : Option Operand} {cs cs' : List D} {nn : Nat} {lo : Int} {V : TypeId} {pos : String} {af : Array Edge} {gd : Option (Nat × Bool)} (hg : gok ops ρ ⟨some t, .slice T x low none none, V, pos, af, gd⟩ = some true)
    (hx : oev ρ x = some (.eptr cs)) (hlo : bnd ρ low 0 = some lo) (h : 0 ≤ lo ∧ lo < n) (hsz : Nat.blt 0 ty.size = true) (hlen : Nat.ble (n * ty.size) cs.length = true) (hnn : ((n : Int) - lo).toNat = nn) (hcs : (cs.drop (lo.toNat * ty.size)).take (nn * ty.size) = cs')
    (hh : R P ops os (fun Es => K (Eff.val (.slice .tight nn cs') :: Es)) ((t, .slice .tight nn cs') :: ρ) m nx) : R P ops (⟨some t, .slice T x low none none, V, pos, af, gd⟩ :: os) K ρ m nx := R_cons hg (r_sliceEt rfl hx hlo h hsz hlen hnn hcs) rfl hh
end
end Go.Proofs.YtpdhbddkcnffbaaDoor

namespace Go.Proofs.YtpdhbddkcnffbaaDoor
open Go.RowKit Go.Lib
set_option linter.unusedVariables false
set_option linter.unusedVariables false

section
variable {P : Program} {o : Oper} {ρ : Slots} {m : Mem}
theorem r_copyd {dT sT E : TypeId} {ty : Ty} [HasSl P dT E] [HasTy P E ty] {x y : Operand} {l off n k n2 : Nat} {tk : Tok} {T' : TypeId} {cs cs' cs2 : List D} {z : List UInt8} (hsz : ty.size = 1) (ho : o.op = .call { callee := .builtin .copy, args := #[x, y], argTypes := #[dT, sT] }) (hx : oev ρ x = some (.ms l off n)) (hy : oev ρ y = some (.slice tk n2 cs2)) (hm : mget m l = some (.var T' cs)) (hk : Nat.min n2 n = k) (hz : cs2.take k = bs z) (hzl : z.length = k) (hsp : splice off (bs z) cs = some cs') : OpSound P o ⟨.int .i64 k, [], [(l, some (.var T' cs'))], []⟩ ρ m := by
  refine copy_core hsz ho hx hm hzl hsp fun G w a h => ?_
  have hq := h y (by simp [ho, Op.operands, Call.operands]) _ hy
  generalize a.eval y = vy at hq
  cases hq with
  | nil tk =>
    have hk0 : k = 0 := by rw [← hk]; exact Nat.eq_zero_of_le_zero (Nat.min_le_left _ _)
    subst hk0
    have : z = [] := List.length_eq_zero_iff.1 hzl
    subst this
    exact ⟨0, rfl, hk, by simp [Builtin.firstCells]⟩
  | slice tk n cs b o' cap vs hl' h1 hh hhw hc hb' hn ht' =>
    refine ⟨n2, rfl, hk, ?_⟩
    have hr := run_firstCells_some (P := P) w 1 k ⟨b, o', none⟩ n2 cap (z.map fun b => Value.int .u8 b.toNat) (by simp [hzl]) (fun j v hj => by
      rw [List.getElem?_map] at hj
      obtain ⟨c, hcj, rfl⟩ := Option.map_eq_some_iff.1 hj
      have hd : (cs2.take k)[j]? = some (.int .u8 (c.toNat : Int)) := by rw [hz]; exact bs_get z j _ hcj
      have hjk : j < k := by rw [← hzl]; exact (List.getElem?_eq_some_iff.1 hcj).1
      rw [List.getElem?_take, if_pos hjk] at hd
      have hlt := (List.getElem?_eq_some_iff.1 hd).1
      rw [add_off, hc j hlt]
      have hvj : vs[j]? = some (vs[j]'(by omega)) := Array.getElem?_eq_getElem _
      have hq := hh j _ _ hd hvj
      rw [hvj]
      generalize vs[j]'(by omega) = u at hq
      cases hq; rfl)
    rw [hr]
end
section
variable {P : Program} {ρ : Slots} {m : Mem} {nx : Nat} {ops : Array Oper} {os : List Oper} {K : List Eff → Slots → Mem → Nat → Prop}
theorem k_copyd {t : Tmp} {dT sT E : TypeId} {ty : Ty} [HasSl P dT E] [HasTy P E ty] {x y : Operand} {l off n k n2 : Nat} {tk : Tok} {T' : TypeId} {cs cs' cs2 : List D} {z : List UInt8} {V : TypeId} {pos : String} {af : Array Edge} {gd : Option (Nat × Bool)} (hg : gok ops ρ ⟨some t, .call { callee := .builtin .copy, args := #[x, y], argTypes := #[dT, sT] }, V, pos, af, gd⟩ = some true) (hsz : ty.size = 1) (hx : oev ρ x = some (.ms l off n)) (hy : oev ρ y = some (.slice tk n2 cs2)) (hm : mget m l = some (.var T' cs)) (hk : Nat.min n2 n = k) (hz : cs2.take k = bs z) (hzl : z.length = k) (hsp : splice off (bs z) cs = some cs')
    (hh : R P ops os (fun Es => K (⟨.int .i64 k, [], [(l, some (.var T' cs'))], []⟩ :: Es)) ((t, .int .i64 k) :: ρ) ((l, some (.var T' cs')) :: m) nx) : R P ops (⟨some t, .call { callee := .builtin .copy, args := #[x, y], argTypes := #[dT, sT] }, V, pos, af, gd⟩ :: os) K ρ m nx := R_cons hg (r_copyd hsz rfl hx hy hm hk hz hzl hsp) rfl hh
end
end Go.Proofs.YtpdhbddkcnffbaaDoor
