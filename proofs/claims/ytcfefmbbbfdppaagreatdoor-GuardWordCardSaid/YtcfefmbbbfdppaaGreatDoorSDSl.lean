/- Slices that are made: new memory, and the right to append to it. Of any program. No conditions. -/
import Derived.Test.YtcfefmbbbfdppaaGreatDoorSDOp2
namespace Go.Proofs.YtcfefmbbbfdppaaGreatDoor
open Go.RowKit
set_option linter.unusedVariables false
set_option linter.unusedSimpArgs false
theorem Sim.row_ {B : Base} {G : Gh} {m : Mem} {w w' : World} (h : Sim B G m w) (hn : New w w') {l : Nat} (hl : G.kn l = false) {E : TypeId} {s cap : Nat} {cs : List D} {vs ws : Array Value} (hw' : w'.heap[w.heap.size]? = some (.cells ws E (0, 0))) (kills : Mem) (hk : ∀ x, (kills.any fun y => Nat.beq y.1 x) = true → mget kills x = none)
    (hr : Reps G w cs vs) (h1 : ∀ d ∈ cs, d.one = true ∧ d.cl = true) (hw : vs.size ≤ ws.size) (hv : ∀ i, i < vs.size → ws[i]? = vs[i]?) (hcap : ws.size = cap * s) (hmax : cap ≤ maxLen) :
    ∃ G', Ext G w G' w' ∧ Sim B G' ((l, some (.tok E s)) :: (kills ++ m)) w' ∧ (∀ l', G'.kn l' = true → G.kn l' = true ∨ l' = l) ∧
      ∀ n, n ≤ cap → Rep G' w' (.slice (.own l) n cs) (.slice (some ⟨w.heap.size, 0, none⟩) n cap) := by
  have h0 := h.none_
  let G' : Gh := ⟨fun x => G.kn x || x == l, fun x => if x = l then w.heap.size else G.g x, fun x => (G.al x && (G.nl x || decide (G.g x < w.heap.size))) || x == l, fun b => if b = w.heap.size then vs.size else G.hw b, fun x => G.nl x && !(x == l), fun x => if x = l then cap else G.cp x⟩
  have hkl : ∀ x, G.kn x = true → x ≠ l := fun x hx e => by rw [e, hl] at hx; cases hx
  have hml : mget m l = none := by
    cases hm : mget m l with
    | none => rfl
    | some c => have := h.known (l := l) (by rw [hm]; rfl); rw [hl] at this; cases this
  have hwb : ∀ b, b < w.heap.size → G'.hw b = G.hw b := fun b hb => by simp [G', show b ≠ w.heap.size from by omega]
  have hgl : G'.g l = w.heap.size := by simp [G']
  have hget : ∀ x, x ≠ l → mget ((l, some (.tok E s)) :: (kills ++ m)) x = mget m x ∨ mget ((l, some (.tok E s)) :: (kills ++ m)) x = none := fun x hne => by
    rw [mget_ne _ _ hne, mget_append]
    by_cases c : (kills.any fun y => Nat.beq y.1 x) = true
    · rw [if_pos c]; exact .inr (hk x c)
    · rw [if_neg c]; exact .inl rfl
  obtain ⟨hx, hS⟩ := h.fresh_ (G' := G') (m' := (l, some (.tok E s)) :: (kills ++ m)) (c := .tok E s) hn hl ⟨fun x hkx => by
      have hne := hkl x hkx
      refine ⟨by simp [G', hkx], by simp [G', hne], by simp [G', hne], by simp [G', hne], fun ha => ?_⟩
      simp only [G', Bool.or_eq_true, Bool.and_eq_true, decide_eq_true_iff, beq_iff_eq, hne, or_false] at ha
      exact ⟨ha.1, fun hnl => hwb _ (ha.2.resolve_left (by rw [hnl]; simp))⟩, fun x => by
      by_cases e : x = l
      · subst e; exact .inr (.inr ⟨rfl, mget_eq _ _ _⟩)
      · rcases hget x e with h | h
        · exact .inl h
        · exact .inr (.inl h)⟩
    (fun x E' s' hne hm => by
      rcases hget x hne with h' | h'
      · rw [h'] at hm
        obtain ⟨a1, a2, a3⟩ := h.tok x E' s' hm
        simp only [G', Bool.or_eq_true, Bool.and_eq_true, decide_eq_true_iff]
        refine .inl ⟨a2, ?_⟩
        cases hnl : G.nl x with
        | true => exact .inl rfl
        | false => exact .inr (h.lt (by rw [hm]; rfl) hnl)
      · rw [h'] at hm; cases hm)
    hwb (fun b hb => by
      by_cases e : b = w.heap.size
      · subst e
        exact ⟨ws, E, (0, 0), hw', by simp [G']; exact hw⟩
      · have hb' : 0 < G.hw b := by simpa [G', e] using hb
        obtain ⟨vs', T', fr, hv', hs⟩ := h.data b hb'
        have hlt := (Array.getElem?_eq_some_iff.1 hv').1
        exact ⟨vs', T', fr, (hn.block _ hlt).trans hv', by rw [hwb b hlt]; exact hs⟩) hml (fun _ => hgl)
    ⟨fun T' cs' hm => by rw [mget_eq] at hm; simp at hm, fun E' s' hm => by
      rw [mget_eq] at hm
      simp only [Option.some.injEq, Loc.tok.injEq] at hm
      obtain ⟨rfl, rfl⟩ := hm
      refine ⟨by simp [G'], by simp [G'], fun _ => ⟨by simp [G']; exact hmax, ws, by rw [hgl]; exact hw', by rw [hgl]; simp [G']; exact hw, by simp [G']; exact hcap⟩⟩, fun K cs hm => by rw [mget_eq] at hm; simp at hm⟩
  refine ⟨G', hx, hS, fun x hk => by simpa [G'] using hk, fun n hnc => ?_⟩
  have hsz' := hr.1
  refine .slice (.own l) n cs w.heap.size 0 cap vs hr.1 h1 (hr.mono hx).2 (by simp [G']; omega) (fun i hi => ?_) (by
    have := (Array.getElem?_eq_some_iff.1 hw').1; omega) hnc ⟨by simp [G'], fun _ => ⟨fun h => by simp [G'] at h, fun _ => ⟨hgl.symm, rfl, by simp [G']; omega, by simp [G']⟩⟩⟩
  rw [Nat.zero_add, cell_of_row _ _ _ ws E (0, 0) hw']
  exact hv i (by omega)
theorem Sim.inplace_ {B : Base} {G : Gh} {m : Mem} {w w' : World} (h : Sim B G m w) {k l : Nat} {E : TypeId} {s : Nat} (hm : mget m k = some (.tok E s)) (hnl : G.nl k = false) (hl : G.kn l = false) {cs : List D} {vs ws : Array Value} (hg : w.grownBy w' (some (G.g k))) (hw' : w'.heap[G.g k]? = some (.cells ws E (0, 0)))
    (hsz : ws.size = G.cp k * s) (hr : Reps G w cs vs) (h1 : ∀ d ∈ cs, d.one = true ∧ d.cl = true) (hhw : G.hw (G.g k) ≤ vs.size) (hfit : vs.size ≤ ws.size) (hv : ∀ i, i < vs.size → ws[i]? = vs[i]?) (hold : ∀ i, i < G.hw (G.g k) → w'.cell? ⟨G.g k, i, none⟩ = w.cell? ⟨G.g k, i, none⟩) :
    ∃ G', Ext G w G' w' ∧ Sim B G' ((l, some (.tok E s)) :: (k, none) :: m) w' ∧ (∀ l', G'.kn l' = true → G.kn l' = true ∨ l' = l) ∧
      ∀ n, n ≤ G.cp k → Rep G' w' (.slice (.own l) n cs) (.slice (some ⟨G.g k, 0, none⟩) n (G.cp k)) := by
  obtain ⟨k1, k2, k3⟩ := h.tok k E s hm
  obtain ⟨k4, k5, cur, k6, k7, k8⟩ := k3 hnl
  have hlt : G.g k < w.heap.size := (Array.getElem?_eq_some_iff.1 k6).1
  have hkl : ∀ x, G.kn x = true → x ≠ l := fun x hx e => by rw [e, hl] at hx; cases hx
  have hml : mget m l = none := by
    cases hm : mget m l with
    | none => rfl
    | some c => have := h.known (l := l) (by rw [hm]; rfl); rw [hl] at this; cases this
  have hblk : ∀ b, b < w.heap.size → b ≠ G.g k → w'.heap[b]? = w.heap[b]? := fun b hb hne => hg.block b hb (fun e => by injection e with e; exact hne e)
  let G' : Gh := ⟨fun x => G.kn x || x == l, fun x => if x = l then G.g k else G.g x, fun x => (G.al x && (G.nl x || !decide (G.g x = G.g k))) || x == l, fun b => if b = G.g k then vs.size else G.hw b, fun x => G.nl x && !(x == l), fun x => if x = l then G.cp k else G.cp x⟩
  have hwb : ∀ b, b ≠ G.g k → G'.hw b = G.hw b := fun b hb => by simp [G', hb]
  have hwk : G'.hw (G.g k) = vs.size := by simp [G']
  have hgl : G'.g l = G.g k := by simp [G']
  have hg' : ∀ x, G.kn x = true → G'.g x = G.g x ∧ G'.nl x = G.nl x ∧ G'.cp x = G.cp x := fun x hx => by simp [G', hkl x hx]
  have hx : Ext G w G' w' := by
    refine ⟨fun x hkx => ?_, fun b => ?_, fun b i hi => ?_, hg.size⟩
    · obtain ⟨e1, e2, e3⟩ := hg' x hkx
      refine ⟨by simp [G', hkx], e1, fun ha => ?_, e2, e3⟩
      simp only [G', Bool.or_eq_true, Bool.and_eq_true, Bool.not_eq_true', decide_eq_false_iff_not, beq_iff_eq, hkl x hkx, or_false] at ha
      exact ⟨ha.1, fun hn => hwb _ (ha.2.resolve_left (by rw [hn]; simp))⟩
    · by_cases e : b = G.g k
      · subst e; rw [hwk]; exact hhw
      · rw [hwb b e]; exact Nat.le_refl _
    · by_cases e : b = G.g k
      · subst e; exact hold i hi
      · obtain ⟨vs', T', fr, hv', _⟩ := h.data b (by omega)
        simp only [World.cell?, hblk b (Array.getElem?_eq_some_iff.1 hv').1 e]
  have hget : ∀ x c, x ≠ l → mget ((l, some (.tok E s)) :: (k, none) :: m) x = some c → x ≠ k ∧ mget m x = some c := fun x c hne hc => by
    rw [mget_ne _ _ hne] at hc
    by_cases e : x = k
    · subst e; rw [mget_eq] at hc; cases hc
    · rw [mget_ne _ _ e] at hc; exact ⟨e, hc⟩
  have hap : ∀ x c, x ≠ k → mget m x = some c → G.nl x = false → G.g x ≠ G.g k := fun x c hne hc hn => h.inj x k (by rw [hc]; rfl) (by rw [hm]; rfl) hne hn hnl
  have hnd : ∀ b, b < B.W.heap.size → b ∉ B.T → b ≠ G.g k := fun b hb hT e => by
    rcases k4 with h | h
    · omega
    · exact hT (e ▸ h)
  refine ⟨G', hx, ⟨⟨hg.os.trans h.new.os, hg.tape.trans h.new.tape, hg.output.trans h.new.output, Nat.le_trans h.new.size hg.size, fun b hb hT => (hblk b (Nat.lt_of_lt_of_le hb h.new.size) (hnd b hb hT)).trans (h.new.block b hb hT)⟩, h.ext.trans hx, fun b hb hT => (hwb b (hnd b hb hT)).trans (h.old b hb hT), fun x T cs' hc => ?_, fun x E' s' hc => ?_, fun x K cs' hc => ?_, fun x y hxm hym hne n1 n2 => ?_, fun b hb => ?_⟩, fun x hk => by simpa [G'] using hk, fun n hnc => ?_⟩
  · by_cases e : x = l
    · subst e; rw [mget_eq] at hc; simp at hc
    · obtain ⟨hne, hc⟩ := hget x _ e hc
      obtain ⟨a1, a2, a3, a4, vs', a5, a6, a7⟩ := h.var x T cs' hc
      obtain ⟨e1, e2, e3⟩ := hg' x a1
      have hn := hap x _ hne hc a4
      exact ⟨by simp [G', a1], by rw [e1]; exact a2, by rw [e1, hwb _ hn]; exact a3, e2.trans a4, vs', by rw [e1]; exact (hblk _ (h.vlt hc) hn).trans a5, a6.mono hx, a7⟩
  · by_cases e : x = l
    · subst e
      rw [mget_eq] at hc
      simp only [Option.some.injEq, Loc.tok.injEq] at hc
      obtain ⟨rfl, rfl⟩ := hc
      exact ⟨by simp [G'], by simp [G'], fun _ => ⟨by rw [hgl]; exact k4, by simp [G']; exact k5, ws, by rw [hgl]; exact hw', by rw [hgl, hwk]; exact hfit, by simp [G']; exact hsz⟩⟩
    · obtain ⟨hne, hc⟩ := hget x _ e hc
      obtain ⟨a1, a2, a3⟩ := h.tok x E' s' hc
      obtain ⟨e1, e2, e3⟩ := hg' x a1
      refine ⟨by simp [G', a1], ?_, fun hn => ?_⟩
      · simp only [G', Bool.or_eq_true, Bool.and_eq_true, Bool.not_eq_true', decide_eq_false_iff_not]
        refine .inl ⟨a2, ?_⟩
        cases hn : G.nl x with
        | true => exact .inl rfl
        | false => exact .inr (hap x _ hne hc hn)
      · rw [e2] at hn
        obtain ⟨c1, c2, vs', c3, c4, c5⟩ := a3 hn
        have hn' := hap x _ hne hc hn
        exact ⟨by rw [e1]; exact c1, by rw [e3]; exact c2, vs', by rw [e1]; exact (hblk _ (h.lt (by rw [hc]; rfl) hn) hn').trans c3, by rw [e1, hwb _ hn']; exact c4, by rw [e3]; exact c5⟩
  · by_cases e : x = l
    · subst e; rw [mget_eq] at hc; simp at hc
    · obtain ⟨hne, hc⟩ := hget x _ e hc
      obtain ⟨a1, a2, a3⟩ := h.obj x K cs' hc
      obtain ⟨e1, e2, e3⟩ := hg' x a1
      refine ⟨by simp [G', a1], fun hn => a2 (e2 ▸ hn), fun hn => ?_⟩
      rw [e2] at hn
      obtain ⟨c1, c2, o, c3, c4⟩ := a3 hn
      have hn' := hap x _ hne hc hn
      exact ⟨by rw [e1]; exact c1, by rw [e1, hwb _ hn']; exact c2, o, by rw [e1]; exact (hblk _ (h.lt (by rw [hc]; rfl) hn) hn').trans c3, by rw [e3]; exact c4.mono hx⟩
  · obtain ⟨c1, hc1⟩ := Option.isSome_iff_exists.1 hxm
    obtain ⟨c2, hc2⟩ := Option.isSome_iff_exists.1 hym
    by_cases e : x = l
    · subst e
      obtain ⟨hne', hc2⟩ := hget y _ (Ne.symm hne) hc2
      obtain ⟨e1, e2, e3⟩ := hg' y (h.known (by rw [hc2]; rfl))
      rw [e2] at n2
      rw [hgl, e1]
      exact (hap y _ hne' hc2 n2).symm
    · obtain ⟨hne1, hd1⟩ := hget x _ e hc1
      obtain ⟨e1, e2, e3⟩ := hg' x (h.known (by rw [hd1]; rfl))
      rw [e2] at n1
      by_cases e' : y = l
      · subst e'
        rw [hgl, e1]
        exact hap x _ hne1 hd1 n1
      · obtain ⟨hne2, hc2⟩ := hget y _ e' hc2
        obtain ⟨e1', e2', _⟩ := hg' y (h.known (by rw [hc2]; rfl))
        rw [e2'] at n2
        rw [e1, e1']
        exact h.inj x y (by rw [hd1]; rfl) (by rw [hc2]; rfl) hne n1 n2
  · by_cases e : b = G.g k
    · subst e; exact ⟨ws, E, (0, 0), hw', by rw [hwk]; exact hfit⟩
    · rw [hwb b e] at hb
      obtain ⟨vs', T', fr, hv', hs⟩ := h.data b hb
      exact ⟨vs', T', fr, (hblk b (Array.getElem?_eq_some_iff.1 hv').1 e).trans hv', by rw [hwb b e]; exact hs⟩
  · have hsz' := hr.1
    refine .slice (.own l) n cs (G.g k) 0 (G.cp k) vs hr.1 h1 (hr.mono hx).2 (by rw [hwk]; omega) (fun i hi => ?_) (Nat.lt_of_lt_of_le hlt hg.size) hnc ⟨by simp [G'], fun _ => ⟨fun h => by simp [G'] at h, fun _ => ⟨hgl.symm, rfl, by rw [hwk]; omega, by simp [G']⟩⟩⟩
    rw [Nat.zero_add, cell_of_row _ _ _ ws E (0, 0) hw']
    exact hv i (by omega)
theorem Sim.virt_ {B : Base} {G : Gh} {m : Mem} {w : World} (h : Sim B G m w) {l : Nat} (hl : G.kn l = false) (E : TypeId) (s : Nat) (kills : Mem) (hk : ∀ x, (kills.any fun y => Nat.beq y.1 x) = true → mget kills x = none) :
    ∃ G', Ext G w G' w ∧ Sim B G' ((l, some (.tok E s)) :: (kills ++ m)) w ∧ (∀ l', G'.kn l' = true → G.kn l' = true ∨ l' = l) ∧ G'.kn l = true ∧ G'.nl l = true := by
  let G' : Gh := ⟨fun x => G.kn x || x == l, G.g, fun x => G.al x || x == l, G.hw, fun x => G.nl x || x == l, G.cp⟩
  have hne : ∀ x, G.kn x = true → x ≠ l := fun x hx e => by rw [e, hl] at hx; cases hx
  have hx : Ext G w G' w := ⟨fun x hk => by
    have := hne x hk
    refine ⟨by simp [G', hk], rfl, fun ha => ⟨by simpa [G', this] using ha, fun _ => rfl⟩, by simp [G', this], rfl⟩, fun _ => Nat.le_refl _, fun _ _ _ => rfl, Nat.le_refl _⟩
  have hget : ∀ x c, x ≠ l → mget ((l, some (.tok E s)) :: (kills ++ m)) x = some c → mget m x = some c := fun x c hne hc => by
    rw [mget_ne _ _ hne, mget_append] at hc
    by_cases d : (kills.any fun y => Nat.beq y.1 x) = true
    · rw [if_pos d, hk x d] at hc; cases hc
    · rw [if_neg d] at hc; exact hc
  refine ⟨G', hx, ⟨h.new, h.ext.trans hx, h.old, fun x T cs hc => ?_, fun x E' s' hc => ?_, fun x K cs hc => ?_, fun x y ha hb hne' n1 n2 => ?_, h.data⟩, fun x hk => by simpa [G'] using hk, by simp [G'], by simp [G']⟩
  · by_cases e : x = l
    · subst e; rw [mget_eq] at hc; simp at hc
    · obtain ⟨a1, a2, a3, a4, vs, a5, a6, a7⟩ := h.var x T cs (hget x _ e hc)
      exact ⟨by simp [G', a1], a2, a3, by simp [G', a4, e], vs, a5, a6.mono hx, a7⟩
  · by_cases e : x = l
    · subst e; exact ⟨by simp [G'], by simp [G'], fun hn => by simp [G'] at hn⟩
    · obtain ⟨a1, a2, a3⟩ := h.tok x E' s' (hget x _ e hc)
      exact ⟨by simp [G', a1], by simp [G', a2], fun hn => a3 (by simpa [G', e] using hn)⟩
  · by_cases e : x = l
    · subst e; rw [mget_eq] at hc; simp at hc
    · obtain ⟨a1, a2, a3⟩ := h.obj x K cs (hget x _ e hc)
      refine ⟨by simp [G', a1], fun hn => a2 (by simpa [G', e] using hn), fun hn => ?_⟩
      obtain ⟨c1, c2, o, c3, c4⟩ := a3 (by simpa [G', e] using hn)
      exact ⟨c1, c2, o, c3, c4.mono hx⟩
  · obtain ⟨c1, hc1⟩ := Option.isSome_iff_exists.1 ha
    obtain ⟨c2, hc2⟩ := Option.isSome_iff_exists.1 hb
    have e1 : x ≠ l := fun e => by subst e; simp [G'] at n1
    have e2 : y ≠ l := fun e => by subst e; simp [G'] at n2
    have h1 := hget x _ e1 hc1
    have h2 := hget y _ e2 hc2
    exact h.inj x y (by rw [h1]; rfl) (by rw [h2]; rfl) hne' (by simpa [G', e1] using n1) (by simpa [G', e2] using n2)
section
variable {P : Program} {o : Oper} {ρ : Slots} {m : Mem}
def bpl (n s : Nat) : List (Nat × Nat) := (List.range n).map fun i => (i * s, s)
def zeros : Nat → List D → List D
  | 0, _ => []
  | n + 1, z => z ++ zeros n z
theorem zeros_get (z : List D) (hz : z ≠ []) : ∀ (n i : Nat), i < n * z.length → (zeros n z)[i]? = z[i % z.length]?
  | 0, i, h => by omega
  | n + 1, i, h => by
    have hz0 : 0 < z.length := List.length_pos_iff.2 hz
    unfold zeros
    rw [List.getElem?_append]
    split
    · rename_i hi; rw [Nat.mod_eq_of_lt hi]
    · rename_i hi
      have h' : i < n * z.length + z.length := by rw [← Nat.succ_mul]; exact h
      rw [zeros_get z hz n (i - z.length) (by omega)]
      conv => rhs; rw [Nat.mod_eq_sub_mod (by omega)]
theorem zeros_length (z : List D) : ∀ n, (zeros n z).length = n * z.length
  | 0 => by simp [zeros]
  | n + 1 => by unfold zeros; rw [List.length_append, zeros_length z n, Nat.succ_mul, Nat.add_comm]
theorem splice_length {off : Nat} {new cs cs' : List D} (h : splice off new cs = some cs') : cs'.length = cs.length := by
  unfold splice at h
  rcases Bool.eq_false_or_eq_true (Nat.ble (off + new.length) cs.length) with hb | hb
  · simp only [hb, cond_true, Option.some.injEq] at h
    subst h
    have := Nat.le_of_ble_eq_true hb
    simp; omega
  · simp only [hb, cond_false] at h; cases h
theorem dfill_length : ∀ (pl : List (Nat × Nat)) (xs : List (Nat × D)) (cs cs' : List D), dfill pl cs xs = some cs' → cs'.length = cs.length
  | pl, [], cs, cs', h => by simp [dfill] at h; rw [h]
  | pl, (i, d) :: xs, cs, cs', h => by
    simp only [dfill] at h
    split at h
    · rename_i off n hpl
      rcases Bool.eq_false_or_eq_true (Nat.beq d.cells.length n && d.fits) with hb | hb
      · simp only [hb, cond_true] at h
        split at h
        · rename_i cs1 hs
          rw [dfill_length pl xs cs1 cs' h, splice_length hs]
        · cases h
      · simp only [hb, cond_false] at h; cases h
    · cases h
theorem r_buildSlice {T E : TypeId} {ty : Ty} [ha : HasSl P T E] [ht : HasTy P E ty] {n : Nat} {parts : Array (Nat × Operand)} {xs : List (Nat × D)} {cs0 cs : List D} (l : Nat) (ho : o.op = .buildSlice T n parts) (hx : pevs ρ parts.toList = some xs) (hf : dfill (bpl n ty.size) (zeros n ty.zero) xs = some cs0) (hfz : D.fzs cs0 = cs) (hc : D.cls cs = true)
    (hzl : ty.zero.length = ty.size) (hsm : Nat.ble (n * ty.size) 16777216 = true) (hn16 : Nat.ble n 16777216 = true := by rfl) : OpSound P o ⟨.slice (.own l) n cs, [], [(l, some (.tok E ty.size))], [l]⟩ ρ m := by
  intro B G a w m' K Q hs hh _ hn hK
  obtain ⟨z, hz, hzr, hz1⟩ := ht.zero_
  obtain ⟨i, hi, hiz⟩ := Option.bind_eq_some_iff.1 hz
  obtain ⟨j, hj, hjs⟩ := Option.map_eq_some_iff.1 ht.size
  rw [hi] at hj; cases hj
  obtain ⟨e1, e2⟩ := pevs_reps (G := G) (w := w) (a := a) hx fun x hx' => hh x.2 (by rw [ho]; simp [Op.operands]; exact ⟨x.1, by simpa using hx'⟩)
  have hzs := (hzr G w).1
  let zc : Array Value := (Array.range (n * ty.size)).map (z.cells[· % z.cells.size]!)
  have hzc : Reps G w (zeros n ty.zero) zc := by
    refine ⟨by simp [zc, zeros_length, hzl], fun k d v hd hv => ?_⟩
    have hk : k < n * ty.size := by
      have := (List.getElem?_eq_some_iff.1 hd).1
      rw [zeros_length, hzl] at this; exact this
    have hz0 : 0 < ty.size := Nat.pos_of_mul_pos_left (by omega : 0 < n * ty.size)
    have hne : ty.zero ≠ [] := fun e => by rw [e] at hzl; simp at hzl; omega
    rw [zeros_get _ hne n k (by rw [hzl]; exact hk), hzl] at hd
    have hkm : k % ty.size < ty.size := Nat.mod_lt _ hz0
    have hv' : v = z.cells[k % ty.size]! := by
      simp only [zc, Array.getElem?_map, Array.getElem?_range, hk, if_true, Option.map_some, Option.some.injEq] at hv
      rw [← hv, hzs, hzl]
    have : z.cells[k % ty.size]? = some v := by
      rw [hv', getElem!_pos z.cells _ (by rw [hzs, hzl]; exact hkm)]
      exact Array.getElem?_eq_getElem _
    exact (hzr G w).2 _ d v hd this
  have hz1' : ∀ d ∈ zeros n ty.zero, d.one = true := by
    intro d hd
    have : ∀ k, ∀ d ∈ zeros k ty.zero, d.one = true := by
      intro k
      induction k with
      | zero => intro d hd; simp [zeros] at hd
      | succ k ih =>
        intro d hd
        unfold zeros at hd
        rcases List.mem_append.1 hd with h | h
        · exact hz1 d h
        · exact ih d h
    exact this n d hd
  obtain ⟨vs', h1, h2, h3⟩ := fill_reps (place := fun i => some (i * ty.size, ty.size)) (fun i x h => by
    unfold bpl at h
    simp only [List.getElem?_map, Option.map_eq_some_iff] at h
    obtain ⟨k, hk, rfl⟩ := h
    rw [List.getElem?_range (by rcases Nat.lt_or_ge i n with h' | h'; exact h'; rw [List.getElem?_eq_none (by simpa using h')] at hk; cases hk)] at hk
    injection hk with hk
    subst hk; rfl) xs (parts.toList.map fun x => (x.1, a.eval x.2)) _ cs0 zc e1 e2 hzc hz1' hf
  have hr' : Reps G w cs vs' := by rw [← hfz]; exact h2.fzs
  have hone : ∀ d ∈ cs, d.one = true ∧ d.cl = true := by
    intro d hd
    refine ⟨?_, D.cls_mem hc d hd⟩
    rw [← hfz] at hd
    obtain ⟨k, hk⟩ := List.getElem?_of_mem hd
    rw [D.fzs_get] at hk
    obtain ⟨d0, h0, rfl⟩ := Option.map_eq_some_iff.1 hk
    rw [D.fz_one]; exact h3 d0 (List.mem_of_getElem? h0)
  have hsm' := Nat.le_of_ble_eq_true hsm
  have hnn : n ≤ 16777216 := Nat.le_of_ble_eq_true hn16
  have hlen : vs'.size = n * ty.size := by
    have := h2.1
    rw [this, dfill_length _ _ _ _ hf, zeros_length, hzl]
  obtain ⟨G', g1, g2, g3, g4⟩ := hs.row_ (w' := w.alloc (.cells vs' E)) (new_alloc (new_refl w) _) (hn l (by simp)) (heap_alloc_new w _) [] (fun x h => by simp at h) hr' hone (Nat.le_refl _) (fun _ _ => rfl) hlen (by simp only [maxLen]; omega)
  have hrun : (execOp a.eval o).run P w = .ok (.value (.slice (some ⟨w.heap.size, 0, none⟩) n n)) (w.alloc (.cells vs' E)) := by
    have hzz : n * ty.size = 0 → zc = (Array.range (n * ty.size)).map ((#[] : Array Value)[· % (#[] : Array Value).size]!) := fun h => by simp [zc, h]
    have h1' : Instr.fill (fun i => some (i * ty.size, ty.size)) zc (List.map (fun x => (x.fst, a.eval x.snd)) parts.toList) = some vs' := h1
    simp only [execOp, ho, Instr.buildSlice, Sem.run_bind, run_underlying ha.sl, Result.andThen_ok, sizeOf, typeInfo, run_program, hi, Sem.run_pure, hjs]
    rw [if_neg (by omega)]
    by_cases h0 : n * ty.size = 0
    · rw [hzz h0] at h1'
      rw [h0] at h1'
      simp only [h0, if_true, Sem.run_bind, Sem.run_pure, Result.andThen_ok, Array.toList_map, h1', newRow, newObj]
      rfl
    · simp only [h0, if_false, zeroValue, typeInfo, Sem.run_bind, run_program, Result.andThen_ok, hi, hiz, Sem.run_pure, Array.toList_map]
      simp only [zc] at h1'
      simp only [h1', newRow, newObj]
      rfl
  unfold Oper.wp
  rw [hrun, Oper.upon_value]
  exact hK _ _ G' g1 g2 (g4 n (Nat.le_refl _)) fun l' hl => (g3 l' hl).imp id fun h => by simp [h]
end
section
variable {P : Program} {ρ : Slots} {m : Mem} {nx : Nat} {ops : Array Oper} {os : List Oper} {K : List Eff → Slots → Mem → Nat → Prop}
theorem k_buildSlice {t : Tmp} {T E : TypeId} {ty : Ty} [ha : HasSl P T E] [ht : HasTy P E ty] {n : Nat} {parts : Array (Nat × Operand)} {xs : List (Nat × D)} {cs0 cs : List D} {V : TypeId} {pos : String} {af : Array Edge} {gd : Option (Nat × Bool)} (hg : gok ops ρ ⟨some t, .buildSlice T n parts, V, pos, af, gd⟩ = some true)
    (hx : pevs ρ parts.toList = some xs) (hf : dfill (bpl n ty.size) (zeros n ty.zero) xs = some cs0) (hfz : D.fzs cs0 = cs) (hc : D.cls cs = true) (hzl : ty.zero.length = ty.size) (hsm : Nat.ble (n * ty.size) 16777216 = true)
    (hh : R P ops os (fun Es => K (⟨.slice (.own nx) n cs, [], [(nx, some (.tok E ty.size))], [nx]⟩ :: Es)) ((t, .slice (.own nx) n cs) :: ρ) ((nx, some (.tok E ty.size)) :: m) (nx + 1)) (hn16 : Nat.ble n 16777216 = true := by rfl) : R P ops (⟨some t, .buildSlice T n parts, V, pos, af, gd⟩ :: os) K ρ m nx :=
  R_new hg (r_buildSlice nx rfl hx hf hfz hc hzl hsm hn16) rfl hh
end
end Go.Proofs.YtcfefmbbbfdppaaGreatDoor
