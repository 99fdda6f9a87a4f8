/- Slices that are made: new memory, and the right to append to it. Of any program. No conditions. -/
import Derived.Test.YtbljcgdehihlgaaDOp2
namespace Go.Proofs.Ytbljcgdehihlgaa
open Go.RowKit
set_option linter.unusedVariables false
set_option linter.unusedSimpArgs false

/-- new memory that holds data, and maybe more cells behind it -/
theorem Sim.fresh_ {B : Base} {G : Gh} {m : Mem} {w : World} (h : Sim B G m w) {l : Nat} (hl : G.kn l = false) {T : TypeId} {cs : List D} {vs ws : Array Value} (hr : Reps G w cs vs) (h1 : ∀ d ∈ cs, d.one = true ∧ d.cl = true) (hw : vs.size ≤ ws.size) (hv : ∀ i, i < vs.size → ws[i]? = vs[i]?) :
    ∃ G', Ext G w G' (w.alloc (.cells ws T)) ∧ Sim B G' ((l, some .tok) :: m) (w.alloc (.cells ws T)) ∧ (∀ l', G'.kn l' = true → G.kn l' = true ∨ l' = l) ∧
      ∀ n cap, n ≤ cap → Rep G' (w.alloc (.cells ws T)) (.slice (.own l) n cs) (.slice (some ⟨w.heap.size, 0, none⟩) n cap) := by
  have hn : New w (w.alloc (.cells ws T)) := new_alloc (new_refl w) _
  have h0 : G.hw w.heap.size = 0 := by
    rcases Nat.eq_zero_or_pos (G.hw w.heap.size) with h0 | h0
    · exact h0
    · obtain ⟨_, _, _, hv, _⟩ := h.data _ h0
      have := (Array.getElem?_eq_some_iff.1 hv).1; omega
  let G' : Gh := ⟨fun x => G.kn x || x == l, fun x => if x = l then w.heap.size else G.g x, fun x => (G.al x && decide (G.g x < w.heap.size)) || x == l, fun b => if b = w.heap.size then vs.size else G.hw b⟩
  have hkl : ∀ x, G.kn x = true → x ≠ l := fun x hx e => by rw [e, hl] at hx; cases hx
  have hx0 := Ext.grow h.data hn
  have hlt : ∀ b, 0 < G.hw b → b < w.heap.size := fun b hb => by
    obtain ⟨_, _, _, hv, _⟩ := h.data b hb
    exact (Array.getElem?_eq_some_iff.1 hv).1
  have hwb : ∀ b, b < w.heap.size → G'.hw b = G.hw b := fun b hb => by simp [G', show b ≠ w.heap.size from by omega]
  have hle : ∀ b, G.hw b ≤ G'.hw b := fun b => by
    by_cases e : b = w.heap.size
    · subst e; rw [h0]; omega
    · simp [G', e]
  have hg : ∀ x, G.kn x = true → G'.g x = G.g x := fun x hk => by simp [G', hkl x hk]
  have hgl : G'.g l = w.heap.size := by simp [G']
  have hx : Ext G w G' (w.alloc (.cells ws T)) := by
    refine ⟨fun x hk => ⟨by simp [G', hk], hg x hk, fun ha => ?_⟩, hle, hx0.cell, hx0.size⟩
    have hne := hkl x hk
    simp only [G', Bool.or_eq_true, Bool.and_eq_true, decide_eq_true_iff, beq_iff_eq, hne, or_false] at ha
    exact ⟨ha.1, hwb _ ha.2⟩
  have hsz : B.W.heap.size ≤ w.heap.size := h.new.size
  have hget : ∀ x, x ≠ l → mget ((l, some .tok) :: m) x = mget m x := fun x hne => by
    have : Nat.beq l x = false := by rw [← Bool.not_eq_true]; exact fun h => hne (Nat.eq_of_beq_eq_true h).symm
    simp [mget, this]
  have hkm : ∀ x, (mget m x).isSome = true → G.kn x = true := fun x hx => by
    cases hm : mget m x with
    | none => rw [hm] at hx; cases hx
    | some c => cases c with
      | var T cs => exact (h.var x T cs hm).1
      | tok => exact (h.tok x hm).1
  have hmb : ∀ k, (mget m k).isSome = true → G.g k < w.heap.size := fun k hk => h.lt hk
  refine ⟨G', hx, ⟨h.new.new hn, fun b hb => (hwb b (by omega)).trans (h.old b hb), fun x T' cs' hm => ?_, fun x hm => ?_, fun x x' ha hb hne => ?_, fun b hb => ?_⟩, fun x hk => ?_, fun n cap hnc => ?_⟩
  · by_cases he : x = l
    · subst he
      simp [mget, Nat.beq_refl] at hm
    · rw [hget x he] at hm
      obtain ⟨a, b, c, vs', hv', hr', h1'⟩ := h.var x T' cs' hm
      have hlx := hmb x (by rw [hm]; rfl)
      refine ⟨by simp [G', a], by rw [hg x a]; exact b, by rw [hg x a, hwb _ hlx]; exact c, vs', ?_, hr'.mono hx, h1'⟩
      rw [hg x a]; exact (hn.block _ hlx).trans hv'
  · by_cases he : x = l
    · subst he
      refine ⟨by simp [G'], by simp [G'], by rw [hgl]; exact .inl hsz, ws, T, by rw [hgl]; exact heap_alloc_new w _, ?_⟩
      rw [hgl]; simp [G']; exact hw
    · rw [hget x he] at hm
      obtain ⟨a, b, c, vs', T', hv', hr'⟩ := h.tok x hm
      have hlx := hmb x (by rw [hm]; rfl)
      refine ⟨by simp [G', a], by simp [G', b, hlx], by rw [hg x a]; exact c, vs', T', ?_, by rw [hg x a, hwb _ hlx]; exact hr'⟩
      rw [hg x a]; exact (hn.block _ hlx).trans hv'
  · by_cases he : x = l
    · subst he
      rw [hget x' (Ne.symm hne)] at hb
      have := hmb x' hb
      rw [hgl, hg x' (hkm x' hb)]; omega
    · by_cases he' : x' = l
      · subst he'
        rw [hget x he] at ha
        have := hmb x ha
        rw [hgl, hg x (hkm x ha)]; omega
      · rw [hget x he] at ha; rw [hget x' he'] at hb
        rw [hg x (hkm x ha), hg x' (hkm x' hb)]
        exact h.inj x x' ha hb hne
  · by_cases e : b = w.heap.size
    · subst e
      refine ⟨ws, T, (0, 0), heap_alloc_new w _, ?_⟩
      simp [G']; exact hw
    · have hb' : 0 < G.hw b := by simpa [G', e] using hb
      obtain ⟨vs', T', fr, hv', hs⟩ := h.data b hb'
      have hlb := hlt b hb'
      exact ⟨vs', T', fr, (hn.block _ hlb).trans hv', by rw [hwb b hlb]; exact hs⟩
  · simp only [G', Bool.or_eq_true, beq_iff_eq] at hk; exact hk
  · have hsz' := hr.1
    refine .slice (.own l) n cs w.heap.size 0 cap vs hr.1 h1 (hr.mono hx).2 (by simp [G']; omega) (fun i hi => ?_) (by rw [World.size_alloc]; omega) hnc ⟨by simp [G'], fun _ => ⟨hgl.symm, by simp [G']; omega⟩⟩
    rw [Nat.zero_add, cell_of_row _ _ _ ws T (0, 0) (heap_alloc_new w _)]
    exact hv i (by omega)

section
variable {P : Program} {o : Oper} {ρ : Slots} {m : Mem}
/-- the places of a slice's elements -/
def bpl (n s : Nat) : List (Nat × Nat) := (List.range n).map fun i => (i * s, s)
def zeros : Nat → List D → List D
  | 0, _ => []
  | n + 1, z => z ++ zeros n z

theorem zeros_get (z : List D) (hz : z ≠ []) : ∀ (n i : Nat), i < n * z.length → (zeros n z)[i]? = z[i % z.length]?
  | 0, i, h => by omega
  | n + 1, i, h => by
    have hz0 : 0 < z.length := List.length_pos_iff.2 hz
    unfold zeros
    rw [List.getElem?_append]
    split
    · rename_i hi; rw [Nat.mod_eq_of_lt hi]
    · rename_i hi
      have h' : i < n * z.length + z.length := by rw [← Nat.succ_mul]; exact h
      rw [zeros_get z hz n (i - z.length) (by omega)]
      conv => rhs; rw [Nat.mod_eq_sub_mod (by omega)]
theorem zeros_length (z : List D) : ∀ n, (zeros n z).length = n * z.length
  | 0 => by simp [zeros]
  | n + 1 => by unfold zeros; rw [List.length_append, zeros_length z n, Nat.succ_mul, Nat.add_comm]

theorem r_buildSlice {T E : TypeId} {ty : Ty} [ha : HasSl P T E] [ht : HasTy P E ty] {n : Nat} {parts : Array (Nat × Operand)} {xs : List (Nat × D)} {cs0 cs : List D} (l : Nat) (ho : o.op = .buildSlice T n parts) (hx : pevs ρ parts.toList = some xs) (hf : dfill (bpl n ty.size) (zeros n ty.zero) xs = some cs0) (hfz : D.fzs cs0 = cs) (hc : D.cls cs = true)
    (hzl : ty.zero.length = ty.size) (hsm : Nat.ble (n * ty.size) 16777216 = true) : OpSound P o ⟨.slice (.own l) n cs, [], [(l, some .tok)], [l]⟩ ρ m := by
  intro B G a w m' K Q hs hh _ hn hK
  obtain ⟨z, hz, hzr, hz1⟩ := ht.zero_
  obtain ⟨i, hi, hiz⟩ := Option.bind_eq_some_iff.1 hz
  obtain ⟨j, hj, hjs⟩ := Option.map_eq_some_iff.1 ht.size
  rw [hi] at hj; cases hj
  obtain ⟨e1, e2⟩ := pevs_reps (G := G) (w := w) (a := a) hx fun x hx' => hh x.2 (by rw [ho]; simp [Op.operands]; exact ⟨x.1, by simpa using hx'⟩)
  have hzs := (hzr G w).1
  -- the noughts
  let zc : Array Value := (Array.range (n * ty.size)).map (z.cells[· % z.cells.size]!)
  have hzc : Reps G w (zeros n ty.zero) zc := by
    refine ⟨by simp [zc, zeros_length, hzl], fun k d v hd hv => ?_⟩
    have hk : k < n * ty.size := by
      have := (List.getElem?_eq_some_iff.1 hd).1
      rw [zeros_length, hzl] at this; exact this
    have hz0 : 0 < ty.size := Nat.pos_of_mul_pos_left (by omega : 0 < n * ty.size)
    have hne : ty.zero ≠ [] := fun e => by rw [e] at hzl; simp at hzl; omega
    rw [zeros_get _ hne n k (by rw [hzl]; exact hk), hzl] at hd
    have hkm : k % ty.size < ty.size := Nat.mod_lt _ hz0
    have hv' : v = z.cells[k % ty.size]! := by
      simp only [zc, Array.getElem?_map, Array.getElem?_range, hk, if_true, Option.map_some, Option.some.injEq] at hv
      rw [← hv, hzs, hzl]
    have : z.cells[k % ty.size]? = some v := by
      rw [hv', getElem!_pos z.cells _ (by rw [hzs, hzl]; exact hkm)]
      exact Array.getElem?_eq_getElem _
    exact (hzr G w).2 _ d v hd this
  have hz1' : ∀ d ∈ zeros n ty.zero, d.one = true := by
    intro d hd
    have : ∀ k, ∀ d ∈ zeros k ty.zero, d.one = true := by
      intro k
      induction k with
      | zero => intro d hd; simp [zeros] at hd
      | succ k ih =>
        intro d hd
        unfold zeros at hd
        rcases List.mem_append.1 hd with h | h
        · exact hz1 d h
        · exact ih d h
    exact this n d hd
  obtain ⟨vs', h1, h2, h3⟩ := fill_reps (place := fun i => some (i * ty.size, ty.size)) (fun i x h => by
    unfold bpl at h
    simp only [List.getElem?_map, Option.map_eq_some_iff] at h
    obtain ⟨k, hk, rfl⟩ := h
    rw [List.getElem?_range (by rcases Nat.lt_or_ge i n with h' | h'; exact h'; rw [List.getElem?_eq_none (by simpa using h')] at hk; cases hk)] at hk
    injection hk with hk
    subst hk; rfl) xs (parts.toList.map fun x => (x.1, a.eval x.2)) _ cs0 zc e1 e2 hzc hz1' hf
  have hr' : Reps G w cs vs' := by rw [← hfz]; exact h2.fzs
  have hone : ∀ d ∈ cs, d.one = true ∧ d.cl = true := by
    intro d hd
    refine ⟨?_, D.cls_mem hc d hd⟩
    rw [← hfz] at hd
    obtain ⟨k, hk⟩ := List.getElem?_of_mem hd
    rw [D.fzs_get] at hk
    obtain ⟨d0, h0, rfl⟩ := Option.map_eq_some_iff.1 hk
    rw [D.fz_one]; exact h3 d0 (List.mem_of_getElem? h0)
  obtain ⟨G', g1, g2, g3, g4⟩ := hs.fresh_ (hn l (by simp)) (T := E) hr' hone (Nat.le_refl _) (fun _ _ => rfl)
  have hsm' := Nat.le_of_ble_eq_true hsm
  have hrun : (execOp a.eval o).run P w = .ok (.value (.slice (some ⟨w.heap.size, 0, none⟩) n n)) (w.alloc (.cells vs' E)) := by
    have hzz : n * ty.size = 0 → zc = (Array.range (n * ty.size)).map ((#[] : Array Value)[· % (#[] : Array Value).size]!) := fun h => by simp [zc, h]
    have h1' : Instr.fill (fun i => some (i * ty.size, ty.size)) zc (List.map (fun x => (x.fst, a.eval x.snd)) parts.toList) = some vs' := h1
    simp only [execOp, ho, Instr.buildSlice, Sem.run_bind, run_underlying ha.sl, Result.andThen_ok, sizeOf, typeInfo, run_program, hi, Sem.run_pure, hjs]
    rw [if_neg (by omega)]
    by_cases h0 : n * ty.size = 0
    · rw [hzz h0] at h1'
      rw [h0] at h1'
      simp only [h0, if_true, Sem.run_bind, Sem.run_pure, Result.andThen_ok, Array.toList_map, h1', newRow, newObj]
      rfl
    · simp only [h0, if_false, zeroValue, typeInfo, Sem.run_bind, run_program, Result.andThen_ok, hi, hiz, Sem.run_pure, Array.toList_map]
      simp only [zc] at h1'
      simp only [h1', newRow, newObj]
      rfl
  unfold Oper.wp
  rw [hrun, Oper.upon_value]
  exact hK _ _ G' g1 g2 (g4 n n (Nat.le_refl _)) fun l' hl => (g3 l' hl).imp id fun h => by simp [h]
end

section
variable {P : Program} {ρ : Slots} {m : Mem} {nx : Nat} {ops : Array Oper} {os : List Oper} {K : List Eff → Slots → Mem → Nat → Prop}
theorem k_buildSlice {t : Tmp} {T E : TypeId} {ty : Ty} [ha : HasSl P T E] [ht : HasTy P E ty] {n : Nat} {parts : Array (Nat × Operand)} {xs : List (Nat × D)} {cs0 cs : List D} {V : TypeId} {pos : String} {af : Array Edge} {gd : Option (Nat × Bool)} (hg : gok ops ρ ⟨some t, .buildSlice T n parts, V, pos, af, gd⟩ = some true)
    (hx : pevs ρ parts.toList = some xs) (hf : dfill (bpl n ty.size) (zeros n ty.zero) xs = some cs0) (hfz : D.fzs cs0 = cs) (hc : D.cls cs = true) (hzl : ty.zero.length = ty.size) (hsm : Nat.ble (n * ty.size) 16777216 = true)
    (hh : R P ops os (fun Es => K (⟨.slice (.own nx) n cs, [], [(nx, some .tok)], [nx]⟩ :: Es)) ((t, .slice (.own nx) n cs) :: ρ) ((nx, some .tok) :: m) (nx + 1)) : R P ops (⟨some t, .buildSlice T n parts, V, pos, af, gd⟩ :: os) K ρ m nx :=
  R_new hg (r_buildSlice nx rfl hx hf hfz hc hzl hsm) rfl hh
end
end Go.Proofs.Ytbljcgdehihlgaa
