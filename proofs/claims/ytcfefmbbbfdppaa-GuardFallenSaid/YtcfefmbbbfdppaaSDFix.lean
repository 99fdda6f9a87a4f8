/- A variable that is written no more is data: its pointers and slices read as that. Of any program. No conditions. -/
import Derived.Test.YtcfefmbbbfdppaaSDPart
import Derived.Test.YtcfefmbbbfdppaaSDFun
namespace Go.Proofs.Ytcfefmbbbfdppaa
open Go.RowKit
set_option linter.unusedVariables false
set_option linter.unusedSimpArgs false
inductive Fix (k : Nat) (cs : List D) : D → D → Prop where
  | refl (d : D) : Fix k cs d d
  | ptr (off : Nat) (h : Nat.ble off cs.length = true) : Fix k cs (.ptr k off) (.eptr (cs.drop off))
  | ptr0 : Fix k cs (.ptr k 0) (.eptr cs)
  | ms (off n j : Nat) (h : Nat.ble (off + j) cs.length = true) : Fix k cs (.ms k off n) (.slice .frozen n ((cs.drop off).take j))
  | agg (ds es : List D) (hl : es.length = ds.length) (h : ∀ (i : Nat) (d e : D), ds[i]? = some d → es[i]? = some e → Fix k cs d e) : Fix k cs (.agg ds) (.agg es)
theorem Fix.one {k : Nat} {cs : List D} {d e : D} (h : Fix k cs d e) : e.one = d.one := by cases h <;> rfl
theorem Fix.rep {k : Nat} {cs : List D} {d e : D} (h : Fix k cs d e) {G : Gh} {w : World} (hp : ∀ off v, off ≤ cs.length → Rep G w (.ptr k off) v → Rep G w (.eptr (cs.drop off)) v) (hm : ∀ off n j v, off + j ≤ cs.length → Rep G w (.ms k off n) v → Rep G w (.slice .frozen n ((cs.drop off).take j)) v) : ∀ {v : Value}, Rep G w d v → Rep G w e v := by
  induction h with
  | refl => exact fun h => h
  | ptr off h => exact fun hr => hp off _ (Nat.le_of_ble_eq_true h) hr
  | ptr0 => exact fun hr => hp 0 _ (Nat.zero_le _) hr
  | ms off n j h => exact fun hr => hm off n j _ (Nat.le_of_ble_eq_true h) hr
  | agg ds es hl hu ih =>
    intro v h
    cases h with
    | agg _ vs hl' h1 hh =>
      refine .agg es vs (by omega) (fun e he => ?_) (fun i e v he hv => ?_)
      · obtain ⟨i, hi⟩ := List.getElem?_of_mem he
        have hlt := (List.getElem?_eq_some_iff.1 hi).1
        have hd : ds[i]? = some (ds[i]'(by omega)) := List.getElem?_eq_getElem _
        rw [(hu i _ e hd hi).one]; exact h1 _ (List.mem_of_getElem? hd)
      · have hlt := (List.getElem?_eq_some_iff.1 he).1
        have hd : ds[i]? = some (ds[i]'(by omega)) := List.getElem?_eq_getElem _
        exact ih i _ e hd he (hh i _ v hd hv)
def SubSx (k : Nat) (cs : List D) (ρ : Slots) : Slots → Prop
  | [] => True
  | (t, d) :: r => (∃ d0, sget ρ t = some d0 ∧ Fix k cs d0 d) ∧ SubSx k cs ρ r
def SubMx (k : Nat) (m : Mem) : Mem → Prop
  | [] => True
  | (l, c) :: r => (Nat.beq l k = false ∧ c.isSome = true ∧ mget m l = c) ∧ SubMx k m r
theorem SubSx.get {k : Nat} {cs : List D} {ρ : Slots} : ∀ {ρ1 : Slots}, SubSx k cs ρ ρ1 → ∀ t d, sget ρ1 t = some d → ∃ d0, sget ρ t = some d0 ∧ Fix k cs d0 d
  | [], _, t, d, h => by simp [sget] at h
  | (j, x) :: r, h, t, d, hd => by
    simp only [sget] at hd
    rcases Bool.eq_false_or_eq_true (Nat.beq j t) with hb | hb
    · simp only [hb, cond_true, Option.some.injEq] at hd
      subst hd
      rw [← Nat.eq_of_beq_eq_true hb]; exact h.1
    · simp only [hb, cond_false] at hd
      exact SubSx.get h.2 t d hd
theorem SubMx.get {k : Nat} {m : Mem} : ∀ {m1 : Mem}, SubMx k m m1 → ∀ l c, mget m1 l = some c → l ≠ k ∧ mget m l = some c
  | [], _, l, c, h => by simp [mget] at h
  | (j, x) :: r, h, l, c, hc => by
    simp only [mget] at hc
    rcases Bool.eq_false_or_eq_true (Nat.beq j l) with hb | hb
    · simp only [hb, cond_true] at hc
      subst hc
      have := Nat.eq_of_beq_eq_true hb
      subst this
      exact ⟨fun e => (by have := h.1.1; rw [e, Nat.beq_refl] at this; cases this), h.1.2.2⟩
    · simp only [hb, cond_false] at hc
      exact SubMx.get h.2 l c hc
theorem weak_fix {B : Base} {N : Nat} {ρ ρ1 : Slots} {m m1 : Mem} {nx : Nat} {T : TypeId} (k : Nat) (cs : List D) (hm : mget m k = some (.var T cs)) (hcl : D.cls cs = true) (hρ : SubSx k cs ρ ρ1) (hmz : SubMx k m m1) : Weak B N ρ m nx ρ1 m1 nx := by
  intro G a w h
  obtain ⟨k1, k4, k5, hnl, ws, k6, k7, k8⟩ := h.sim.var k _ _ hm
  have hvl := k7.1
  let G' : Gh := { G with hw := fun b => if b = G.g k then cs.length else G.hw b, al := fun x => G.al x && (G.nl x || !decide (G.g x = G.g k)) }
  have hwb : ∀ b, b ≠ G.g k → G'.hw b = G.hw b := fun b hb => by simp [G', hb]
  have hwk : G'.hw (G.g k) = cs.length := by simp [G']
  have hx : Ext G w G' w := by
    refine ⟨fun x hk => ⟨hk, rfl, fun ha => ?_, rfl, rfl⟩, fun b => ?_, fun _ _ _ => rfl, Nat.le_refl _⟩
    · simp only [G', Bool.and_eq_true, Bool.or_eq_true, Bool.not_eq_true', decide_eq_false_iff_not] at ha
      exact ⟨ha.1, fun hn => hwb _ (ha.2.resolve_left (by rw [hn]; simp))⟩
    · by_cases e : b = G.g k
      · subst e; rw [hwk, k5]; exact Nat.zero_le _
      · rw [hwb b e]; exact Nat.le_refl _
  have hap : ∀ l c, mget m1 l = some c → G.nl l = false → G.g l ≠ G.g k := fun l c hc hn => by
    obtain ⟨hne, e⟩ := hmz.get l c hc
    exact h.sim.inj l k (by rw [e]; rfl) (by rw [hm]; rfl) hne hn hnl
  have hcell : ∀ i, i < cs.length → w.cell? ⟨G.g k, i, none⟩ = ws[i]? := fun i _ => cell_of_row w _ _ ws T (0, 0) k6
  have hcl' : ∀ d ∈ cs, d.one = true ∧ d.cl = true := fun d hd => ⟨k8 d hd, D.cls_mem hcl d hd⟩
  have hr := k7.mono hx
  have hptr : ∀ off v, off ≤ cs.length → Rep G' w (.ptr k off) v → Rep G' w (.eptr (cs.drop off)) v := fun off v hle hv => by
    cases hv
    refine .eptr _ (G.g k) off (ws.extract off ws.size) (by simp; omega) (fun d hd => hcl' d (List.mem_of_mem_drop hd)) (fun i d v hd hv => ?_) (by rw [hwk]; simp; omega) (fun i hi => ?_)
    · rw [List.getElem?_drop] at hd
      rw [Array.getElem?_extract] at hv
      split at hv
      · exact hr.2 _ d v hd hv
      · cases hv
    · simp only [List.length_drop] at hi
      rw [hcell _ (by omega), Array.getElem?_extract, if_pos (by omega)]
  have hms : ∀ off n j v, off + j ≤ cs.length → Rep G' w (.ms k off n) v → Rep G' w (.slice .frozen n ((cs.drop off).take j)) v := fun off n j v hle hv => by
    cases hv with
    | ms _ _ _ cap hk hn =>
      have hlen : ((cs.drop off).take j).length = j := by simp; omega
      refine .slice .frozen n _ (G.g k) off cap (ws.extract off (off + j)) (by rw [hlen]; simp; omega) (fun d hd => hcl' d (List.mem_of_mem_drop (List.mem_of_mem_take hd))) (fun i d v hd hv => ?_) (by rw [hwk, hlen]; omega) (fun i hi => ?_) (Array.getElem?_eq_some_iff.1 k6).1 hn trivial
      · rw [List.getElem?_take] at hd
        split at hd
        · rw [List.getElem?_drop] at hd
          rw [Array.getElem?_extract] at hv
          split at hv
          · exact hr.2 _ d v hd hv
          · cases hv
        · cases hd
      · rw [hlen] at hi
        rw [hcell _ (by omega), Array.getElem?_extract, if_pos (by omega)]
  refine ⟨G', ⟨⟨h.sim.new, h.sim.ext.trans hx, fun b hb hT => ?_, fun l T' es hl => ?_, fun l E' s' hl => ?_, fun l K es hl => ?_, fun l l' ha hb hne n1 n2 => ?_, fun b hb => ?_⟩, h.defers, h.size, fun t d hd => ?_, h.fresh⟩⟩
  · rw [hwb b fun e => ?_]
    · exact h.sim.old b hb hT
    · rcases k4 with h | h
      · omega
      · exact hT (e ▸ h)
  · obtain ⟨_, e1⟩ := hmz.get l _ hl
    obtain ⟨a1, a2, a3, a4, vs, a5, a6, a7⟩ := h.sim.var l T' es e1
    exact ⟨a1, a2, (hwb _ (hap l _ hl a4)).trans a3, a4, vs, a5, a6.mono hx, a7⟩
  · obtain ⟨_, e1⟩ := hmz.get l _ hl
    obtain ⟨a1, a2, a3⟩ := h.sim.tok l E' s' e1
    refine ⟨a1, ?_, fun hn => ?_⟩
    · simp only [G', a2, Bool.true_and, Bool.or_eq_true, Bool.not_eq_true', decide_eq_false_iff_not]
      cases hn : G.nl l with
      | true => exact .inl rfl
      | false => exact .inr (hap l _ hl hn)
    · obtain ⟨c1, c2, vs, c3, c4, c5⟩ := a3 hn
      exact ⟨c1, c2, vs, c3, by rw [hwb _ (hap l _ hl hn)]; exact c4, c5⟩
  · obtain ⟨_, e1⟩ := hmz.get l _ hl
    obtain ⟨a1, a2, a3⟩ := h.sim.obj l K es e1
    refine ⟨a1, a2, fun hn => ?_⟩
    obtain ⟨c1, c2, o, c3, c4⟩ := a3 hn
    exact ⟨c1, (hwb _ (hap l _ hl hn)).trans c2, o, c3, c4.mono hx⟩
  · obtain ⟨c1, hc1⟩ := Option.isSome_iff_exists.1 ha
    obtain ⟨c2, hc2⟩ := Option.isSome_iff_exists.1 hb
    exact h.sim.inj l l' (by rw [(hmz.get l _ hc1).2]; rfl) (by rw [(hmz.get l' _ hc2).2]; rfl) hne n1 n2
  · by_cases e : b = G.g k
    · subst e
      exact ⟨ws, T, (0, 0), k6, by rw [hwk]; omega⟩
    · rw [hwb b e] at hb ⊢
      exact h.sim.data b hb
  · obtain ⟨d0, e1, e2⟩ := hρ.get t d hd
    exact e2.rep hptr hms ((h.slots t d0 e1).mono hx)
section
variable {P : Program} {o : Oper} {ρ : Slots} {m : Mem}
theorem r_sliceEt {T E : TypeId} {n : Nat} {ty : Ty} [ha : HasArr P T n E] [ht : HasTy P E ty] {x : Operand} {low : Option Operand} {cs cs' : List D} {nn : Nat} {lo : Int} (ho : o.op = .slice T x low none none) (hx : oev ρ x = some (.eptr cs)) (hlo : bnd ρ low 0 = some lo)
    (h : 0 ≤ lo ∧ lo < n) (hsz : Nat.blt 0 ty.size = true) (hlen : Nat.ble (n * ty.size) cs.length = true) (hnn : ((n : Int) - lo).toNat = nn) (hcs : (cs.drop (lo.toNat * ty.size)).take (nn * ty.size) = cs') : OpSound P o (Eff.val (.slice .tight nn cs')) ρ m := by
  subst hcs
  refine sound_val fun B G a w m' hs hh _ => ?_
  have hpr := hh x (by simp [ho, Op.operands]) _ hx
  have hl := bnd_rep (G := G) (w := w) (a := a) hlo fun y hy d hd => hh y (by rw [ho]; subst hy; simp [Op.operands]) d hd
  have hh' : ((none : Option Operand) = none ∧ (n : Int) = n) ∨ ∃ y k, (none : Option Operand) = some y ∧ a.eval y = Value.int k (n : Int) := .inl ⟨rfl, rfl⟩
  obtain ⟨i, hi', hsi⟩ := Option.map_eq_some_iff.1 ht.size
  have hlen' := Nat.le_of_ble_eq_true hlen
  generalize hev : a.eval x = v at hpr
  cases hpr with
  | eptr cs b o' vs hl' h1 hh2 hhw hc =>
    have hb := run_bounds (P := P) (w := w) (a := a) (isSlice := false) (len := n) (cap := n) hl hh' ⟨h.1, by omega, by omega⟩
    rw [Option.map_none] at hb
    have e4 : ((n : Int)).toNat - lo.toNat = nn := by omega
    have e6 : n - lo.toNat = nn := by omega
    have hms : lo.toNat * ty.size + nn * ty.size ≤ cs.length := by
      rw [← Nat.add_mul]
      exact Nat.le_trans (Nat.mul_le_mul_right _ (by omega)) hlen'
    have hln : ((cs.drop (lo.toNat * ty.size)).take (nn * ty.size)).length = nn * ty.size := by simp; omega
    refine ⟨.slice (some ⟨b, o' + lo.toNat * ty.size, none⟩) nn nn, ?_, ?_⟩
    · simp only [execOp, ho, hev, Instr.sliceAt, Sem.run_bind, run_underlying ha.arr, Instr.sureAddr, Sem.run_pure, Result.andThen_ok, Option.map_none, hb, sizeOf, typeInfo, run_program, hi', hsi, e4, e6]
      rw [if_neg (by omega), add_off]
    · by_cases hb0 : b < w.heap.size
      · refine .slice .tight nn _ b (o' + lo.toNat * ty.size) nn (vs.extract (lo.toNat * ty.size) (lo.toNat * ty.size + nn * ty.size)) (by rw [hln]; simp; omega) (fun d hd => h1 d (List.mem_of_mem_drop (List.mem_of_mem_take hd))) (fun i d v hd hv => ?_) (by rw [hln]; omega) (fun i hi => ?_) hb0 (Nat.le_refl _) rfl
        · rw [List.getElem?_take] at hd
          split at hd
          · rw [List.getElem?_drop] at hd
            rw [Array.getElem?_extract] at hv
            split at hv
            · exact hh2 _ d v hd hv
            · cases hv
          · cases hd
        · rw [hln] at hi
          rw [show o' + lo.toNat * ty.size + i = o' + (lo.toNat * ty.size + i) from by omega, hc _ (by omega), Array.getElem?_extract, if_pos (by omega)]
      · have hn0 : 0 < ty.size := by rw [← Nat.blt_eq]; exact hsz
        have : 0 < cs.length := Nat.lt_of_lt_of_le (Nat.mul_pos (by omega) hn0) hlen'
        have h0 := hc 0 this
        have hv0 : vs[0]? = some (vs[0]'(by omega)) := Array.getElem?_eq_getElem _
        rw [hv0] at h0
        have : w.heap[b]? = none := Array.getElem?_eq_none (by omega)
        simp [World.cell?, this] at h0
end
section
variable {P : Program} {ρ : Slots} {m : Mem} {nx : Nat} {ops : Array Oper} {os : List Oper} {K : List Eff → Slots → Mem → Nat → Prop}
theorem k_sliceEt {t : Tmp} {T E : TypeId} {n : Nat} {ty : Ty} [HasArr P T n E] [HasTy P E ty] {x : Operand} {low : Option Operand} {cs cs' : List D} {nn : Nat} {lo : Int} {V : TypeId} {pos : String} {af : Array Edge} {gd : Option (Nat × Bool)} (hg : gok ops ρ ⟨some t, .slice T x low none none, V, pos, af, gd⟩ = some true)
    (hx : oev ρ x = some (.eptr cs)) (hlo : bnd ρ low 0 = some lo) (h : 0 ≤ lo ∧ lo < n) (hsz : Nat.blt 0 ty.size = true) (hlen : Nat.ble (n * ty.size) cs.length = true) (hnn : ((n : Int) - lo).toNat = nn) (hcs : (cs.drop (lo.toNat * ty.size)).take (nn * ty.size) = cs')
    (hh : R P ops os (fun Es => K (Eff.val (.slice .tight nn cs') :: Es)) ((t, .slice .tight nn cs') :: ρ) m nx) : R P ops (⟨some t, .slice T x low none none, V, pos, af, gd⟩ :: os) K ρ m nx := R_cons hg (r_sliceEt rfl hx hlo h hsz hlen hnn hcs) rfl hh
end
end Go.Proofs.Ytcfefmbbbfdppaa
