/- Still more operations over data: the smaller and the greater one of two numbers. Of any program. No conditions. -/
import Derived.Test.YtcfefmbbbfdppaaGreatDoorSDApp
import Derived.Scope
namespace Go.Proofs.YtcfefmbbbfdppaaGreatDoor
open Go.RowKit
set_option linter.unusedVariables false
set_option linter.unusedSimpArgs false
section
variable {P : Program} {o : Oper} {ρ : Slots} {m : Mem}
def bnd (ρ : Slots) (x : Option Operand) (dflt : Int) : Option Int := match x with
  | none => some dflt
  | some x => match oev ρ x with
    | some (.int _ i) => some i
    | _ => none
theorem bnd_rep {G : Gh} {w : World} {a : Act} {ρ : Slots} {x : Option Operand} {dflt i : Int} (h : bnd ρ x dflt = some i) (hx : ∀ y, x = some y → ∀ d, oev ρ y = some d → Rep G w d (a.eval y)) : (x = none ∧ i = dflt) ∨ ∃ y k, x = some y ∧ a.eval y = .int k i := by
  unfold bnd at h
  cases x with
  | none => simp at h; exact .inl ⟨rfl, h.symm⟩
  | some y =>
    simp only at h
    split at h
    · rename_i k j hd
      injection h with h
      subst h
      have := hx y rfl _ hd
      have hv : a.eval y = .int k j := by generalize a.eval y = v at this; cases this; rfl
      exact .inr ⟨y, k, rfl, hv⟩
    · cases h
theorem run_sliceBound {w : World} (k : IntKind) (i : Int) (y : Nat) (code : BoundsCode) (h : 0 ≤ i ∧ i ≤ y) : (Instr.sliceBound (.int k i) y code).run P w = .ok i.toNat w := by
  simp [Instr.sliceBound, asIntOf, h]
theorem run_bounds {w : World} {a : Act} {low high : Option Operand} {isSlice : Bool} {len cap : Nat} {lo hi : Int} (hl : (low = none ∧ lo = 0) ∨ ∃ y k, low = some y ∧ a.eval y = .int k lo) (hh : (high = none ∧ hi = len) ∨ ∃ y k, high = some y ∧ a.eval y = .int k hi) (h : 0 ≤ lo ∧ lo ≤ hi ∧ hi ≤ cap) :
    (Instr.sliceBounds isSlice len cap (low.map a.eval) (high.map a.eval) none).run P w = .ok (lo.toNat, hi.toNat, cap) w := by
  have e : (hi.toNat : Int) = hi := Int.toNat_of_nonneg (by omega)
  unfold Instr.sliceBounds
  rcases hh with ⟨rfl, rfl⟩ | ⟨y, k, rfl, hy⟩
  · rcases hl with ⟨rfl, rfl⟩ | ⟨y', k', rfl, hy'⟩
    · simp
    · simp [hy', Sem.run_bind, run_sliceBound k' lo len _ ⟨h.1, h.2.1⟩]
  · rcases hl with ⟨rfl, rfl⟩ | ⟨y', k', rfl, hy'⟩
    · simp [hy, Sem.run_bind, run_sliceBound k hi _ _ ⟨by omega, h.2.2⟩]
    · simp [hy, hy', Sem.run_bind, run_sliceBound k hi _ _ ⟨by omega, h.2.2⟩, run_sliceBound k' lo hi.toNat _ ⟨h.1, by omega⟩]
theorem run_bounds3 {w : World} {a : Act} {low : Option Operand} {high mx : Operand} {isSlice : Bool} {len cap : Nat} {lo hi mm : Int} {k1 k2 : IntKind} (hl : (low = none ∧ lo = 0) ∨ ∃ y k, low = some y ∧ a.eval y = .int k lo) (hh : a.eval high = .int k1 hi) (hm : a.eval mx = .int k2 mm) (h : 0 ≤ lo ∧ lo ≤ hi ∧ hi ≤ mm ∧ mm ≤ cap) :
    (Instr.sliceBounds isSlice len cap (low.map a.eval) (some (a.eval high)) (some (a.eval mx))).run P w = .ok (lo.toNat, hi.toNat, mm.toNat) w := by
  have e : (hi.toNat : Int) = hi := Int.toNat_of_nonneg (by omega)
  have e' : (mm.toNat : Int) = mm := Int.toNat_of_nonneg (by omega)
  unfold Instr.sliceBounds
  rcases hl with ⟨rfl, rfl⟩ | ⟨y', k', rfl, hy'⟩
  · simp [hh, hm, Sem.run_bind, run_sliceBound k2 mm _ _ ⟨by omega, h.2.2.2⟩, run_sliceBound k1 hi mm.toNat _ ⟨by omega, by omega⟩]
  · simp [hh, hm, hy', Sem.run_bind, run_sliceBound k2 mm _ _ ⟨by omega, h.2.2.2⟩, run_sliceBound k1 hi mm.toNat _ ⟨by omega, by omega⟩, run_sliceBound k' lo hi.toNat _ ⟨h.1, by omega⟩]
theorem Rep.part {G : Gh} {w : World} {tk : Tok} {n : Nat} {cs : List D} {v : Value} (h : Rep G w (.slice tk n cs) v) {s lo nn mm : Nat} (hs : n * s = cs.length) (hle : lo + nn ≤ n) (tk' : Tok) (ht : tk' = .frozen ∨ (tk' = .tight ∧ mm = nn)) (hmn : nn ≤ mm)  :
    ∃ b cap, v = .slice b n cap ∧ n ≤ cap ∧ ((mm + lo ≤ cap) → Rep G w (.slice tk' nn ((cs.drop (lo * s)).take (nn * s))) (.slice (if mm + lo = lo then b else b.map (·.add (lo * s))) nn mm)) := by
  cases h with
  | nil tk =>
    have e1 : lo = 0 := by omega
    have e2 : nn = 0 := by omega
    subst e1; subst e2
    refine ⟨none, 0, rfl, Nat.le_refl _, fun h => ?_⟩
    have : mm = 0 := by omega
    subst this
    simp
    exact .nil _
  | slice tk n cs b o' cap vs hl h1 hh hhw hc hb hn htk =>
    refine ⟨some ⟨b, o', none⟩, cap, rfl, hn, fun hcap => ?_⟩
    have hms : lo * s + nn * s ≤ cs.length := by rw [← hs, ← Nat.add_mul]; exact Nat.mul_le_mul_right _ hle
    by_cases h0 : mm + lo = lo
    · have e1 : mm = 0 := by omega
      have e2 : nn = 0 := by omega
      subst e1; subst e2
      rw [if_pos h0]
      simp only [Nat.zero_mul, List.take_zero]
      refine .slice tk' 0 [] b o' 0 #[] rfl (fun d hd => by simp at hd) (fun i d v hd => by simp at hd) (by simp; omega) (fun i hi => by simp at hi) hb (Nat.le_refl _) ?_
      rcases ht with rfl | ⟨rfl, _⟩
      · trivial
      · rfl
    · rw [if_neg h0]
      simp only [Option.map_some, add_off]
      have hln : ((cs.drop (lo * s)).take (nn * s)).length = nn * s := by simp; omega
      refine .slice tk' nn _ b (o' + lo * s) mm (vs.extract (lo * s) (lo * s + nn * s)) (by rw [hln]; simp; omega) (fun d hd => h1 d (List.mem_of_mem_drop (List.mem_of_mem_take hd))) (fun i d v hd hv => ?_) (by rw [hln]; omega) (fun i hi => ?_) hb hmn ?_
      · rw [List.getElem?_take] at hd
        split at hd
        · rw [List.getElem?_drop] at hd
          rw [Array.getElem?_extract] at hv
          split at hv
          · exact hh _ d v hd hv
          · cases hv
        · cases hd
      · rw [hln] at hi
        rw [show o' + lo * s + i = o' + (lo * s + i) from by omega, hc _ (by omega), Array.getElem?_extract, if_pos (by omega)]
      · rcases ht with rfl | ⟨rfl, e⟩
        · trivial
        · exact e
theorem r_slice {T E : TypeId} {ty : Ty} [ha : HasSl P T E] [ht : HasTy P E ty] {x : Operand} {low high : Option Operand} {tk : Tok} {n nn : Nat} {cs cs' : List D} {lo hi : Int} (ho : o.op = .slice T x low high none) (hx : oev ρ x = some (.slice tk n cs)) (hlo : bnd ρ low 0 = some lo) (hhi : bnd ρ high n = some hi)
    (h : 0 ≤ lo ∧ lo ≤ hi ∧ hi ≤ n) (hlen : n * ty.size = cs.length) (hnn : (hi - lo).toNat = nn) (hcs : (cs.drop (lo.toNat * ty.size)).take (nn * ty.size) = cs') : OpSound P o (Eff.val (.slice .frozen nn cs')) ρ m := by
  subst hcs
  refine sound_val fun B G a w m' hs hh _ => ?_
  have hp := hh x (by simp [ho, Op.operands]) _ hx
  have hl := bnd_rep (G := G) (w := w) (a := a) hlo fun y hy d hd => hh y (by rw [ho]; subst hy; simp [Op.operands]) d hd
  have hh' := bnd_rep (G := G) (w := w) (a := a) hhi fun y hy d hd => hh y (by rw [ho]; subst hy; cases low <;> simp [Op.operands]) d hd
  obtain ⟨i, hi', hsi⟩ := Option.map_eq_some_iff.1 ht.size
  have hcap : ∃ b cap, a.eval x = .slice b n cap ∧ n ≤ cap := by
    generalize a.eval x = v at hp
    cases hp with
    | nil tk => exact ⟨none, 0, rfl, Nat.le_refl _⟩
    | slice tk n cs b o' cap vs hl h1 hh hhw hc hb hn htk => exact ⟨_, cap, rfl, hn⟩
  obtain ⟨b0, cap0, hv0, hn0⟩ := hcap
  obtain ⟨b, cap, hv, hn, hrep⟩ := hp.part (s := ty.size) (lo := lo.toNat) (nn := nn) (mm := cap0 - lo.toNat) hlen (by omega) .frozen (.inl rfl) (by omega)
  rw [hv0] at hv
  injection hv with e1 e2 e3
  subst e1; subst e3
  have hr := hrep (by omega)
  refine ⟨_, ?_, hr⟩
  have hb := run_bounds (P := P) (w := w) (a := a) (isSlice := true) (len := n) (cap := cap0) hl hh' ⟨h.1, h.2.1, by omega⟩
  have e4 : hi.toNat - lo.toNat = nn := by omega
  have e5 : (cap0 = lo.toNat) = (cap0 - lo.toNat + lo.toNat = lo.toNat) := by rw [eq_iff_iff]; omega
  simp only [execOp, ho, hv0, Instr.sliceAt, Instr.slice, Sem.run_bind, run_underlying ha.sl, Result.andThen_ok, Option.map_none, hb, sizeOf, typeInfo, run_program, hi', Sem.run_pure, hsi, e4, e5]
theorem r_slice3 {T E : TypeId} {ty : Ty} [ha : HasSl P T E] [ht : HasTy P E ty] {x y z : Operand} {low : Option Operand} {tk : Tok} {n nn : Nat} {cs cs' : List D} {k1 k2 : IntKind} {lo hi : Int} (ho : o.op = .slice T x low (some y) (some z)) (hx : oev ρ x = some (.slice tk n cs)) (hlo : bnd ρ low 0 = some lo) (hhi : oev ρ y = some (.int k1 hi)) (hmx : oev ρ z = some (.int k2 hi))
    (h : 0 ≤ lo ∧ lo ≤ hi ∧ hi ≤ n) (hlen : n * ty.size = cs.length) (hnn : (hi - lo).toNat = nn) (hcs : (cs.drop (lo.toNat * ty.size)).take (nn * ty.size) = cs') : OpSound P o (Eff.val (.slice .tight nn cs')) ρ m := by
  subst hcs
  refine sound_val fun B G a w m' hs hh _ => ?_
  have hp := hh x (by simp [ho, Op.operands]) _ hx
  have hl := bnd_rep (G := G) (w := w) (a := a) hlo fun y hy d hd => hh y (by rw [ho]; subst hy; simp [Op.operands]) d hd
  have hy := hh y (by rw [ho]; cases low <;> simp [Op.operands]) _ hhi
  have hz := hh z (by rw [ho]; cases low <;> simp [Op.operands]) _ hmx
  have hy' : a.eval y = .int k1 hi := by generalize a.eval y = v at hy; cases hy; rfl
  have hz' : a.eval z = .int k2 hi := by generalize a.eval z = v at hz; cases hz; rfl
  obtain ⟨i, hi', hsi⟩ := Option.map_eq_some_iff.1 ht.size
  obtain ⟨b, cap, hv, hn, hrep⟩ := hp.part (s := ty.size) (lo := lo.toNat) (nn := nn) (mm := nn) hlen (by omega) .tight (.inr ⟨rfl, rfl⟩) (by omega)
  have hr := hrep (by omega)
  refine ⟨_, ?_, hr⟩
  have hb := run_bounds3 (P := P) (w := w) (a := a) (isSlice := true) (len := n) (cap := cap) hl hy' hz' ⟨h.1, h.2.1, Int.le_refl _, by omega⟩
  have e4 : hi.toNat - lo.toNat = nn := by omega
  have e5 : (hi.toNat = lo.toNat) = (nn + lo.toNat = lo.toNat) := by rw [eq_iff_iff]; omega
  simp only [execOp, ho, hv, Instr.sliceAt, Instr.slice, Sem.run_bind, run_underlying ha.sl, Result.andThen_ok, Option.map_some, hb, sizeOf, typeInfo, run_program, hi', Sem.run_pure, hsi, e4, e5]
theorem r_sliceA {T E : TypeId} {n : Nat} {ty : Ty} [ha : HasArr P T n E] [ht : HasTy P E ty] {x : Operand} {low high : Option Operand} {l off off' nn : Nat} {lo hi : Int} (ho : o.op = .slice T x low high none) (hx : oev ρ x = some (.ptr l off)) (hlo : bnd ρ low 0 = some lo) (hhi : bnd ρ high n = some hi)
    (h : 0 ≤ lo ∧ lo ≤ hi ∧ hi ≤ n ∧ lo < n) (hnn : (hi - lo).toNat = nn) (hoff : off + lo.toNat * ty.size = off') : OpSound P o (Eff.val (.ms l off' nn)) ρ m := by
  subst hoff
  refine sound_val fun B G a w m' hs hh _ => ?_
  have hpr := hh x (by simp [ho, Op.operands]) _ hx
  have hl := bnd_rep (G := G) (w := w) (a := a) hlo fun y hy d hd => hh y (by rw [ho]; subst hy; simp [Op.operands]) d hd
  have hh' := bnd_rep (G := G) (w := w) (a := a) hhi fun y hy d hd => hh y (by rw [ho]; subst hy; cases low <;> simp [Op.operands]) d hd
  obtain ⟨i, hi', hsi⟩ := Option.map_eq_some_iff.1 ht.size
  generalize hev : a.eval x = v at hpr
  cases hpr with
  | ptr l off hk =>
    have hb := run_bounds (P := P) (w := w) (a := a) (isSlice := false) (len := n) (cap := n) hl hh' ⟨h.1, h.2.1, h.2.2.1⟩
    have e4 : hi.toNat - lo.toNat = nn := by omega
    refine ⟨.slice (some ⟨G.g l, off + lo.toNat * ty.size, none⟩) nn (n - lo.toNat), ?_, .ms l _ nn _ hk (by omega)⟩
    simp only [execOp, ho, hev, Instr.sliceAt, Sem.run_bind, run_underlying ha.arr, Instr.sureAddr, Sem.run_pure, Result.andThen_ok, Option.map_none, hb, sizeOf, typeInfo, run_program, hi', hsi, e4]
    rw [if_neg (by omega), add_off]
theorem r_sliceE {T E : TypeId} {n : Nat} {ty : Ty} [ha : HasArr P T n E] [ht : HasTy P E ty] {x : Operand} {low high : Option Operand} {cs cs' : List D} {nn : Nat} {lo hi : Int} (ho : o.op = .slice T x low high none) (hx : oev ρ x = some (.eptr cs)) (hlo : bnd ρ low 0 = some lo) (hhi : bnd ρ high n = some hi)
    (h : 0 ≤ lo ∧ lo ≤ hi ∧ hi ≤ n ∧ lo < n) (hsz : Nat.blt 0 ty.size = true) (hlen : Nat.ble (n * ty.size) cs.length = true) (hnn : (hi - lo).toNat = nn) (hcs : (cs.drop (lo.toNat * ty.size)).take (nn * ty.size) = cs') : OpSound P o (Eff.val (.slice .frozen nn cs')) ρ m := by
  subst hcs
  refine sound_val fun B G a w m' hs hh _ => ?_
  have hpr := hh x (by simp [ho, Op.operands]) _ hx
  have hl := bnd_rep (G := G) (w := w) (a := a) hlo fun y hy d hd => hh y (by rw [ho]; subst hy; simp [Op.operands]) d hd
  have hh' := bnd_rep (G := G) (w := w) (a := a) hhi fun y hy d hd => hh y (by rw [ho]; subst hy; cases low <;> simp [Op.operands]) d hd
  obtain ⟨i, hi', hsi⟩ := Option.map_eq_some_iff.1 ht.size
  have hlen' := Nat.le_of_ble_eq_true hlen
  generalize hev : a.eval x = v at hpr
  cases hpr with
  | eptr cs b o' vs hl' h1 hh2 hhw hc =>
    have hb := run_bounds (P := P) (w := w) (a := a) (isSlice := false) (len := n) (cap := n) hl hh' ⟨h.1, h.2.1, h.2.2.1⟩
    have e4 : hi.toNat - lo.toNat = nn := by omega
    have hms : lo.toNat * ty.size + nn * ty.size ≤ cs.length := by
      rw [← Nat.add_mul]
      exact Nat.le_trans (Nat.mul_le_mul_right _ (by omega)) hlen'
    have hln : ((cs.drop (lo.toNat * ty.size)).take (nn * ty.size)).length = nn * ty.size := by simp; omega
    refine ⟨.slice (some ⟨b, o' + lo.toNat * ty.size, none⟩) nn (n - lo.toNat), ?_, ?_⟩
    · simp only [execOp, ho, hev, Instr.sliceAt, Sem.run_bind, run_underlying ha.arr, Instr.sureAddr, Sem.run_pure, Result.andThen_ok, Option.map_none, hb, sizeOf, typeInfo, run_program, hi', hsi, e4]
      rw [if_neg (by omega), add_off]
    · by_cases hb0 : b < w.heap.size
      · refine .slice .frozen nn _ b (o' + lo.toNat * ty.size) (n - lo.toNat) (vs.extract (lo.toNat * ty.size) (lo.toNat * ty.size + nn * ty.size)) (by rw [hln]; simp; omega) (fun d hd => h1 d (List.mem_of_mem_drop (List.mem_of_mem_take hd))) (fun i d v hd hv => ?_) (by rw [hln]; omega) (fun i hi => ?_) hb0 (by omega) trivial
        · rw [List.getElem?_take] at hd
          split at hd
          · rw [List.getElem?_drop] at hd
            rw [Array.getElem?_extract] at hv
            split at hv
            · exact hh2 _ d v hd hv
            · cases hv
          · cases hd
        · rw [hln] at hi
          rw [show o' + lo.toNat * ty.size + i = o' + (lo.toNat * ty.size + i) from by omega, hc _ (by omega), Array.getElem?_extract, if_pos (by omega)]
      · have hn0 : 0 < ty.size := by rw [← Nat.blt_eq]; exact hsz
        have : 0 < cs.length := Nat.lt_of_lt_of_le (Nat.mul_pos (by omega) hn0) hlen'
        have h0 := hc 0 this
        have hv0 : vs[0]? = some (vs[0]'(by omega)) := Array.getElem?_eq_getElem _
        rw [hv0] at h0
        have : w.heap[b]? = none := Array.getElem?_eq_none (by omega)
        simp [World.cell?, this] at h0
end
section
variable {P : Program} {B : Base} {N : Nat} {Q : Post} {ρ : Slots} {m : Mem} {nx : Nat}
def WL (P : Program) (B : Base) (N : Nat) (c : Code) (Q : Post) (ρ : Slots) (m : Mem) (nx : Nat) : Prop :=
  ∀ G a w, SimS B G N ρ m nx a w → ∀ b k cs, ∃ e a' w', (∃ ρ' m' nx' G', SimS B G' N ρ' m' nx' a' w' ∧ Q e ρ' m' nx') ∧ Arrives P (lone (b.at a (.code c :: .inLoop c :: k)) cs w) b k cs e a' w'
theorem W_unroll {c : Code} (h : WL P B N c Q ρ m nx) : W P B N (.loop c) Q ρ m nx := by
  intro G a w hs b k cs
  obtain ⟨e, a', w', hq, harr⟩ := h G a w hs b k cs
  exact ⟨e, a', w', hq, .of_steps (.one step_loop) harr⟩
theorem WL_round {c : Code} (h : W P B N c (thenD (WL P B N c Q) Q) ρ m nx) : WL P B N c Q ρ m nx := by
  intro G a w hs b k cs
  obtain ⟨e, a₁, w₁, ⟨ρ', m', nx', G', hs', hq⟩, harr⟩ := h G a w hs b (.inLoop c :: k) cs
  cases e with
  | normal =>
    obtain ⟨e₂, a₂, w₂, hq₂, harr₂⟩ := hq G' a₁ w₁ hs' b k cs
    exact ⟨e₂, a₂, w₂, hq₂, .of_steps (Steps.trans harr (.one step_inLoop)) harr₂⟩
  | exit id => exact ⟨_, a₁, w₁, ⟨ρ', m', nx', G', hs', hq⟩, .pass (x := .inLoop c) rfl (fun _ _ => .inl (by simp)) harr⟩
  | goto l => exact ⟨_, a₁, w₁, ⟨ρ', m', nx', G', hs', hq⟩, .pass (x := .inLoop c) rfl (fun _ _ => .inl (by simp)) harr⟩
  | ret => exact ⟨_, a₁, w₁, ⟨ρ', m', nx', G', hs', hq⟩, .pass (x := .inLoop c) rfl (fun _ _ => .inl (by simp)) harr⟩
  | panic ch => exact ⟨_, a₁, w₁, ⟨ρ', m', nx', G', hs', hq⟩, .pass (x := .inLoop c) rfl (fun _ _ => .inl (by simp)) harr⟩
  | outgrown => exact ⟨_, a₁, w₁, ⟨ρ', m', nx', G', hs', hq⟩, .pass (x := .inLoop c) rfl (fun _ _ => .inl (by simp)) harr⟩
end
section
variable {P : Program} {ρ : Slots} {m : Mem} {nx : Nat} {ops : Array Oper} {os : List Oper} {K : List Eff → Slots → Mem → Nat → Prop}
theorem k_slice {t : Tmp} {T E : TypeId} {ty : Ty} [HasSl P T E] [HasTy P E ty] {x : Operand} {low high : Option Operand} {tk : Tok} {n nn : Nat} {cs cs' : List D} {lo hi : Int} {V : TypeId} {pos : String} {af : Array Edge} {gd : Option (Nat × Bool)} (hg : gok ops ρ ⟨some t, .slice T x low high none, V, pos, af, gd⟩ = some true)
    (hx : oev ρ x = some (.slice tk n cs)) (hlo : bnd ρ low 0 = some lo) (hhi : bnd ρ high n = some hi) (h : 0 ≤ lo ∧ lo ≤ hi ∧ hi ≤ n) (hlen : n * ty.size = cs.length) (hnn : (hi - lo).toNat = nn) (hcs : (cs.drop (lo.toNat * ty.size)).take (nn * ty.size) = cs')
    (hh : R P ops os (fun Es => K (Eff.val (.slice .frozen nn cs') :: Es)) ((t, .slice .frozen nn cs') :: ρ) m nx) : R P ops (⟨some t, .slice T x low high none, V, pos, af, gd⟩ :: os) K ρ m nx := R_cons hg (r_slice rfl hx hlo hhi h hlen hnn hcs) rfl hh
theorem k_slice3 {t : Tmp} {T E : TypeId} {ty : Ty} [HasSl P T E] [HasTy P E ty] {x y z : Operand} {low : Option Operand} {tk : Tok} {n nn : Nat} {cs cs' : List D} {k1 k2 : IntKind} {lo hi : Int} {V : TypeId} {pos : String} {af : Array Edge} {gd : Option (Nat × Bool)} (hg : gok ops ρ ⟨some t, .slice T x low (some y) (some z), V, pos, af, gd⟩ = some true)
    (hx : oev ρ x = some (.slice tk n cs)) (hlo : bnd ρ low 0 = some lo) (hhi : oev ρ y = some (.int k1 hi)) (hmx : oev ρ z = some (.int k2 hi)) (h : 0 ≤ lo ∧ lo ≤ hi ∧ hi ≤ n) (hlen : n * ty.size = cs.length) (hnn : (hi - lo).toNat = nn) (hcs : (cs.drop (lo.toNat * ty.size)).take (nn * ty.size) = cs')
    (hh : R P ops os (fun Es => K (Eff.val (.slice .tight nn cs') :: Es)) ((t, .slice .tight nn cs') :: ρ) m nx) : R P ops (⟨some t, .slice T x low (some y) (some z), V, pos, af, gd⟩ :: os) K ρ m nx := R_cons hg (r_slice3 rfl hx hlo hhi hmx h hlen hnn hcs) rfl hh
theorem k_sliceA {t : Tmp} {T E : TypeId} {n : Nat} {ty : Ty} [HasArr P T n E] [HasTy P E ty] {x : Operand} {low high : Option Operand} {l off off' nn : Nat} {lo hi : Int} {V : TypeId} {pos : String} {af : Array Edge} {gd : Option (Nat × Bool)} (hg : gok ops ρ ⟨some t, .slice T x low high none, V, pos, af, gd⟩ = some true)
    (hx : oev ρ x = some (.ptr l off)) (hlo : bnd ρ low 0 = some lo) (hhi : bnd ρ high n = some hi) (h : 0 ≤ lo ∧ lo ≤ hi ∧ hi ≤ n ∧ lo < n) (hnn : (hi - lo).toNat = nn) (hoff : off + lo.toNat * ty.size = off')
    (hh : R P ops os (fun Es => K (Eff.val (.ms l off' nn) :: Es)) ((t, .ms l off' nn) :: ρ) m nx) : R P ops (⟨some t, .slice T x low high none, V, pos, af, gd⟩ :: os) K ρ m nx := R_cons hg (r_sliceA rfl hx hlo hhi h hnn hoff) rfl hh
theorem k_sliceE {t : Tmp} {T E : TypeId} {n : Nat} {ty : Ty} [HasArr P T n E] [HasTy P E ty] {x : Operand} {low high : Option Operand} {cs cs' : List D} {nn : Nat} {lo hi : Int} {V : TypeId} {pos : String} {af : Array Edge} {gd : Option (Nat × Bool)} (hg : gok ops ρ ⟨some t, .slice T x low high none, V, pos, af, gd⟩ = some true)
    (hx : oev ρ x = some (.eptr cs)) (hlo : bnd ρ low 0 = some lo) (hhi : bnd ρ high n = some hi) (h : 0 ≤ lo ∧ lo ≤ hi ∧ hi ≤ n ∧ lo < n) (hsz : Nat.blt 0 ty.size = true) (hlen : Nat.ble (n * ty.size) cs.length = true) (hnn : (hi - lo).toNat = nn) (hcs : (cs.drop (lo.toNat * ty.size)).take (nn * ty.size) = cs')
    (hh : R P ops os (fun Es => K (Eff.val (.slice .frozen nn cs') :: Es)) ((t, .slice .frozen nn cs') :: ρ) m nx) : R P ops (⟨some t, .slice T x low high none, V, pos, af, gd⟩ :: os) K ρ m nx := R_cons hg (r_sliceE rfl hx hlo hhi h hsz hlen hnn hcs) rfl hh
end
end Go.Proofs.YtcfefmbbbfdppaaGreatDoor
namespace Go.Proofs.YtcfefmbbbfdppaaGreatDoor
open Go.RowKit
set_option linter.unusedVariables false
section
variable {P : Program} {o : Oper} {ρ : Slots} {m : Mem}
theorem run_min_ {ts : Array TypeId} {v1 v2 : Value} {w : World} {x y : Operand} {a : Act} {r : Value} (ho : o.op = .call { callee := .builtin .min, args := #[x, y], argTypes := ts }) (he : a.eval x = v1) (he2 : a.eval y = v2) (h : (Builtin.min_ ts o.type #[v1, v2]).run P w = .ok r w) : (execOp a.eval o).run P w = .ok (.value r) w := by
  simp only [execOp, ho, resolve, Sem.run_bind, Sem.run_pure, Result.andThen_ok, invoke]
  simp [builtin, he, he2, h]
theorem r_min {ts : Array TypeId} {x y : Operand} {k k' : IntKind} {p q c : Int} (ho : o.op = .call { callee := .builtin .min, args := #[x, y], argTypes := ts }) (hx : oev ρ x = some (.int k p)) (hy : oev ρ y = some (.int k' q)) (h : min p q = c) : OpSound P o (Eff.val (.int k c)) ρ m := by
  refine sound_val fun B G a w m' _ hh _ => ?_
  have hp := hh x (by simp [ho, Op.operands, Call.operands]) _ hx
  have hq := hh y (by simp [ho, Op.operands, Call.operands]) _ hy
  generalize hev : a.eval x = vx at hp
  generalize hev2 : a.eval y = vy at hq
  cases hp; cases hq
  refine ⟨.int k c, run_min_ ho hev hev2 ?_, .int k c⟩
  have e : (if q < p then q else p) = c := by rw [← h]; split <;> omega
  simp [Builtin.min_, Builtin.min2, e]
end
section
variable {P : Program} {ops : Array Oper} {os : List Oper} {K : List Eff → Slots → Mem → Nat → Prop} {ρ : Slots} {m : Mem} {nx : Nat}
theorem k_min {t : Tmp} {ts : Array TypeId} {x y : Operand} {k k' : IntKind} {p q c : Int} {V : TypeId} {pos : String} {af : Array Edge} {gd : Option (Nat × Bool)} (hg : gok ops ρ ⟨some t, .call { callee := .builtin .min, args := #[x, y], argTypes := ts }, V, pos, af, gd⟩ = some true) (hx : oev ρ x = some (.int k p)) (hy : oev ρ y = some (.int k' q)) (h : min p q = c) (hh : R P ops os (fun Es => K (Eff.val (.int k c) :: Es)) ((t, .int k c) :: ρ) m nx) :
    R P ops (⟨some t, .call { callee := .builtin .min, args := #[x, y], argTypes := ts }, V, pos, af, gd⟩ :: os) K ρ m nx := R_cons hg (r_min rfl hx hy h) rfl hh
end
section
variable {P : Program} {B : Base} {N : Nat} {Q : Post} {ρ : Slots} {m : Mem} {nx : Nat}
end
end Go.Proofs.YtcfefmbbbfdppaaGreatDoor
