/- What each kind of operation does to data as trees. Of any program. No conditions. -/
import Derived.Test.YtcfefmbbbfdppaaGreatDoorSDReg
import Derived.Test.YtcfefmbbbfdppaaGreatDoorSEq0
import Derived.Laws.CopyRow
namespace Go.Proofs.YtcfefmbbbfdppaaGreatDoor
open Go.RowKit
set_option linter.unusedVariables false
set_option linter.unusedSimpArgs false
structure Ty where
  agg : Bool
  size : Nat
  zero : List D
def Zs : List D → List Value → Prop
  | [], [] => True
  | d :: ds, v :: vs => ofVal v = some d ∧ Zs ds vs
  | _, _ => False
theorem Zs.reps {G : Gh} {w : World} : ∀ {ds : List D} {vs : List Value}, Zs ds vs → Reps G w ds vs.toArray ∧ ∀ d ∈ ds, d.one = true
  | [], [], _ => ⟨Reps.nil, fun d hd => by simp at hd⟩
  | d :: ds, v :: vs, h => by
    obtain ⟨h1, h2⟩ := h
    obtain ⟨h3, h4⟩ := Zs.reps (G := G) (w := w) h2
    refine ⟨Reps.cons (ofVal_rep h1) h3, fun x hx => ?_⟩
    rcases List.mem_cons.1 hx with rfl | hx
    · exact ofVal_one h1
    · exact h4 x hx
  | [], _ :: _, h => h.elim
  | _ :: _, [], h => h.elim
class HasTy (P : Program) (T : TypeId) (ty : outParam Ty) : Prop where
  desc : ∃ d, P.underlying T = some d ∧ (match d with | .struct _ | .array _ _ => true | _ => false) = ty.agg
  size : (P.info? T).map (·.size) = some ty.size
  zero : ∃ v vs, (P.info? T).bind (·.zero) = some v ∧ v.cells = vs.toArray ∧ Zs ty.zero vs
theorem HasTy.zero_ {P : Program} {T : TypeId} {ty : Ty} (h : HasTy P T ty) : ∃ v, (P.info? T).bind (·.zero) = some v ∧ (∀ G w, Reps G w ty.zero v.cells) ∧ (∀ d ∈ ty.zero, d.one = true) := by
  obtain ⟨v, vs, h1, h2, h3⟩ := h.zero
  exact ⟨v, h1, fun G w => by rw [h2]; exact h3.reps.1, (h3.reps (G := bare fun _ => 0) (w := default)).2⟩
class HasFld (P : Program) (T : TypeId) (i : Nat) (off : outParam Nat) (F : outParam TypeId) : Prop where
  fld : ∃ fs f, P.underlying T = some (.struct fs) ∧ fs[i]? = some f ∧ f.offset = off ∧ f.type = F
class HasArr (P : Program) (T : TypeId) (n : outParam Nat) (E : outParam TypeId) : Prop where
  arr : P.underlying T = some (.array n E)
class HasSl (P : Program) (T : TypeId) (E : outParam TypeId) : Prop where
  sl : P.underlying T = some (.slice E)
class HasBy (P : Program) (T : TypeId) (b : outParam Nat) : Prop where
  bytes : (P.info? T).map (·.bytes) = some b
class HasInt (P : Program) (T : TypeId) (k : outParam IntKind) : Prop where
  int : P.underlying T = some (.int k)
def D.cells : D → List D
  | .agg cs => cs
  | d => [d]
def D.fits : D → Bool
  | .agg _ => true
  | d => d.one
def cut (ty : Ty) (off : Nat) (cs : List D) : Option D :=
  cond ty.agg (cond (Nat.ble (off + ty.size) cs.length) (some (.agg ((cs.drop off).take ty.size))) none) (cs[off]?)
def splice (off : Nat) (new cs : List D) : Option (List D) :=
  cond (Nat.ble (off + new.length) cs.length) (some (cs.take off ++ new ++ cs.drop (off + new.length))) none
theorem Rep.cells {G : Gh} {w : World} {d : D} {v : Value} (h : Rep G w d v) (h1 : d.one = true ∨ ∃ cs, d = .agg cs) : Reps G w d.cells v.cells ∧ ∀ x ∈ d.cells, x.one = true := by
  by_cases ha : ∃ cs, d = .agg cs
  · obtain ⟨cs, rfl⟩ := ha
    cases h with
    | agg ds vs hl h1 h => exact ⟨⟨hl, h⟩, h1⟩
  · have h1 : d.one = true := h1.resolve_right ha
    have hv := (h.one h1).2
    have hd : d.cells = [d] := by cases d <;> first | rfl | (simp [D.one] at h1)
    rw [hd, hv]
    refine ⟨⟨rfl, fun i d' v' hd hv => ?_⟩, fun x hx => by simp at hx; subst hx; exact h1⟩
    cases i with
    | zero => simp at hd hv; subst hd; subst hv; exact h
    | succ i => simp at hd
theorem Reps.at_ {G : Gh} {w : World} {ds : List D} {vs : Array Value} (h : Reps G w ds vs) {i : Nat} {d : D} (hd : ds[i]? = some d) : ∃ v, vs[i]? = some v ∧ Rep G w d v := by
  have hlt : i < ds.length := (List.getElem?_eq_some_iff.1 hd).1
  have hv : vs[i]? = some (vs[i]'(by rw [h.1]; exact hlt)) := Array.getElem?_eq_getElem _
  exact ⟨_, hv, h.2 i d _ hd hv⟩
theorem Reps.extract {G : Gh} {w : World} {ds : List D} {vs : Array Value} (h : Reps G w ds vs) (off n : Nat) (hn : off + n ≤ ds.length) : Reps G w ((ds.drop off).take n) (vs.extract off (off + n)) := by
  refine ⟨by have := h.1; simp; omega, fun i d v hd hv => ?_⟩
  rw [List.getElem?_take] at hd
  split at hd
  · rename_i hi
    rw [List.getElem?_drop] at hd
    rw [Array.getElem?_extract] at hv
    split at hv
    · exact h.2 (off + i) d v hd hv
    · cases hv
  · cases hd
theorem Reps.cut_ {P : Program} {T : TypeId} {ty : Ty} [ht : HasTy P T ty] {G : Gh} {w : World} {ds : List D} {vs : Array Value} (h : Reps G w ds vs) (h1 : ∀ d ∈ ds, d.one = true) {off : Nat} {d : D} (hc : cut ty off ds = some d) :
    ∃ v, (part T vs off).run P w = .ok v w ∧ Rep G w d v ∧ (d.one = true ∨ ∃ cs, d = .agg cs) := by
  obtain ⟨desc, hu, hd⟩ := ht.desc
  obtain ⟨i, hi, hs⟩ := Option.map_eq_some_iff.1 ht.size
  have hagg : (isAgg T).run P w = .ok ty.agg w := by
    unfold isAgg
    rw [Sem.run_bind, run_underlying hu w]
    simp only [Result.andThen_ok]
    rw [← hd]
    cases desc <;> rfl
  unfold cut at hc
  cases ha : ty.agg with
  | true =>
    simp only [ha, cond_true] at hc
    rcases Bool.eq_false_or_eq_true (Nat.ble (off + ty.size) ds.length) with hb | hb
    · simp only [hb, cond_true, Option.some.injEq] at hc
      subst hc
      have hle : off + ty.size ≤ ds.length := Nat.le_of_ble_eq_true hb
      have hr := h.extract off ty.size hle
      refine ⟨.agg (vs.extract off (off + ty.size)), ?_, .agg _ _ hr.1 (fun d hd => h1 d (List.mem_of_mem_drop (List.mem_of_mem_take hd))) hr.2, .inr ⟨_, rfl⟩⟩
      simp [part, Sem.run_bind, hagg, ha, sizeOf, typeInfo, hi, hs]
    · simp only [hb, cond_false] at hc; cases hc
  | false =>
    simp only [ha, cond_false] at hc
    obtain ⟨v, hv, hr⟩ := h.at_ hc
    refine ⟨v, ?_, hr, .inl (h1 d (List.mem_of_getElem? hc))⟩
    simp [part, Sem.run_bind, hagg, ha, hv]
section
variable {P : Program} {o : Oper} {ρ : Slots} {m : Mem}
theorem sound_val {d : D} {rd : List Nat} (h : ∀ (B : Base) (G : Gh) (a : Act) (w : World) (m' : Mem), Sim B G m' w → (∀ x ∈ o.op.operands, ∀ d, oev ρ x = some d → Rep G w d (a.eval x)) → (∀ l ∈ rd, mget m' l = mget m l) → ∃ v, (execOp a.eval o).run P w = .ok (.value v) w ∧ Rep G w d v) : OpSound P o ⟨d, rd, [], []⟩ ρ m := by
  intro B G a w m' K Q hs hx ht hn hK
  obtain ⟨v, hv, hr⟩ := h B G a w m' hs hx fun l hl => ht l (by unfold Eff.touch; rw [Bool.or_eq_true]; exact .inl (List.any_eq_true.2 ⟨l, hl, by simp⟩))
  unfold Oper.wp
  rw [hv, Oper.upon_value]
  exact hK v w G (Ext.refl G w) hs hr fun l hl => .inl hl
theorem r_move {x : Operand} {d : D} (ho : o.op = .move x) (hx : oev ρ x = some d) : OpSound P o (Eff.val d) ρ m :=
  sound_val fun B G a w m' _ h _ => ⟨a.eval x, by simp [execOp, ho], h x (by simp [ho, Op.operands]) d hx⟩
theorem r_assign {x : Operand} {d : D} (ho : o.op = .assign x) (hx : oev ρ x = some d) : OpSound P o (Eff.val d) ρ m :=
  sound_val fun B G a w m' _ h _ => ⟨a.eval x, by simp [execOp, ho], h x (by simp [ho, Op.operands]) d hx⟩
theorem sound_new {l : Nat} {T : TypeId} {cs : List D} (h1 : ∀ d ∈ cs, d.one = true) (h : ∀ (B : Base) (G : Gh) (a : Act) (w : World) (m' : Mem), Sim B G m' w → (∀ x ∈ o.op.operands, ∀ d, oev ρ x = some d → Rep G w d (a.eval x)) → ∃ vs, (execOp a.eval o).run P w = .ok (.value (.pointer (some ⟨w.heap.size, 0, none⟩))) (w.alloc (.cells vs T)) ∧ Reps G w cs vs) :
    OpSound P o ⟨.ptr l 0, [], [(l, some (.var T cs))], [l]⟩ ρ m := by
  intro B G a w m' K Q hs hx ht hn hK
  obtain ⟨vs, hv, hr⟩ := h B G a w m' hs hx
  obtain ⟨G', e1, e2, e3, e4, e5, _⟩ := hs.alloc (hn l (by simp)) (T := T) hr h1
  unfold Oper.wp
  rw [hv, Oper.upon_value]
  refine hK _ _ G' e1 e2 ?_ (fun l' hl => (e5 l' hl).imp id fun h => by simp [h])
  rw [← e4]; exact .ptr l 0 e3
theorem r_alloc {T : TypeId} {ty : Ty} [ht : HasTy P T ty] (l : Nat) (ho : o.op = .alloc T) : OpSound P o ⟨.ptr l 0, [], [(l, some (.var T ty.zero))], [l]⟩ ρ m := by
  obtain ⟨v, hv, hr, h1⟩ := ht.zero_
  refine sound_new h1 fun B G a w m' _ _ => ⟨v.cells, ?_, hr G w⟩
  obtain ⟨i, hi, hz⟩ := Option.bind_eq_some_iff.1 hv
  simp [execOp, ho, Instr.alloc, zeroValue, typeInfo, hi, hz, newVar, newRow, newObj]
  rfl
theorem r_box {T : TypeId} {x : Operand} {d : D} (l : Nat) (ho : o.op = .box T x) (hx : oev ρ x = some d) (h1 : d.fits = true) : OpSound P o ⟨.ptr l 0, [], [(l, some (.var T d.cells))], [l]⟩ ρ m := by
  have hd : d.one = true ∨ ∃ cs, d = .agg cs := by cases d <;> simp_all [D.one, D.fits]
  have h1' : ∀ x ∈ d.cells, x.one = true ∨ ∃ cs, d = .agg cs := by
    intro x hx
    cases d <;> first | (exact .inr ⟨_, rfl⟩) | (simp only [D.cells, List.mem_singleton] at hx; subst hx; exact .inl (by simpa using hd))
  by_cases hone : ∀ x ∈ d.cells, x.one = true
  · refine sound_new hone fun B G a w m' _ h => ⟨(a.eval x).cells, ?_, ((h x (by simp [ho, Op.operands]) d hx).cells hd).1⟩
    simp [execOp, ho, Instr.box, newVar, newRow, newObj]
    rfl
  · intro B G a w m' K Q hs h ht hn hK
    exact absurd ((h x (by simp [ho, Op.operands]) d hx).cells hd).2 hone
theorem Sim.at_ {B : Base} {G : Gh} {w : World} (hs : Sim B G m w) {l : Nat} {T : TypeId} {cs : List D} (hm : mget m l = some (.var T cs)) : ∃ vs, w.heap[G.g l]? = some (.cells vs T (0, 0)) ∧ Reps G w cs vs ∧ ∀ d ∈ cs, d.one = true :=
  (hs.var l T cs hm).2.2.2.2
theorem add_off (b i j : Nat) : (⟨b, i, none⟩ : Addr).add j = ⟨b, i + j, none⟩ := by unfold Addr.add; split <;> simp_all
theorem run_cut {T : TypeId} {ty : Ty} [ht : HasTy P T ty] {G : Gh} {w : World} {b o : Nat} {vs : Array Value} {ds : List D} (h : Reps G w ds vs) (h1 : ∀ d ∈ ds, d.one = true) (hc : ∀ i, i < ds.length → w.cell? ⟨b, o + i, none⟩ = vs[i]?) {off : Nat} {d : D} (hd : cut ty off ds = some d) :
    ∃ v, (loadVar T ⟨b, o + off, none⟩).run P w = .ok v w ∧ Rep G w d v := by
  obtain ⟨desc, hu, hdd⟩ := ht.desc
  obtain ⟨i, hi, hs⟩ := Option.map_eq_some_iff.1 ht.size
  have hagg : (isAgg T).run P w = .ok ty.agg w := by
    unfold isAgg
    rw [Sem.run_bind, run_underlying hu w]
    simp only [Result.andThen_ok]
    rw [← hdd]
    cases desc <;> rfl
  unfold cut at hd
  cases ha : ty.agg with
  | true =>
    simp only [ha, cond_true] at hd
    rcases Bool.eq_false_or_eq_true (Nat.ble (off + ty.size) ds.length) with hb | hb
    · simp only [hb, cond_true, Option.some.injEq] at hd
      subst hd
      have hle : off + ty.size ≤ ds.length := Nat.le_of_ble_eq_true hb
      have hr := h.extract off ty.size hle
      have hsz := h.1
      have hl := run_loadCells_list (P := P) (w := w) ⟨b, o + off, none⟩ (vs.extract off (off + ty.size)).toList (fun j v hv => by
        rw [add_off]
        simp only [Array.getElem?_toList] at hv
        rw [Array.getElem?_extract] at hv
        split at hv
        · rw [show o + off + j = o + (off + j) from by omega, hc _ (by omega)]; exact hv
        · cases hv)
      have hlen : (vs.extract off (off + ty.size)).toList.length = ty.size := by simp; omega
      rw [hlen, Array.toArray_toList] at hl
      refine ⟨.agg (vs.extract off (off + ty.size)), ?_, .agg _ _ hr.1 (fun d hd => h1 d (List.mem_of_mem_drop (List.mem_of_mem_take hd))) hr.2⟩
      simp [loadVar, Sem.run_bind, hagg, ha, sizeOf, typeInfo, hi, hs, hl]
    · simp only [hb, cond_false] at hd; cases hd
  | false =>
    simp only [ha, cond_false] at hd
    obtain ⟨v, hv, hr⟩ := h.at_ hd
    refine ⟨v, ?_, hr⟩
    have hcell := hc off (List.getElem?_eq_some_iff.1 hd).1
    rw [hv] at hcell
    simp [loadVar, Sem.run_bind, hagg, ha, load, Sem.run, hcell]
theorem r_load {T : TypeId} {ty : Ty} [ht : HasTy P T ty] {x : Operand} {l off : Nat} {T' : TypeId} {cs : List D} {d : D} (ho : o.op = .load T x) (hx : oev ρ x = some (.ptr l off)) (hm : mget m l = some (.var T' cs)) (hd : cut ty off cs = some d) : OpSound P o ⟨d, [l], [], []⟩ ρ m := by
  refine sound_val fun B G a w m' hs h hrd => ?_
  obtain ⟨vs, hv, hr, h1⟩ := hs.at_ ((hrd l (by simp)).trans hm)
  have hp := h x (by simp [ho, Op.operands]) _ hx
  have he : a.eval x = .pointer (some ⟨G.g l, off, none⟩) := (show ∀ v, Rep G w (.ptr l off) v → v = .pointer (some ⟨G.g l, off, none⟩) from fun v h => by cases h; rfl) _ hp
  obtain ⟨v, h2, h3⟩ := run_cut (P := P) (T := T) (b := G.g l) (o := 0) hr h1 (fun i _ => by rw [cell_of_row w _ _ vs T' (0, 0) hv, Nat.zero_add]) hd
  rw [Nat.zero_add] at h2
  exact ⟨v, by simp [execOp, ho, Instr.loadAt, Instr.sureAddr, he, Sem.run_bind, h2], h3⟩
theorem r_loade {T : TypeId} {ty : Ty} [ht : HasTy P T ty] {x : Operand} {cs : List D} {d : D} (ho : o.op = .load T x) (hx : oev ρ x = some (.eptr cs)) (hd : cut ty 0 cs = some d) : OpSound P o (Eff.val d) ρ m := by
  refine sound_val fun B G a w m' hs h _ => ?_
  have hp := h x (by simp [ho, Op.operands]) _ hx
  generalize hev : a.eval x = vx at hp
  cases hp with
  | eptr cs b o' vs hl h1 hh hhw hc =>
    obtain ⟨v, h2, h3⟩ := run_cut (P := P) (T := T) (b := b) (o := o') ⟨hl, hh⟩ (fun d hd => (h1 d hd).1) hc hd
    rw [Nat.add_zero] at h2
    exact ⟨v, by simp [execOp, ho, Instr.loadAt, Instr.sureAddr, hev, Sem.run_bind, h2], h3⟩
theorem Reps.splice {G : Gh} {w : World} {cs new cs' : List D} {vs nv : Array Value} {off : Nat} (h : Reps G w cs vs) (hn : Reps G w new nv) (h1 : ∀ d ∈ cs, d.one = true) (h2 : ∀ d ∈ new, d.one = true) (hs : splice off new cs = some cs') :
    off + nv.size ≤ vs.size ∧ Reps G w cs' (vs.toList.take off ++ nv.toList ++ vs.toList.drop (off + nv.size)).toArray ∧ ∀ d ∈ cs', d.one = true := by
  unfold Go.Proofs.YtcfefmbbbfdppaaGreatDoor.splice at hs
  rcases Bool.eq_false_or_eq_true (Nat.ble (off + new.length) cs.length) with hb | hb
  · simp only [hb, cond_true, Option.some.injEq] at hs
    subst hs
    have hle : off + new.length ≤ cs.length := Nat.le_of_ble_eq_true hb
    have e1 := h.1
    have e2 := hn.1
    refine ⟨by omega, ⟨by simp; omega, fun i d v hd hv => ?_⟩, fun d hd => ?_⟩
    · simp only [List.getElem?_toArray] at hv
      rw [List.getElem?_append, List.getElem?_append] at hd hv
      simp only [List.length_append, List.length_take, Array.length_toList] at hd hv
      rw [show min off cs.length = off from by omega] at hd
      rw [show min off vs.size = off from by omega] at hv
      rw [e2] at hv
      by_cases c1 : i < off + new.length
      · rw [if_pos c1] at hd hv
        by_cases c2 : i < off
        · rw [if_pos c2] at hd hv
          rw [List.getElem?_take, if_pos c2] at hd hv
          exact h.2 i d v hd (by simpa using hv)
        · rw [if_neg c2] at hd hv
          exact hn.2 _ d v hd (by simpa using hv)
      · rw [if_neg c1] at hd hv
        rw [List.getElem?_drop] at hd hv
        exact h.2 _ d v hd (by simpa using hv)
    · simp only [List.mem_append] at hd
      rcases hd with (hd | hd) | hd
      · exact h1 d (List.mem_of_mem_take hd)
      · exact h2 d hd
      · exact h1 d (List.mem_of_mem_drop hd)
  · simp only [hb, cond_false] at hs; cases hs
theorem r_store {T : TypeId} {ty : Ty} [ht : HasTy P T ty] {x y : Operand} {l off : Nat} {T' : TypeId} {cs cs' : List D} {d : D} (ho : o.op = .store T x y) (hx : oev ρ x = some (.ptr l off)) (hy : oev ρ y = some d) (hdst : o.dst = none)
    (hm : mget m l = some (.var T' cs)) (hsz : d.cells.length = ty.size) (h1 : d.fits = true) (hsp : splice off d.cells cs = some cs') : OpSound P o ⟨.undef, [], [(l, some (.var T' cs'))], []⟩ ρ m := by
  have hd : d.one = true ∨ ∃ cs, d = .agg cs := by cases d <;> simp_all [D.one, D.fits]
  intro B G a w m' K Q hs h hag hn hK
  have hml : mget m' l = some (.var T' cs) := (hag l (by unfold Eff.touch Eff.writes; simp)).trans hm
  obtain ⟨vs, hv, hr, h1'⟩ := hs.at_ hml
  have hp := h x (by simp [ho, Op.operands]) _ hx
  have he : a.eval x = .pointer (some ⟨G.g l, off, none⟩) := (show ∀ v, Rep G w (.ptr l off) v → v = .pointer (some ⟨G.g l, off, none⟩) from fun v h => by cases h; rfl) _ hp
  have hyr := h y (by simp [ho, Op.operands]) _ hy
  obtain ⟨hc1, hc2⟩ := hyr.cells hd
  obtain ⟨hle, hr', h1''⟩ := hr.splice hc1 h1' hc2 hsp
  obtain ⟨i, hi, hsi⟩ := Option.map_eq_some_iff.1 ht.size
  have hone : ∀ v ∈ (a.eval y).cells.toList, v.oneCell' = true := by
    intro v hv
    obtain ⟨j, hj⟩ := List.getElem?_of_mem hv
    have hj' : (a.eval y).cells[j]? = some v := by simpa using hj
    have hjl : j < d.cells.length := by rw [← hc1.1]; exact (Array.getElem?_eq_some_iff.1 hj').1
    have hdj : d.cells[j]? = some (d.cells[j]) := List.getElem?_eq_getElem hjl
    exact ((hc1.2 j _ v hdj hj').one (hc2 _ (List.getElem_mem hjl))).1
  have hst := run_storeCells_at (P := P) (G.g l) off T' (a.eval y).cells.toList 0 vs w hv (by simp; omega) hone
  simp only [Nat.add_zero, Array.length_toList] at hst
  have hrun : (execOp a.eval o).run P w = .ok .skip (w.setRow (G.g l) (vs.toList.take off ++ (a.eval y).cells.toList ++ vs.toList.drop (off + (a.eval y).cells.size)).toArray) := by
    have hsz' : (a.eval y).cells.size = i.size := by rw [hc1.1, hsz, hsi]
    simp [execOp, ho, Instr.storeAt, Instr.sureAddr, he, Sem.run_bind, storeVar, sizeOf, typeInfo, hi, hsz', hst]
  unfold Oper.wp
  rw [hrun, Oper.upon_skip]
  have hg : w.grownBy (w.setRow (G.g l) (vs.toList.take off ++ (a.eval y).cells.toList ++ vs.toList.drop (off + (a.eval y).cells.size)).toArray) (some (G.g l)) := by
    refine ⟨rfl, rfl, rfl, by simp [World.setRow], fun i hi hne => ?_⟩
    have : ¬ G.g l = i := fun h => hne (by rw [h])
    simp [World.setRow, Array.getElem?_modify, this]
  obtain ⟨hx', hs'⟩ := hs.write hml hg (setRow_heap w _ vs _ T' (0, 0) hv) hr' h1''
  exact hK undef _ G hx' hs' (.undef _) fun l hl => .inl hl
theorem r_extract {x : Operand} {i : Nat} {vs : List D} {d : D} (ho : o.op = .extract x i) (hx : oev ρ x = some (.tup vs)) (hd : vs[i]? = some d) : OpSound P o (Eff.val d) ρ m := by
  refine sound_val fun B G a w m' hs h _ => ?_
  have hp := h x (by simp [ho, Op.operands]) _ hx
  generalize hev : a.eval x = vx at hp
  cases hp with
  | tup ds vs' hl hh =>
    obtain ⟨v, hv, hr⟩ := Reps.at_ ⟨hl, hh⟩ hd
    exact ⟨v, by simp [execOp, ho, hev, Instr.extract, hv], hr⟩
theorem r_fieldAddr {T : TypeId} {x : Operand} {i off : Nat} {F : TypeId} {ty : Ty} [hf : HasFld P T i off F] [ht : HasTy P F ty] {l o' : Nat} (ho : o.op = .fieldAddr T x i) (hx : oev ρ x = some (.ptr l o')) (hs0 : Nat.beq ty.size 0 = false) : OpSound P o (Eff.val (.ptr l (o' + off))) ρ m := by
  refine sound_val fun B G a w m' hs h _ => ?_
  have hp := h x (by simp [ho, Op.operands]) _ hx
  generalize hev : a.eval x = vx at hp
  cases hp with
  | ptr l o' hk =>
    obtain ⟨fs, f, hu, hfi, hoff, hF⟩ := hf.fld
    obtain ⟨j, hj, hjs⟩ := Option.map_eq_some_iff.1 ht.size
    have hne : ty.size ≠ 0 := fun e => by rw [e] at hs0; cases hs0
    refine ⟨.pointer (some ⟨G.g l, o' + off, none⟩), ?_, .ptr l _ hk⟩
    simp [execOp, ho, hev, Instr.fieldAt, Instr.sureAddr, Sem.run_bind, run_underlying hu, hfi, fieldPlace, sizeOf, typeInfo, hF, hj, hjs, hne, hoff, add_off]
theorem r_fieldAddre {T : TypeId} {x : Operand} {i off : Nat} {F : TypeId} {ty : Ty} [hf : HasFld P T i off F] [ht : HasTy P F ty] {cs : List D} (ho : o.op = .fieldAddr T x i) (hx : oev ρ x = some (.eptr cs)) (hs0 : Nat.beq ty.size 0 = false) (hle : Nat.ble off cs.length = true) : OpSound P o (Eff.val (.eptr (cs.drop off))) ρ m := by
  refine sound_val fun B G a w m' hs h _ => ?_
  have hp := h x (by simp [ho, Op.operands]) _ hx
  generalize hev : a.eval x = vx at hp
  cases hp with
  | eptr cs b o' vs hl h1 hh hhw hc =>
    obtain ⟨fs, f, hu, hfi, hoff, hF⟩ := hf.fld
    obtain ⟨j, hj, hjs⟩ := Option.map_eq_some_iff.1 ht.size
    have hne : ty.size ≠ 0 := fun e => by rw [e] at hs0; cases hs0
    have hle' := Nat.le_of_ble_eq_true hle
    refine ⟨.pointer (some ⟨b, o' + off, none⟩), ?_, ?_⟩
    · simp [execOp, ho, hev, Instr.fieldAt, Instr.sureAddr, Sem.run_bind, run_underlying hu, hfi, fieldPlace, sizeOf, typeInfo, hF, hj, hjs, hne, hoff, add_off]
    · refine .eptr _ b _ (vs.extract off vs.size) (by simp; omega) (fun d hd => h1 d (List.mem_of_mem_drop hd)) (fun i d v hd hv => ?_) (by simp; omega) (fun i hi => ?_)
      · rw [List.getElem?_drop] at hd
        rw [Array.getElem?_extract] at hv
        split at hv
        · exact hh _ d v hd hv
        · cases hv
      · simp only [List.length_drop] at hi
        rw [show o' + off + i = o' + (off + i) from by omega, hc _ (by omega), Array.getElem?_extract, if_pos (by omega)]
theorem r_index {T : TypeId} {x ix : Operand} {n : Nat} {E : TypeId} {ty : Ty} [ha : HasArr P T n E] [ht : HasTy P E ty] {cs : List D} {k : IntKind} {j : Int} {d : D} (ho : o.op = .index T x ix) (hx : oev ρ x = some (.agg cs)) (hix : oev ρ ix = some (.int k j)) (hj : 0 ≤ j ∧ j < n) (hd : cut ty (j.toNat * ty.size) cs = some d) : OpSound P o (Eff.val d) ρ m := by
  refine sound_val fun B G a w m' hs h _ => ?_
  have hp := h x (by simp [ho, Op.operands]) _ hx
  have hq := h ix (by simp [ho, Op.operands]) _ hix
  generalize hev : a.eval x = vx at hp
  generalize hevi : a.eval ix = vi at hq
  cases hq
  cases hp with
  | agg ds vs hl h1 hh =>
    obtain ⟨i, hi, hsi⟩ := Option.map_eq_some_iff.1 ht.size
    obtain ⟨v, h2, h3, _⟩ := Reps.cut_ (P := P) (T := E) (ty := ty) ⟨hl, hh⟩ h1 hd
    refine ⟨v, ?_, h3⟩
    simp [execOp, ho, hev, hevi, Instr.index, Sem.run_bind, run_underlying ha.arr, asIntOf, hj.1, hj.2, sizeOf, typeInfo, hi, hsi, h2]
theorem r_indexAddr {T : TypeId} {x ix : Operand} {n : Nat} {E : TypeId} {ty : Ty} [ha : HasArr P T n E] [ht : HasTy P E ty] {l off : Nat} {k : IntKind} {j : Int} (ho : o.op = .indexAddr T x ix) (hx : oev ρ x = some (.ptr l off)) (hix : oev ρ ix = some (.int k j)) (hj : 0 ≤ j ∧ j < n) : OpSound P o (Eff.val (.ptr l (off + j.toNat * ty.size))) ρ m := by
  refine sound_val fun B G a w m' hs h _ => ?_
  have hp := h x (by simp [ho, Op.operands]) _ hx
  have hq := h ix (by simp [ho, Op.operands]) _ hix
  generalize hev : a.eval x = vx at hp
  generalize hevi : a.eval ix = vi at hq
  cases hq
  cases hp with
  | ptr l off hk =>
    obtain ⟨i, hi, hsi⟩ := Option.map_eq_some_iff.1 ht.size
    refine ⟨.pointer (some ⟨G.g l, off + j.toNat * ty.size, none⟩), ?_, .ptr l _ hk⟩
    simp [execOp, ho, hev, hevi, Instr.indexAt, Instr.sureAddr, Sem.run_bind, run_underlying ha.arr, asIntOf, hj.1, hj.2, sizeOf, typeInfo, hi, hsi, add_off]
theorem r_indexAddrs {T : TypeId} {x ix : Operand} {E : TypeId} {ty : Ty} [ha : HasSl P T E] [ht : HasTy P E ty] {tk : Tok} {n : Nat} {cs : List D} {k : IntKind} {j : Int} (ho : o.op = .indexAddr T x ix) (hx : oev ρ x = some (.slice tk n cs)) (hix : oev ρ ix = some (.int k j)) (hj : 0 ≤ j ∧ j < n) (hlen : n * ty.size = cs.length) : OpSound P o (Eff.val (.eptr (cs.drop (j.toNat * ty.size)))) ρ m := by
  refine sound_val fun B G a w m' hs h _ => ?_
  have hp := h x (by simp [ho, Op.operands]) _ hx
  have hq := h ix (by simp [ho, Op.operands]) _ hix
  generalize hev : a.eval x = vx at hp
  generalize hevi : a.eval ix = vi at hq
  cases hq
  cases hp with
  | nil tk => omega
  | slice tk n cs b o' cap vs hl h1 hh hhw hc hb hn htk =>
    obtain ⟨i, hi, hsi⟩ := Option.map_eq_some_iff.1 ht.size
    have hle : j.toNat * ty.size ≤ cs.length := by rw [← hlen]; exact Nat.mul_le_mul_right _ (by omega)
    refine ⟨.pointer (some ⟨b, o' + j.toNat * ty.size, none⟩), ?_, ?_⟩
    · simp [execOp, ho, hev, hevi, Instr.indexAt, Instr.sureAddr, Sem.run_bind, run_underlying ha.sl, asIntOf, hj.1, hj.2, sizeOf, typeInfo, hi, hsi, add_off]
    · refine .eptr _ b _ (vs.extract (j.toNat * ty.size) vs.size) (by simp; omega) (fun d hd => h1 d (List.mem_of_mem_drop hd)) (fun i d v hd hv => ?_) (by simp; omega) (fun i hi => ?_)
      · rw [List.getElem?_drop] at hd
        rw [Array.getElem?_extract] at hv
        split at hv
        · exact hh _ d v hd hv
        · cases hv
      · simp only [List.length_drop] at hi
        rw [show o' + j.toNat * ty.size + i = o' + (j.toNat * ty.size + i) from by omega, hc _ (by omega), Array.getElem?_extract, if_pos (by omega)]
theorem sound_bin {op : BinOp} {T U : TypeId} {x y : Operand} {dx dy d : D} (ho : o.op = .binOp op T x y U) (hx : oev ρ x = some dx) (hy : oev ρ y = some dy)
    (h : ∀ (G : Gh) (w : World) (vx vy : Value), Rep G w dx vx → Rep G w dy vy → ∃ v, (do eqGuard op T x y vx vy; binOp op T vx vy : Sem Value).run P w = .ok v w ∧ Rep G w d v) : OpSound P o (Eff.val d) ρ m := by
  refine sound_val fun B G a w m' hs hh _ => ?_
  obtain ⟨v, h1, h2⟩ := h G w _ _ (hh x (by simp [ho, Op.operands]) dx hx) (hh y (by simp [ho, Op.operands]) dy hy)
  refine ⟨v, ?_, h2⟩
  simp only [execOp, ho]
  rw [Sem.run_bind, h1]
  rfl
theorem eqGuard_int (op : BinOp) (T : TypeId) (x y : Operand) (k k' : IntKind) (a b : Int) (w : World) : (eqGuard op T x y (.int k a) (.int k' b)).run P w = .ok () w := by
  cases op <;> simp [eqGuard]
theorem sound_ii {op : BinOp} {T U : TypeId} {x y : Operand} {k k' : IntKind} {a b : Int} {d : D} (ho : o.op = .binOp op T x y U) (hx : oev ρ x = some (.int k a)) (hy : oev ρ y = some (.int k' b))
    (h : ∀ (G : Gh) (w : World), ∃ v, (binOp op T (.int k a) (.int k' b)).run P w = .ok v w ∧ Rep G w d v) : OpSound P o (Eff.val d) ρ m := by
  refine sound_bin ho hx hy fun G w vx vy h1 h2 => ?_
  obtain ⟨v, h3, h4⟩ := h G w
  cases h1; cases h2
  exact ⟨v, by simp [Sem.run_bind, eqGuard_int, h3], h4⟩
theorem r_add {T U : TypeId} {x y : Operand} {k : IntKind} {a b c : Int} (ho : o.op = .binOp .add T x y U) (hx : oev ρ x = some (.int k a)) (hy : oev ρ y = some (.int k b)) (h : k.wrap (a + b) = c) : OpSound P o (Eff.val (.int k c)) ρ m :=
  sound_ii ho hx hy fun G w => ⟨.int k c, by simp [binOp, Op.intArith, h], .int k c⟩
theorem r_sub {T U : TypeId} {x y : Operand} {k : IntKind} {a b c : Int} (ho : o.op = .binOp .sub T x y U) (hx : oev ρ x = some (.int k a)) (hy : oev ρ y = some (.int k b)) (h : k.wrap (a - b) = c) : OpSound P o (Eff.val (.int k c)) ρ m :=
  sound_ii ho hx hy fun G w => ⟨.int k c, by simp [binOp, Op.intArith, h], .int k c⟩
theorem r_mul {T U : TypeId} {x y : Operand} {k : IntKind} {a b c : Int} (ho : o.op = .binOp .mul T x y U) (hx : oev ρ x = some (.int k a)) (hy : oev ρ y = some (.int k b)) (h : k.wrap (a * b) = c) : OpSound P o (Eff.val (.int k c)) ρ m :=
  sound_ii ho hx hy fun G w => ⟨.int k c, by simp [binOp, Op.intArith, h], .int k c⟩
theorem r_quo {T U : TypeId} {x y : Operand} {k : IntKind} {a b c : Int} (ho : o.op = .binOp .quo T x y U) (hx : oev ρ x = some (.int k a)) (hy : oev ρ y = some (.int k b)) (hb : b ≠ 0) (h : k.wrap (a.tdiv b) = c) : OpSound P o (Eff.val (.int k c)) ρ m :=
  sound_ii ho hx hy fun G w => ⟨.int k c, by simp [binOp, Op.intDiv, h, hb], .int k c⟩
theorem r_rem {T U : TypeId} {x y : Operand} {k : IntKind} {a b c : Int} (ho : o.op = .binOp .rem T x y U) (hx : oev ρ x = some (.int k a)) (hy : oev ρ y = some (.int k b)) (hb : b ≠ 0) (h : a.tmod b = c) : OpSound P o (Eff.val (.int k c)) ρ m :=
  sound_ii ho hx hy fun G w => ⟨.int k c, by simp [binOp, Op.intDiv, h, hb], .int k c⟩
def isBits : BinOp → Bool
  | .and | .or | .xor | .andNot => true
  | _ => false
def bitw (op : BinOp) (k : IntKind) (a b : Int) : Int :=
  match op with
  | .and => k.wrap (BitVec.ofInt k.bits a &&& BitVec.ofInt k.bits b).toNat
  | .or => k.wrap (BitVec.ofInt k.bits a ||| BitVec.ofInt k.bits b).toNat
  | .xor => k.wrap (BitVec.ofInt k.bits a ^^^ BitVec.ofInt k.bits b).toNat
  | _ => k.wrap (BitVec.ofInt k.bits a &&& ~~~BitVec.ofInt k.bits b).toNat
theorem r_bits {op : BinOp} {T U : TypeId} {x y : Operand} {k : IntKind} {a b c : Int} (ho : o.op = .binOp op T x y U) (hop : isBits op = true) (hx : oev ρ x = some (.int k a)) (hy : oev ρ y = some (.int k b)) (h : bitw op k a b = c) : OpSound P o (Eff.val (.int k c)) ρ m :=
  sound_ii ho hx hy fun G w => ⟨.int k c, by cases op <;> simp [isBits] at hop <;> simp [binOp, Op.intBits, ← h, bitw], .int k c⟩
theorem r_shl {T U : TypeId} {x y : Operand} {k k' : IntKind} {a b c : Int} (ho : o.op = .binOp .shl T x y U) (hx : oev ρ x = some (.int k a)) (hy : oev ρ y = some (.int k' b)) (hb : 0 ≤ b) (h : k.wrap (a * 2 ^ (min b.toNat k.bits)) = c) : OpSound P o (Eff.val (.int k c)) ρ m :=
  sound_ii ho hx hy fun G w => ⟨.int k c, by simp [binOp, Op.shift, ← h, Int.not_lt.2 hb], .int k c⟩
theorem r_shr {T U : TypeId} {x y : Operand} {k k' : IntKind} {a b c : Int} (ho : o.op = .binOp .shr T x y U) (hx : oev ρ x = some (.int k a)) (hy : oev ρ y = some (.int k' b)) (hb : 0 ≤ b) (h : a.fdiv (2 ^ (min b.toNat k.bits)) = c) : OpSound P o (Eff.val (.int k c)) ρ m :=
  sound_ii ho hx hy fun G w => ⟨.int k c, by simp [binOp, Op.shift, ← h, Int.not_lt.2 hb], .int k c⟩
theorem r_lss {T U : TypeId} {x y : Operand} {k : IntKind} {a b : Int} {c : Bool} (ho : o.op = .binOp .lss T x y U) (hx : oev ρ x = some (.int k a)) (hy : oev ρ y = some (.int k b)) (h : decide (a < b) = c) : OpSound P o (Eff.val (.bool c)) ρ m :=
  sound_ii ho hx hy fun G w => ⟨.bool c, by simp [binOp, Op.intCmp, ← h], .bool c⟩
theorem r_leq {T U : TypeId} {x y : Operand} {k : IntKind} {a b : Int} {c : Bool} (ho : o.op = .binOp .leq T x y U) (hx : oev ρ x = some (.int k a)) (hy : oev ρ y = some (.int k b)) (h : decide (a ≤ b) = c) : OpSound P o (Eff.val (.bool c)) ρ m :=
  sound_ii ho hx hy fun G w => ⟨.bool c, by simp [binOp, Op.intCmp, ← h], .bool c⟩
theorem r_gtr {T U : TypeId} {x y : Operand} {k : IntKind} {a b : Int} {c : Bool} (ho : o.op = .binOp .gtr T x y U) (hx : oev ρ x = some (.int k a)) (hy : oev ρ y = some (.int k b)) (h : decide (b < a) = c) : OpSound P o (Eff.val (.bool c)) ρ m :=
  sound_ii ho hx hy fun G w => ⟨.bool c, by simp [binOp, Op.intCmp, ← h], .bool c⟩
theorem r_geq {T U : TypeId} {x y : Operand} {k : IntKind} {a b : Int} {c : Bool} (ho : o.op = .binOp .geq T x y U) (hx : oev ρ x = some (.int k a)) (hy : oev ρ y = some (.int k b)) (h : decide (b ≤ a) = c) : OpSound P o (Eff.val (.bool c)) ρ m :=
  sound_ii ho hx hy fun G w => ⟨.bool c, by simp [binOp, Op.intCmp, ← h], .bool c⟩
theorem r_eql {T U : TypeId} {x y : Operand} {k : IntKind} {a b : Int} {c : Bool} (ho : o.op = .binOp .eql T x y U) (hx : oev ρ x = some (.int k a)) (hy : oev ρ y = some (.int k b)) (h : (a == b) = c) : OpSound P o (Eff.val (.bool c)) ρ m :=
  sound_ii ho hx hy fun G w => ⟨.bool c, by simp [binOp, Op.intCmp, ← h], .bool c⟩
theorem r_neq {T U : TypeId} {x y : Operand} {k : IntKind} {a b : Int} {c : Bool} (ho : o.op = .binOp .neq T x y U) (hx : oev ρ x = some (.int k a)) (hy : oev ρ y = some (.int k b)) (h : (a != b) = c) : OpSound P o (Eff.val (.bool c)) ρ m :=
  sound_ii ho hx hy fun G w => ⟨.bool c, by simp [binOp, Op.intCmp, ← h], .bool c⟩
theorem r_not {T : TypeId} {x : Operand} {b c : Bool} (ho : o.op = .unOp .not T x) (hx : oev ρ x = some (.bool b)) (h : (!b) = c) : OpSound P o (Eff.val (.bool c)) ρ m := by
  refine sound_val fun B G a w m' hs hh _ => ?_
  have hp := hh x (by simp [ho, Op.operands]) _ hx
  generalize hev : a.eval x = vx at hp
  cases hp
  exact ⟨.bool c, by simp [execOp, ho, hev, Op.unary, ← h], .bool c⟩
theorem r_com {T : TypeId} {x : Operand} {k : IntKind} {n c : Int} (ho : o.op = .unOp .xor T x) (hx : oev ρ x = some (.int k n)) (h : bitw .xor k (if k.signed then -1 else k.max) n = c) : OpSound P o (Eff.val (.int k c)) ρ m := by
  refine sound_val fun B G a w m' hs hh _ => ?_
  have hp := hh x (by simp [ho, Op.operands]) _ hx
  generalize hev : a.eval x = vx at hp
  cases hp
  exact ⟨.int k c, by simp [execOp, ho, hev, Op.unary, Op.intBits, ← h, bitw], .int k c⟩
theorem r_conv {S T : TypeId} {k k' : IntKind} [h1 : HasInt P S k] [h2 : HasInt P T k'] {x : Operand} {n c : Int} (ho : o.op = .convert S T x) (hx : oev ρ x = some (.int k n)) (h : k'.wrap n = c) : OpSound P o (Eff.val (.int k' c)) ρ m := by
  refine sound_val fun B G a w m' hs hh _ => ?_
  have hp := hh x (by simp [ho, Op.operands]) _ hx
  generalize hev : a.eval x = vx at hp
  cases hp
  exact ⟨.int k' c, by simp [execOp, ho, hev, convert, Sem.run_bind, run_underlying h1.int, run_underlying h2.int, Conv.intToInt, ← h], .int k' c⟩
end
end Go.Proofs.YtcfefmbbbfdppaaGreatDoor
