/- Maps whose keys are whole numbers: made, looked up, written, counted in, ranged over. Of any program. No conditions. -/
import Derived.Test.YtnlacdclnhoghaaDRow
import Derived.MapKept
import Derived.Maps.RangeRun
namespace Go.Proofs.Ytnlacdclnhoghaa
open Go.RowKit Go.MapKept
set_option linter.unusedVariables false
open Go.ChangeMaps (setBlock)
set_option linter.unusedSimpArgs false

/-- where a key stands -/
def kix : List Int → Int → Option Nat
  | [], _ => none
  | a :: r, k => bif a == k then some 0 else (kix r k).map (· + 1)
theorem kix_lt : ∀ {ks : List Int} {k : Int} {i : Nat}, kix ks k = some i → i < ks.length ∧ ks[i]? = some k
  | [], _, _, h => by simp [kix] at h
  | a :: r, k, i, h => by
    unfold kix at h
    rcases Bool.eq_false_or_eq_true (a == k) with hb | hb
    · rw [hb, cond_true] at h
      injection h with h
      subst h
      exact ⟨by simp, by simp; simpa using hb⟩
    · rw [hb, cond_false] at h
      obtain ⟨j, hj, rfl⟩ := Option.map_eq_some_iff.1 h
      obtain ⟨h1, h2⟩ := kix_lt hj
      exact ⟨by simp; omega, by simpa using h2⟩
theorem kix_append (ks : List Int) (k k' : Int) (h : kix ks k = none) : kix (ks ++ [k']) k = if k' = k then some ks.length else none := by
  induction ks with
  | nil =>
    show (bif k' == k then some 0 else (kix [] k).map (· + 1)) = _
    by_cases e : k' = k
    · simp [e]
    · have : (k' == k) = false := by simpa using e
      rw [this, if_neg e]; rfl
  | cons a r ih =>
    unfold kix at h
    rcases Bool.eq_false_or_eq_true (a == k) with hb | hb
    · rw [hb, cond_true] at h; cases h
    · rw [hb, cond_false] at h
      have h' : kix r k = none := by simpa using h
      show (bif a == k then some 0 else (kix (r ++ [k']) k).map (· + 1)) = _
      rw [hb, cond_false, ih h']
      by_cases e : k' = k <;> simp [e]
theorem kix_append_old (ks : List Int) (k k' : Int) {i : Nat} (h : kix ks k = some i) : kix (ks ++ [k']) k = some i := by
  induction ks generalizing i with
  | nil => simp [kix] at h
  | cons a r ih =>
    unfold kix at h
    show (bif a == k then some 0 else (kix (r ++ [k']) k).map (· + 1)) = _
    rcases Bool.eq_false_or_eq_true (a == k) with hb | hb
    · rw [hb, cond_true] at h ⊢; exact h
    · rw [hb, cond_false] at h ⊢
      obtain ⟨j, hj, rfl⟩ := Option.map_eq_some_iff.1 h
      rw [ih hj]; rfl

theorem findNow_ix (k : Int) : ∀ (l : List MapEntry) (ks : List Int) (j : Nat), l.map (·.key) = ks.map (.int .i64) → Instr.findNow (.int .i64) (.int .i64 k) l j = some ((kix ks k).bind fun i => (l[i]?).map fun e => (j + i, e.val))
  | [], [], j, _ => rfl
  | [], _ :: _, j, h => by simp at h
  | _ :: _, [], j, h => by simp at h
  | e :: l, a :: ks, j, h => by
    simp only [List.map_cons, List.cons.injEq] at h
    obtain ⟨h1, h2⟩ := h
    unfold Instr.findNow kix
    rw [h1]
    have es : Instr.sameNow (.int .i64) (.int .i64 k) (.int .i64 a) = some (k == a) := by simp [Instr.sameNow]
    rw [es]
    by_cases e' : k = a
    · subst e'; simp
    · have h3 : (k == a) = false := by simpa using e'
      have h4 : (a == k) = false := by simpa using fun h => e' h.symm
      rw [h3, h4]
      simp only [cond_false]
      rw [findNow_ix k l ks (j + 1) h2]
      cases kix ks k with
      | none => rfl
      | some i =>
        simp only [Option.map_some, Option.bind_some, List.getElem?_cons_succ]
        congr 2
        funext x
        rw [show j + 1 + i = j + (i + 1) from by omega]

/-- a new object -/
theorem Sim.newO_ {B : Base} {G : Gh} {m : Mem} {w w' : World} (h : Sim B G m w) (hn : New w w') {l : Nat} (hl : G.kn l = false) {K : OKind} {cs : List D} {o : Obj} (hw' : w'.heap[w.heap.size]? = some o) (hok : ObjOk G w 0 K cs o) :
    ∃ G', Ext G w G' w' ∧ Sim B G' ((l, some (.obj K cs)) :: m) w' ∧ (∀ l', G'.kn l' = true → G.kn l' = true ∨ l' = l) ∧ G'.kn l = true ∧ G'.nl l = false ∧ G'.g l = w.heap.size := by
  have h0 := h.none_
  let G' : Gh := ⟨fun x => G.kn x || x == l, fun x => if x = l then w.heap.size else G.g x, fun x => G.al x && (G.nl x || decide (G.g x < w.heap.size)), G.hw, fun x => G.nl x && !(x == l), fun x => if x = l then 0 else G.cp x⟩
  have hkl : ∀ x, G.kn x = true → x ≠ l := fun x hx e => by rw [e, hl] at hx; cases hx
  have hml : mget m l = none := by
    cases hm : mget m l with
    | none => rfl
    | some c => have := h.known (l := l) (by rw [hm]; rfl); rw [hl] at this; cases this
  have hgl : G'.g l = w.heap.size := by simp [G']
  have hG1 : ∀ x, G.kn x = true → G'.kn x = true ∧ G'.g x = G.g x ∧ G'.nl x = G.nl x ∧ G'.cp x = G.cp x ∧ (G'.al x = true → G.al x = true ∧ (G.nl x = false → G'.hw (G.g x) = G.hw (G.g x))) := fun x hkx => by
    have hne := hkl x hkx
    refine ⟨by simp [G', hkx], by simp [G', hne], by simp [G', hne], by simp [G', hne], fun ha => ?_⟩
    simp only [G', Bool.and_eq_true] at ha
    exact ⟨ha.1, fun _ => rfl⟩
  have hx0 := Ext.grow h.data hn
  have hx : Ext G w G' w' := ⟨fun x hk => by
    obtain ⟨a1, a2, a3, a4, a5⟩ := hG1 x hk
    exact ⟨a1, a2, a5, a3, a4⟩, fun _ => Nat.le_refl _, hx0.cell, hx0.size⟩
  obtain ⟨_, hS⟩ := h.fresh_ (G' := G') (m' := (l, some (.obj K cs)) :: m) (c := .obj K cs) hn hl ⟨hG1, fun x => by
      by_cases e : x = l
      · subst e; exact .inr (.inr ⟨rfl, mget_eq _ _ _⟩)
      · exact .inl (mget_ne _ _ e)⟩
    (fun x E' s' hne hm => by
      rw [mget_ne _ _ hne] at hm
      obtain ⟨a1, a2, a3⟩ := h.tok x E' s' hm
      simp only [G', Bool.or_eq_true, Bool.and_eq_true, decide_eq_true_iff]
      refine ⟨a2, ?_⟩
      cases hnl : G.nl x with
      | true => exact .inl rfl
      | false => exact .inr (h.lt (by rw [hm]; rfl) hnl))
    (fun _ _ => rfl) (fun b hb => by
      obtain ⟨vs', T', fr, hv', hs⟩ := h.data b hb
      exact ⟨vs', T', fr, (hn.block _ (Array.getElem?_eq_some_iff.1 hv').1).trans hv', hs⟩) hml (fun _ => hgl)
    ⟨fun T' cs' hm => by rw [mget_eq] at hm; simp at hm, fun E' s' hm => by rw [mget_eq] at hm; simp at hm, fun K' cs' hm => by
      rw [mget_eq] at hm
      simp only [Option.some.injEq, Loc.obj.injEq] at hm
      obtain ⟨rfl, rfl⟩ := hm
      exact ⟨by simp [G'], fun hn => by simp [G'] at hn, fun _ => ⟨by rw [hgl]; exact h0, o, by rw [hgl]; exact hw', by simp [G']; exact hok.mono hx⟩⟩⟩
  exact ⟨G', hx, hS, fun x hk => by simpa [G'] using hk, by simp [G'], by simp [G'], hgl⟩

theorem mapObj {B : Base} {G : Gh} {w : World} {m : Mem} (hs : Sim B G m w) {l : Nat} {ks : List Int} {cs : List D} (hm : mget m l = some (.obj (.map ks) cs)) :
    G.kn l = true ∧ G.nl l = false ∧ ∃ ents : Array MapEntry, w.heap[G.g l]? = some (.map ents ents.size) ∧ ents.toList.map (·.key) = ks.map (.int .i64) ∧ ents.toList.map (·.born) = List.range ents.size ∧ Reps G w cs (ents.map (·.val)) ∧ ks.length = ents.size := by
  obtain ⟨k1, k2, k3⟩ := hs.obj l _ _ hm
  have hnl : G.nl l = false := by
    cases h : G.nl l with
    | false => rfl
    | true => exact (k2 h).elim
  obtain ⟨k4, k5, o, k6, vs, ⟨ents, rfl, rfl, c1, c2⟩, k7, k8⟩ := k3 hnl
  exact ⟨k1, hnl, ents, k6, c1, c2, k7, by have := congrArg List.length c1; simp at this; exact this.symm⟩

theorem setBlock_grown (w : World) (r : Nat) (o : Obj) : w.grownBy (setBlock w r o) (some r) :=
  ⟨rfl, rfl, rfl, by simp [setBlock], fun k hk hne => by
    have : r ≠ k := fun e => hne (by rw [e])
    simp [setBlock, this]⟩
theorem setBlock_at {w : World} {r : Nat} {o o' : Obj} (h : w.heap[r]? = some o) : (setBlock w r o').heap[r]? = some o' := by
  have hlt : r < w.heap.size := (Array.getElem?_eq_some_iff.1 h).1
  simp [setBlock, hlt]

section
variable {P : Program} {o : Oper} {ρ : Slots} {m : Mem}
/-- a map is made -/
theorem r_makeMap {T : TypeId} (l : Nat) (ho : o.op = .makeMap T none) : OpSound P o ⟨.mp l, [], [(l, some (.obj (.map []) []))], [l]⟩ ρ m := by
  intro B G a w m' K Q hs h hag hn hK
  obtain ⟨G', g1, g2, g3, g4, g5, g6⟩ := hs.newO_ (new_alloc (new_refl w) (.map #[] 0)) (hn l (by simp)) (K := .map []) (cs := []) (heap_alloc_new w _) ⟨#[], ⟨#[], rfl, by simp, rfl, rfl⟩, Reps.nil, fun d hd => by simp at hd⟩
  have hex : (execOp a.eval o).run P w = .ok (.value (.map (some w.heap.size))) (w.alloc (.map #[] 0)) := by
    simp [execOp, ho, Instr.makeMap, Result.andThen, Sem.run_bind]
  unfold Oper.wp
  rw [hex, Oper.upon_value]
  refine hK _ _ G' g1 g2 ?_ fun l' hl => (g3 l' hl).imp id fun h => by simp [h]
  rw [← g6]
  exact .mp l g4 g5

/-- what is found in a map -/
theorem r_lookupY {T kt et : TypeId} {x ix : Operand} {l i : Nat} {ks : List Int} {cs : List D} {k : Int} {d : D} (hT : P.underlying T = some (.map kt et)) (hk : P.underlying kt = some (.int .i64)) (ho : o.op = .lookup T x ix true) (hx : oev ρ x = some (.mp l)) (hix : oev ρ ix = some (.int .i64 k))
    (hm : mget m l = some (.obj (.map ks) cs)) (hi : kix ks k = some i) (hd : cs[i]? = some d) : OpSound P o ⟨.tup [d, .bool true], [l], [], []⟩ ρ m := by
  refine sound_val fun B G a w m' hs h hrd => ?_
  obtain ⟨_, _, ents, e1, e2, e3, e4, e5⟩ := mapObj hs ((hrd l (by simp)).trans hm)
  have hp := h x (by simp [ho, Op.operands]) _ hx
  have hq := h ix (by simp [ho, Op.operands]) _ hix
  generalize hev : a.eval x = vx at hp
  generalize hevi : a.eval ix = vi at hq
  cases hp
  cases hq
  have hlt := (kix_lt hi).1
  have hent : ents[i]? = some (ents[i]'(by omega)) := Array.getElem?_eq_getElem _
  have hf := findNow_ix k ents.toList ks 0 e2
  rw [hi] at hf
  simp only [Option.bind_some, Array.getElem?_toList, hent, Option.map_some, Nat.zero_add] at hf
  have hrep : Rep G w d (ents[i]'(by omega)).val := e4.2 i d _ hd (by simp [hent])
  refine ⟨.tuple #[(ents[i]'(by omega)).val, .bool true], ?_, ?_⟩
  · simp [execOp, ho, hev, hevi, Instr.lookup, Sem.run_bind, run_underlying hT, MapKept.run_getObj_map e1, MapKept.run_checkKey hk (show IsKey (.int .i64) (.int .i64 k) from rfl), MapKept.run_findKey hk hf, Result.andThen]
  · exact .tup _ _ rfl (Reps.cons hrep (vs := [.bool true]) (Reps.cons (.bool true) (vs := []) Reps.nil)).2
/-- what is not found -/
theorem r_lookupN {T kt et : TypeId} {x ix : Operand} {l : Nat} {ks : List Int} {cs : List D} {k : Int} {dz : D} {z : Value} (hT : P.underlying T = some (.map kt et)) (hk : P.underlying kt = some (.int .i64)) (hz : (P.info? et).bind (·.zero) = some z) (hzr : ∀ G w, Rep G w dz z) (ho : o.op = .lookup T x ix true) (hx : oev ρ x = some (.mp l)) (hix : oev ρ ix = some (.int .i64 k))
    (hm : mget m l = some (.obj (.map ks) cs)) (hi : kix ks k = none) : OpSound P o ⟨.tup [dz, .bool false], [l], [], []⟩ ρ m := by
  refine sound_val fun B G a w m' hs h hrd => ?_
  obtain ⟨_, _, ents, e1, e2, e3, e4, e5⟩ := mapObj hs ((hrd l (by simp)).trans hm)
  have hp := h x (by simp [ho, Op.operands]) _ hx
  have hq := h ix (by simp [ho, Op.operands]) _ hix
  generalize hev : a.eval x = vx at hp
  generalize hevi : a.eval ix = vi at hq
  cases hp
  cases hq
  have hf := findNow_ix k ents.toList ks 0 e2
  rw [hi, Option.bind_none] at hf
  obtain ⟨inf, hinf, hzz⟩ := Option.bind_eq_some_iff.1 hz
  refine ⟨.tuple #[z, .bool false], ?_, ?_⟩
  · simp [execOp, ho, hev, hevi, Instr.lookup, Sem.run_bind, run_underlying hT, MapKept.run_getObj_map e1, MapKept.run_checkKey hk (show IsKey (.int .i64) (.int .i64 k) from rfl), MapKept.run_findKey hk hf, zeroValue, typeInfo, hinf, hzz, Result.andThen]
  · exact .tup _ _ rfl (Reps.cons (hzr G w) (vs := [.bool false]) (Reps.cons (.bool false) (vs := []) Reps.nil)).2

theorem born_push {ents : Array MapEntry} (h : ents.toList.map (·.born) = List.range ents.size) (key val : Value) : (ents.push { key, val, born := ents.size }).toList.map (·.born) = List.range (ents.push { key, val, born := ents.size }).size := by
  simp [h, List.range_succ]
theorem modify_val (ents : Array MapEntry) (i : Nat) (key v : Value) (hk : (ents[i]?).map (·.key) = some key) : (ents.modify i fun e => { e with key, val := v }).toList.map (·.key) = ents.toList.map (·.key) ∧ (ents.modify i fun e => { e with key, val := v }).toList.map (·.born) = ents.toList.map (·.born) ∧ (ents.modify i fun e => { e with key, val := v }).map (·.val) = (ents.map (·.val)).setIfInBounds i v := by
  refine ⟨?_, ?_, ?_⟩
  · apply List.ext_getElem?
    intro j
    simp only [List.getElem?_map, Array.getElem?_toList, Array.getElem?_modify]
    by_cases e : i = j
    · subst e
      rw [if_pos rfl]
      obtain ⟨x, hx, hxk⟩ := Option.map_eq_some_iff.1 hk
      rw [hx]; simp [hxk]
    · rw [if_neg e]
  · apply List.ext_getElem?
    intro j
    simp only [List.getElem?_map, Array.getElem?_toList, Array.getElem?_modify]
    by_cases e : i = j
    · subst e
      rw [if_pos rfl]
      cases ents[i]? <;> rfl
    · rw [if_neg e]
  · apply Array.ext_getElem?
    intro j
    simp only [Array.getElem?_map, Array.getElem?_modify, Array.getElem?_setIfInBounds]
    by_cases e : i = j
    · subst e
      by_cases hlt : i < ents.size
      · simp [hlt]
      · simp [hlt]
    · simp [e]
theorem Reps.set_ {G : Gh} {w : World} {cs : List D} {vs : Array Value} (h : Reps G w cs vs) (i : Nat) {d : D} {v : Value} (hd : Rep G w d v) : Reps G w (cs.set i d) (vs.setIfInBounds i v) := by
  refine ⟨by simp [h.1], fun j d' v' h1 h2 => ?_⟩
  rw [List.getElem?_set] at h1
  rw [Array.getElem?_setIfInBounds] at h2
  by_cases e : i = j
  · subst e
    rw [if_pos rfl] at h1 h2
    split at h1
    · split at h2
      · injection h1 with h1; injection h2 with h2
        subst h1 h2; exact hd
      · cases h2
    · cases h1
  · rw [if_neg e] at h1 h2
    exact h.2 j d' v' h1 h2
theorem Reps.push_ {G : Gh} {w : World} {cs : List D} {vs : Array Value} (h : Reps G w cs vs) {d : D} {v : Value} (hd : Rep G w d v) : Reps G w (cs ++ [d]) (vs.push v) := by
  have hl := h.1
  refine ⟨by simp [hl], fun j d' v' h1 h2 => ?_⟩
  rw [Array.getElem?_push] at h2
  rcases Nat.lt_or_ge j cs.length with hj | hj
  · rw [List.getElem?_append_left hj] at h1
    rw [if_neg (by omega)] at h2
    exact h.2 j d' v' h1 h2
  · rw [List.getElem?_append_right hj] at h1
    have e : j - cs.length = 0 := by
      rcases Nat.eq_zero_or_pos (j - cs.length) with e | e
      · exact e
      · rw [List.getElem?_eq_none (by simp; omega)] at h1; cases h1
    rw [e] at h1
    rw [if_pos (by omega)] at h2
    simp at h1 h2
    subst h1 h2; exact hd
/-- a map is written at a key that is new -/
theorem r_mapUpdateN {T kt et : TypeId} {x ix y : Operand} {l : Nat} {ks : List Int} {cs : List D} {k : Int} {d : D} (hT : P.underlying T = some (.map kt et)) (hk : P.underlying kt = some (.int .i64)) (ho : o.op = .mapUpdate T x ix y) (hx : oev ρ x = some (.mp l)) (hix : oev ρ ix = some (.int .i64 k)) (hy : oev ρ y = some d) (hdst : o.dst = none)
    (hm : mget m l = some (.obj (.map ks) cs)) (hi : kix ks k = none) : OpSound P o ⟨.undef, [], [(l, some (.obj (.map (ks ++ [k])) (cs ++ [d])))], []⟩ ρ m := by
  intro B G a w m' K Q hs h hag hn hK
  have hml : mget m' l = some (.obj (.map ks) cs) := (hag l (by unfold Eff.touch Eff.writes; simp)).trans hm
  obtain ⟨_, hnl, ents, e1, e2, e3, e4, e5⟩ := mapObj hs hml
  have hp := h x (by simp [ho, Op.operands]) _ hx
  have hq := h ix (by simp [ho, Op.operands]) _ hix
  have hyr := h y (by simp [ho, Op.operands]) _ hy
  generalize hev : a.eval x = vx at hp
  generalize hevi : a.eval ix = vi at hq
  cases hp
  cases hq
  have hf := findNow_ix k ents.toList ks 0 e2
  rw [hi, Option.bind_none] at hf
  have hrun : (execOp a.eval o).run P w = .ok .skip (setBlock w (G.g l) (.map (ents.push { key := .int .i64 k, val := a.eval y, born := ents.size }) (ents.size + 1))) := by
    simp [execOp, ho, hev, hevi, Instr.mapUpdate, Sem.run_bind, run_underlying hT, MapKept.run_getObj_map e1, MapKept.run_checkKey hk (show IsKey (.int .i64) (.int .i64 k) from rfl), MapKept.run_findKey hk hf, MapKept.run_setObj_map _ e1, Result.andThen, setBlock]
  unfold Oper.wp
  rw [hrun, Oper.upon_skip]
  have hsz : ents.size + 1 = (ents.push { key := .int .i64 k, val := a.eval y, born := ents.size }).size := by simp
  rw [hsz]
  obtain ⟨hx', hs'⟩ := hs.writeO (K' := .map (ks ++ [k])) (cs' := cs ++ [d]) hml hnl (setBlock_grown w _ (.map (ents.push { key := .int .i64 k, val := a.eval y, born := ents.size }) (ents.push { key := .int .i64 k, val := a.eval y, born := ents.size }).size)) (setBlock_at e1)
    ⟨_, ⟨_, rfl, rfl, by simp [e2], born_push e3 _ _⟩, by
      rw [Array.map_push]; exact e4.push_ hyr, fun _ _ => trivial⟩
  exact hK undef _ G hx' hs' (.undef _) fun l hl => .inl hl
/-- a map's entry for counting: a key that is new -/
theorem r_mapEntryN {T kt et : TypeId} {x ix : Operand} {l nn : Nat} {ks : List Int} {cs : List D} {k : Int} {dz : D} {z : Value} (hT : P.underlying T = some (.map kt et)) (hk : P.underlying kt = some (.int .i64)) (hz : (P.info? et).bind (·.zero) = some z) (hzr : ∀ G w, Rep G w dz z) (ho : o.op = .mapEntry T x ix) (hx : oev ρ x = some (.mp l)) (hix : oev ρ ix = some (.int .i64 k))
    (hm : mget m l = some (.obj (.map ks) cs)) (hi : kix ks k = none) (hnn : ks.length = nn) : OpSound P o ⟨.tup [dz, .int .i64 (nn : Int)], [], [(l, some (.obj (.map (ks ++ [k])) (cs ++ [dz])))], []⟩ ρ m := by
  subst hnn
  intro B G a w m' K Q hs h hag hn hK
  have hml : mget m' l = some (.obj (.map ks) cs) := (hag l (by unfold Eff.touch Eff.writes; simp)).trans hm
  obtain ⟨_, hnl, ents, e1, e2, e3, e4, e5⟩ := mapObj hs hml
  have hp := h x (by simp [ho, Op.operands]) _ hx
  have hq := h ix (by simp [ho, Op.operands]) _ hix
  generalize hev : a.eval x = vx at hp
  generalize hevi : a.eval ix = vi at hq
  cases hp
  cases hq
  have hf := findNow_ix k ents.toList ks 0 e2
  rw [hi, Option.bind_none] at hf
  obtain ⟨inf, hinf, hzz⟩ := Option.bind_eq_some_iff.1 hz
  have hrun : (execOp a.eval o).run P w = .ok (.value (.tuple #[z, goInt ents.size])) (setBlock w (G.g l) (.map (ents.push { key := .int .i64 k, val := z, born := ents.size }) (ents.size + 1))) := by
    simp [execOp, ho, hev, hevi, Instr.mapEntry, Sem.run_bind, run_underlying hT, MapKept.run_getObj_map e1, MapKept.run_checkKey hk (show IsKey (.int .i64) (.int .i64 k) from rfl), MapKept.run_findKey hk hf, MapKept.run_setObj_map _ e1, zeroValue, typeInfo, hinf, hzz, Result.andThen, setBlock]
  unfold Oper.wp
  rw [hrun, Oper.upon_value]
  have hsz : ents.size + 1 = (ents.push { key := .int .i64 k, val := z, born := ents.size }).size := by simp
  rw [hsz]
  obtain ⟨hx', hs'⟩ := hs.writeO (K' := .map (ks ++ [k])) (cs' := cs ++ [dz]) hml hnl (setBlock_grown w _ (.map (ents.push { key := .int .i64 k, val := z, born := ents.size }) (ents.push { key := .int .i64 k, val := z, born := ents.size }).size)) (setBlock_at e1)
    ⟨_, ⟨_, rfl, rfl, by simp [e2], born_push e3 _ _⟩, by
      rw [Array.map_push]; exact e4.push_ (hzr G w), fun _ _ => trivial⟩
  refine hK _ _ G hx' hs' (.tup _ _ rfl (Reps.cons (hzr _ _) (vs := [_]) (Reps.cons (d := .int .i64 (ks.length : Int)) ?_ (vs := []) Reps.nil)).2) fun l hl => .inl hl
  rw [e5]; exact .int _ _
/-- a key that is there -/
theorem r_mapEntryY {T kt et : TypeId} {x ix : Operand} {l i : Nat} {ks : List Int} {cs : List D} {k : Int} {d : D} (hT : P.underlying T = some (.map kt et)) (hk : P.underlying kt = some (.int .i64)) (ho : o.op = .mapEntry T x ix) (hx : oev ρ x = some (.mp l)) (hix : oev ρ ix = some (.int .i64 k))
    (hm : mget m l = some (.obj (.map ks) cs)) (hi : kix ks k = some i) (hd : cs[i]? = some d) : OpSound P o ⟨.tup [d, .int .i64 (i : Int)], [], [(l, some (.obj (.map ks) cs))], []⟩ ρ m := by
  intro B G a w m' K Q hs h hag hn hK
  have hml : mget m' l = some (.obj (.map ks) cs) := (hag l (by unfold Eff.touch Eff.writes; simp)).trans hm
  obtain ⟨_, hnl, ents, e1, e2, e3, e4, e5⟩ := mapObj hs hml
  have hp := h x (by simp [ho, Op.operands]) _ hx
  have hq := h ix (by simp [ho, Op.operands]) _ hix
  generalize hev : a.eval x = vx at hp
  generalize hevi : a.eval ix = vi at hq
  cases hp
  cases hq
  obtain ⟨hlt, hkey⟩ := kix_lt hi
  obtain ⟨en, hent⟩ : ∃ e, ents[i]? = some e := ⟨_, Array.getElem?_eq_getElem (by omega)⟩
  have hf := findNow_ix k ents.toList ks 0 e2
  rw [hi] at hf
  simp only [Option.bind_some, Array.getElem?_toList, hent, Option.map_some, Nat.zero_add] at hf
  have hek : en.key = .int .i64 k := by
    have h1 : (ents.toList.map (·.key))[i]? = some en.key := by simp [hent]
    rw [e2, List.getElem?_map, hkey] at h1
    simpa using h1.symm
  have heb : en.born = i := by
    have h1 : (ents.toList.map (·.born))[i]? = some en.born := by simp [hent]
    rw [e3, List.getElem?_range (by omega)] at h1
    simpa using h1.symm
  have hrun : (execOp a.eval o).run P w = .ok (.value (.tuple #[en.val, goInt i])) (setBlock w (G.g l) (.map (ents.modify i fun e => { e with key := .int .i64 k }) ents.size)) := by
    simp [execOp, ho, hev, hevi, Instr.mapEntry, Sem.run_bind, run_underlying hT, MapKept.run_getObj_map e1, MapKept.run_checkKey hk (show IsKey (.int .i64) (.int .i64 k) from rfl), MapKept.run_findKey hk hf, MapKept.run_setObj_map _ e1, hent, hek, heb, MapKept.run_keyThatStays (show IsKey (.int .i64) (.int .i64 k) from rfl), Result.andThen, setBlock]
  have hself : (ents.modify i fun e => { e with key := .int .i64 k }) = ents := by
    apply Array.ext_getElem?
    intro j
    rw [Array.getElem?_modify]
    by_cases e : i = j
    · subst e
      rw [if_pos rfl, hent, Option.map_some, ← hek]
    · rw [if_neg e]
  rw [hself] at hrun
  unfold Oper.wp
  rw [hrun, Oper.upon_value]
  obtain ⟨hx', hs'⟩ := hs.writeO (K' := .map ks) (cs' := cs) hml hnl (setBlock_grown w _ (.map ents ents.size)) (setBlock_at e1) ⟨_, ⟨ents, rfl, rfl, e2, e3⟩, e4, fun _ _ => trivial⟩
  have hrep : Rep G w d en.val := e4.2 i d _ hd (by simp [hent])
  exact hK _ _ G hx' hs' (.tup _ _ rfl (Reps.cons (hrep.mono hx') (vs := [_]) (Reps.cons (d := .int .i64 (i : Int)) (.int _ _) (vs := []) Reps.nil)).2) fun l hl => .inl hl
/-- what an entry is counted on to -/
theorem r_entryStore {T : TypeId} {x ix y : Operand} {l i : Nat} {ks : List Int} {cs cs' : List D} {d : D} (ho : o.op = .entryStore T x ix y) (hx : oev ρ x = some (.mp l)) (hix : oev ρ ix = some (.int .i64 (i : Int))) (hy : oev ρ y = some d) (hdst : o.dst = none)
    (hm : mget m l = some (.obj (.map ks) cs)) (hi : i < ks.length) (hcs : cs.set i d = cs') : OpSound P o ⟨.undef, [], [(l, some (.obj (.map ks) cs'))], []⟩ ρ m := by
  subst hcs
  intro B G a w m' K Q hs h hag hn hK
  have hml : mget m' l = some (.obj (.map ks) cs) := (hag l (by unfold Eff.touch Eff.writes; simp)).trans hm
  obtain ⟨_, hnl, ents, e1, e2, e3, e4, e5⟩ := mapObj hs hml
  have hp := h x (by simp [ho, Op.operands]) _ hx
  have hq := h ix (by simp [ho, Op.operands]) _ hix
  have hyr := h y (by simp [ho, Op.operands]) _ hy
  generalize hev : a.eval x = vx at hp
  generalize hevi : a.eval ix = vi at hq
  cases hp
  cases hq
  obtain ⟨en, hent⟩ : ∃ e, ents[i]? = some e := ⟨_, Array.getElem?_eq_getElem (by omega)⟩
  have hfind : ents.findIdx? (fun e => (e.born : Int) == (i : Int)) = some i := by
    rw [Array.findIdx?_eq_some_iff_getElem]
    have hb : ∀ (j : Nat) (hj : j < ents.size), ents[j].born = j := fun j hj => by
      have h1 : (ents.toList.map (·.born))[j]? = some ents[j].born := by simp [Array.getElem?_eq_getElem hj]
      rw [e3, List.getElem?_range hj] at h1
      simpa using h1.symm
    refine ⟨by omega, by simp [hb], fun j hj => ?_⟩
    rw [hb j (by omega)]
    simp; omega
  have hrun : (execOp a.eval o).run P w = .ok .skip (setBlock w (G.g l) (.map (ents.modify i fun e => { e with val := a.eval y }) ents.size)) := by
    simp [execOp, ho, hev, hevi, Instr.entryStore, Sem.run_bind, MapKept.run_getObj_map e1, MapKept.run_setObj_map _ e1, asInt, asIntOf, hfind, Result.andThen, setBlock]
  obtain ⟨m1, m2, m3⟩ := modify_val ents i en.key (a.eval y) (by rw [hent]; rfl)
  have hself : (ents.modify i fun e => { e with val := a.eval y }) = (ents.modify i fun e => { e with key := en.key, val := a.eval y }) := by
    apply Array.ext_getElem?
    intro j
    rw [Array.getElem?_modify, Array.getElem?_modify]
    by_cases e : i = j
    · subst e
      rw [if_pos rfl, if_pos rfl, hent]; rfl
    · rw [if_neg e, if_neg e]
  rw [hself] at hrun
  unfold Oper.wp
  rw [hrun, Oper.upon_skip]
  have hsz : ents.size = (ents.modify i fun e => { e with key := en.key, val := a.eval y }).size := by simp
  obtain ⟨hx', hs'⟩ := hs.writeO (K' := .map ks) (cs' := cs.set i d) hml hnl (setBlock_grown w _ (.map (ents.modify i fun e => { e with key := en.key, val := a.eval y }) ents.size)) (setBlock_at e1)
    ⟨_, ⟨_, by rw [← hsz], rfl, m1.trans e2, by rw [m2, e3, ← hsz]⟩, by rw [m3]; exact e4.set_ i hyr, fun _ _ => trivial⟩
  exact hK undef _ G hx' hs' (.undef _) fun l hl => .inl hl
/-- the walk over a map begins -/
theorem r_rangeMap {T kt et : TypeId} {x : Operand} {l nn : Nat} {ks : List Int} {cs : List D} (j : Nat) (hT : P.underlying T = some (.map kt et)) (ho : o.op = .range T x) (hx : oev ρ x = some (.mp l)) (hm : mget m l = some (.obj (.map ks) cs)) (hnn : ks.length = nn) :
    OpSound P o ⟨.ptr j 0, [l], [(j, some (.obj (.iter nn []) [.mp l]))], [j]⟩ ρ m := by
  subst hnn
  intro B G a w m' K Q hs h hag hn hK
  have hml : mget m' l = some (.obj (.map ks) cs) := (hag l (by unfold Eff.touch Eff.writes; simp)).trans hm
  obtain ⟨hkn, hnl, ents, e1, e2, e3, e4, e5⟩ := mapObj hs hml
  have hp := h x (by simp [ho, Op.operands]) _ hx
  generalize hev : a.eval x = vx at hp
  cases hp
  have hrun : (execOp a.eval o).run P w = .ok (.value (.pointer (some ⟨w.heap.size, 0, none⟩))) (w.alloc (.mapIter (some (G.g l)) ents.size #[] ents.size)) := by
    simp [execOp, ho, hev, run_range_map w T kt et (G.g l) ents ents.size hT e1, Sem.run_bind, Result.andThen]
  obtain ⟨G', g1, g2, g3, g4, g5, g6⟩ := hs.newO_ (new_alloc (new_refl w) (.mapIter (some (G.g l)) ents.size #[] ents.size)) (hn j (by simp)) (K := .iter ks.length []) (cs := [.mp l]) (heap_alloc_new w _)
    ⟨#[.map (some (G.g l))], ⟨_, rfl, by rw [e5]⟩, Reps.cons (.mp l hkn hnl) (vs := []) Reps.nil, fun _ _ => trivial⟩
  unfold Oper.wp
  rw [hrun, Oper.upon_value]
  refine hK _ _ G' g1 g2 ?_ fun l' hl => (g3 l' hl).imp id fun h => by simp [h]
  rw [← g6]
  exact .ptr j 0 g4
end

section
variable {P : Program} {ρ : Slots} {m : Mem} {nx : Nat} {ops : Array Oper} {os : List Oper} {K : List Eff → Slots → Mem → Nat → Prop}
theorem k_makeMap {t : Tmp} {T V : TypeId} {pos : String} {af : Array Edge} {gd : Option (Nat × Bool)} (hg : gok ops ρ ⟨some t, .makeMap T none, V, pos, af, gd⟩ = some true)
    (hh : R P ops os (fun Es => K (⟨.mp nx, [], [(nx, some (.obj (.map []) []))], [nx]⟩ :: Es)) ((t, .mp nx) :: ρ) ((nx, some (.obj (.map []) [])) :: m) (nx + 1)) :
    R P ops (⟨some t, .makeMap T none, V, pos, af, gd⟩ :: os) K ρ m nx := R_new hg (r_makeMap nx rfl) rfl hh
theorem k_lookupY {t : Tmp} {T kt et : TypeId} {x ix : Operand} {l i : Nat} {ks : List Int} {cs : List D} {k : Int} {d : D} {V : TypeId} {pos : String} {af : Array Edge} {gd : Option (Nat × Bool)} (hg : gok ops ρ ⟨some t, .lookup T x ix true, V, pos, af, gd⟩ = some true)
    (hT : P.underlying T = some (.map kt et)) (hk : P.underlying kt = some (.int .i64)) (hx : oev ρ x = some (.mp l)) (hix : oev ρ ix = some (.int .i64 k)) (hm : mget m l = some (.obj (.map ks) cs)) (hi : kix ks k = some i) (hd : cs[i]? = some d)
    (hh : R P ops os (fun Es => K (⟨.tup [d, .bool true], [l], [], []⟩ :: Es)) ((t, .tup [d, .bool true]) :: ρ) m nx) :
    R P ops (⟨some t, .lookup T x ix true, V, pos, af, gd⟩ :: os) K ρ m nx := R_cons hg (r_lookupY hT hk rfl hx hix hm hi hd) rfl hh
theorem k_lookupN {t : Tmp} {T kt et : TypeId} {x ix : Operand} {l : Nat} {ks : List Int} {cs : List D} {k : Int} {dz : D} {z : Value} {V : TypeId} {pos : String} {af : Array Edge} {gd : Option (Nat × Bool)} (hg : gok ops ρ ⟨some t, .lookup T x ix true, V, pos, af, gd⟩ = some true)
    (hT : P.underlying T = some (.map kt et)) (hk : P.underlying kt = some (.int .i64)) (hz : (P.info? et).bind (·.zero) = some z) (hzr : ∀ G w, Rep G w dz z) (hx : oev ρ x = some (.mp l)) (hix : oev ρ ix = some (.int .i64 k)) (hm : mget m l = some (.obj (.map ks) cs)) (hi : kix ks k = none)
    (hh : R P ops os (fun Es => K (⟨.tup [dz, .bool false], [l], [], []⟩ :: Es)) ((t, .tup [dz, .bool false]) :: ρ) m nx) :
    R P ops (⟨some t, .lookup T x ix true, V, pos, af, gd⟩ :: os) K ρ m nx := R_cons hg (r_lookupN hT hk hz hzr rfl hx hix hm hi) rfl hh
theorem k_mapUpdateN {T kt et : TypeId} {x ix y : Operand} {l : Nat} {ks : List Int} {cs : List D} {k : Int} {d : D} {V : TypeId} {pos : String} {af : Array Edge} {gd : Option (Nat × Bool)} (hg : gok ops ρ ⟨none, .mapUpdate T x ix y, V, pos, af, gd⟩ = some true)
    (hT : P.underlying T = some (.map kt et)) (hk : P.underlying kt = some (.int .i64)) (hx : oev ρ x = some (.mp l)) (hix : oev ρ ix = some (.int .i64 k)) (hy : oev ρ y = some d) (hm : mget m l = some (.obj (.map ks) cs)) (hi : kix ks k = none)
    (hh : R P ops os (fun Es => K (⟨.undef, [], [(l, some (.obj (.map (ks ++ [k])) (cs ++ [d])))], []⟩ :: Es)) ρ ((l, some (.obj (.map (ks ++ [k])) (cs ++ [d]))) :: m) nx) :
    R P ops (⟨none, .mapUpdate T x ix y, V, pos, af, gd⟩ :: os) K ρ m nx := R_cons hg (r_mapUpdateN hT hk rfl hx hix hy rfl hm hi) rfl hh
theorem k_mapUpdateE {T kt et : TypeId} {x ix y : Operand} {l : Nat} {ks ks' : List Int} {cs cs' : List D} {k : Int} {d : D} {V : TypeId} {pos : String} {af : Array Edge} {gd : Option (Nat × Bool)} (hg : gok ops ρ ⟨none, .mapUpdate T x ix y, V, pos, af, gd⟩ = some true)
    (hT : P.underlying T = some (.map kt et)) (hk : P.underlying kt = some (.int .i64)) (hx : oev ρ x = some (.mp l)) (hix : oev ρ ix = some (.int .i64 k)) (hy : oev ρ y = some d) (hm : mget m l = some (.obj (.map ks) cs)) (hi : kix ks k = none) (hks : ks ++ [k] = ks') (hcs : cs ++ [d] = cs')
    (hh : R P ops os (fun Es => K (⟨.undef, [], [(l, some (.obj (.map ks') cs'))], []⟩ :: Es)) ρ ((l, some (.obj (.map ks') cs')) :: m) nx) :
    R P ops (⟨none, .mapUpdate T x ix y, V, pos, af, gd⟩ :: os) K ρ m nx := by
  subst hks hcs
  exact k_mapUpdateN hg hT hk hx hix hy hm hi hh
theorem k_mapEntryN {t : Tmp} {T kt et : TypeId} {x ix : Operand} {l nn : Nat} {ks : List Int} {cs : List D} {k : Int} {dz : D} {z : Value} {V : TypeId} {pos : String} {af : Array Edge} {gd : Option (Nat × Bool)} (hg : gok ops ρ ⟨some t, .mapEntry T x ix, V, pos, af, gd⟩ = some true)
    (hT : P.underlying T = some (.map kt et)) (hk : P.underlying kt = some (.int .i64)) (hz : (P.info? et).bind (·.zero) = some z) (hzr : ∀ G w, Rep G w dz z) (hx : oev ρ x = some (.mp l)) (hix : oev ρ ix = some (.int .i64 k)) (hm : mget m l = some (.obj (.map ks) cs)) (hi : kix ks k = none) (hnn : ks.length = nn)
    (hh : R P ops os (fun Es => K (⟨.tup [dz, .int .i64 (nn : Int)], [], [(l, some (.obj (.map (ks ++ [k])) (cs ++ [dz])))], []⟩ :: Es)) ((t, .tup [dz, .int .i64 (nn : Int)]) :: ρ) ((l, some (.obj (.map (ks ++ [k])) (cs ++ [dz]))) :: m) nx) :
    R P ops (⟨some t, .mapEntry T x ix, V, pos, af, gd⟩ :: os) K ρ m nx := R_cons hg (r_mapEntryN hT hk hz hzr rfl hx hix hm hi hnn) rfl hh
theorem k_mapEntryY {t : Tmp} {T kt et : TypeId} {x ix : Operand} {l i : Nat} {ks : List Int} {cs : List D} {k : Int} {d : D} {V : TypeId} {pos : String} {af : Array Edge} {gd : Option (Nat × Bool)} (hg : gok ops ρ ⟨some t, .mapEntry T x ix, V, pos, af, gd⟩ = some true)
    (hT : P.underlying T = some (.map kt et)) (hk : P.underlying kt = some (.int .i64)) (hx : oev ρ x = some (.mp l)) (hix : oev ρ ix = some (.int .i64 k)) (hm : mget m l = some (.obj (.map ks) cs)) (hi : kix ks k = some i) (hd : cs[i]? = some d)
    (hh : R P ops os (fun Es => K (⟨.tup [d, .int .i64 (i : Int)], [], [(l, some (.obj (.map ks) cs))], []⟩ :: Es)) ((t, .tup [d, .int .i64 (i : Int)]) :: ρ) ((l, some (.obj (.map ks) cs)) :: m) nx) :
    R P ops (⟨some t, .mapEntry T x ix, V, pos, af, gd⟩ :: os) K ρ m nx := R_cons hg (r_mapEntryY hT hk rfl hx hix hm hi hd) rfl hh
theorem k_entryStore {T : TypeId} {x ix y : Operand} {l i : Nat} {ks : List Int} {cs cs' : List D} {d : D} {V : TypeId} {pos : String} {af : Array Edge} {gd : Option (Nat × Bool)} (hg : gok ops ρ ⟨none, .entryStore T x ix y, V, pos, af, gd⟩ = some true)
    (hx : oev ρ x = some (.mp l)) (hix : oev ρ ix = some (.int .i64 (i : Int))) (hy : oev ρ y = some d) (hm : mget m l = some (.obj (.map ks) cs)) (hi : i < ks.length) (hcs : cs.set i d = cs')
    (hh : R P ops os (fun Es => K (⟨.undef, [], [(l, some (.obj (.map ks) cs'))], []⟩ :: Es)) ρ ((l, some (.obj (.map ks) cs')) :: m) nx) :
    R P ops (⟨none, .entryStore T x ix y, V, pos, af, gd⟩ :: os) K ρ m nx := R_cons hg (r_entryStore rfl hx hix hy rfl hm hi hcs) rfl hh
theorem k_rangeMap {t : Tmp} {T kt et : TypeId} {x : Operand} {l nn : Nat} {ks : List Int} {cs : List D} {V : TypeId} {pos : String} {af : Array Edge} {gd : Option (Nat × Bool)} (hg : gok ops ρ ⟨some t, .range T x, V, pos, af, gd⟩ = some true)
    (hT : P.underlying T = some (.map kt et)) (hx : oev ρ x = some (.mp l)) (hm : mget m l = some (.obj (.map ks) cs)) (hnn : ks.length = nn)
    (hh : R P ops os (fun Es => K (⟨.ptr nx 0, [l], [(nx, some (.obj (.iter nn []) [.mp l]))], [nx]⟩ :: Es)) ((t, .ptr nx 0) :: ρ) ((nx, some (.obj (.iter nn []) [.mp l])) :: m) (nx + 1)) :
    R P ops (⟨some t, .range T x, V, pos, af, gd⟩ :: os) K ρ m nx := R_new hg (r_rangeMap nx hT rfl hx hm hnn) rfl hh
end
end Go.Proofs.Ytnlacdclnhoghaa
