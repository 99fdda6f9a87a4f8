/- Regions over data as trees: what is shown of the operations in the order of the text holds in whatever order they are carried out, if those that meet are bound in that order. Of any program. No conditions. -/
import Derived.Test.YtcfefmbbbfdppaaGreatDoorSD
namespace Go.Proofs.YtcfefmbbbfdppaaGreatDoor
open Go.RowKit
set_option linter.unusedVariables false
structure Eff where
  d : D
  rd : List Nat
  wr : Mem
  nw : List Nat
def Eff.writes (E : Eff) (l : Nat) : Bool := E.wr.any fun x => Nat.beq x.1 l
def Eff.touch (E : Eff) (l : Nat) : Bool := (E.rd.any fun x => Nat.beq x l) || E.writes l
def Eff.skip : Eff := ⟨.tup [], [], [], []⟩
def Eff.val (d : D) : Eff := ⟨d, [], [], []⟩
theorem mget_append (x m : Mem) (l : Nat) : mget (x ++ m) l = if (x.any fun y => Nat.beq y.1 l) then mget x l else mget m l := by
  induction x with
  | nil => simp
  | cons y ys ih =>
    obtain ⟨k, c⟩ := y
    simp only [List.cons_append, mget, List.any_cons]
    rcases Bool.eq_false_or_eq_true (Nat.beq k l) with h | h
    · simp only [h, cond_true, Bool.true_or, if_true]
    · simp only [h, cond_false, Bool.false_or]; exact ih
def ofVal : Value → Option D
  | .int k n => some (.int k n)
  | .bool b => some (.bool b)
  | .string s => some (.str s)
  | .slice none 0 0 => some (.slice .nil 0 [])
  | .pointer none => some (.raw (.pointer none))
  | .nilFunc => some (.raw .nilFunc)
  | .map none => some (.raw (.map none))
  | .nilIface => some (.raw .nilIface)
  | _ => none
theorem ofVal_rep {G : Gh} {w : World} {v : Value} {d : D} (h : ofVal v = some d) : Rep G w d v := by
  unfold ofVal at h
  split at h <;> cases h
  · exact .int _ _
  · exact .bool _
  · exact .str _
  · exact .nil _
  all_goals exact .raw _ rfl
theorem ofVal_one {v : Value} {d : D} (h : ofVal v = some d) : d.one = true := by
  unfold ofVal at h
  split at h <;> cases h <;> rfl
def oev (ρ : Slots) : Operand → Option D
  | .tmp t => sget ρ t
  | .const v => ofVal v
  | .func f => some (.fn f [])
  | .global g => some (.raw (.pointer (some ⟨g, 0, none⟩)))
section
variable {P : Program}
def OpSound (P : Program) (o : Oper) (E : Eff) (ρ : Slots) (m : Mem) : Prop :=
  ∀ (B : Base) (G : Gh) (a : Act) (w : World) (m' : Mem) (K : Act → World → Prop) (Q : Exit → Act → World → Prop), Sim B G m' w →
    (∀ x ∈ o.op.operands, ∀ d, oev ρ x = some d → Rep G w d (a.eval x)) → (∀ l, E.touch l = true → mget m' l = mget m l) → (∀ l ∈ E.nw, G.kn l = false) →
    (∀ v w' G', Ext G w G' w' → Sim B G' (E.wr ++ m') w' → Rep G' w' E.d v → (∀ l, G'.kn l = true → G.kn l = true ∨ l ∈ E.nw) → K (a.put o.dst v) w') → o.wp P a w K Q
def gok (ops : Array Oper) (ρ : Slots) (o : Oper) : Option Bool :=
  match o.guard with
  | none => some true
  | some (k, want) => match (ops[k]?).bind (·.dst) with
    | none => none
    | some t => match sget ρ t with
      | some (.bool b) => some (b == want)
      | some (.tup []) => some false
      | _ => none
def Step (P : Program) (ops : Array Oper) (o : Oper) (E : Eff) (ρ : Slots) (m : Mem) : Prop :=
  (gok ops ρ o = some true ∧ OpSound P o E ρ m) ∨ (gok ops ρ o = some false ∧ E = Eff.skip)
inductive Run (P : Program) (ops : Array Oper) : List Oper → Slots → Mem → Nat → List Eff → Slots → Mem → Nat → Prop where
  | nil (ρ : Slots) (m : Mem) (nx : Nat) : Run P ops [] ρ m nx [] ρ m nx
  | step {o : Oper} {os : List Oper} {ρ ρ' : Slots} {m m' : Mem} {nx nx1 nx' : Nat} {E : Eff} {Es : List Eff} (hs : Step P ops o E ρ m) (hn : nx ≤ nx1) (hw : ∀ l ∈ E.nw, nx ≤ l ∧ l < nx1)
      (t : Run P ops os (sput ρ o.dst E.d) (E.wr ++ m) nx1 Es ρ' m' nx') : Run P ops (o :: os) ρ m nx (E :: Es) ρ' m' nx'
structure SimS (B : Base) (G : Gh) (N : Nat) (ρ : Slots) (m : Mem) (nx : Nat) (a : Act) (w : World) : Prop where
  sim : Sim B G m w
  defers : a.defers = []
  size : a.tmps.size = N
  slots : ∀ t d, sget ρ t = some d → Rep G w d (a.eval (.tmp t))
  fresh : ∀ l, G.kn l = true → l < nx
theorem SimS.oev {B : Base} {G : Gh} {N : Nat} {ρ : Slots} {m : Mem} {nx : Nat} {a : Act} {w : World} (h : SimS B G N ρ m nx a w) {x : Operand} {d : D} (hx : oev ρ x = some d) : Rep G w d (a.eval x) := by
  cases x with
  | tmp t => exact h.slots t d hx
  | const v => exact ofVal_rep hx
  | func f =>
    simp only [Go.Proofs.YtcfefmbbbfdppaaGreatDoor.oev, Option.some.injEq] at hx
    subst hx
    exact .fn f [] #[] rfl fun i d v hd => by simp at hd
  | global g =>
    simp only [Go.Proofs.YtcfefmbbbfdppaaGreatDoor.oev, Option.some.injEq] at hx
    subst hx
    exact .raw _ rfl
theorem sget_sput (ρ : Slots) (o : Option Tmp) (d : D) (t : Nat) : sget (sput ρ o d) t = if o = some t then some d else sget ρ t := by
  cases o with
  | none => simp [sput]
  | some k =>
    simp only [sput, sget]
    by_cases h : k = t
    · subst h; simp
    · have : Nat.beq k t = false := by rw [← Bool.not_eq_true]; exact fun e => h (Nat.eq_of_beq_eq_true e)
      simp [this, h]
theorem eval_put_same (a : Act) (v : Value) (t : Nat) (h : t < a.tmps.size) : (a.put (some t) v).eval (.tmp t) = v := by
  simp [Act.eval, Act.put, h]
theorem eval_put_other (a : Act) (o : Option Tmp) (v : Value) (t : Nat) (h : o ≠ some t) : (a.put o v).eval (.tmp t) = a.eval (.tmp t) := by
  have := put_other a o v t h
  simp only [Act.eval, Array.getD_eq_getD_getElem?, this]
theorem SimS.put {B : Base} {G G' : Gh} {N : Nat} {ρ : Slots} {m m' : Mem} {nx nx' : Nat} {a : Act} {w w' : World} (h : SimS B G N ρ m nx a w) (hx : Ext G w G' w') (hs : Sim B G' m' w') (hf : ∀ l, G'.kn l = true → l < nx') {d : D} {v : Value} {o : Option Tmp} (ho : ∀ t, o = some t → t < N) (hr : Rep G' w' d v) :
    SimS B G' N (sput ρ o d) m' nx' (a.put o v) w' := by
  refine ⟨hs, by rw [put_defers]; exact h.defers, by rw [put_size]; exact h.size, fun t d' ht => ?_, hf⟩
  rw [sget_sput] at ht
  by_cases e : o = some t
  · rw [if_pos e] at ht
    injection ht with ht
    subst ht
    rw [e, eval_put_same a v t (by rw [h.size]; exact ho t e)]
    exact hr
  · rw [if_neg e] at ht
    rw [eval_put_other a o v t e]
    exact (h.slots t d' ht).mono hx
theorem gok_wanted {ops : Array Oper} {ρ : Slots} {o : Oper} {b : Bool} {a : Act} {G : Gh} {w : World} (h : gok ops ρ o = some b) (hr : ∀ k want t d, o.guard = some (k, want) → (ops[k]?).bind (·.dst) = some t → sget ρ t = some d → Rep G w d (a.eval (.tmp t)) ∧ t < a.tmps.size) : Region.wanted o (yielded ops a.tmps) = b := by
  unfold gok at h
  unfold Region.wanted
  split at h
  · rename_i hg; rw [hg]; injection h
  · rename_i k want hg
    rw [hg]
    split at h
    · cases h
    · rename_i t ht
      split at h
      · rename_i b' hb
        injection h with h
        obtain ⟨hr1, hr2⟩ := hr k want t _ hg ht hb
        have hv : a.eval (.tmp t) = .bool b' := (show ∀ v, Rep G w (.bool b') v → v = .bool b' from fun v h => by cases h; rfl) _ hr1
        have : a.tmps[t]? = some (.bool b') := by
          have e : a.eval (.tmp t) = a.tmps[t] := by simp [Act.eval, hr2]
          rw [Array.getElem?_eq_getElem hr2, ← e, hv]
        have hy : yielded ops a.tmps k = some b' := by unfold yielded; rw [ht]; simp [this]
        show (yielded ops a.tmps k == some want) = b
        rw [hy, ← h]; rfl
      · rename_i hb
        injection h with h
        obtain ⟨hr1, hr2⟩ := hr k want t _ hg ht hb
        have hv : a.eval (.tmp t) = .tuple #[] := (show ∀ v, Rep G w (.tup []) v → v = .tuple #[] from fun v h => by
          cases h with
          | tup _ vs hl _ => rw [Array.size_eq_zero_iff.1 hl]) _ hr1
        have : a.tmps[t]? = some (.tuple #[]) := by
          have e : a.eval (.tmp t) = a.tmps[t] := by simp [Act.eval, hr2]
          rw [Array.getElem?_eq_getElem hr2, ← e, hv]
        have hy : yielded ops a.tmps k = none := by unfold yielded; rw [ht]; simp [this]
        show (yielded ops a.tmps k == some want) = b
        rw [hy, ← h]; rfl
      · cases h
def allDst (N : Nat) (l : List Oper) : Bool := l.all fun o => match o.dst with | some t => Nat.blt t N | none => true
theorem allDst_lt {N : Nat} {l : List Oper} (h : allDst N l = true) {o : Oper} (ho : o ∈ l) {t : Nat} (ht : o.dst = some t) : t < N := by
  have := (List.all_eq_true.1 h) o ho
  rw [ht] at this
  exact Nat.blt_eq ▸ this
theorem run_plain {ops : Array Oper} {N : Nat} {Q : Exit → Act → World → Prop} {B : Base} {G0 : Gh} {w0 : World} {ρ' : Slots} {m' : Mem} {nx' : Nat} (hQ : ∀ G a w, SimS B G N ρ' m' nx' a w → Ext G0 w0 G w → Q .normal a w) :
    ∀ {os : List Oper} {ρ : Slots} {m : Mem} {nx : Nat} {Es : List Eff}, Run P ops os ρ m nx Es ρ' m' nx' → allDst N os = true → (∀ (k t : Nat), (ops[k]?).bind (·.dst) = some t → t < N) → ∀ (G : Gh) (a : Act) (w : World), Ext G0 w0 G w → SimS B G N ρ m nx a w → wpList P ops Q os a w := by
  intro os ρ m nx Es h
  induction h with
  | nil ρ m nx => exact fun _ _ G a w hx hs => hQ G a w hs hx
  | @step o os ρ ρ' m m' nx nx1 nx' E Es hs hn hw _ ih =>
    intro hN hN' G a w hx hS
    have hNt : allDst N os = true := by unfold allDst at hN ⊢; simp only [List.all_cons, Bool.and_eq_true] at hN; exact hN.2
    have ho : ∀ t, o.dst = some t → t < N := fun t ht => allDst_lt hN (by simp) ht
    have hgr : ∀ k want t d, o.guard = some (k, want) → (ops[k]?).bind (·.dst) = some t → sget ρ t = some d → Rep G w d (a.eval (.tmp t)) ∧ t < a.tmps.size := fun k want t d _ h2 h3 => ⟨hS.slots t d h3, by rw [hS.size]; exact hN' k t h2⟩
    unfold wpList
    rcases hs with ⟨hg, hop⟩ | ⟨hg, rfl⟩
    · rw [if_pos (gok_wanted hg hgr)]
      refine .inl (hop B G a w m _ Q hS.sim (fun x _ d hd => hS.oev hd) (fun _ _ => rfl) (fun l hl => ?_) fun v w' G' hx' hS' hr hk => ?_)
      · cases hkl : G.kn l with
        | false => rfl
        | true => have := hS.fresh l hkl; have := hw l hl; omega
      · refine ih hQ hNt hN' G' _ w' (hx.trans hx') (hS.put hx' hS' (fun l hl => ?_) ho hr)
        rcases hk l hl with h | h
        · have := hS.fresh l h; omega
        · exact (hw l h).2
    · rw [if_neg (by rw [gok_wanted hg hgr]; simp)]
      exact ih hQ hNt hN' G _ w hx (hS.put (Ext.refl G w) hS.sim (fun l hl => Nat.lt_of_lt_of_le (hS.fresh l hl) hn) ho (.tup [] #[] rfl fun i d v h => by simp at h))
def befOf (ms : List Nat) : List Edge → Nat
  | [] => 0
  | e :: es => if Region.binds .any e then befOf ms es ||| 2 ^ e.on ||| ms.getD e.on 0 else befOf ms es
def befs : List Oper → List Nat → List Nat
  | [], ms => ms
  | o :: os, ms => befs os (ms ++ [befOf ms o.after.toList])
def reads (ops : Array Oper) (o : Oper) (t : Nat) : Bool :=
  (o.op.operands.any fun x => match x with | .tmp u => Nat.beq u t | _ => false) || (match o.guard with | some (k, _) => (match (ops[k]?).bind (·.dst) with | some u => Nat.beq u t | none => false) | none => false)
def readsDst (ops : Array Oper) (o o' : Oper) : Bool := match o'.dst with | some t => reads ops o t | none => false
def clash (E E' : Eff) : Bool := (E.wr.any fun x => E'.touch x.1) || (E'.wr.any fun x => E.touch x.1)
def need (ops : Array Oper) (o o' : Oper) (E E' : Eff) : Bool := readsDst ops o' o || readsDst ops o o' || clash E E'
def bound1 (ops : Array Oper) (mask : Nat) (o' : Oper) (E' : Eff) : Nat → List Oper → List Eff → Bool
  | i, o :: os, E :: Es => (!need ops o o' E E' || mask.testBit i) && bound1 ops mask o' E' (i + 1) os Es
  | _, _, _ => true
def bound (ops : Array Oper) (all : List Oper) (allE : List Eff) : List Nat → List Oper → List Eff → Nat → Bool
  | mask :: ms, o :: os, E :: Es, j => bound1 ops mask o E 0 (all.take j) (allE.take j) && bound ops all allE ms os Es (j + 1)
  | _, _, _, _ => true
def acyc : List Oper → Nat → Bool
  | [], _ => true
  | o :: os, j => (o.after.toList.all fun e => !Region.binds .any e || Nat.blt e.on j) && acyc os (j + 1)
def chk (ops : Array Oper) (Es : List Eff) : Bool :=
  acyc ops.toList 0 && decide (ops.toList.filterMap (·.dst)).Nodup && bound ops ops.toList Es (befs ops.toList []) ops.toList Es 0
theorem acyc_at : ∀ {os : List Oper} {j : Nat}, acyc os j = true → ∀ (i : Nat) (o : Oper), os[i]? = some o → ∀ e ∈ o.after.toList, Region.binds .any e = true → e.on < j + i
  | [], _, _, i, o, ho, _, _, _ => by simp at ho
  | o0 :: os, j, h, i, o, ho, e, he, hb => by
    simp only [acyc, Bool.and_eq_true] at h
    cases i with
    | zero =>
      simp only [List.getElem?_cons_zero, Option.some.injEq] at ho
      subst ho
      have := (List.all_eq_true.1 h.1) e he
      rw [hb] at this
      simpa using this
    | succ i =>
      have := acyc_at h.2 i o (by simpa using ho) e he hb
      omega
theorem befs_length : ∀ (os : List Oper) (ms : List Nat), (befs os ms).length = ms.length + os.length
  | [], ms => by simp [befs]
  | o :: os, ms => by simp [befs, befs_length os, Nat.add_comm, Nat.add_left_comm]
def Closed (ops : Array Oper) (done : Nat → Bool) : Prop := ∀ (k : Nat) (o : Oper), ops[k]? = some o → done k = true → ∀ e ∈ o.after.toList, Region.binds .any e = true → done e.on = true
theorem befOf_done {ms : List Nat} {done : Nat → Bool} (hms : ∀ j i, (ms.getD j 0).testBit i = true → done j = true → done i = true) : ∀ {es : List Edge} {i : Nat}, (befOf ms es).testBit i = true → (∀ e ∈ es, Region.binds .any e = true → done e.on = true) → done i = true
  | [], i, h, _ => by simp [befOf] at h
  | e :: es, i, h, hd => by
    unfold befOf at h
    split at h
    · rename_i hb
      simp only [Nat.testBit_or, Bool.or_eq_true] at h
      rcases h with (h | h) | h
      · exact befOf_done hms h fun e he => hd e (by simp [he])
      · rw [Nat.testBit_two_pow] at h
        have : e.on = i := by simpa using h
        rw [← this]; exact hd e (by simp) hb
      · exact hms e.on i h (hd e (by simp) hb)
    · exact befOf_done hms h fun e he => hd e (by simp [he])
theorem befs_get {ops : Array Oper} {done : Nat → Bool} (hc : Closed ops done) : ∀ (os : List Oper) (ms : List Nat), (∀ (i : Nat) (o : Oper), os[i]? = some o → ops[ms.length + i]? = some o) → (∀ j i, (ms.getD j 0).testBit i = true → done j = true → done i = true) →
    ∀ j i, ((befs os ms).getD j 0).testBit i = true → done j = true → done i = true
  | [], ms, _, h => h
  | o :: os, ms, ho, h => by
    unfold befs
    refine befs_get hc os _ (fun i o' h' => ?_) (fun j i hb hd => ?_)
    · have := ho (i + 1) o' (by simpa using h')
      rw [List.length_append]; simp only [List.length_singleton]
      rw [show ms.length + 1 + i = ms.length + (i + 1) from by omega]; exact this
    · rw [List.getD_eq_getElem?_getD, List.getElem?_append] at hb
      split at hb
      · exact h j i (by rw [List.getD_eq_getElem?_getD]; exact hb) hd
      · rename_i hlt
        cases hz : j - ms.length with
        | zero =>
          rw [hz] at hb
          have hj : j = ms.length := by omega
          subst hj
          have h0 := ho 0 o (by simp)
          exact befOf_done h (by simpa using hb) (hc _ o (by simpa using h0) hd)
        | succ k => rw [hz] at hb; simp at hb
theorem befs_ready {ops : Array Oper} {done : Nat → Bool} (hc : Closed ops done) {j : Nat} {o : Oper} (ho : ops[j]? = some o) (hr : ∀ e ∈ o.after.toList, Region.binds .any e = true → done e.on = true) (hac : ∀ e ∈ o.after.toList, Region.binds .any e = true → e.on < j) {i : Nat}
    (hb : ((befs ops.toList []).getD j 0).testBit i = true) (hij : i ≠ j) : done i = true := by
  have hc' : Closed ops fun k => done k || k == j := by
    intro k o' hk hd e he hbe
    by_cases hkj : k = j
    · subst hkj
      rw [ho] at hk; cases hk
      simp [hr e he hbe]
    · have : done k = true := by simpa [hkj] using hd
      simp [hc k o' hk this e he hbe]
  have := befs_get hc' ops.toList [] (fun i o h => by simpa using h) (fun j i h => by simp at h) j i hb (by simp)
  simpa [hij] using this
theorem bound1_at {ops : Array Oper} {mask : Nat} {o' : Oper} {E' : Eff} : ∀ {k : Nat} {os : List Oper} {Es : List Eff}, bound1 ops mask o' E' k os Es = true → ∀ (i : Nat) (o : Oper) (E : Eff), os[i]? = some o → Es[i]? = some E → need ops o o' E E' = true → mask.testBit (k + i) = true
  | _, [], _, _, i, o, E, ho, _, _ => by simp at ho
  | _, _ :: _, [], _, i, o, E, _, hE, _ => by simp at hE
  | k, o0 :: os, E0 :: Es, h, i, o, E, ho, hE, hn => by
    simp only [bound1, Bool.and_eq_true] at h
    cases i with
    | zero =>
      simp only [List.getElem?_cons_zero, Option.some.injEq] at ho hE
      subst ho; subst hE
      have := h.1
      rw [hn] at this
      simpa using this
    | succ i =>
      have := bound1_at h.2 i o E (by simpa using ho) (by simpa using hE) hn
      rw [show k + (i + 1) = k + 1 + i from by omega]; exact this
theorem bound_at {ops : Array Oper} {all : List Oper} {allE : List Eff} : ∀ {ms : List Nat} {os : List Oper} {Es : List Eff} {k : Nat}, bound ops all allE ms os Es k = true → ms.length = os.length → ∀ (j : Nat) (o' : Oper) (E' : Eff), os[j]? = some o' → Es[j]? = some E' → ∀ (i : Nat) (o : Oper) (E : Eff), i < k + j → all[i]? = some o → allE[i]? = some E → need ops o o' E E' = true → (ms.getD j 0).testBit i = true
  | [], [], _, _, _, _, j, o', _, ho, _ => by simp at ho
  | [], _ :: _, _, _, _, hl, _, _, _, _, _ => by simp at hl
  | _ :: _, [], _, _, _, _, j, o', _, ho, _ => by simp at ho
  | _ :: _, _ :: _, [], _, _, _, j, _, E', _, hE => by simp at hE
  | mask :: ms, o0 :: os, E0 :: Es, k, h, hl, j, o', E', ho, hE => by
    intro i o E hi hio hiE hn
    simp only [bound, Bool.and_eq_true] at h
    cases j with
    | zero =>
      simp only [List.getElem?_cons_zero, Option.some.injEq] at ho hE
      subst ho; subst hE
      have := bound1_at h.1 i o E (by rw [List.getElem?_take, if_pos (by omega)]; exact hio) (by rw [List.getElem?_take, if_pos (by omega)]; exact hiE) hn
      simpa using this
    | succ j =>
      have := bound_at h.2 (by simpa using hl) j o' E' (by simpa using ho) (by simpa using hE) i o E (by omega) hio hiE hn
      simpa using this
def slotsAt : List Oper → List Eff → Nat → Slots → Slots
  | o :: os, E :: Es, j + 1, ρ => slotsAt os Es j (sput ρ o.dst E.d)
  | _, _, _, ρ => ρ
def memText : List Eff → Nat → Mem → Mem
  | E :: Es, j + 1, m => memText Es j (E.wr ++ m)
  | _, _, m => m
def memAt (done : Nat → Bool) : List Eff → Nat → Mem → Mem
  | [], _, m => m
  | E :: Es, k, m => memAt done Es (k + 1) (if done k then E.wr ++ m else m)
theorem Run.at_ {ops : Array Oper} : ∀ {os : List Oper} {ρ ρ' : Slots} {m m' : Mem} {nx nx' : Nat} {Es : List Eff}, Run P ops os ρ m nx Es ρ' m' nx' →
    Es.length = os.length ∧ ρ' = slotsAt os Es os.length ρ ∧ m' = memText Es os.length m ∧ (∀ (j : Nat) (o : Oper) (E : Eff), os[j]? = some o → Es[j]? = some E → Step P ops o E (slotsAt os Es j ρ) (memText Es j m)) ∧
    ∃ f : Nat → Nat, f 0 = nx ∧ (∀ i j, i ≤ j → j ≤ os.length → f i ≤ f j) ∧ f os.length = nx' ∧ ∀ (j : Nat) (E : Eff), Es[j]? = some E → ∀ l ∈ E.nw, f j ≤ l ∧ l < f (j + 1) := by
  intro os ρ ρ' m m' nx nx' Es h
  induction h with
  | nil ρ m nx => exact ⟨rfl, rfl, rfl, fun j o E ho => by simp at ho, fun _ => nx, rfl, fun _ _ _ _ => Nat.le_refl _, rfl, fun j E hE => by simp at hE⟩
  | @step o os ρ ρ' m m' nx nx1 nx' E Es hs hn hw _ ih =>
    obtain ⟨h1, h2, h3, h4, f, f0, f1, f2, f3⟩ := ih
    refine ⟨by simp [h1], by rw [h2]; rfl, by rw [h3]; rfl, fun j o' E' ho hE => ?_, fun k => match k with | 0 => nx | k + 1 => f k, rfl, fun i j hij hj => ?_, f2, fun j E' hE l hl => ?_⟩
    · cases j with
      | zero =>
        simp only [List.getElem?_cons_zero, Option.some.injEq] at ho hE
        subst ho; subst hE; exact hs
      | succ j => exact h4 j o' E' (by simpa using ho) (by simpa using hE)
    · cases i with
      | zero =>
        cases j with
        | zero => exact Nat.le_refl _
        | succ j => exact Nat.le_trans hn (by rw [← f0]; exact f1 0 j (by omega) (by simpa using hj))
      | succ i =>
        cases j with
        | zero => omega
        | succ j => exact f1 i j (by omega) (by simpa using hj)
    · cases j with
      | zero =>
        simp only [List.getElem?_cons_zero, Option.some.injEq] at hE
        subst hE
        have := hw l hl
        exact ⟨this.1, by show l < f 0; rw [f0]; exact this.2⟩
      | succ j => exact f3 j E' (by simpa using hE) l hl
theorem slotsAt_get : ∀ (os : List Oper) (Es : List Eff) (j : Nat) (ρ : Slots) (t : Nat) (d : D), sget (slotsAt os Es j ρ) t = some d →
    (∃ i o E, i < j ∧ os[i]? = some o ∧ Es[i]? = some E ∧ o.dst = some t ∧ E.d = d) ∨ (sget ρ t = some d ∧ ∀ i o E, i < j → os[i]? = some o → Es[i]? = some E → o.dst ≠ some t)
  | [], Es, j, ρ, t, d, h => .inr ⟨by simpa [slotsAt] using h, fun i o E _ ho => by simp at ho⟩
  | _ :: _, [], j, ρ, t, d, h => .inr ⟨by simpa [slotsAt] using h, fun i o E _ _ hE => by simp at hE⟩
  | _ :: _, _ :: _, 0, ρ, t, d, h => .inr ⟨by simpa [slotsAt] using h, fun i o E hi => by omega⟩
  | o :: os, E :: Es, j + 1, ρ, t, d, h => by
    unfold slotsAt at h
    rcases slotsAt_get os Es j _ t d h with ⟨i, o', E', hi, ho, hE, hd, he⟩ | ⟨h1, h2⟩
    · exact .inl ⟨i + 1, o', E', by omega, by simpa using ho, by simpa using hE, hd, he⟩
    · rw [sget_sput] at h1
      by_cases e : o.dst = some t
      · rw [if_pos e] at h1
        injection h1 with h1
        exact .inl ⟨0, o, E, by omega, by simp, by simp, e, h1⟩
      · rw [if_neg e] at h1
        refine .inr ⟨h1, fun i o' E' hi ho hE => ?_⟩
        cases i with
        | zero => simp only [List.getElem?_cons_zero, Option.some.injEq] at ho; subst ho; exact e
        | succ i => exact h2 i o' E' (by omega) (by simpa using ho) (by simpa using hE)
theorem mget_wr {E : Eff} {m : Mem} {l : Nat} : mget (E.wr ++ m) l = if E.writes l then mget E.wr l else mget m l := mget_append E.wr m l
theorem memAt_none {done : Nat → Bool} {l : Nat} : ∀ {Es : List Eff} {k : Nat} {m : Mem}, (∀ i E, Es[i]? = some E → done (k + i) = true → E.writes l = false) → mget (memAt done Es k m) l = mget m l
  | [], _, _, _ => rfl
  | E :: Es, k, m, h => by
    unfold memAt
    rw [memAt_none fun i E' hE hd => h (i + 1) E' (by simpa using hE) (by rw [show k + (i + 1) = k + 1 + i from by omega]; exact hd)]
    split
    · rename_i hd
      rw [mget_wr, h 0 E (by simp) hd]
      simp
    · rfl
theorem memAt_eq {done : Nat → Bool} {l : Nat} : ∀ {Es : List Eff} {j k : Nat} {m m2 : Mem}, mget m l = mget m2 l → (∀ i E, i < j → Es[i]? = some E → E.writes l = true → done (k + i) = true) → (∀ i E, j ≤ i → Es[i]? = some E → done (k + i) = true → E.writes l = false) →
    mget (memAt done Es k m) l = mget (memText Es j m2) l
  | [], j, _, _, _, h, _, _ => by cases j <;> exact h
  | E :: Es, 0, k, m, m2, h, _, h2 => by
    rw [memAt_none fun i E' hE hd => h2 i E' (by omega) hE hd, h]; rfl
  | E :: Es, j + 1, k, m, m2, h, h1, h2 => by
    unfold memAt memText
    refine memAt_eq ?_ (fun i E' hi hE hw => ?_) (fun i E' hi hE hd => ?_)
    · cases hw : E.writes l with
      | true =>
        have := h1 0 E (by omega) (by simp) hw
        rw [Nat.add_zero] at this
        rw [if_pos this, mget_wr, mget_wr, hw]
        simp
      | false =>
        have e1 : mget (E.wr ++ m2) l = mget m2 l := by rw [mget_wr, hw]; simp
        rw [e1, ← h]
        split
        · rw [mget_wr, hw]; simp
        · rfl
    · rw [show k + 1 + i = k + (i + 1) from by omega]; exact h1 (i + 1) E' (by omega) (by simpa using hE) hw
    · exact h2 (i + 1) E' (by omega) (by simpa using hE) (by rw [show k + (i + 1) = k + 1 + i from by omega]; exact hd)
theorem memAt_put {done : Nat → Bool} {l : Nat} {E : Eff} : ∀ {Es : List Eff} {j k : Nat} {m m2 : Mem}, mget m l = mget m2 l → Es[j]? = some E → done (k + j) = false → (E.writes l = true → ∀ i E', j < i → Es[i]? = some E' → done (k + i) = true → E'.writes l = false) →
    mget (memAt (fun x => done x || x == k + j) Es k m) l = mget (E.wr ++ memAt done Es k m2) l
  | [], _, _, _, _, _, hE, _, _ => by simp at hE
  | E0 :: Es, 0, k, m, m2, h, hE, hd, hw => by
    simp only [List.getElem?_cons_zero, Option.some.injEq] at hE
    subst hE
    rw [Nat.add_zero] at hd
    unfold memAt
    have hfun : ∀ x, k < x → (done x || x == k + 0) = done x := fun x hx => by
      have : (x == k + 0) = false := by simp; omega
      rw [this, Bool.or_false]
    have hcong : ∀ (Fs : List Eff) (k' : Nat) (mm : Mem), k < k' → memAt (fun x => done x || x == k + 0) Fs k' mm = memAt done Fs k' mm := by
      intro Fs
      induction Fs with
      | nil => intro _ _ _; rfl
      | cons F Fs ih => intro k' mm hk; unfold memAt; rw [ih (k' + 1) _ (by omega), hfun k' hk]
    rw [hcong _ _ _ (by omega)]
    rw [if_pos (by simp), if_neg (by simp [hd])]
    cases hwl : E0.writes l with
    | true =>
      have hnone : ∀ (mm : Mem), mget (memAt done Es (k + 1) mm) l = mget mm l := fun mm => memAt_none fun i E' hE hd' => hw hwl (i + 1) E' (by omega) (by simpa using hE) (by rw [show k + (i + 1) = k + 1 + i from by omega]; exact hd')
      rw [hnone, mget_wr, mget_wr, hwl]
      simp
    | false =>
      rw [mget_wr (m := memAt done Es (k + 1) m2), hwl]
      simp only [Bool.false_eq_true, if_false]
      have hag : ∀ (Fs : List Eff) (k' : Nat) (x y : Mem), mget x l = mget y l → mget (memAt done Fs k' x) l = mget (memAt done Fs k' y) l := by
        intro Fs
        induction Fs with
        | nil => intro _ _ _ h; exact h
        | cons F Fs ih =>
          intro k' x y h
          unfold memAt
          apply ih
          split
          · rw [mget_wr, mget_wr, h]
          · exact h
      refine hag Es (k + 1) _ _ ?_
      rw [mget_wr, hwl]; simpa using h
  | E0 :: Es, j + 1, k, m, m2, h, hE, hd, hw => by
    unfold memAt
    have hk : (done k || k == k + (j + 1)) = done k := by
      have : (k == k + (j + 1)) = false := by simp
      rw [this, Bool.or_false]
    rw [hk, show k + (j + 1) = k + 1 + j from by omega]
    refine memAt_put ?_ (by simpa using hE) (by rw [show k + 1 + j = k + (j + 1) from by omega]; exact hd) (fun hwl i E' hi hE' hd' => hw hwl (i + 1) E' (by omega) (by simpa using hE') (by rw [show k + (i + 1) = k + 1 + i from by omega]; exact hd'))
    split
    · rw [mget_wr, mget_wr, h]
    · exact h
theorem run_drawn {ops : Array Oper} {id : Nat} {N : Nat} {Q : Exit → Act → World → Prop} {B : Base} {ρ ρ' : Slots} {m m' : Mem} {nx nx' : Nat} {Es : List Eff} (hm : P.follows .mixedOrders = true) (hrun : Run P ops ops.toList ρ m nx Es ρ' m' nx') (hN : allDst N ops.toList = true) (hchk : chk ops Es = true)
    {G0 : Gh} {a0 : Act} {w0 : World} (hS0 : SimS B G0 N ρ m nx a0 w0) (hQ : ∀ G a w, SimS B G N ρ' m' nx' a w → Ext G0 w0 G w → Q .normal a w) : (Code.region id ops true).wp P Q a0 w0 := by
  obtain ⟨hlen, hρ, hm', hstep, f, f0, f1, f2, f3⟩ := hrun.at_
  unfold chk at hchk
  simp only [Bool.and_eq_true, decide_eq_true_iff] at hchk
  obtain ⟨⟨hac, hnd⟩, hb⟩ := hchk
  have hac' : ∀ (i : Nat) (o : Oper), ops[i]? = some o → ∀ e ∈ o.after.toList, Region.binds .any e = true → e.on < i := fun i o ho e he hbe => by
    have := acyc_at hac i o (by simpa using ho) e he hbe; omega
  have hmem : ∀ (i : Nat) (o : Oper), ops[i]? = some o → o ∈ ops.toList := fun i o h => by
    have : ops.toList[i]? = some o := by simpa using h
    exact List.mem_of_getElem? this
  have hEof : ∀ (i : Nat) (o : Oper), ops[i]? = some o → ∃ E, Es[i]? = some E := fun i o h => by
    have hlt : i < ops.size := (Array.getElem?_eq_some_iff.1 h).1
    exact ⟨Es[i]'(by rw [hlen]; simpa using hlt), List.getElem?_eq_getElem _⟩
  have hoof : ∀ (i : Nat) (E : Eff), Es[i]? = some E → ∃ o, ops[i]? = some o := fun i E h => by
    have hlt : i < Es.length := (List.getElem?_eq_some_iff.1 h).1
    exact ⟨ops[i]'(by rw [hlen] at hlt; simpa using hlt), Array.getElem?_eq_getElem _⟩
  have hsame : ∀ (i i' : Nat) (o o' : Oper) (t : Tmp), ops[i]? = some o → ops[i']? = some o' → o.dst = some t → o'.dst = some t → i = i' := by
    intro i i' o o' t ho ho' ht ht'
    have key : ∀ (l : List Oper), (l.filterMap (·.dst)).Nodup → ∀ (i i' : Nat), l[i]? = some o → l[i']? = some o' → i = i' := by
      intro l
      induction l with
      | nil => intro _ i i' h; simp at h
      | cons x l ih =>
        intro hn i i' h h'
        have htail : (l.filterMap (·.dst)).Nodup := by
          rw [List.filterMap_cons] at hn
          split at hn
          · exact hn
          · exact (List.nodup_cons.1 hn).2
        have clash : ∀ (y : Oper), x.dst = some t → y ∈ l → y.dst = some t → False := by
          intro y hx hy hyt
          rw [List.filterMap_cons, hx] at hn
          exact (List.nodup_cons.1 hn).1 (List.mem_filterMap.2 ⟨y, hy, hyt⟩)
        cases i with
        | zero =>
          cases i' with
          | zero => rfl
          | succ i' =>
            simp only [List.getElem?_cons_zero, Option.some.injEq, List.getElem?_cons_succ] at h h'
            subst h
            exact (clash o' ht (List.mem_of_getElem? h') ht').elim
        | succ i =>
          cases i' with
          | zero =>
            simp only [List.getElem?_cons_zero, Option.some.injEq, List.getElem?_cons_succ] at h h'
            subst h'
            exact (clash o ht' (List.mem_of_getElem? h) ht).elim
          | succ i' =>
            simp only [List.getElem?_cons_succ] at h h'
            rw [ih htail i i' h h']
    exact key ops.toList hnd i i' (by simpa using ho) (by simpa using ho')
  have hneed : ∀ (i j : Nat) (o o' : Oper) (E E' : Eff), i < j → ops[i]? = some o → ops[j]? = some o' → Es[i]? = some E → Es[j]? = some E' → need ops o o' E E' = true → ((befs ops.toList []).getD j 0).testBit i = true := by
    intro i j o o' E E' hij ho ho' hE hE' hn
    exact bound_at hb (by rw [befs_length]; simp) j o' E' (by simpa using ho') hE' i o E (by omega) (by simpa using ho) hE hn
  refine wp_region_inv hm (fun done a w => ∃ G : Gh, Ext G0 w0 G w ∧ Sim B G (memAt done Es 0 m) w ∧ a.defers = [] ∧ a.tmps.size = N ∧
    (∀ (t : Tmp), (∀ (i : Nat) (o : Oper), ops[i]? = some o → done i = true → o.dst ≠ some t) → a.eval (.tmp t) = a0.eval (.tmp t)) ∧
    (∀ (i : Nat) (o : Oper) (E : Eff) (t : Tmp), ops[i]? = some o → Es[i]? = some E → done i = true → o.dst = some t → Rep G w E.d (a.eval (.tmp t))) ∧
    Closed ops done ∧ (∀ l, G.kn l = true → G0.kn l = true ∨ ∃ i E, Es[i]? = some E ∧ done i = true ∧ l ∈ E.nw)) hac' ?_ ?_ ?_
  · have hx : Ext G0 w0 G0 { w0 with drawn := w0.drawn + 1 } := ⟨fun _ h => ⟨h, rfl, fun h => ⟨h, fun _ => rfl⟩, rfl, rfl⟩, fun _ => Nat.le_refl _, fun _ _ _ => rfl, Nat.le_refl _⟩
    have hnone : ∀ l, mget (memAt (fun j => decide (ops.size ≤ j)) Es 0 m) l = mget m l := fun l => memAt_none fun i E hE hd => by
      obtain ⟨o, ho⟩ := hoof i E hE
      have := (Array.getElem?_eq_some_iff.1 ho).1
      simp at hd; omega
    refine ⟨G0, hx, (hS0.sim.grow (new_drew (new_refl w0))).same hnone, hS0.defers, hS0.size, fun t _ => rfl, ?_, ?_, fun l hl => .inl hl⟩
    · intro i o E t ho _ hd; have := (Array.getElem?_eq_some_iff.1 ho).1; simp at hd; omega
    · intro k o ho hd; have := (Array.getElem?_eq_some_iff.1 ho).1; simp at hd; omega
  · rintro j o ho done a w ⟨G, hx, hsim, hdf, hsz, hA, hB, hC, hD⟩ hdone haft
    obtain ⟨E, hE⟩ := hEof j o ho
    have hjl : j < ops.size := (Array.getElem?_eq_some_iff.1 ho).1
    have hready : ∀ i, ((befs ops.toList []).getD j 0).testBit i = true → i ≠ j → done i = true := fun i hb' hij => befs_ready hC ho haft (hac' j o ho) hb' hij
    have hearlier : ∀ i oi Ei, i < j → ops[i]? = some oi → Es[i]? = some Ei → need ops oi o Ei E = true → done i = true := fun i oi Ei hij hoi hEi hn => hready i (hneed i j oi o Ei E hij hoi ho hEi hE hn) (by omega)
    have hlater : ∀ i oi Ei, j < i → ops[i]? = some oi → Es[i]? = some Ei → need ops o oi E Ei = true → done i = false := fun i oi Ei hij hoi hEi hn => by
      cases hd : done i with
      | false => rfl
      | true =>
        have := befs_get hC ops.toList [] (fun i o h => by simpa using h) (fun j i h => by simp at h) i j (hneed j i o oi E Ei hij ho hoi hE hEi hn) hd
        rw [hdone] at this; cases this
    have hslot : ∀ (t : Nat) (d : D), reads ops o t = true → sget (slotsAt ops.toList Es j ρ) t = some d → Rep G w d (a.eval (.tmp t)) := by
      intro t d hrd hd
      rcases slotsAt_get _ _ _ _ _ _ hd with ⟨i, oi, Ei, hij, hoi, hEi, hdi, rfl⟩ | ⟨h1, h2⟩
      · have hoi' : ops[i]? = some oi := by simpa using hoi
        refine hB i oi Ei t hoi' hEi (hearlier i oi Ei hij hoi' hEi ?_) hdi
        unfold need readsDst; rw [hdi]; simp [hrd]
      · rw [hA t fun i oi hoi hdi he => ?_]
        · exact (hS0.slots t d h1).mono hx
        · obtain ⟨Ei, hEi⟩ := hEof i oi hoi
          rcases Nat.lt_trichotomy i j with hij | hij | hij
          · exact h2 i oi Ei hij (by simpa using hoi) hEi he
          · subst hij; rw [hdone] at hdi; cases hdi
          · have := hlater i oi Ei hij hoi hEi (by unfold need readsDst; rw [he]; simp [hrd])
            rw [this] at hdi; cases hdi
    have hdN : ∀ t, o.dst = some t → t < N := fun t ht => allDst_lt hN (hmem j o ho) ht
    have hst := hstep j o E (by simpa using ho) hE
    have hend : ∀ (v : Value) (w' : World) (G' : Gh), Ext G w G' w' → Sim B G' (E.wr ++ memAt done Es 0 m) w' → Rep G' w' E.d v → (∀ l, G'.kn l = true → G.kn l = true ∨ l ∈ E.nw) →
        ∃ G2 : Gh, Ext G0 w0 G2 w' ∧ Sim B G2 (memAt (fun x => done x || x == j) Es 0 m) w' ∧ (a.put o.dst v).defers = [] ∧ (a.put o.dst v).tmps.size = N ∧
        (∀ (t : Tmp), (∀ (i : Nat) (o : Oper), ops[i]? = some o → (done i || i == j) = true → o.dst ≠ some t) → (a.put o.dst v).eval (.tmp t) = a0.eval (.tmp t)) ∧
        (∀ (i : Nat) (o' : Oper) (E : Eff) (t : Tmp), ops[i]? = some o' → Es[i]? = some E → (done i || i == j) = true → o'.dst = some t → Rep G2 w' E.d ((a.put o.dst v).eval (.tmp t))) ∧
        Closed ops (fun x => done x || x == j) ∧ (∀ l, G2.kn l = true → G0.kn l = true ∨ ∃ i E, Es[i]? = some E ∧ (done i || i == j) = true ∧ l ∈ E.nw) := by
      intro v w' G' hx' hs' hr hk
      refine ⟨G', hx.trans hx', hs'.same fun l => ?_, by rw [put_defers]; exact hdf, by rw [put_size]; exact hsz, fun t ht => ?_, fun i o' E' t ho' hE' hd ht => ?_, fun k o' hk' hd e he hbe => ?_, fun l hl => ?_⟩
      · have := memAt_put (done := done) (l := l) (E := E) (Es := Es) (j := j) (k := 0) (m := m) (m2 := m) rfl hE (by simpa using hdone) (fun hw i E' hij hE' hd => by
          obtain ⟨o', ho'⟩ := hoof i E' hE'
          cases hw' : E'.writes l with
          | false => rfl
          | true =>
            have hcl : clash E E' = true := by
              unfold clash
              unfold Eff.writes at hw
              obtain ⟨x, hx1, hx2⟩ := List.any_eq_true.1 hw
              have : (E.wr.any fun x => E'.touch x.1) = true := List.any_eq_true.2 ⟨x, hx1, by rw [Nat.eq_of_beq_eq_true hx2]; unfold Eff.touch; simp [hw']⟩
              simp [this]
            have := hlater i o' E' hij ho' hE' (by unfold need; simp [hcl])
            rw [Nat.zero_add] at hd
            rw [this] at hd; cases hd)
        rw [Nat.zero_add] at this
        exact this
      · rw [eval_put_other _ _ _ _ (ht j o ho (by simp))]
        exact hA t fun i o' ho' hd => ht i o' ho' (by simp [hd])
      · by_cases hij : i = j
        · subst hij
          rw [ho] at ho'; cases ho'
          rw [hE] at hE'; cases hE'
          rw [ht, eval_put_same _ _ _ (by rw [hsz]; exact hdN t ht)]
          exact hr
        · have hd' : done i = true := by simpa [hij] using hd
          rw [eval_put_other _ _ _ _ fun h => hij (hsame i j o' o t ho' ho ht h)]
          exact (hB i o' E' t ho' hE' hd' ht).mono hx'
      · by_cases hkj : k = j
        · subst hkj
          rw [ho] at hk'; cases hk'
          simp [haft e he hbe]
        · have : done k = true := by simpa [hkj] using hd
          simp [hC k o' hk' this e he hbe]
      · rcases hk l hl with h | h
        · rcases hD l h with h | ⟨i, E', hE', hd, hl'⟩
          · exact .inl h
          · exact .inr ⟨i, E', hE', by simp [hd], hl'⟩
        · exact .inr ⟨j, E, hE, by simp, h⟩
    have hgr : ∀ k want t d, o.guard = some (k, want) → (ops[k]?).bind (·.dst) = some t → sget (slotsAt ops.toList Es j ρ) t = some d → Rep G w d (a.eval (.tmp t)) ∧ t < a.tmps.size := by
      intro k want t d h1 h2 h3
      refine ⟨hslot t d (by unfold reads; rw [h1]; simp [h2]) h3, ?_⟩
      obtain ⟨ok, hok, hdk⟩ := Option.bind_eq_some_iff.1 h2
      rw [hsz]; exact allDst_lt hN (hmem k ok hok) hdk
    unfold wpOp
    simp only [ho]
    rcases hst with ⟨hg, hop⟩ | ⟨hg, hsk⟩
    · rw [if_pos (gok_wanted hg hgr)]
      refine .inl (hop B G a w (memAt done Es 0 m) _ Q hsim (fun x hxm d hd => ?_) (fun l hl => ?_) (fun l hl => ?_) hend)
      · cases x with
        | tmp t => exact hslot t d (by unfold reads; rw [Bool.or_eq_true]; exact .inl (Array.any_eq_true'.2 ⟨_, hxm, by simp⟩)) hd
        | const v => exact ofVal_rep hd
        | func F =>
          simp only [oev, Option.some.injEq] at hd
          subst hd
          exact .fn F [] #[] rfl fun i d v hd => by simp at hd
        | global g =>
          simp only [oev, Option.some.injEq] at hd
          subst hd
          exact .raw _ rfl
      · have hcl : ∀ (i : Nat) (Ei : Eff), Ei.writes l = true → clash Ei E = true ∧ clash E Ei = true := by
          intro i Ei hw
          unfold Eff.writes at hw
          obtain ⟨x, hx1, hx2⟩ := List.any_eq_true.1 hw
          have : (Ei.wr.any fun x => E.touch x.1) = true := List.any_eq_true.2 ⟨x, hx1, by rw [Nat.eq_of_beq_eq_true hx2]; exact hl⟩
          unfold clash; simp [this]
        refine memAt_eq rfl (fun i Ei hij hEi hw => ?_) (fun i Ei hij hEi hd => ?_)
        · obtain ⟨oi, hoi⟩ := hoof i Ei hEi
          rw [Nat.zero_add]
          exact hearlier i oi Ei hij hoi hEi (by unfold need; simp [(hcl i Ei hw).1])
        · rw [Nat.zero_add] at hd
          rcases Nat.lt_or_ge j i with h | h
          · cases hw : Ei.writes l with
            | false => rfl
            | true =>
              obtain ⟨oi, hoi⟩ := hoof i Ei hEi
              have := hlater i oi Ei h hoi hEi (by unfold need; simp [(hcl i Ei hw).2])
              rw [this] at hd; cases hd
          · have : i = j := by omega
            subst this; rw [hdone] at hd; cases hd
      · cases hkl : G.kn l with
        | false => rfl
        | true =>
          exfalso
          have hfl := f3 j E hE l hl
          rcases hD l hkl with h | ⟨i, Ei, hEi, hdi, hli⟩
          · have h1 := hS0.fresh l h
            have h2 := f1 0 j (by omega) (by simpa using Nat.le_of_lt hjl)
            omega
          · have hfi := f3 i Ei hEi l hli
            obtain ⟨oi, hoi⟩ := hoof i Ei hEi
            have hil : i < ops.size := (Array.getElem?_eq_some_iff.1 hoi).1
            rcases Nat.lt_trichotomy i j with h | h | h
            · have := f1 (i + 1) j (by omega) (by simpa using Nat.le_of_lt hjl); omega
            · subst h; rw [hdone] at hdi; cases hdi
            · have := f1 (j + 1) i (by omega) (by simpa using Nat.le_of_lt hil); omega
    · rw [if_neg (by rw [gok_wanted hg hgr]; simp)]
      subst hsk
      exact hend undef w G (Ext.refl G w) hsim (.tup [] #[] rfl fun i d v h => by simp at h) fun l hl => .inl hl
  · rintro done a w ⟨G, hx, hsim, hdf, hsz, hA, hB, _, hD⟩ hall
    have hall' : ∀ i E, Es[i]? = some E → done i = true := fun i E hE => by
      obtain ⟨o, ho⟩ := hoof i E hE
      exact hall i (Array.getElem?_eq_some_iff.1 ho).1
    refine hQ G a w ⟨?_, hdf, hsz, fun t d hd => ?_, fun l hl => ?_⟩ hx
    · refine hsim.same fun l => ?_
      rw [hm']
      refine (memAt_eq rfl (fun i E _ hE _ => by rw [Nat.zero_add]; exact hall' i E hE) (fun i E hi hE _ => ?_)).symm
      have hlt : i < Es.length := (List.getElem?_eq_some_iff.1 hE).1
      rw [hlen] at hlt
      omega
    · rw [hρ] at hd
      rcases slotsAt_get _ _ _ _ _ _ hd with ⟨i, oi, Ei, hij, hoi, hEi, hdi, rfl⟩ | ⟨h1, h2⟩
      · exact hB i oi Ei t (by simpa using hoi) hEi (hall' i Ei hEi) hdi
      · rw [hA t fun i oi hoi hdi he => ?_]
        · exact (hS0.slots t d h1).mono hx
        · obtain ⟨Ei, hEi⟩ := hEof i oi hoi
          exact h2 i oi Ei (by simpa using (Array.getElem?_eq_some_iff.1 hoi).1) (by simpa using hoi) hEi he
    · rcases hD l hl with h | ⟨i, E, hE, _, hlE⟩
      · have h1 := hS0.fresh l h
        have h2 := f1 0 ops.toList.length (by omega) (Nat.le_refl _)
        omega
      · have h1 := (f3 i E hE l hlE).2
        have hlt : i < Es.length := (List.getElem?_eq_some_iff.1 hE).1
        rw [hlen] at hlt
        have h2 := f1 (i + 1) ops.toList.length (by omega) (Nat.le_refl _)
        omega
end
end Go.Proofs.YtcfefmbbbfdppaaGreatDoor
