/- Data as trees, and what of the memory of a program they stand for: a value in a world reads as a tree; what is data stays. Of any program. No conditions. -/
import Derived.Test.YtbljcgdehihlgaaSet
namespace Go.Proofs.Ytbljcgdehihlgaa
open Go.RowKit
set_option linter.unusedVariables false

/-- may a slice be appended to? -/
inductive Tok where
  | frozen
  | tight
  | own (k : Nat)

/-- data as trees: a slice is what it holds; a variable is named by its number -/
inductive D where
  | int (k : IntKind) (n : Int)
  | bool (b : Bool)
  | str (s : ByteArray)
  | agg (cs : List D)
  | tup (vs : List D)
  | slice (tk : Tok) (n : Nat) (cs : List D)
  | ptr (l off : Nat)
  | eptr (cs : List D)
  | fn (f : FuncId) (cap : List D)
  | raw (v : Value)
  | opq
  | undef

/-- takes one cell -/
def D.one : D → Bool
  | .agg _ | .tup _ | .undef => false
  | _ => true

mutual
/-- names no variable and no right to append -/
def D.cl : D → Bool
  | .agg cs | .tup cs | .fn _ cs => D.cls cs
  | .slice tk _ _ => match tk with | .own _ => false | _ => true
  | .ptr _ _ => false
  | _ => true
def D.cls : List D → Bool
  | [] => true
  | d :: ds => d.cl && D.cls ds
end

theorem D.cls_mem : ∀ {ds : List D}, D.cls ds = true → ∀ d ∈ ds, d.cl = true
  | [], _, _, h => by simp at h
  | x :: xs, h, d, hd => by
    simp only [D.cls, Bool.and_eq_true] at h
    rcases List.mem_cons.1 hd with rfl | hd
    · exact h.1
    · exact D.cls_mem h.2 d hd
theorem D.cls_of : ∀ {ds : List D}, (∀ d ∈ ds, d.cl = true) → D.cls ds = true
  | [], _ => rfl
  | x :: xs, h => by simp only [D.cls, Bool.and_eq_true]; exact ⟨h x (by simp), D.cls_of fun d hd => h d (by simp [hd])⟩

mutual
/-- without any right to append, and variables unseen -/
def D.fz : D → D
  | .agg cs => .agg (D.fzs cs)
  | .tup cs => .tup (D.fzs cs)
  | .fn f cs => .fn f (D.fzs cs)
  | .slice tk n cs => .slice (match tk with | .own _ => .frozen | t => t) n cs
  | .ptr _ _ => .opq
  | d => d
def D.fzs : List D → List D
  | [] => []
  | d :: ds => d.fz :: D.fzs ds
end

theorem D.fzs_length : ∀ (ds : List D), (D.fzs ds).length = ds.length
  | [] => rfl
  | _ :: ds => by simp [D.fzs, D.fzs_length ds]
theorem D.fzs_get : ∀ (ds : List D) (i : Nat), (D.fzs ds)[i]? = (ds[i]?).map D.fz
  | [], i => by simp [D.fzs]
  | d :: ds, 0 => by simp [D.fzs]
  | d :: ds, i + 1 => by simp [D.fzs, D.fzs_get ds i]
theorem D.fz_one (d : D) : d.fz.one = d.one := by cases d <;> simp [D.fz, D.one]

/-- which variables are known, where they lie, which rights stand, and how much of each block is data -/
structure Gh where
  kn : Nat → Bool
  g : Nat → Nat
  al : Nat → Bool
  hw : Nat → Nat

def TokOk (G : Gh) : Tok → (b e n cap : Nat) → Prop
  | .frozen, _, _, _, _ => True
  | .tight, _, _, n, cap => cap = n
  | .own k, b, e, _, _ => G.kn k = true ∧ (G.al k = true → b = G.g k ∧ e = G.hw b)

inductive Rep (G : Gh) (w : World) : D → Value → Prop where
  | int (k : IntKind) (n : Int) : Rep G w (.int k n) (.int k n)
  | bool (b : Bool) : Rep G w (.bool b) (.bool b)
  | str (s : ByteArray) : Rep G w (.str s) (.string s)
  | agg (ds : List D) (vs : Array Value) (hl : vs.size = ds.length) (h1 : ∀ d ∈ ds, d.one = true) (h : ∀ (i : Nat) (d : D) (v : Value), ds[i]? = some d → vs[i]? = some v → Rep G w d v) : Rep G w (.agg ds) (.agg vs)
  | tup (ds : List D) (vs : Array Value) (hl : vs.size = ds.length) (h : ∀ (i : Nat) (d : D) (v : Value), ds[i]? = some d → vs[i]? = some v → Rep G w d v) : Rep G w (.tup ds) (.tuple vs)
  | nil (tk : Tok) (hk : ∀ k, tk = .own k → G.kn k = true) : Rep G w (.slice tk 0 []) (.slice none 0 0)
  | slice (tk : Tok) (n : Nat) (cs : List D) (b o cap : Nat) (vs : Array Value) (hl : vs.size = cs.length) (h1 : ∀ d ∈ cs, d.one = true ∧ d.cl = true) (h : ∀ (i : Nat) (d : D) (v : Value), cs[i]? = some d → vs[i]? = some v → Rep G w d v)
      (hh : o + cs.length ≤ G.hw b) (hc : ∀ i, i < cs.length → w.cell? ⟨b, o + i, none⟩ = vs[i]?) (hb : b < w.heap.size) (hn : n ≤ cap) (ht : TokOk G tk b (o + cs.length) n cap) : Rep G w (.slice tk n cs) (.slice (some ⟨b, o, none⟩) n cap)
  | ptr (l off : Nat) (h : G.kn l = true) : Rep G w (.ptr l off) (.pointer (some ⟨G.g l, off, none⟩))
  | eptr (cs : List D) (b o : Nat) (vs : Array Value) (hl : vs.size = cs.length) (h1 : ∀ d ∈ cs, d.one = true ∧ d.cl = true) (h : ∀ (i : Nat) (d : D) (v : Value), cs[i]? = some d → vs[i]? = some v → Rep G w d v)
      (hh : o + cs.length ≤ G.hw b) (hc : ∀ i, i < cs.length → w.cell? ⟨b, o + i, none⟩ = vs[i]?) : Rep G w (.eptr cs) (.pointer (some ⟨b, o, none⟩))
  | fn (f : FuncId) (ds : List D) (vs : Array Value) (hl : vs.size = ds.length) (h : ∀ (i : Nat) (d : D) (v : Value), ds[i]? = some d → vs[i]? = some v → Rep G w d v) : Rep G w (.fn f ds) (.func (.func f) #[] vs)
  | raw (v : Value) (h : v.oneCell' = true) : Rep G w (.raw v) v
  | opq (v : Value) (h : v.oneCell' = true) : Rep G w .opq v
  | undef (v : Value) : Rep G w .undef v

def Reps (G : Gh) (w : World) (ds : List D) (vs : Array Value) : Prop := vs.size = ds.length ∧ ∀ (i : Nat) (d : D) (v : Value), ds[i]? = some d → vs[i]? = some v → Rep G w d v

/-- a later state of affairs -/
structure Ext (G : Gh) (w : World) (G' : Gh) (w' : World) : Prop where
  kn : ∀ l, G.kn l = true → G'.kn l = true ∧ G'.g l = G.g l ∧ (G'.al l = true → G.al l = true ∧ G'.hw (G.g l) = G.hw (G.g l))
  hw : ∀ b, G.hw b ≤ G'.hw b
  cell : ∀ b i, i < G.hw b → w'.cell? ⟨b, i, none⟩ = w.cell? ⟨b, i, none⟩
  size : w.heap.size ≤ w'.heap.size

theorem Ext.refl (G : Gh) (w : World) : Ext G w G w := ⟨fun _ h => ⟨h, rfl, fun h => ⟨h, rfl⟩⟩, fun _ => Nat.le_refl _, fun _ _ _ => rfl, Nat.le_refl _⟩
theorem Ext.trans {G G1 G2 : Gh} {w w1 w2 : World} (h : Ext G w G1 w1) (k : Ext G1 w1 G2 w2) : Ext G w G2 w2 := by
  refine ⟨fun l hl => ?_, fun b => Nat.le_trans (h.hw b) (k.hw b), fun b i hi => (k.cell b i (Nat.lt_of_lt_of_le hi (h.hw b))).trans (h.cell b i hi), Nat.le_trans h.size k.size⟩
  obtain ⟨a1, a2, a3⟩ := h.kn l hl
  obtain ⟨b1, b2, b3⟩ := k.kn l a1
  refine ⟨b1, b2.trans a2, fun ha => ?_⟩
  obtain ⟨c1, c2⟩ := b3 ha
  obtain ⟨d1, d2⟩ := a3 c1
  rw [a2] at c2
  exact ⟨d1, c2.trans d2⟩

theorem TokOk.mono {G G' : Gh} {w w' : World} (hx : Ext G w G' w') {tk : Tok} {b e n cap : Nat} (h : TokOk G tk b e n cap) : TokOk G' tk b e n cap := by
  cases tk with
  | frozen => trivial
  | tight => exact h
  | own k =>
    obtain ⟨h1, h2⟩ := h
    obtain ⟨a1, a2, a3⟩ := hx.kn k h1
    refine ⟨a1, fun ha => ?_⟩
    obtain ⟨c1, c2⟩ := a3 ha
    obtain ⟨d1, d2⟩ := h2 c1
    subst d1
    exact ⟨a2.symm, d2.trans c2.symm⟩

theorem Rep.mono {G G' : Gh} {w w' : World} (hx : Ext G w G' w') {d : D} {v : Value} (h : Rep G w d v) : Rep G' w' d v := by
  induction h with
  | int k n => exact .int k n
  | bool b => exact .bool b
  | str s => exact .str s
  | agg ds vs hl h1 _ ih => exact .agg ds vs hl h1 ih
  | tup ds vs hl _ ih => exact .tup ds vs hl ih
  | nil tk hk => exact .nil tk fun k e => (hx.kn k (hk k e)).1
  | slice tk n cs b o cap vs hl h1 _ hh hc hb hn ht ih => exact .slice tk n cs b o cap vs hl h1 ih (Nat.le_trans hh (hx.hw b)) (fun i hi => (hx.cell b (o + i) (by omega)).trans (hc i hi)) (Nat.lt_of_lt_of_le hb hx.size) hn (ht.mono hx)
  | ptr l off h =>
    obtain ⟨a1, a2, _⟩ := hx.kn l h
    rw [← a2]; exact .ptr l off a1
  | eptr cs b o vs hl h1 _ hh hc ih => exact .eptr cs b o vs hl h1 ih (Nat.le_trans hh (hx.hw b)) (fun i hi => (hx.cell b (o + i) (by omega)).trans (hc i hi))
  | fn f ds vs hl _ ih => exact .fn f ds vs hl ih
  | raw v h => exact .raw v h
  | opq v h => exact .opq v h
  | undef v => exact .undef v

theorem Reps.mono {G G' : Gh} {w w' : World} (hx : Ext G w G' w') {ds : List D} {vs : Array Value} (h : Reps G w ds vs) : Reps G' w' ds vs :=
  ⟨h.1, fun i d v hd hv => (h.2 i d v hd hv).mono hx⟩

/-- the state of affairs in which no variable is known -/
def bare (hw : Nat → Nat) : Gh := ⟨fun _ => false, fun _ => 0, fun _ => false, hw⟩

/-- data that names no variable reads alike whatever variables are known -/
theorem Rep.closed {G : Gh} {w : World} {d : D} {v : Value} (h : Rep G w d v) (G' : Gh) (hw : G'.hw = G.hw) (hc : d.cl = true) : Rep G' w d v := by
  induction h with
  | int k n => exact .int k n
  | bool b => exact .bool b
  | str s => exact .str s
  | agg ds vs hl h1 _ ih => exact .agg ds vs hl h1 fun i d v hd hv => ih i d v hd hv (D.cls_mem (by simpa [D.cl] using hc) d (List.mem_of_getElem? hd))
  | tup ds vs hl _ ih => exact .tup ds vs hl fun i d v hd hv => ih i d v hd hv (D.cls_mem (by simpa [D.cl] using hc) d (List.mem_of_getElem? hd))
  | nil tk hk => exact .nil tk fun k e => by subst e; simp [D.cl] at hc
  | slice tk n cs b o cap vs hl h1 _ hh hcc hb hn ht ih =>
    refine .slice tk n cs b o cap vs hl h1 (fun i d v hd hv => ih i d v hd hv (h1 d (List.mem_of_getElem? hd)).2) (by rw [hw]; exact hh) hcc hb hn ?_
    cases tk with
    | frozen => trivial
    | tight => exact ht
    | own k => simp [D.cl] at hc
  | ptr l off h => simp [D.cl] at hc
  | eptr cs b o vs hl h1 _ hh hcc ih => exact .eptr cs b o vs hl h1 (fun i d v hd hv => ih i d v hd hv (h1 d (List.mem_of_getElem? hd)).2) (by rw [hw]; exact hh) hcc
  | fn f ds vs hl _ ih => exact .fn f ds vs hl fun i d v hd hv => ih i d v hd hv (D.cls_mem (by simpa [D.cl] using hc) d (List.mem_of_getElem? hd))
  | raw v h => exact .raw v h
  | opq v h => exact .opq v h
  | undef v => exact .undef v

theorem Rep.fz {G : Gh} {w : World} {d : D} {v : Value} (h : Rep G w d v) : Rep G w d.fz v := by
  have key : ∀ (ds : List D) (vs : Array Value), (∀ (i : Nat) (d : D) (v : Value), ds[i]? = some d → vs[i]? = some v → Rep G w d.fz v) → ∀ (i : Nat) (d : D) (v : Value), (D.fzs ds)[i]? = some d → vs[i]? = some v → Rep G w d v := by
    intro ds vs ih i d v hd hv
    rw [D.fzs_get] at hd
    obtain ⟨d0, h0, rfl⟩ := Option.map_eq_some_iff.1 hd
    exact ih i d0 v h0 hv
  induction h with
  | int k n => exact .int k n
  | bool b => exact .bool b
  | str s => exact .str s
  | agg ds vs hl h1 _ ih =>
    refine .agg _ vs (by rw [D.fzs_length]; exact hl) (fun d hd => ?_) (key ds vs ih)
    obtain ⟨i, hi⟩ := List.getElem?_of_mem hd
    rw [D.fzs_get] at hi
    obtain ⟨d0, h0, rfl⟩ := Option.map_eq_some_iff.1 hi
    rw [D.fz_one]; exact h1 d0 (List.mem_of_getElem? h0)
  | tup ds vs hl _ ih => exact .tup _ vs (by rw [D.fzs_length]; exact hl) (key ds vs ih)
  | nil tk hk =>
    refine .nil _ fun k e => ?_
    cases tk <;> simp at e
  | slice tk n cs b o cap vs hl h1 h hh hc hb hn ht _ =>
    refine .slice _ n cs b o cap vs hl h1 h hh hc hb hn ?_
    cases tk with
    | frozen => trivial
    | tight => exact ht
    | own k => trivial
  | ptr l off h => exact .opq _ rfl
  | eptr cs b o vs hl h1 h hh hc _ => exact .eptr cs b o vs hl h1 h hh hc
  | fn f ds vs hl _ ih => exact .fn f _ vs (by rw [D.fzs_length]; exact hl) (key ds vs ih)
  | raw v h => exact .raw v h
  | opq v h => exact .opq v h
  | undef v => exact .undef v

/-- the cells of a value -/
theorem Rep.one {G : Gh} {w : World} {d : D} {v : Value} (h : Rep G w d v) (h1 : d.one = true) : v.oneCell' = true ∧ v.cells = #[v] := by
  cases h <;> simp [D.one] at h1 <;> first | exact ⟨rfl, rfl⟩ | skip
  all_goals rename_i h; cases v <;> first | exact ⟨rfl, rfl⟩ | cases h

theorem Reps.cons {G : Gh} {w : World} {d : D} {ds : List D} {v : Value} {vs : List Value} (h : Rep G w d v) (t : Reps G w ds vs.toArray) : Reps G w (d :: ds) (v :: vs).toArray := by
  refine ⟨by have := t.1; simp at this ⊢; exact this, fun i d' v' hd hv => ?_⟩
  cases i with
  | zero => simp at hd hv; subst hd; subst hv; exact h
  | succ i => exact t.2 i d' v' (by simpa using hd) (by simpa using hv)
theorem Reps.nil {G : Gh} {w : World} : Reps G w [] #[] := ⟨rfl, fun i d v hd => by simp at hd⟩

theorem Reps.uncons {G : Gh} {w : World} {d : D} {ds : List D} {vs : Array Value} (h : Reps G w (d :: ds) vs) : ∃ v rest, vs = (v :: rest).toArray ∧ Rep G w d v ∧ Reps G w ds rest.toArray := by
  obtain ⟨h1, h2⟩ := h
  obtain ⟨l⟩ := vs
  cases l with
  | nil => simp at h1
  | cons v rest =>
    refine ⟨v, rest, rfl, h2 0 d v (by simp) (by simp), by simpa using h1, fun i d' v' hd hv => h2 (i + 1) d' v' (by simpa using hd) (by simpa using hv)⟩
theorem Reps.unnil {G : Gh} {w : World} {vs : Array Value} (h : Reps G w [] vs) : vs = #[] := by
  have := h.1; simpa using this

/-! ### The memory of a program: its variables, and its rights to append -/

inductive Loc where
  | var (T : TypeId) (cs : List D)
  | tok

abbrev Mem := List (Nat × Option Loc)
abbrev Slots := List (Nat × D)

def mget : Mem → Nat → Option Loc
  | [], _ => none
  | (k, c) :: r, l => cond (Nat.beq k l) c (mget r l)
def sget : Slots → Nat → Option D
  | [], _ => none
  | (k, d) :: r, t => cond (Nat.beq k t) (some d) (sget r t)
def sput (ρ : Slots) (t : Option Tmp) (d : D) : Slots := match t with | some t => (t, d) :: ρ | none => ρ

/-- where a function began: the world, how much of it was data, and which old blocks it may write to -/
structure Base where
  W : World
  hw : Nat → Nat
  T : List Nat

structure Sim (B : Base) (G : Gh) (m : Mem) (w : World) : Prop where
  new : Keep B.T B.W w
  old : ∀ b, b < B.W.heap.size → G.hw b = B.hw b
  var : ∀ l T cs, mget m l = some (.var T cs) → G.kn l = true ∧ (B.W.heap.size ≤ G.g l ∨ G.g l ∈ B.T) ∧ G.hw (G.g l) = 0 ∧ ∃ vs, w.heap[G.g l]? = some (.cells vs T (0, 0)) ∧ Reps G w cs vs ∧ ∀ d ∈ cs, d.one = true
  tok : ∀ l, mget m l = some .tok → G.kn l = true ∧ G.al l = true ∧ (B.W.heap.size ≤ G.g l ∨ G.g l ∈ B.T) ∧ ∃ vs T, w.heap[G.g l]? = some (.cells vs T (0, 0)) ∧ G.hw (G.g l) ≤ vs.size
  inj : ∀ l l', (mget m l).isSome = true → (mget m l').isSome = true → l ≠ l' → G.g l ≠ G.g l'
  data : ∀ b, 0 < G.hw b → ∃ vs T fr, w.heap[b]? = some (.cells vs T fr) ∧ G.hw b ≤ vs.size

theorem Keep.nil {a b : World} (h : Keep [] a b) : New a b := ⟨h.os, h.tape, h.output, h.size, fun k hk => h.block k hk (by simp)⟩
theorem Sim.lt {B : Base} {G : Gh} {m : Mem} {w : World} (h : Sim B G m w) {l : Nat} (hl : (mget m l).isSome = true) : G.g l < w.heap.size := by
  have key : ∀ (o : Obj), w.heap[G.g l]? = some o → G.g l < w.heap.size := fun o ho => (Array.getElem?_eq_some_iff.1 ho).1
  cases hm : mget m l with
  | none => rw [hm] at hl; cases hl
  | some c =>
    cases c with
    | var T cs => obtain ⟨_, _, _, vs, hv, _⟩ := h.var l T cs hm; exact key _ hv
    | tok => obtain ⟨_, _, _, vs, T, hv, _⟩ := h.tok l hm; exact key _ hv

/-- the world has got new blocks alone -/
theorem Ext.grow {G : Gh} {w w' : World} (hd : ∀ b, 0 < G.hw b → ∃ vs T fr, w.heap[b]? = some (.cells vs T fr) ∧ G.hw b ≤ vs.size) (h : New w w') : Ext G w G w' := by
  refine ⟨fun _ h => ⟨h, rfl, fun h => ⟨h, rfl⟩⟩, fun _ => Nat.le_refl _, fun b i hi => ?_, h.size⟩
  obtain ⟨vs, T, fr, hv, _⟩ := hd b (by omega)
  have hlt := (Array.getElem?_eq_some_iff.1 hv).1
  simp only [World.cell?, h.block b hlt]

theorem Sim.grow {B : Base} {G : Gh} {m : Mem} {w w' : World} (h : Sim B G m w) (k : New w w') : Sim B G m w' := by
  have hx := Ext.grow h.data k
  refine ⟨h.new.new k, h.old, fun l T cs hm => ?_, fun l hm => ?_, h.inj, fun b hb => ?_⟩
  · obtain ⟨a, b, c, vs, hv, hr, h1⟩ := h.var l T cs hm
    exact ⟨a, b, c, vs, (k.block _ (h.lt (by rw [hm]; rfl))).trans hv, hr.mono hx, h1⟩
  · obtain ⟨a, b, c, vs, T, hv, hr⟩ := h.tok l hm
    exact ⟨a, b, c, vs, T, (k.block _ (h.lt (by rw [hm]; rfl))).trans hv, hr⟩
  · obtain ⟨vs, T, fr, hv, hs⟩ := h.data b hb
    exact ⟨vs, T, fr, (k.block _ (Array.getElem?_eq_some_iff.1 hv).1).trans hv, hs⟩

/-- memory counts by what is found in it -/
theorem Sim.same {B : Base} {G : Gh} {m m' : Mem} {w : World} (h : Sim B G m w) (e : ∀ l, mget m' l = mget m l) : Sim B G m' w :=
  ⟨h.new, h.old, fun l T cs hm => h.var l T cs ((e l).symm.trans hm), fun l hm => h.tok l ((e l).symm.trans hm), fun l l' a b => h.inj l l' (by rw [← e]; exact a) (by rw [← e]; exact b), h.data⟩

/-- a new variable -/
theorem Sim.alloc {B : Base} {G : Gh} {m : Mem} {w : World} (h : Sim B G m w) {l : Nat} (hl : G.kn l = false) {T : TypeId} {cs : List D} {vs : Array Value} (hr : Reps G w cs vs) (h1 : ∀ d ∈ cs, d.one = true) :
    ∃ G', Ext G w G' (w.alloc (.cells vs T)) ∧ Sim B G' ((l, some (.var T cs)) :: m) (w.alloc (.cells vs T)) ∧ G'.kn l = true ∧ G'.g l = w.heap.size ∧ (∀ l', G'.kn l' = true → G.kn l' = true ∨ l' = l) ∧ G'.hw = G.hw := by
  have hn : New w (w.alloc (.cells vs T)) := new_alloc (new_refl w) _
  have h0 : G.hw w.heap.size = 0 := by
    rcases Nat.eq_zero_or_pos (G.hw w.heap.size) with h0 | h0
    · exact h0
    · obtain ⟨_, _, _, hv, _⟩ := h.data _ h0
      have := (Array.getElem?_eq_some_iff.1 hv).1; omega
  let G' : Gh := ⟨fun x => G.kn x || x == l, fun x => if x = l then w.heap.size else G.g x, fun x => G.al x, G.hw⟩
  have hkl : ∀ x, G.kn x = true → x ≠ l := fun x hx e => by rw [e, hl] at hx; cases hx
  have hx0 : Ext G w G (w.alloc (.cells vs T)) := Ext.grow h.data hn
  have hx : Ext G w G' (w.alloc (.cells vs T)) := by
    refine ⟨fun x hk => ⟨by simp [G', hk], by simp [G', hkl x hk], fun ha => ⟨ha, rfl⟩⟩, fun _ => Nat.le_refl _, hx0.cell, hx0.size⟩
  have hsz : B.W.heap.size ≤ w.heap.size := h.new.size
  have hg : ∀ x, G.kn x = true → G'.g x = G.g x := fun x hk => by simp [G', hkl x hk]
  have hget : ∀ x, x ≠ l → mget ((l, some (.var T cs)) :: m) x = mget m x := fun x hne => by
    have : Nat.beq l x = false := by rw [← Bool.not_eq_true]; exact fun h => hne (Nat.eq_of_beq_eq_true h).symm
    simp [mget, this]
  have hkm : ∀ x, (mget m x).isSome = true → G.kn x = true := fun x hx => by
    cases hm : mget m x with
    | none => rw [hm] at hx; cases hx
    | some c => cases c with
      | var T cs => exact (h.var x T cs hm).1
      | tok => exact (h.tok x hm).1
  have hgl : G'.g l = w.heap.size := by simp [G']
  refine ⟨G', hx, ⟨h.new.new hn, h.old, fun x T' cs' hm => ?_, fun x hm => ?_, fun x x' ha hb hne => ?_, fun b hb => ?_⟩, by simp [G'], hgl, fun x hk => ?_, rfl⟩
  · by_cases he : x = l
    · subst he
      simp only [mget, Nat.beq_refl, cond_true, Option.some.injEq, Loc.var.injEq] at hm
      obtain ⟨rfl, rfl⟩ := hm
      refine ⟨by simp [G'], by rw [hgl]; exact .inl hsz, by rw [hgl]; exact h0, vs, by rw [hgl]; exact heap_alloc_new w _, hr.mono hx, h1⟩
    · rw [hget x he] at hm
      obtain ⟨a, b, c, vs', hv, hr', h1'⟩ := h.var x T' cs' hm
      refine ⟨by simp [G', a], by rw [hg x a]; exact b, by rw [hg x a]; exact c, vs', ?_, hr'.mono hx, h1'⟩
      rw [hg x a]; exact (hn.block _ (h.lt (by rw [hm]; rfl))).trans hv
  · by_cases he : x = l
    · subst he
      simp [mget, Nat.beq_refl] at hm
    · rw [hget x he] at hm
      obtain ⟨a, b, c, vs', T', hv, hr'⟩ := h.tok x hm
      refine ⟨by simp [G', a], b, by rw [hg x a]; exact c, vs', T', ?_, by rw [hg x a]; exact hr'⟩
      rw [hg x a]; exact (hn.block _ (h.lt (by rw [hm]; rfl))).trans hv
  · by_cases he : x = l
    · subst he
      rw [hget x' (Ne.symm hne)] at hb
      have := h.lt hb
      rw [hgl, hg x' (hkm x' hb)]; omega
    · by_cases he' : x' = l
      · subst he'
        rw [hget x he] at ha
        have := h.lt ha
        rw [hgl, hg x (hkm x ha)]; omega
      · rw [hget x he] at ha; rw [hget x' he'] at hb
        rw [hg x (hkm x ha), hg x' (hkm x' hb)]
        exact h.inj x x' ha hb hne
  · obtain ⟨vs', T', fr, hv, hs⟩ := h.data b hb
    exact ⟨vs', T', fr, (hn.block _ (Array.getElem?_eq_some_iff.1 hv).1).trans hv, hs⟩
  · simp only [G', Bool.or_eq_true, beq_iff_eq] at hk; exact hk

/-- a variable written anew -/
theorem Sim.write {B : Base} {G : Gh} {m : Mem} {w w' : World} (h : Sim B G m w) {l : Nat} {T : TypeId} {cs cs' : List D} {vs : Array Value} (hm : mget m l = some (.var T cs)) (hg : w.grownBy w' (some (G.g l)))
    (hv : w'.heap[G.g l]? = some (.cells vs T (0, 0))) (hr : Reps G w cs' vs) (h1 : ∀ d ∈ cs', d.one = true) : Ext G w G w' ∧ Sim B G ((l, some (.var T cs')) :: m) w' := by
  obtain ⟨a, b, c, _⟩ := h.var l T cs hm
  have hblk : ∀ k, k < w.heap.size → k ≠ G.g l → w'.heap[k]? = w.heap[k]? := fun k hk hne => hg.block k hk (fun e => by injection e with e; exact hne e)
  have hx : Ext G w G w' := by
    refine ⟨fun _ h => ⟨h, rfl, fun h => ⟨h, rfl⟩⟩, fun _ => Nat.le_refl _, fun k i hi => ?_, hg.size⟩
    obtain ⟨vs', T', fr, hv', _⟩ := h.data k (by omega)
    have hne : k ≠ G.g l := fun e => by rw [e, c] at hi; omega
    simp only [World.cell?, hblk k (Array.getElem?_eq_some_iff.1 hv').1 hne]
  have hget : ∀ x, x ≠ l → mget ((l, some (.var T cs')) :: m) x = mget m x := fun x hne => by
    have : Nat.beq l x = false := by rw [← Bool.not_eq_true]; exact fun h => hne (Nat.eq_of_beq_eq_true h).symm
    simp [mget, this]
  have hsome : ∀ x, (mget ((l, some (.var T cs')) :: m) x).isSome = true → (mget m x).isSome = true := fun x hx => by
    by_cases he : x = l
    · subst he; rw [hm]; rfl
    · rw [hget x he] at hx; exact hx
  refine ⟨hx, ⟨hg.os.trans h.new.os, hg.tape.trans h.new.tape, hg.output.trans h.new.output, Nat.le_trans h.new.size hg.size, fun k hk hT => (hblk k (Nat.lt_of_lt_of_le hk h.new.size) (fun e => b.elim (fun hb => by omega) (fun hb => hT (e ▸ hb)))).trans (h.new.block k hk hT)⟩, h.old, fun x T' cs2 hm' => ?_, fun x hm' => ?_, fun x x' ha hb hne => h.inj x x' (hsome x ha) (hsome x' hb) hne, fun k hk => ?_⟩
  · by_cases he : x = l
    · subst he
      simp only [mget, Nat.beq_refl, cond_true, Option.some.injEq, Loc.var.injEq] at hm'
      obtain ⟨rfl, rfl⟩ := hm'
      exact ⟨a, b, c, vs, hv, hr.mono hx, h1⟩
    · rw [hget x he] at hm'
      obtain ⟨a', b', c', vs', hv', hr', h1'⟩ := h.var x T' cs2 hm'
      exact ⟨a', b', c', vs', (hblk _ (h.lt (by rw [hm']; rfl)) (h.inj x l (by rw [hm']; rfl) (by rw [hm]; rfl) he)).trans hv', hr'.mono hx, h1'⟩
  · by_cases he : x = l
    · subst he
      simp [mget, Nat.beq_refl] at hm'
    · rw [hget x he] at hm'
      obtain ⟨a', b', c', vs', T', hv', hr'⟩ := h.tok x hm'
      exact ⟨a', b', c', vs', T', (hblk _ (h.lt (by rw [hm']; rfl)) (h.inj x l (by rw [hm']; rfl) (by rw [hm]; rfl) he)).trans hv', hr'⟩
  · obtain ⟨vs', T', fr, hv', hs⟩ := h.data k hk
    have hne : k ≠ G.g l := fun e => by rw [e, c] at hk; omega
    exact ⟨vs', T', fr, (hblk k (Array.getElem?_eq_some_iff.1 hv').1 hne).trans hv', hs⟩

end Go.Proofs.Ytbljcgdehihlgaa
