/- Data as trees, and what of the memory of a program they stand for: a value in a world reads as a tree; what is data stays. Of any program. No conditions. -/
import Derived.Test.YtcfefmbbbfdppaaGreatDoorSGlob
namespace Go.Proofs.YtcfefmbbbfdppaaGreatDoor
open Go.RowKit
set_option linter.unusedVariables false
inductive Tok where
  | frozen
  | tight
  | nil
  | own (k : Nat)
inductive D where
  | int (k : IntKind) (n : Int)
  | bool (b : Bool)
  | str (s : ByteArray)
  | agg (cs : List D)
  | tup (vs : List D)
  | slice (tk : Tok) (n : Nat) (cs : List D)
  | ptr (l off : Nat)
  | ms (l off n : Nat)
  | rs (l n : Nat)
  | mp (l : Nat)
  | eptr (cs : List D)
  | fn (f : FuncId) (cap : List D)
  | raw (v : Value)
  | opq
  | undef
def D.one : D → Bool
  | .agg _ | .tup _ | .undef => false
  | _ => true
mutual
def D.cl : D → Bool
  | .agg cs | .tup cs | .fn _ cs => D.cls cs
  | .slice tk _ _ => match tk with | .own _ => false | _ => true
  | .ptr _ _ => false
  | .ms _ _ _ => false
  | .rs _ _ => false
  | .mp _ => false
  | _ => true
def D.cls : List D → Bool
  | [] => true
  | d :: ds => d.cl && D.cls ds
end
theorem D.cls_mem : ∀ {ds : List D}, D.cls ds = true → ∀ d ∈ ds, d.cl = true
  | [], _, _, h => by simp at h
  | x :: xs, h, d, hd => by
    simp only [D.cls, Bool.and_eq_true] at h
    rcases List.mem_cons.1 hd with rfl | hd
    · exact h.1
    · exact D.cls_mem h.2 d hd
theorem D.cls_of : ∀ {ds : List D}, (∀ d ∈ ds, d.cl = true) → D.cls ds = true
  | [], _ => rfl
  | x :: xs, h => by simp only [D.cls, Bool.and_eq_true]; exact ⟨h x (by simp), D.cls_of fun d hd => h d (by simp [hd])⟩
mutual
def D.fz : D → D
  | .agg cs => .agg (D.fzs cs)
  | .tup cs => .tup (D.fzs cs)
  | .fn f cs => .fn f (D.fzs cs)
  | .slice tk n cs => .slice (match tk with | .own _ => .frozen | t => t) n cs
  | .ptr _ _ => .opq
  | .ms _ _ _ => .opq
  | .rs _ _ => .opq
  | .mp _ => .opq
  | d => d
def D.fzs : List D → List D
  | [] => []
  | d :: ds => d.fz :: D.fzs ds
end
theorem D.fzs_length : ∀ (ds : List D), (D.fzs ds).length = ds.length
  | [] => rfl
  | _ :: ds => by simp [D.fzs, D.fzs_length ds]
theorem D.fzs_get : ∀ (ds : List D) (i : Nat), (D.fzs ds)[i]? = (ds[i]?).map D.fz
  | [], i => by simp [D.fzs]
  | d :: ds, 0 => by simp [D.fzs]
  | d :: ds, i + 1 => by simp [D.fzs, D.fzs_get ds i]
theorem D.fz_one (d : D) : d.fz.one = d.one := by cases d <;> simp [D.fz, D.one]
structure Gh where
  kn : Nat → Bool
  g : Nat → Nat
  al : Nat → Bool
  hw : Nat → Nat
  nl : Nat → Bool
  cp : Nat → Nat
def TokOk (G : Gh) : Tok → (b o e n cap : Nat) → Prop
  | .frozen, _, _, _, _, _ => True
  | .tight, _, _, _, n, cap => cap = n
  | .nil, _, _, _, _, _ => False
  | .own k, b, o, e, n, cap => G.kn k = true ∧ (G.al k = true → (G.nl k = true → cap = n) ∧ (G.nl k = false → b = G.g k ∧ o = 0 ∧ e = G.hw b ∧ cap = G.cp k))
inductive Rep (G : Gh) (w : World) : D → Value → Prop where
  | int (k : IntKind) (n : Int) : Rep G w (.int k n) (.int k n)
  | bool (b : Bool) : Rep G w (.bool b) (.bool b)
  | str (s : ByteArray) : Rep G w (.str s) (.string s)
  | agg (ds : List D) (vs : Array Value) (hl : vs.size = ds.length) (h1 : ∀ d ∈ ds, d.one = true) (h : ∀ (i : Nat) (d : D) (v : Value), ds[i]? = some d → vs[i]? = some v → Rep G w d v) : Rep G w (.agg ds) (.agg vs)
  | tup (ds : List D) (vs : Array Value) (hl : vs.size = ds.length) (h : ∀ (i : Nat) (d : D) (v : Value), ds[i]? = some d → vs[i]? = some v → Rep G w d v) : Rep G w (.tup ds) (.tuple vs)
  | nil (tk : Tok) : Rep G w (.slice tk 0 []) (.slice none 0 0)
  | slice (tk : Tok) (n : Nat) (cs : List D) (b o cap : Nat) (vs : Array Value) (hl : vs.size = cs.length) (h1 : ∀ d ∈ cs, d.one = true ∧ d.cl = true) (h : ∀ (i : Nat) (d : D) (v : Value), cs[i]? = some d → vs[i]? = some v → Rep G w d v)
      (hh : o + cs.length ≤ G.hw b) (hc : ∀ i, i < cs.length → w.cell? ⟨b, o + i, none⟩ = vs[i]?) (hb : b < w.heap.size) (hn : n ≤ cap) (ht : TokOk G tk b o (o + cs.length) n cap) : Rep G w (.slice tk n cs) (.slice (some ⟨b, o, none⟩) n cap)
  | ptr (l off : Nat) (h : G.kn l = true) : Rep G w (.ptr l off) (.pointer (some ⟨G.g l, off, none⟩))
  | ms (l off n cap : Nat) (h : G.kn l = true) (hn : n ≤ cap) : Rep G w (.ms l off n) (.slice (some ⟨G.g l, off, none⟩) n cap)
  | rs (l n : Nat) (h : G.kn l = true) (hnl : G.nl l = false) (hn : n ≤ G.cp l) : Rep G w (.rs l n) (.slice (some ⟨G.g l, 0, none⟩) n (G.cp l))
  | rsn (l : Nat) : Rep G w (.rs l 0) (.slice none 0 0)
  | mp (l : Nat) (h : G.kn l = true) (hnl : G.nl l = false) : Rep G w (.mp l) (.map (some (G.g l)))
  | eptr (cs : List D) (b o : Nat) (vs : Array Value) (hl : vs.size = cs.length) (h1 : ∀ d ∈ cs, d.one = true ∧ d.cl = true) (h : ∀ (i : Nat) (d : D) (v : Value), cs[i]? = some d → vs[i]? = some v → Rep G w d v)
      (hh : o + cs.length ≤ G.hw b) (hc : ∀ i, i < cs.length → w.cell? ⟨b, o + i, none⟩ = vs[i]?) : Rep G w (.eptr cs) (.pointer (some ⟨b, o, none⟩))
  | fn (f : FuncId) (ds : List D) (vs : Array Value) (hl : vs.size = ds.length) (h : ∀ (i : Nat) (d : D) (v : Value), ds[i]? = some d → vs[i]? = some v → Rep G w d v) : Rep G w (.fn f ds) (.func (.func f) #[] vs)
  | raw (v : Value) (h : v.oneCell' = true) : Rep G w (.raw v) v
  | opq (v : Value) (h : v.oneCell' = true) : Rep G w .opq v
  | undef (v : Value) : Rep G w .undef v
def Reps (G : Gh) (w : World) (ds : List D) (vs : Array Value) : Prop := vs.size = ds.length ∧ ∀ (i : Nat) (d : D) (v : Value), ds[i]? = some d → vs[i]? = some v → Rep G w d v
structure Ext (G : Gh) (w : World) (G' : Gh) (w' : World) : Prop where
  kn : ∀ l, G.kn l = true → G'.kn l = true ∧ G'.g l = G.g l ∧ (G'.al l = true → G.al l = true ∧ (G.nl l = false → G'.hw (G.g l) = G.hw (G.g l))) ∧ G'.nl l = G.nl l ∧ G'.cp l = G.cp l
  hw : ∀ b, G.hw b ≤ G'.hw b
  cell : ∀ b i, i < G.hw b → w'.cell? ⟨b, i, none⟩ = w.cell? ⟨b, i, none⟩
  size : w.heap.size ≤ w'.heap.size
theorem Ext.refl (G : Gh) (w : World) : Ext G w G w := ⟨fun _ h => ⟨h, rfl, fun h => ⟨h, fun _ => rfl⟩, rfl, rfl⟩, fun _ => Nat.le_refl _, fun _ _ _ => rfl, Nat.le_refl _⟩
theorem Ext.trans {G G1 G2 : Gh} {w w1 w2 : World} (h : Ext G w G1 w1) (k : Ext G1 w1 G2 w2) : Ext G w G2 w2 := by
  refine ⟨fun l hl => ?_, fun b => Nat.le_trans (h.hw b) (k.hw b), fun b i hi => (k.cell b i (Nat.lt_of_lt_of_le hi (h.hw b))).trans (h.cell b i hi), Nat.le_trans h.size k.size⟩
  obtain ⟨a1, a2, a3, a4, a5⟩ := h.kn l hl
  obtain ⟨b1, b2, b3, b4, b5⟩ := k.kn l a1
  refine ⟨b1, b2.trans a2, fun ha => ?_, b4.trans a4, b5.trans a5⟩
  obtain ⟨c1, c2⟩ := b3 ha
  obtain ⟨d1, d2⟩ := a3 c1
  rw [a2, a4] at c2
  exact ⟨d1, fun hn => (c2 hn).trans (d2 hn)⟩
theorem TokOk.mono {G G' : Gh} {w w' : World} (hx : Ext G w G' w') {tk : Tok} {b o e n cap : Nat} (h : TokOk G tk b o e n cap) : TokOk G' tk b o e n cap := by
  cases tk with
  | frozen => trivial
  | tight => exact h
  | nil => exact h
  | own k =>
    obtain ⟨h1, h2⟩ := h
    obtain ⟨a1, a2, a3, a4, a5⟩ := hx.kn k h1
    refine ⟨a1, fun ha => ?_⟩
    obtain ⟨c1, c2⟩ := a3 ha
    obtain ⟨d0, d⟩ := h2 c1
    refine ⟨fun hn => d0 (a4.symm.trans hn), fun hn => ?_⟩
    have hn' := a4.symm.trans hn
    obtain ⟨d1, d2, d3, d4⟩ := d hn'
    subst d1
    exact ⟨a2.symm, d2, d3.trans (c2 hn').symm, d4.trans a5.symm⟩
theorem Rep.mono {G G' : Gh} {w w' : World} (hx : Ext G w G' w') {d : D} {v : Value} (h : Rep G w d v) : Rep G' w' d v := by
  induction h with
  | int k n => exact .int k n
  | bool b => exact .bool b
  | str s => exact .str s
  | agg ds vs hl h1 _ ih => exact .agg ds vs hl h1 ih
  | tup ds vs hl _ ih => exact .tup ds vs hl ih
  | nil tk => exact .nil tk
  | slice tk n cs b o cap vs hl h1 _ hh hc hb hn ht ih => exact .slice tk n cs b o cap vs hl h1 ih (Nat.le_trans hh (hx.hw b)) (fun i hi => (hx.cell b (o + i) (by omega)).trans (hc i hi)) (Nat.lt_of_lt_of_le hb hx.size) hn (ht.mono hx)
  | ptr l off h =>
    obtain ⟨a1, a2, _⟩ := hx.kn l h
    rw [← a2]; exact .ptr l off a1
  | ms l off n cap h hn =>
    obtain ⟨a1, a2, _⟩ := hx.kn l h
    rw [← a2]; exact .ms l off n cap a1 hn
  | rs l n h hnl hn =>
    obtain ⟨a1, a2, _, a4, a5⟩ := hx.kn l h
    rw [← a2, ← a5]; exact .rs l n a1 (a4.trans hnl) (by rw [a5]; exact hn)
  | rsn l => exact .rsn l
  | mp l h hnl =>
    obtain ⟨a1, a2, _, a4, _⟩ := hx.kn l h
    rw [← a2]; exact .mp l a1 (a4.trans hnl)
  | eptr cs b o vs hl h1 _ hh hc ih => exact .eptr cs b o vs hl h1 ih (Nat.le_trans hh (hx.hw b)) (fun i hi => (hx.cell b (o + i) (by omega)).trans (hc i hi))
  | fn f ds vs hl _ ih => exact .fn f ds vs hl ih
  | raw v h => exact .raw v h
  | opq v h => exact .opq v h
  | undef v => exact .undef v
theorem Reps.mono {G G' : Gh} {w w' : World} (hx : Ext G w G' w') {ds : List D} {vs : Array Value} (h : Reps G w ds vs) : Reps G' w' ds vs :=
  ⟨h.1, fun i d v hd hv => (h.2 i d v hd hv).mono hx⟩
def bare (hw : Nat → Nat) : Gh := ⟨fun _ => false, fun _ => 0, fun _ => false, hw, fun _ => false, fun _ => 0⟩
theorem Rep.closed {G : Gh} {w : World} {d : D} {v : Value} (h : Rep G w d v) (G' : Gh) (hw : G'.hw = G.hw) (hc : d.cl = true) : Rep G' w d v := by
  induction h with
  | int k n => exact .int k n
  | bool b => exact .bool b
  | str s => exact .str s
  | agg ds vs hl h1 _ ih => exact .agg ds vs hl h1 fun i d v hd hv => ih i d v hd hv (D.cls_mem (by simpa [D.cl] using hc) d (List.mem_of_getElem? hd))
  | tup ds vs hl _ ih => exact .tup ds vs hl fun i d v hd hv => ih i d v hd hv (D.cls_mem (by simpa [D.cl] using hc) d (List.mem_of_getElem? hd))
  | nil tk => exact .nil tk
  | slice tk n cs b o cap vs hl h1 _ hh hcc hb hn ht ih =>
    refine .slice tk n cs b o cap vs hl h1 (fun i d v hd hv => ih i d v hd hv (h1 d (List.mem_of_getElem? hd)).2) (by rw [hw]; exact hh) hcc hb hn ?_
    cases tk with
    | frozen => trivial
    | tight => exact ht
    | nil => exact ht
    | own k => simp [D.cl] at hc
  | ptr l off h => simp [D.cl] at hc
  | ms l off n cap h hn => simp [D.cl] at hc
  | rs l n h hnl hn => simp [D.cl] at hc
  | rsn l => simp [D.cl] at hc
  | mp l h hnl => simp [D.cl] at hc
  | eptr cs b o vs hl h1 _ hh hcc ih => exact .eptr cs b o vs hl h1 (fun i d v hd hv => ih i d v hd hv (h1 d (List.mem_of_getElem? hd)).2) (by rw [hw]; exact hh) hcc
  | fn f ds vs hl _ ih => exact .fn f ds vs hl fun i d v hd hv => ih i d v hd hv (D.cls_mem (by simpa [D.cl] using hc) d (List.mem_of_getElem? hd))
  | raw v h => exact .raw v h
  | opq v h => exact .opq v h
  | undef v => exact .undef v
theorem Rep.fz {G : Gh} {w : World} {d : D} {v : Value} (h : Rep G w d v) : Rep G w d.fz v := by
  have key : ∀ (ds : List D) (vs : Array Value), (∀ (i : Nat) (d : D) (v : Value), ds[i]? = some d → vs[i]? = some v → Rep G w d.fz v) → ∀ (i : Nat) (d : D) (v : Value), (D.fzs ds)[i]? = some d → vs[i]? = some v → Rep G w d v := by
    intro ds vs ih i d v hd hv
    rw [D.fzs_get] at hd
    obtain ⟨d0, h0, rfl⟩ := Option.map_eq_some_iff.1 hd
    exact ih i d0 v h0 hv
  induction h with
  | int k n => exact .int k n
  | bool b => exact .bool b
  | str s => exact .str s
  | agg ds vs hl h1 _ ih =>
    refine .agg _ vs (by rw [D.fzs_length]; exact hl) (fun d hd => ?_) (key ds vs ih)
    obtain ⟨i, hi⟩ := List.getElem?_of_mem hd
    rw [D.fzs_get] at hi
    obtain ⟨d0, h0, rfl⟩ := Option.map_eq_some_iff.1 hi
    rw [D.fz_one]; exact h1 d0 (List.mem_of_getElem? h0)
  | tup ds vs hl _ ih => exact .tup _ vs (by rw [D.fzs_length]; exact hl) (key ds vs ih)
  | nil tk => exact .nil _
  | slice tk n cs b o cap vs hl h1 h hh hc hb hn ht _ =>
    refine .slice _ n cs b o cap vs hl h1 h hh hc hb hn ?_
    cases tk with
    | frozen => trivial
    | tight => exact ht
    | nil => exact ht
    | own k => trivial
  | ptr l off h => exact .opq _ rfl
  | ms l off n cap h hn => exact .opq _ rfl
  | rs l n h hnl hn => exact .opq _ rfl
  | rsn l => exact .opq _ rfl
  | mp l h hnl => exact .opq _ rfl
  | eptr cs b o vs hl h1 h hh hc _ => exact .eptr cs b o vs hl h1 h hh hc
  | fn f ds vs hl _ ih => exact .fn f _ vs (by rw [D.fzs_length]; exact hl) (key ds vs ih)
  | raw v h => exact .raw v h
  | opq v h => exact .opq v h
  | undef v => exact .undef v
theorem Rep.one {G : Gh} {w : World} {d : D} {v : Value} (h : Rep G w d v) (h1 : d.one = true) : v.oneCell' = true ∧ v.cells = #[v] := by
  cases h <;> simp [D.one] at h1 <;> first | exact ⟨rfl, rfl⟩ | skip
  all_goals rename_i h; cases v <;> first | exact ⟨rfl, rfl⟩ | cases h
theorem Reps.cons {G : Gh} {w : World} {d : D} {ds : List D} {v : Value} {vs : List Value} (h : Rep G w d v) (t : Reps G w ds vs.toArray) : Reps G w (d :: ds) (v :: vs).toArray := by
  refine ⟨by have := t.1; simp at this ⊢; exact this, fun i d' v' hd hv => ?_⟩
  cases i with
  | zero => simp at hd hv; subst hd; subst hv; exact h
  | succ i => exact t.2 i d' v' (by simpa using hd) (by simpa using hv)
theorem Reps.nil {G : Gh} {w : World} : Reps G w [] #[] := ⟨rfl, fun i d v hd => by simp at hd⟩
theorem Reps.uncons {G : Gh} {w : World} {d : D} {ds : List D} {vs : Array Value} (h : Reps G w (d :: ds) vs) : ∃ v rest, vs = (v :: rest).toArray ∧ Rep G w d v ∧ Reps G w ds rest.toArray := by
  obtain ⟨h1, h2⟩ := h
  obtain ⟨l⟩ := vs
  cases l with
  | nil => simp at h1
  | cons v rest =>
    refine ⟨v, rest, rfl, h2 0 d v (by simp) (by simp), by simpa using h1, fun i d' v' hd hv => h2 (i + 1) d' v' (by simpa using hd) (by simpa using hv)⟩
theorem Reps.unnil {G : Gh} {w : World} {vs : Array Value} (h : Reps G w [] vs) : vs = #[] := by
  have := h.1; simpa using this
inductive OKind where
  | row (E : TypeId) (s : Nat)
  | map (ks : List Int)
  | iter (since : Nat) (seen : List Nat)
inductive Loc where
  | var (T : TypeId) (cs : List D)
  | tok (E : TypeId) (s : Nat)
  | obj (K : OKind) (cs : List D)
def OKind.none_ : OKind → List D → Prop
  | .row _ _, cs => cs = []
  | .map _, _ => False
  | .iter _ _, _ => False
def OKind.one : OKind → D → Prop
  | .row _ _, d => d.one = true
  | .map _, _ => True
  | .iter _ _, _ => True
def Shape (cp : Nat) : OKind → Array Value → Obj → Prop
  | .row E s, vs, o => ∃ ws, o = .cells ws E (0, 0) ∧ ws.size = cp * s ∧ cp ≤ maxLen ∧ vs.size ≤ ws.size ∧ (∀ i, i < vs.size → ws[i]? = vs[i]?) ∧ ∀ v ∈ ws.toList, v.oneCell' = true
  | .map ks, vs, o => ∃ ents : Array MapEntry, o = .map ents ents.size ∧ vs = ents.map (·.val) ∧ ents.toList.map (·.key) = ks.map (.int .i64) ∧ ents.toList.map (·.born) = List.range ents.size
  | .iter since seen, vs, o => ∃ b, vs = #[.map (some b)] ∧ o = .mapIter (some b) since seen.toArray since
def ObjOk (G : Gh) (w : World) (cp : Nat) (K : OKind) (cs : List D) (o : Obj) : Prop := ∃ vs, Shape cp K vs o ∧ Reps G w cs vs ∧ ∀ d ∈ cs, K.one d
theorem ObjOk.mono {G G' : Gh} {w w' : World} (hx : Ext G w G' w') {cp : Nat} {K : OKind} {cs : List D} {o : Obj} (h : ObjOk G w cp K cs o) : ObjOk G' w' cp K cs o := by
  obtain ⟨vs, h1, h2, h3⟩ := h
  exact ⟨vs, h1, h2.mono hx, h3⟩
abbrev Mem := List (Nat × Option Loc)
abbrev Slots := List (Nat × D)
def mget : Mem → Nat → Option Loc
  | [], _ => none
  | (k, c) :: r, l => cond (Nat.beq k l) c (mget r l)
def sget : Slots → Nat → Option D
  | [], _ => none
  | (k, d) :: r, t => cond (Nat.beq k t) (some d) (sget r t)
def sput (ρ : Slots) (t : Option Tmp) (d : D) : Slots := match t with | some t => (t, d) :: ρ | none => ρ
def GTab (w : World) (T : List Nat) : Prop := ∀ x ∈ gtab, x.1 ∉ T ∧ ∃ E fr, w.heap[x.1]? = some (.cells x.2.toArray E fr)
structure Base where
  W : World
  G : Gh
  T : List Nat
  glb : GTab W T
structure Sim (B : Base) (G : Gh) (m : Mem) (w : World) : Prop where
  new : Keep B.T B.W w
  ext : Ext B.G B.W G w
  old : ∀ b, b < B.W.heap.size → b ∉ B.T → G.hw b = B.G.hw b
  var : ∀ l T cs, mget m l = some (.var T cs) → G.kn l = true ∧ (B.W.heap.size ≤ G.g l ∨ G.g l ∈ B.T) ∧ G.hw (G.g l) = 0 ∧ G.nl l = false ∧ ∃ vs, w.heap[G.g l]? = some (.cells vs T (0, 0)) ∧ Reps G w cs vs ∧ ∀ d ∈ cs, d.one = true
  tok : ∀ l E s, mget m l = some (.tok E s) → G.kn l = true ∧ G.al l = true ∧ (G.nl l = false → (B.W.heap.size ≤ G.g l ∨ G.g l ∈ B.T) ∧ G.cp l ≤ maxLen ∧ ∃ vs, w.heap[G.g l]? = some (.cells vs E (0, 0)) ∧ G.hw (G.g l) ≤ vs.size ∧ vs.size = G.cp l * s)
  obj : ∀ l K cs, mget m l = some (.obj K cs) → G.kn l = true ∧ (G.nl l = true → K.none_ cs) ∧ (G.nl l = false → (B.W.heap.size ≤ G.g l ∨ G.g l ∈ B.T) ∧ G.hw (G.g l) = 0 ∧ ∃ o, w.heap[G.g l]? = some o ∧ ObjOk G w (G.cp l) K cs o)
  inj : ∀ l l', (mget m l).isSome = true → (mget m l').isSome = true → l ≠ l' → G.nl l = false → G.nl l' = false → G.g l ≠ G.g l'
  data : ∀ b, 0 < G.hw b → ∃ vs T fr, w.heap[b]? = some (.cells vs T fr) ∧ G.hw b ≤ vs.size
theorem Keep.nil {a b : World} (h : Keep [] a b) : New a b := ⟨h.os, h.tape, h.output, h.size, fun k hk => h.block k hk (by simp)⟩
theorem Sim.gtab_ {B : Base} {G : Gh} {m : Mem} {w : World} (h : Sim B G m w) : GTab w [] := fun x hx => by
  obtain ⟨h1, E, fr, h2⟩ := B.glb x hx
  exact ⟨by simp, E, fr, (h.new.block _ (Array.getElem?_eq_some_iff.1 h2).1 h1).trans h2⟩
theorem Sim.known {B : Base} {G : Gh} {m : Mem} {w : World} (h : Sim B G m w) {l : Nat} (hl : (mget m l).isSome = true) : G.kn l = true := by
  cases hm : mget m l with
  | none => rw [hm] at hl; cases hl
  | some c => cases c with
    | var T cs => exact (h.var l T cs hm).1
    | tok E s => exact (h.tok l E s hm).1
    | obj K cs => exact (h.obj l K cs hm).1
theorem Sim.lt {B : Base} {G : Gh} {m : Mem} {w : World} (h : Sim B G m w) {l : Nat} (hl : (mget m l).isSome = true) (hn : G.nl l = false) : G.g l < w.heap.size := by
  have key : ∀ (o : Obj), w.heap[G.g l]? = some o → G.g l < w.heap.size := fun o ho => (Array.getElem?_eq_some_iff.1 ho).1
  cases hm : mget m l with
  | none => rw [hm] at hl; cases hl
  | some c =>
    cases c with
    | var T cs => obtain ⟨_, _, _, _, vs, hv, _⟩ := h.var l T cs hm; exact key _ hv
    | tok E s => obtain ⟨_, _, ha⟩ := h.tok l E s hm; obtain ⟨_, _, vs, hv, _⟩ := ha hn; exact key _ hv
    | obj K cs => obtain ⟨_, _, ha⟩ := h.obj l K cs hm; obtain ⟨_, _, o, hv, _⟩ := ha hn; exact key _ hv
theorem Sim.vlt {B : Base} {G : Gh} {m : Mem} {w : World} (h : Sim B G m w) {l : Nat} {T : TypeId} {cs : List D} (hm : mget m l = some (.var T cs)) : G.g l < w.heap.size :=
  h.lt (by rw [hm]; rfl) (h.var l T cs hm).2.2.2.1
theorem mget_ne {l x : Nat} (c : Option Loc) (m : Mem) (hne : x ≠ l) : mget ((l, c) :: m) x = mget m x := by
  have : Nat.beq l x = false := by rw [← Bool.not_eq_true]; exact fun h => hne (Nat.eq_of_beq_eq_true h).symm
  simp [mget, this]
theorem mget_eq (l : Nat) (c : Option Loc) (m : Mem) : mget ((l, c) :: m) l = c := by simp [mget, Nat.beq_refl]
theorem Ext.grow {G : Gh} {w w' : World} (hd : ∀ b, 0 < G.hw b → ∃ vs T fr, w.heap[b]? = some (.cells vs T fr) ∧ G.hw b ≤ vs.size) (h : New w w') : Ext G w G w' := by
  refine ⟨fun _ h => ⟨h, rfl, fun h => ⟨h, fun _ => rfl⟩, rfl, rfl⟩, fun _ => Nat.le_refl _, fun b i hi => ?_, h.size⟩
  obtain ⟨vs, T, fr, hv, _⟩ := hd b (by omega)
  have hlt := (Array.getElem?_eq_some_iff.1 hv).1
  simp only [World.cell?, h.block b hlt]
theorem Sim.grow {B : Base} {G : Gh} {m : Mem} {w w' : World} (h : Sim B G m w) (k : New w w') : Sim B G m w' := by
  have hx := Ext.grow h.data k
  refine ⟨h.new.new k, h.ext.trans hx, h.old, fun l T cs hm => ?_, fun l E s hm => ?_, fun l K cs hm => ?_, h.inj, fun b hb => ?_⟩
  · obtain ⟨a, b, c, e, vs, hv, hr, h1⟩ := h.var l T cs hm
    exact ⟨a, b, c, e, vs, (k.block _ (h.vlt hm)).trans hv, hr.mono hx, h1⟩
  · obtain ⟨a, b, c⟩ := h.tok l E s hm
    refine ⟨a, b, fun hn => ?_⟩
    obtain ⟨c1, c2, vs, hv, hr⟩ := c hn
    exact ⟨c1, c2, vs, (k.block _ (h.lt (by rw [hm]; rfl) hn)).trans hv, hr⟩
  · obtain ⟨a, b, c⟩ := h.obj l K cs hm
    refine ⟨a, b, fun hn => ?_⟩
    obtain ⟨c1, c2, o, hv, hr⟩ := c hn
    exact ⟨c1, c2, o, (k.block _ (h.lt (by rw [hm]; rfl) hn)).trans hv, hr.mono hx⟩
  · obtain ⟨vs, T, fr, hv, hs⟩ := h.data b hb
    exact ⟨vs, T, fr, (k.block _ (Array.getElem?_eq_some_iff.1 hv).1).trans hv, hs⟩
theorem Sim.same {B : Base} {G : Gh} {m m' : Mem} {w : World} (h : Sim B G m w) (e : ∀ l, mget m' l = mget m l) : Sim B G m' w :=
  ⟨h.new, h.ext, h.old, fun l T cs hm => h.var l T cs ((e l).symm.trans hm), fun l E s hm => h.tok l E s ((e l).symm.trans hm), fun l K cs hm => h.obj l K cs ((e l).symm.trans hm), fun l l' a b => h.inj l l' (by rw [← e]; exact a) (by rw [← e]; exact b), h.data⟩
theorem Sim.none_ {B : Base} {G : Gh} {m : Mem} {w : World} (h : Sim B G m w) : G.hw w.heap.size = 0 := by
  rcases Nat.eq_zero_or_pos (G.hw w.heap.size) with h0 | h0
  · exact h0
  · obtain ⟨_, _, _, hv, _⟩ := h.data _ h0
    have := (Array.getElem?_eq_some_iff.1 hv).1; omega
theorem Sim.fresh_ {B : Base} {G G' : Gh} {m m' : Mem} {w w' : World} (h : Sim B G m w) (hn : New w w') {l : Nat} (hl : G.kn l = false) {c : Loc}
    (hG : (∀ x, G.kn x = true → G'.kn x = true ∧ G'.g x = G.g x ∧ G'.nl x = G.nl x ∧ G'.cp x = G.cp x ∧ (G'.al x = true → G.al x = true ∧ (G.nl x = false → G'.hw (G.g x) = G.hw (G.g x)))) ∧ (∀ x, mget m' x = mget m x ∨ mget m' x = none ∨ (x = l ∧ mget m' x = some c)))
    (hal : ∀ x E s, x ≠ l → mget m' x = some (.tok E s) → G'.al x = true) (hw : ∀ b, b < w.heap.size → G'.hw b = G.hw b) (hwd : ∀ b, 0 < G'.hw b → ∃ vs T fr, w'.heap[b]? = some (.cells vs T fr) ∧ G'.hw b ≤ vs.size)
    (hml : mget m l = none) (hgl : G'.nl l = false → G'.g l = w.heap.size)
    (hc : (∀ T cs, mget m' l = some (.var T cs) → G'.kn l = true ∧ G'.hw (G'.g l) = 0 ∧ G'.nl l = false ∧ ∃ vs, w'.heap[G'.g l]? = some (.cells vs T (0, 0)) ∧ Reps G' w' cs vs ∧ ∀ d ∈ cs, d.one = true) ∧
      (∀ E s, mget m' l = some (.tok E s) → G'.kn l = true ∧ G'.al l = true ∧ (G'.nl l = false → G'.cp l ≤ maxLen ∧ ∃ vs, w'.heap[G'.g l]? = some (.cells vs E (0, 0)) ∧ G'.hw (G'.g l) ≤ vs.size ∧ vs.size = G'.cp l * s)) ∧
      (∀ K cs, mget m' l = some (.obj K cs) → G'.kn l = true ∧ (G'.nl l = true → K.none_ cs) ∧ (G'.nl l = false → G'.hw (G'.g l) = 0 ∧ ∃ o, w'.heap[G'.g l]? = some o ∧ ObjOk G' w' (G'.cp l) K cs o))) : Ext G w G' w' ∧ Sim B G' m' w' := by
  have h0 := h.none_
  have hle : ∀ b, G.hw b ≤ G'.hw b := fun b => by
    by_cases e : b < w.heap.size
    · rw [hw b e]; exact Nat.le_refl _
    · rcases Nat.eq_zero_or_pos (G.hw b) with h1 | h1
      · omega
      · obtain ⟨_, _, _, hv, _⟩ := h.data b h1
        exact absurd (Array.getElem?_eq_some_iff.1 hv).1 e
  have hx0 := Ext.grow h.data hn
  have hx : Ext G w G' w' := ⟨fun x hk => by
    obtain ⟨a1, a2, a3, a4, a5⟩ := hG.1 x hk
    exact ⟨a1, a2, a5, a3, a4⟩, hle, hx0.cell, hx0.size⟩
  have hsz : B.W.heap.size ≤ w.heap.size := h.new.size
  have hold : ∀ x cc, x ≠ l → mget m' x = some cc → mget m x = some cc := fun x cc hne hx' => by
    rcases hG.2 x with e | e | ⟨e, _⟩
    · rw [← e]; exact hx'
    · rw [e] at hx'; cases hx'
    · exact absurd e hne
  refine ⟨hx, ⟨h.new.new hn, h.ext.trans hx, fun b hb hT => (hw b (by omega)).trans (h.old b hb hT), fun x T cs hm => ?_, fun x E s hm => ?_, fun x K cs hm => ?_, fun x x' ha hb hne n1 n2 => ?_, hwd⟩⟩
  · by_cases e : x = l
    · subst e
      obtain ⟨a1, a2, a3, a4⟩ := hc.1 T cs hm
      exact ⟨a1, .inl (by rw [hgl a3]; exact hsz), a2, a3, a4⟩
    · have hm' := hold x _ e hm
      obtain ⟨a1, a2, a3, a4, vs, a5, a6, a7⟩ := h.var x T cs hm'
      obtain ⟨b1, b2, b3, b4, _⟩ := hG.1 x a1
      have hlt := h.vlt hm'
      exact ⟨b1, by rw [b2]; exact a2, by rw [b2, hw _ hlt]; exact a3, b3.trans a4, vs, by rw [b2]; exact (hn.block _ hlt).trans a5, a6.mono hx, a7⟩
  · by_cases e : x = l
    · subst e
      obtain ⟨a1, a2, a3⟩ := hc.2.1 E s hm
      exact ⟨a1, a2, fun hnl => ⟨.inl (by rw [hgl hnl]; exact hsz), a3 hnl⟩⟩
    · have hm' := hold x _ e hm
      obtain ⟨a1, a2, a3⟩ := h.tok x E s hm'
      obtain ⟨b1, b2, b3, b4, _⟩ := hG.1 x a1
      refine ⟨b1, hal x E s e hm, fun hnl => ?_⟩
      obtain ⟨c1, c2, vs, c3, c4, c5⟩ := a3 (b3 ▸ hnl)
      have hlt := h.lt (l := x) (by rw [hm']; rfl) (b3 ▸ hnl)
      exact ⟨by rw [b2]; exact c1, by rw [b4]; exact c2, vs, by rw [b2]; exact (hn.block _ hlt).trans c3, by rw [b2, hw _ hlt]; exact c4, by rw [b4]; exact c5⟩
  · by_cases e : x = l
    · subst e
      obtain ⟨a1, a2, a3⟩ := hc.2.2 K cs hm
      exact ⟨a1, a2, fun hnl => ⟨.inl (by rw [hgl hnl]; exact hsz), a3 hnl⟩⟩
    · have hm' := hold x _ e hm
      obtain ⟨a1, a2, a3⟩ := h.obj x K cs hm'
      obtain ⟨b1, b2, b3, b4, _⟩ := hG.1 x a1
      refine ⟨b1, fun hnl => a2 (b3 ▸ hnl), fun hnl => ?_⟩
      obtain ⟨c1, c2, o, c3, c4⟩ := a3 (b3 ▸ hnl)
      have hlt := h.lt (l := x) (by rw [hm']; rfl) (b3 ▸ hnl)
      exact ⟨by rw [b2]; exact c1, by rw [b2, hw _ hlt]; exact c2, o, by rw [b2]; exact (hn.block _ hlt).trans c3, by rw [b4]; exact c4.mono hx⟩
  · obtain ⟨c1, hc1⟩ := Option.isSome_iff_exists.1 ha
    obtain ⟨c2, hc2⟩ := Option.isSome_iff_exists.1 hb
    by_cases e : x = l
    · subst e
      have hm' := hold x' _ (Ne.symm hne) hc2
      have hk := h.known (l := x') (by rw [hm']; rfl)
      obtain ⟨b1, b2, b3, _⟩ := hG.1 x' hk
      have hlt := h.lt (l := x') (by rw [hm']; rfl) (b3 ▸ n2)
      rw [hgl n1, b2]; omega
    · by_cases e' : x' = l
      · subst e'
        have hm' := hold x _ hne hc1
        have hk := h.known (l := x) (by rw [hm']; rfl)
        obtain ⟨b1, b2, b3, _⟩ := hG.1 x hk
        have hlt := h.lt (l := x) (by rw [hm']; rfl) (b3 ▸ n1)
        rw [hgl n2, b2]; omega
      · have hm1 := hold x _ e hc1
        have hm2 := hold x' _ e' hc2
        have k1 := h.known (l := x) (by rw [hm1]; rfl)
        have k2 := h.known (l := x') (by rw [hm2]; rfl)
        obtain ⟨b1, b2, b3, _⟩ := hG.1 x k1
        obtain ⟨d1, d2, d3, _⟩ := hG.1 x' k2
        rw [b2, d2]
        exact h.inj x x' (by rw [hm1]; rfl) (by rw [hm2]; rfl) hne (b3 ▸ n1) (d3 ▸ n2)
theorem Sim.alloc {B : Base} {G : Gh} {m : Mem} {w : World} (h : Sim B G m w) {l : Nat} (hl : G.kn l = false) {T : TypeId} {cs : List D} {vs : Array Value} (hr : Reps G w cs vs) (h1 : ∀ d ∈ cs, d.one = true) :
    ∃ G', Ext G w G' (w.alloc (.cells vs T)) ∧ Sim B G' ((l, some (.var T cs)) :: m) (w.alloc (.cells vs T)) ∧ G'.kn l = true ∧ G'.g l = w.heap.size ∧ (∀ l', G'.kn l' = true → G.kn l' = true ∨ l' = l) ∧ G'.hw = G.hw := by
  have hn : New w (w.alloc (.cells vs T)) := new_alloc (new_refl w) _
  have h0 := h.none_
  let G' : Gh := ⟨fun x => G.kn x || x == l, fun x => if x = l then w.heap.size else G.g x, fun x => G.al x && (G.nl x || decide (G.g x < w.heap.size)), G.hw, fun x => G.nl x && !(x == l), G.cp⟩
  have hkl : ∀ x, G.kn x = true → x ≠ l := fun x hx e => by rw [e, hl] at hx; cases hx
  have hml : mget m l = none := by
    cases hm : mget m l with
    | none => rfl
    | some c => have := h.known (l := l) (by rw [hm]; rfl); rw [hl] at this; cases this
  have hG : ∀ x, G.kn x = true → G'.kn x = true ∧ G'.g x = G.g x ∧ G'.nl x = G.nl x ∧ G'.cp x = G.cp x ∧ (G'.al x = true → G.al x = true ∧ (G.nl x = false → G'.hw (G.g x) = G.hw (G.g x))) := fun x hk => by
    have hne := hkl x hk
    refine ⟨by simp [G', hk], by simp [G', hne], by simp [G', hne], rfl, fun ha => ?_⟩
    simp only [G', Bool.and_eq_true, Bool.or_eq_true, decide_eq_true_iff] at ha
    exact ⟨ha.1, fun _ => rfl⟩
  have hx0 := Ext.grow h.data hn
  have hx : Ext G w G' (w.alloc (.cells vs T)) := ⟨fun x hk => by
    obtain ⟨a1, a2, a3, a4, a5⟩ := hG x hk
    exact ⟨a1, a2, a5, a3, a4⟩, fun _ => Nat.le_refl _, hx0.cell, hx0.size⟩
  obtain ⟨_, hS⟩ := h.fresh_ (G' := G') (m' := (l, some (.var T cs)) :: m) (c := .var T cs) hn hl ⟨hG, fun x => by
      by_cases e : x = l
      · subst e; exact .inr (.inr ⟨rfl, mget_eq _ _ _⟩)
      · exact .inl (mget_ne _ _ e)⟩
    (fun x E s hne hm => by
      rw [mget_ne _ _ hne] at hm
      obtain ⟨a1, a2, a3⟩ := h.tok x E s hm
      simp only [G', Bool.and_eq_true, Bool.or_eq_true, decide_eq_true_iff]
      refine ⟨a2, ?_⟩
      cases hnl : G.nl x with
      | true => exact .inl rfl
      | false => exact .inr (h.lt (by rw [hm]; rfl) hnl))
    (fun _ _ => rfl) (fun b hb => by
      obtain ⟨vs', T', fr, hv, hs⟩ := h.data b hb
      exact ⟨vs', T', fr, (hn.block _ (Array.getElem?_eq_some_iff.1 hv).1).trans hv, hs⟩) hml (fun _ => by simp [G'])
    ⟨fun T' cs' hm => by
      rw [mget_eq] at hm
      simp only [Option.some.injEq, Loc.var.injEq] at hm
      obtain ⟨rfl, rfl⟩ := hm
      exact ⟨by simp [G'], by simp [G', h0], by simp [G'], vs, by simp only [G', if_true]; exact heap_alloc_new w _, hr.mono hx, h1⟩, fun E s hm => by rw [mget_eq] at hm; simp at hm, fun K cs hm => by rw [mget_eq] at hm; simp at hm⟩
  exact ⟨G', hx, hS, by simp [G'], by simp [G'], fun x hk => by simpa [G'] using hk, rfl⟩
theorem Sim.write {B : Base} {G : Gh} {m : Mem} {w w' : World} (h : Sim B G m w) {l : Nat} {T : TypeId} {cs cs' : List D} {vs : Array Value} (hm : mget m l = some (.var T cs)) (hg : w.grownBy w' (some (G.g l)))
    (hv : w'.heap[G.g l]? = some (.cells vs T (0, 0))) (hr : Reps G w cs' vs) (h1 : ∀ d ∈ cs', d.one = true) : Ext G w G w' ∧ Sim B G ((l, some (.var T cs')) :: m) w' := by
  obtain ⟨a, b, c, e0, _⟩ := h.var l T cs hm
  have hblk : ∀ k, k < w.heap.size → k ≠ G.g l → w'.heap[k]? = w.heap[k]? := fun k hk hne => hg.block k hk (fun e => by injection e with e; exact hne e)
  have hx : Ext G w G w' := by
    refine ⟨fun _ h => ⟨h, rfl, fun h => ⟨h, fun _ => rfl⟩, rfl, rfl⟩, fun _ => Nat.le_refl _, fun k i hi => ?_, hg.size⟩
    obtain ⟨vs', T', fr, hv', _⟩ := h.data k (by omega)
    have hne : k ≠ G.g l := fun e => by rw [e, c] at hi; omega
    simp only [World.cell?, hblk k (Array.getElem?_eq_some_iff.1 hv').1 hne]
  have hsome : ∀ x, (mget ((l, some (.var T cs')) :: m) x).isSome = true → (mget m x).isSome = true := fun x hx => by
    by_cases he : x = l
    · subst he; rw [hm]; rfl
    · rw [mget_ne _ _ he] at hx; exact hx
  refine ⟨hx, ⟨hg.os.trans h.new.os, hg.tape.trans h.new.tape, hg.output.trans h.new.output, Nat.le_trans h.new.size hg.size, fun k hk hT => (hblk k (Nat.lt_of_lt_of_le hk h.new.size) (fun e => b.elim (fun hb => by omega) (fun hb => hT (e ▸ hb)))).trans (h.new.block k hk hT)⟩, h.ext.trans hx, h.old, fun x T' cs2 hm' => ?_, fun x E s hm' => ?_, fun x K cs2 hm' => ?_, fun x x' ha hb hne => h.inj x x' (hsome x ha) (hsome x' hb) hne, fun k hk => ?_⟩
  · by_cases he : x = l
    · subst he
      rw [mget_eq] at hm'
      simp only [Option.some.injEq, Loc.var.injEq] at hm'
      obtain ⟨rfl, rfl⟩ := hm'
      exact ⟨a, b, c, e0, vs, hv, hr.mono hx, h1⟩
    · rw [mget_ne _ _ he] at hm'
      obtain ⟨a', b', c', e', vs', hv', hr', h1'⟩ := h.var x T' cs2 hm'
      exact ⟨a', b', c', e', vs', (hblk _ (h.vlt hm') (h.inj x l (by rw [hm']; rfl) (by rw [hm]; rfl) he e' e0)).trans hv', hr'.mono hx, h1'⟩
  · by_cases he : x = l
    · subst he
      rw [mget_eq] at hm'; simp at hm'
    · rw [mget_ne _ _ he] at hm'
      obtain ⟨a', b', c'⟩ := h.tok x E s hm'
      refine ⟨a', b', fun hnl => ?_⟩
      obtain ⟨c1, c2, vs', hv', hr'⟩ := c' hnl
      exact ⟨c1, c2, vs', (hblk _ (h.lt (by rw [hm']; rfl) hnl) (h.inj x l (by rw [hm']; rfl) (by rw [hm]; rfl) he hnl e0)).trans hv', hr'⟩
  · by_cases he : x = l
    · subst he
      rw [mget_eq] at hm'; simp at hm'
    · rw [mget_ne _ _ he] at hm'
      obtain ⟨a', b', c'⟩ := h.obj x K cs2 hm'
      refine ⟨a', b', fun hnl => ?_⟩
      obtain ⟨c1, c2, o, hv', hr'⟩ := c' hnl
      exact ⟨c1, c2, o, (hblk _ (h.lt (by rw [hm']; rfl) hnl) (h.inj x l (by rw [hm']; rfl) (by rw [hm]; rfl) he hnl e0)).trans hv', hr'.mono hx⟩
  · obtain ⟨vs', T', fr, hv', hs⟩ := h.data k hk
    have hne : k ≠ G.g l := fun e => by rw [e, c] at hk; omega
    exact ⟨vs', T', fr, (hblk k (Array.getElem?_eq_some_iff.1 hv').1 hne).trans hv', hs⟩
end Go.Proofs.YtcfefmbbbfdppaaGreatDoor
