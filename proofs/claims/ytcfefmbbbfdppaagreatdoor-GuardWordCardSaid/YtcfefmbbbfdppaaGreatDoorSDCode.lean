/- Code over data as trees: what is shown of trees holds of the program. Of any program. No conditions. -/
import Derived.Test.YtcfefmbbbfdppaaGreatDoorSDOp
namespace Go.Proofs.YtcfefmbbbfdppaaGreatDoor
open Go.RowKit
set_option linter.unusedVariables false
set_option linter.unusedSimpArgs false
abbrev Post := Exit → Slots → Mem → Nat → Prop
section
variable {P : Program} {B : Base} {N : Nat} {Q : Post} {ρ : Slots} {m : Mem} {nx : Nat}
def W (P : Program) (B : Base) (N : Nat) (c : Code) (Q : Post) (ρ : Slots) (m : Mem) (nx : Nat) : Prop :=
  ∀ G a w, SimS B G N ρ m nx a w → c.wp P (fun e a' w' => ∃ ρ' m' nx' G', SimS B G' N ρ' m' nx' a' w' ∧ Q e ρ' m' nx') a w
def thenD (next : Slots → Mem → Nat → Prop) (Q : Post) : Post := fun e => match e with | .normal => next | e => Q e
def blockD (id : Nat) (Q : Post) : Post := fun e => match e with | .exit i => if i = id then Q .normal else Q (.exit i) | e => Q e
theorem W_seq {x y : Code} (h : W P B N x (thenD (W P B N y Q) Q) ρ m nx) : W P B N (.seq x y) Q ρ m nx := by
  intro G a w hs
  refine wp_seq (wp_mono (h G a w hs) ?_)
  rintro e a' w' ⟨ρ', m', nx', G', hs', hq⟩
  cases e with
  | normal => exact hq G' a' w' hs'
  | _ => exact ⟨ρ', m', nx', G', hs', hq⟩
theorem W_cond {c : Operand} {x y : Code} {b : Bool} (hc : oev ρ c = some (.bool b)) (ht : b = true → W P B N x Q ρ m nx) (hf : b = false → W P B N y Q ρ m nx) : W P B N (.cond c x y) Q ρ m nx := by
  intro G a w hs
  have hr := hs.oev hc
  have he : a.eval c = .bool b := (show ∀ v, Rep G w (.bool b) v → v = .bool b from fun v h => by cases h; rfl) _ hr
  exact wp_cond_split he (fun h => ht h G a w hs) (fun h => hf h G a w hs)
theorem W_yes {c : Operand} {x y : Code} (hc : oev ρ c = some (.bool true)) (h : W P B N x Q ρ m nx) : W P B N (.cond c x y) Q ρ m nx := W_cond hc (fun _ => h) (fun e => by cases e)
theorem W_no {c : Operand} {x y : Code} (hc : oev ρ c = some (.bool false)) (h : W P B N y Q ρ m nx) : W P B N (.cond c x y) Q ρ m nx := W_cond hc (fun e => by cases e) (fun _ => h)
theorem W_block {id : Nat} {c : Code} (h : W P B N c (blockD id Q) ρ m nx) : W P B N (.block id c) Q ρ m nx := by
  intro G a w hs
  refine wp_block (wp_mono (h G a w hs) ?_)
  rintro e a' w' ⟨ρ', m', nx', G', hs', hq⟩
  cases e with
  | exit i =>
    unfold blockD at hq
    unfold Exit.inBlock
    by_cases hi : i = id
    · simp only [hi, if_true] at hq ⊢; exact ⟨ρ', m', nx', G', hs', hq⟩
    · simp only [hi, if_false] at hq ⊢; exact ⟨ρ', m', nx', G', hs', hq⟩
  | _ => exact ⟨ρ', m', nx', G', hs', hq⟩
theorem W_skip (h : Q .normal ρ m nx) : W P B N .skip Q ρ m nx := fun G a w hs => wp_skip ⟨ρ, m, nx, G, hs, h⟩
theorem W_exit {id : Nat} (h : Q (.exit id) ρ m nx) : W P B N (.exit id) Q ρ m nx := fun G a w hs => wp_exit ⟨ρ, m, nx, G, hs, h⟩
theorem W_ret (h : Q .ret ρ m nx) : W P B N .ret Q ρ m nx := fun G a w hs => wp_ret ⟨ρ, m, nx, G, hs, h⟩
theorem q_then {next : Slots → Mem → Nat → Prop} (h : next ρ m nx) : thenD next Q .normal ρ m nx := h
theorem q_thenx {next : Slots → Mem → Nat → Prop} {i : Nat} (h : Q (.exit i) ρ m nx) : thenD next Q (.exit i) ρ m nx := h
theorem q_thenr {next : Slots → Mem → Nat → Prop} (h : Q .ret ρ m nx) : thenD next Q .ret ρ m nx := h
theorem q_block {id : Nat} (h : Q .normal ρ m nx) : blockD id Q .normal ρ m nx := h
theorem q_blockr {id : Nat} (h : Q .ret ρ m nx) : blockD id Q .ret ρ m nx := h
theorem q_blockx {id : Nat} (h : Q .normal ρ m nx) : blockD id Q (.exit id) ρ m nx := by unfold blockD; simp; exact h
theorem q_blocky {id i : Nat} (hi : Nat.beq i id = false) (h : Q (.exit i) ρ m nx) : blockD id Q (.exit i) ρ m nx := by
  have : i ≠ id := fun e => by rw [e, Nat.beq_refl] at hi; cases hi
  unfold blockD; simp [this]; exact h
def R (P : Program) (ops : Array Oper) (os : List Oper) (K : List Eff → Slots → Mem → Nat → Prop) (ρ : Slots) (m : Mem) (nx : Nat) : Prop :=
  ∃ Es ρ' m' nx', Run P ops os ρ m nx Es ρ' m' nx' ∧ K Es ρ' m' nx'
theorem W_plain {id : Nat} {ops : List Oper} (hN : allDst N ops = true) (h : R P ops.toArray ops (fun _ => Q .normal) ρ m nx) : W P B N (.region id ops.toArray false) Q ρ m nx := by
  obtain ⟨Es, ρ', m', nx', hr, hq⟩ := h
  intro G a w hs
  refine wp_region_lit (run_plain (G0 := G) (w0 := w) (fun G' a' w' hs' _ => ⟨ρ', m', nx', G', hs', hq⟩) hr hN (fun k t ht => ?_) G a w (Ext.refl G w) hs)
  obtain ⟨o, ho, hd⟩ := Option.bind_eq_some_iff.1 ht
  exact allDst_lt hN (List.mem_of_getElem? (by simpa using ho)) hd
theorem W_drawn {id : Nat} {ops : List Oper} (hm : P.follows .mixedOrders = true) (hN : allDst N ops = true) (h : R P ops.toArray ops (fun Es ρ' m' nx' => chk ops.toArray Es = true ∧ Q .normal ρ' m' nx') ρ m nx) : W P B N (.region id ops.toArray true) Q ρ m nx := by
  obtain ⟨Es, ρ', m', nx', hr, hc, hq⟩ := h
  intro G a w hs
  exact run_drawn hm (by simpa using hr) (by simpa using hN) hc hs fun G' a' w' hs' _ => ⟨ρ', m', nx', G', hs', hq⟩
variable {ops : Array Oper} {o : Oper} {os : List Oper} {K : List Eff → Slots → Mem → Nat → Prop}
theorem R_nil (h : K [] ρ m nx) : R P ops [] K ρ m nx := ⟨[], ρ, m, nx, .nil _ _ _, h⟩
theorem R_cons {E : Eff} (hg : gok ops ρ o = some true) (ho : OpSound P o E ρ m) (hn : E.nw = []) (h : R P ops os (fun Es => K (E :: Es)) (sput ρ o.dst E.d) (E.wr ++ m) nx) : R P ops (o :: os) K ρ m nx := by
  obtain ⟨Es, ρ', m', nx', hr, hk⟩ := h
  exact ⟨E :: Es, ρ', m', nx', .step (.inl ⟨hg, ho⟩) (Nat.le_refl _) (by rw [hn]; simp) hr, hk⟩
theorem R_new {E : Eff} (hg : gok ops ρ o = some true) (ho : OpSound P o E ρ m) (hn : E.nw = [nx]) (h : R P ops os (fun Es => K (E :: Es)) (sput ρ o.dst E.d) (E.wr ++ m) (nx + 1)) : R P ops (o :: os) K ρ m nx := by
  obtain ⟨Es, ρ', m', nx', hr, hk⟩ := h
  exact ⟨E :: Es, ρ', m', nx', .step (.inl ⟨hg, ho⟩) (by omega) (by rw [hn]; simp) hr, hk⟩
theorem R_skip (hg : gok ops ρ o = some false) (h : R P ops os (fun Es => K (Eff.skip :: Es)) (sput ρ o.dst (.tup [])) m nx) : R P ops (o :: os) K ρ m nx := by
  obtain ⟨Es, ρ', m', nx', hr, hk⟩ := h
  exact ⟨Eff.skip :: Es, ρ', m', nx', .step (.inr ⟨hg, rfl⟩) (Nat.le_refl _) (by simp [Eff.skip]) hr, hk⟩
mutual
def D.ren (f : Nat → Nat) : D → D
  | .agg cs => .agg (D.rens f cs)
  | .tup cs => .tup (D.rens f cs)
  | .fn g cs => .fn g (D.rens f cs)
  | .slice tk n cs => .slice (match tk with | .own k => .own (f k) | t => t) n cs
  | .ptr l off => .ptr (f l) off
  | .ms l off n => .ms (f l) off n
  | .rs l n => .rs (f l) n
  | .mp l => .mp (f l)
  | d => d
def D.rens (f : Nat → Nat) : List D → List D
  | [] => []
  | d :: ds => d.ren f :: D.rens f ds
end
mutual
def D.lall (p : Nat → Bool) : D → Bool
  | .agg cs | .tup cs | .fn _ cs => D.lalls p cs
  | .slice tk _ _ => match tk with | .own k => p k | _ => true
  | .ptr l _ => p l
  | .ms l _ _ => p l
  | .rs l _ => p l
  | .mp l => p l
  | _ => true
def D.lalls (p : Nat → Bool) : List D → Bool
  | [] => true
  | d :: ds => d.lall p && D.lalls p ds
end
theorem D.lalls_mem {p : Nat → Bool} : ∀ {ds : List D}, D.lalls p ds = true → ∀ d ∈ ds, d.lall p = true
  | [], _, _, h => by simp at h
  | x :: xs, h, d, hd => by
    simp only [D.lalls, Bool.and_eq_true] at h
    rcases List.mem_cons.1 hd with rfl | hd
    · exact h.1
    · exact D.lalls_mem h.2 d hd
theorem D.rens_length (f : Nat → Nat) : ∀ (ds : List D), (D.rens f ds).length = ds.length
  | [] => rfl
  | _ :: ds => by simp [D.rens, D.rens_length f ds]
theorem D.rens_get (f : Nat → Nat) : ∀ (ds : List D) (i : Nat), (D.rens f ds)[i]? = (ds[i]?).map (D.ren f)
  | [], i => by simp [D.rens]
  | d :: ds, 0 => by simp [D.rens]
  | d :: ds, i + 1 => by simp [D.rens, D.rens_get f ds i]
theorem D.ren_one (f : Nat → Nat) (d : D) : (d.ren f).one = d.one := by cases d <;> simp [D.ren, D.one]
theorem Rep.ren {G : Gh} {w : World} {d : D} {v : Value} (h : Rep G w d v) (G' : Gh) (f : Nat → Nat) (p : Nat → Bool) (hf : ∀ l, G.kn l = true → p l = true → G'.kn (f l) = true ∧ G'.g (f l) = G.g l ∧ (G'.al (f l) = true → G.al l = true) ∧ G'.nl (f l) = G.nl l ∧ G'.cp (f l) = G.cp l) (hw : G'.hw = G.hw) (hp : d.lall p = true) : Rep G' w (d.ren f) v := by
  have key : ∀ (ds : List D) (vs : Array Value), (∀ (i : Nat) (d : D) (v : Value), ds[i]? = some d → vs[i]? = some v → d.lall p = true → Rep G' w (d.ren f) v) → D.lalls p ds = true → ∀ (i : Nat) (d : D) (v : Value), (D.rens f ds)[i]? = some d → vs[i]? = some v → Rep G' w d v := by
    intro ds vs ih hl i d v hd hv
    rw [D.rens_get] at hd
    obtain ⟨d0, h0, rfl⟩ := Option.map_eq_some_iff.1 hd
    exact ih i d0 v h0 hv (D.lalls_mem hl d0 (List.mem_of_getElem? h0))
  induction h with
  | int k n => exact .int k n
  | bool b => exact .bool b
  | str s => exact .str s
  | agg ds vs hl h1 _ ih =>
    refine .agg _ vs (by rw [D.rens_length]; exact hl) (fun d hd => ?_) (key ds vs ih (by simpa [D.lall] using hp))
    obtain ⟨i, hi⟩ := List.getElem?_of_mem hd
    rw [D.rens_get] at hi
    obtain ⟨d0, h0, rfl⟩ := Option.map_eq_some_iff.1 hi
    rw [D.ren_one]; exact h1 d0 (List.mem_of_getElem? h0)
  | tup ds vs hl _ ih => exact .tup _ vs (by rw [D.rens_length]; exact hl) (key ds vs ih (by simpa [D.lall] using hp))
  | nil tk => exact .nil _
  | slice tk n cs b o cap vs hl h1 h hh hc hb hn ht _ =>
    refine .slice _ n cs b o cap vs hl h1 (fun i d v hd hv => (h i d v hd hv).closed G' hw (h1 d (List.mem_of_getElem? hd)).2) (by rw [hw]; exact hh) hc hb hn ?_
    cases tk with
    | frozen => trivial
    | tight => exact ht
    | nil => exact ht
    | own j =>
      obtain ⟨a1, a2, a3, c2, c3⟩ := hf j ht.1 (by simpa [D.lall] using hp)
      refine ⟨a1, fun ha => ?_⟩
      have c1 := a3 ha
      obtain ⟨d0, d⟩ := ht.2 c1
      refine ⟨fun hn => d0 (c2.symm.trans hn), fun hn => ?_⟩
      obtain ⟨d2, d3, d4, d5⟩ := d (c2.symm.trans hn)
      exact ⟨d2.trans a2.symm, d3, by rw [hw]; exact d4, d5.trans c3.symm⟩
  | ptr l off h =>
    obtain ⟨a1, a2, _⟩ := hf l h (by simpa [D.lall] using hp)
    rw [← a2]; exact .ptr _ off a1
  | ms l off n cap h hn =>
    obtain ⟨a1, a2, _⟩ := hf l h (by simpa [D.lall] using hp)
    rw [← a2]; exact .ms _ off n cap a1 hn
  | rs l n h hnl hn =>
    obtain ⟨a1, a2, _, a4, a5⟩ := hf l h (by simpa [D.lall] using hp)
    rw [← a2, ← a5]; exact .rs _ n a1 (a4.trans hnl) (by rw [a5]; exact hn)
  | rsn l => exact .rsn _
  | mp l h hnl =>
    obtain ⟨a1, a2, _, a4, _⟩ := hf l h (by simpa [D.lall] using hp)
    rw [← a2]; exact .mp _ a1 (a4.trans hnl)
  | eptr cs b o vs hl h1 h hh hc _ => exact .eptr cs b o vs hl h1 (fun i d v hd hv => (h i d v hd hv).closed G' hw (h1 d (List.mem_of_getElem? hd)).2) (by rw [hw]; exact hh) hc
  | fn g ds vs hl _ ih => exact .fn g _ vs (by rw [D.rens_length]; exact hl) (key ds vs ih (by simpa [D.lall] using hp))
  | raw v h => exact .raw v h
  | opq v h => exact .opq v h
  | undef v => exact .undef v
def Gh.pull (G : Gh) (f : Nat → Nat) (p : Nat → Bool) : Gh := ⟨fun l => G.kn (f l) && p l, fun l => G.g (f l), fun l => G.al (f l), G.hw, fun l => G.nl (f l), fun l => G.cp (f l)⟩
theorem Rep.pull {G : Gh} {w : World} {e : D} {v : Value} (h : Rep G w e v) (f : Nat → Nat) (p : Nat → Bool) : ∀ {d : D}, d.ren f = e → d.lall p = true → Rep (G.pull f p) w d v := by
  have key : ∀ (ds : List D) (vs : Array Value), (∀ (i : Nat) (d : D) (v : Value), ds[i]? = some d → vs[i]? = some v → ∀ {d' : D}, d'.ren f = d → d'.lall p = true → Rep (G.pull f p) w d' v) → ∀ (es : List D), D.rens f es = ds → D.lalls p es = true → es.length = ds.length ∧ ∀ (i : Nat) (d : D) (v : Value), es[i]? = some d → vs[i]? = some v → Rep (G.pull f p) w d v := by
    intro ds vs ih es he hl
    refine ⟨by rw [← he, D.rens_length], fun i d v hd hv => ih i (d.ren f) v ?_ hv rfl (D.lalls_mem hl d (List.mem_of_getElem? hd))⟩
    rw [← he, D.rens_get, hd]; rfl
  induction h with
  | int k n => intro d he _; cases d <;> simp [D.ren] at he; obtain ⟨rfl, rfl⟩ := he; exact .int _ _
  | bool b => intro d he _; cases d <;> simp [D.ren] at he; subst he; exact .bool _
  | str s => intro d he _; cases d <;> simp [D.ren] at he; subst he; exact .str _
  | agg ds vs hl h1 _ ih =>
    intro d he hp
    cases d <;> simp [D.ren] at he
    rename_i es
    obtain ⟨k1, k2⟩ := key ds vs ih es he (by simpa [D.lall] using hp)
    refine .agg es vs (by rw [hl, k1]) (fun d hd => ?_) k2
    obtain ⟨i, hi⟩ := List.getElem?_of_mem hd
    have := h1 (d.ren f) (by rw [← he]; exact List.mem_of_getElem? (i := i) (by rw [D.rens_get, hi]; rfl))
    rw [D.ren_one] at this; exact this
  | tup ds vs hl _ ih =>
    intro d he hp
    cases d <;> simp [D.ren] at he
    rename_i es
    obtain ⟨k1, k2⟩ := key ds vs ih es he (by simpa [D.lall] using hp)
    exact .tup es vs (by rw [hl, k1]) k2
  | nil tk =>
    intro d he _
    cases d <;> simp [D.ren] at he
    obtain ⟨_, rfl, rfl⟩ := he
    exact .nil _
  | slice tk n cs b o cap vs hl h1 h hh hc hb hn ht _ =>
    intro d he hp
    cases d <;> simp [D.ren] at he
    rename_i tk0 _ _
    obtain ⟨e1, rfl, rfl⟩ := he
    refine .slice tk0 _ _ b o cap vs hl h1 (fun i d v hd hv => (h i d v hd hv).closed (G.pull f p) rfl (h1 d (List.mem_of_getElem? hd)).2) hh hc hb hn ?_
    cases tk0 with
    | frozen => trivial
    | tight => subst e1; exact ht
    | nil => subst e1; exact ht
    | own j =>
      subst e1
      refine ⟨?_, ht.2⟩
      simp only [Gh.pull, ht.1, Bool.true_and]; simpa [D.lall] using hp
  | ptr l off h =>
    intro d he hp
    cases d <;> simp [D.ren] at he
    rename_i l0 _
    obtain ⟨rfl, rfl⟩ := he
    exact .ptr (G := G.pull f p) l0 _ (by simp only [Gh.pull, h, Bool.true_and]; simpa [D.lall] using hp)
  | ms l off n cap h hn =>
    intro d he hp
    cases d <;> simp [D.ren] at he
    rename_i l0 _ _
    obtain ⟨rfl, rfl, rfl⟩ := he
    exact .ms (G := G.pull f p) l0 _ _ cap (by simp only [Gh.pull, h, Bool.true_and]; simpa [D.lall] using hp) hn
  | rs l n h hnl hn =>
    intro d he hp
    cases d <;> simp [D.ren] at he
    rename_i l0 _
    obtain ⟨rfl, rfl⟩ := he
    exact .rs (G := G.pull f p) l0 _ (by simp only [Gh.pull, h, Bool.true_and]; simpa [D.lall] using hp) hnl hn
  | rsn l =>
    intro d he hp
    cases d <;> simp [D.ren] at he
    obtain ⟨_, rfl⟩ := he
    exact .rsn _
  | mp l h hnl =>
    intro d he hp
    cases d <;> simp [D.ren] at he
    rename_i l0
    subst he
    exact .mp (G := G.pull f p) l0 (by simp only [Gh.pull, h, Bool.true_and]; simpa [D.lall] using hp) hnl
  | eptr cs b o vs hl h1 h hh hc _ =>
    intro d he _
    cases d <;> simp [D.ren] at he
    subst he
    exact .eptr _ b o vs hl h1 (fun i d v hd hv => (h i d v hd hv).closed (G.pull f p) rfl (h1 d (List.mem_of_getElem? hd)).2) hh hc
  | fn g ds vs hl _ ih =>
    intro d he hp
    cases d <;> simp [D.ren] at he
    rename_i es
    obtain ⟨rfl, he⟩ := he
    obtain ⟨k1, k2⟩ := key ds vs ih es he (by simpa [D.lall] using hp)
    exact .fn _ es vs (by rw [hl, k1]) k2
  | raw v h => intro d he _; cases d <;> simp [D.ren] at he; subst he; exact .raw _ h
  | opq v h => intro d he _; cases d <;> simp [D.ren] at he; exact .opq _ h
  | undef v => intro d he _; cases d <;> simp [D.ren] at he; exact .undef _
inductive Up : D → D → Prop where
  | refl (d : D) : Up d d
  | nil (tk : Tok) : Up (.slice .nil 0 []) (.slice tk 0 [])
  | fz (tk : Tok) (n : Nat) (cs : List D) : Up (.slice tk n cs) (.slice .frozen n cs)
  | nrs (l : Nat) : Up (.slice .nil 0 []) (.rs l 0)
  | agg (ds es : List D) (hl : es.length = ds.length) (h : ∀ (i : Nat) (d e : D), ds[i]? = some d → es[i]? = some e → Up d e) : Up (.agg ds) (.agg es)
theorem Up.one {d e : D} (h : Up d e) : e.one = d.one := by cases h <;> rfl
theorem Up.rep {d e : D} (h : Up d e) {G : Gh} {w : World} : ∀ {v : Value}, Rep G w d v → Rep G w e v := by
  induction h with
  | refl => exact fun h => h
  | nil tk =>
    intro v h
    cases h with
    | nil => exact .nil _
    | slice _ _ _ _ _ _ _ _ _ _ _ _ _ _ ht => exact ht.elim
  | fz tk n cs =>
    intro v h
    cases h with
    | nil => exact .nil _
    | slice _ _ _ b o cap vs hl h1 h hh hc hb hn ht => exact .slice _ _ _ b o cap vs hl h1 h hh hc hb hn trivial
  | nrs l =>
    intro v h
    cases h with
    | nil => exact .rsn _
    | slice _ _ _ _ _ _ _ _ _ _ _ _ _ _ ht => exact ht.elim
  | agg ds es hl hu ih =>
    intro v h
    cases h with
    | agg _ vs hl' h1 hh =>
      refine .agg es vs (by omega) (fun e he => ?_) (fun i e v he hv => ?_)
      · obtain ⟨i, hi⟩ := List.getElem?_of_mem he
        have hlt := (List.getElem?_eq_some_iff.1 hi).1
        have hd : ds[i]? = some (ds[i]'(by omega)) := List.getElem?_eq_getElem _
        rw [(hu i _ e hd hi).one]; exact h1 _ (List.mem_of_getElem? hd)
      · have hlt := (List.getElem?_eq_some_iff.1 he).1
        have hd : ds[i]? = some (ds[i]'(by omega)) := List.getElem?_eq_getElem _
        exact ih i _ e hd he (hh i _ v hd hv)
inductive Ups : List D → List D → Prop where
  | nil : Ups [] []
  | cons {d e : D} {ds es : List D} (h : Up d e) (t : Ups ds es) : Ups (d :: ds) (e :: es)
theorem Ups.at_ {ds es : List D} (h : Ups ds es) : es.length = ds.length ∧ ∀ (i : Nat) (d e : D), ds[i]? = some d → es[i]? = some e → Up d e := by
  induction h with
  | nil => exact ⟨rfl, fun i d e h => by simp at h⟩
  | cons h _ ih =>
    refine ⟨by simp [ih.1], fun i d e hd he => ?_⟩
    cases i with
    | zero => simp at hd he; subst hd; subst he; exact h
    | succ i => exact ih.2 i d e (by simpa using hd) (by simpa using he)
theorem Up.agg_ {ds es : List D} (h : Ups ds es) : Up (.agg ds) (.agg es) := .agg ds es h.at_.1 h.at_.2
theorem Ups.refl : ∀ (ds : List D), Ups ds ds
  | [] => .nil
  | d :: ds => .cons (.refl d) (Ups.refl ds)
theorem Ups.reps {ds es : List D} (h : Ups ds es) {G : Gh} {w : World} {vs : Array Value} (hr : Reps G w ds vs) : Reps G w es vs := by
  obtain ⟨h1, h2⟩ := h.at_
  refine ⟨by rw [hr.1, h1], fun i e v he hv => ?_⟩
  have hlt := (List.getElem?_eq_some_iff.1 he).1
  have hd : ds[i]? = some (ds[i]'(by omega)) := List.getElem?_eq_getElem _
  exact (h2 i _ e hd he).rep (hr.2 i _ v hd hv)
theorem Ups.one {ds es : List D} (h : Ups ds es) (h1 : ∀ d ∈ ds, d.one = true) : ∀ e ∈ es, e.one = true := by
  intro e he
  obtain ⟨i, hi⟩ := List.getElem?_of_mem he
  obtain ⟨k1, k2⟩ := h.at_
  have hlt := (List.getElem?_eq_some_iff.1 hi).1
  have hd : ds[i]? = some (ds[i]'(by omega)) := List.getElem?_eq_getElem _
  rw [(k2 i _ e hd hi).one]; exact h1 _ (List.mem_of_getElem? hd)
def Weak (B : Base) (N : Nat) (ρ : Slots) (m : Mem) (nx : Nat) (ρ1 : Slots) (m1 : Mem) (nx1 : Nat) : Prop := ∀ G a w, SimS B G N ρ m nx a w → ∃ G', SimS B G' N ρ1 m1 nx1 a w
class Base.Lim (B : Base) (k : outParam Nat) : Prop where
  le : ∀ l, B.G.kn l = true → l < k
def below (n : Nat) : Nat → Bool := fun l => Nat.blt l n
def SubSf (f : Nat → Nat) (nx : Nat) (ρ : Slots) : Slots → Prop
  | [] => True
  | (t, d) :: r => (∃ d0, sget ρ t = some d0 ∧ Up d0 (d.ren f) ∧ d.lall (below nx) = true) ∧ SubSf f nx ρ r
def SubMf (f : Nat → Nat) (nx : Nat) (m : Mem) : Mem → Prop
  | [] => True
  | (l, c) :: r => (below nx l = true ∧ (match c with | some (.var T cs) => ∃ cs0, mget m (f l) = some (.var T cs0) ∧ Ups cs0 (D.rens f cs) ∧ D.lalls (below nx) cs = true | some (.tok E s) => mget m (f l) = some (.tok E s) | some (.obj K cs) => ∃ cs0, mget m (f l) = some (.obj K cs0) ∧ Ups cs0 (D.rens f cs) ∧ D.lalls (below nx) cs = true | none => False)) ∧ SubMf f nx m r
theorem SubSf.get {f : Nat → Nat} {nx : Nat} {ρ : Slots} : ∀ {ρ1 : Slots}, SubSf f nx ρ ρ1 → ∀ t d, sget ρ1 t = some d → ∃ d0, sget ρ t = some d0 ∧ Up d0 (d.ren f) ∧ d.lall (below nx) = true
  | [], _, t, d, h => by simp [sget] at h
  | (k, x) :: r, h, t, d, hd => by
    simp only [sget] at hd
    rcases Bool.eq_false_or_eq_true (Nat.beq k t) with hb | hb
    · simp only [hb, cond_true, Option.some.injEq] at hd
      subst hd
      rw [← Nat.eq_of_beq_eq_true hb]; exact h.1
    · simp only [hb, cond_false] at hd
      exact SubSf.get h.2 t d hd
theorem SubMf.get {f : Nat → Nat} {nx : Nat} {m : Mem} : ∀ {m1 : Mem}, SubMf f nx m m1 → ∀ l c, mget m1 l = some c → below nx l = true ∧ (match c with | .var T cs => ∃ cs0, mget m (f l) = some (.var T cs0) ∧ Ups cs0 (D.rens f cs) ∧ D.lalls (below nx) cs = true | .tok E s => mget m (f l) = some (.tok E s) | .obj K cs => ∃ cs0, mget m (f l) = some (.obj K cs0) ∧ Ups cs0 (D.rens f cs) ∧ D.lalls (below nx) cs = true) ∧ ∃ x, x ∈ m1 ∧ x.1 = l
  | [], _, l, c, h => by simp [mget] at h
  | (k, x) :: r, h, l, c, hc => by
    simp only [mget] at hc
    rcases Bool.eq_false_or_eq_true (Nat.beq k l) with hb | hb
    · simp only [hb, cond_true] at hc
      subst hc
      have := Nat.eq_of_beq_eq_true hb
      subst this
      exact ⟨h.1.1, by cases c <;> exact h.1.2, (k, some c), by simp, rfl⟩
    · simp only [hb, cond_false] at hc
      obtain ⟨a1, a2, x', a3, a4⟩ := SubMf.get h.2 l c hc
      exact ⟨a1, a2, x', by simp [a3], a4⟩
theorem nodup_map_inj {α β : Type} {g : α → β} : ∀ {l : List α}, (l.map g).Nodup → ∀ x ∈ l, ∀ y ∈ l, g x = g y → x = y
  | [], _, x, hx, _, _, _ => by simp at hx
  | a :: l, h, x, hx, y, hy, e => by
    simp only [List.map_cons, List.nodup_cons] at h
    rcases List.mem_cons.1 hx with ex | hx
    · rcases List.mem_cons.1 hy with ey | hy
      · rw [ex, ey]
      · exact absurd (List.mem_map.2 ⟨y, hy, by rw [← e, ex]⟩) h.1
    · rcases List.mem_cons.1 hy with ey | hy
      · exact absurd (List.mem_map.2 ⟨x, hx, by rw [e, ey]⟩) h.1
      · exact nodup_map_inj h.2 x hx y hy e
theorem OKind.one_ren {K : OKind} {f : Nat → Nat} {d : D} (h : K.one (d.ren f)) : K.one d := by
  cases K with
  | row E s => exact (D.ren_one f d).symm.trans h
  | map ks => trivial
  | iter n s => trivial
theorem OKind.one_up {K : OKind} {d e : D} (h : Up d e) (k : K.one d) : K.one e := by
  cases K with
  | row E s => exact h.one.trans k
  | map ks => trivial
  | iter n s => trivial
theorem Ups.nil_ {es : List D} (h : Ups [] es) : es = [] := by cases h; rfl
theorem OKind.none_up {K : OKind} {cs es : List D} (h : Ups cs es) (k : K.none_ cs) : K.none_ es := by
  cases K with
  | row E s => have k : cs = [] := k; subst k; exact h.nil_
  | map ks => exact k.elim
  | iter n s => exact k.elim
theorem OKind.none_rens {K : OKind} {f : Nat → Nat} {cs : List D} (k : K.none_ (D.rens f cs)) : K.none_ cs := by
  cases K with
  | row E s => cases cs with | nil => rfl | cons d ds => have k : D.rens f (d :: ds) = [] := k; simp [D.rens] at k
  | map ks => exact k.elim
  | iter n s => exact k.elim
theorem ObjOk.up {G : Gh} {w : World} {cp : Nat} {K : OKind} {cs es : List D} {o : Obj} (u : Ups cs es) (h : ObjOk G w cp K cs o) : ObjOk G w cp K es o := by
  obtain ⟨vs, h1, h2, h3⟩ := h
  refine ⟨vs, h1, u.reps h2, fun e he => ?_⟩
  obtain ⟨i, hi⟩ := List.getElem?_of_mem he
  obtain ⟨k1, k2⟩ := u.at_
  have hlt := (List.getElem?_eq_some_iff.1 hi).1
  have hd : cs[i]? = some (cs[i]'(by omega)) := List.getElem?_eq_getElem _
  exact OKind.one_up (k2 i _ e hd hi) (h3 _ (List.mem_of_getElem? hd))
theorem ObjOk.pull {G : Gh} {w : World} {cp : Nat} {K : OKind} {cs : List D} {o : Obj} (f : Nat → Nat) (p : Nat → Bool) (h : ObjOk G w cp K (D.rens f cs) o) (hp : D.lalls p cs = true) : ObjOk (G.pull f p) w cp K cs o := by
  obtain ⟨vs, h1, h2, h3⟩ := h
  refine ⟨vs, h1, ⟨by rw [h2.1, D.rens_length], fun i d v hd hv => ?_⟩, fun d hd => ?_⟩
  · exact (h2.2 i (d.ren f) v (by rw [D.rens_get, hd]; rfl) hv).pull f _ rfl (D.lalls_mem hp d (List.mem_of_getElem? hd))
  · obtain ⟨i, hi⟩ := List.getElem?_of_mem hd
    exact OKind.one_ren (h3 (d.ren f) (List.mem_of_getElem? (i := i) (by rw [D.rens_get, hi]; rfl)))
theorem ObjOk.ren {G : Gh} {w : World} {cp : Nat} {K : OKind} {cs : List D} {o : Obj} (h : ObjOk G w cp K cs o) (G' : Gh) (f : Nat → Nat) (p : Nat → Bool) (hf : ∀ l, G.kn l = true → p l = true → G'.kn (f l) = true ∧ G'.g (f l) = G.g l ∧ (G'.al (f l) = true → G.al l = true) ∧ G'.nl (f l) = G.nl l ∧ G'.cp (f l) = G.cp l) (hw : G'.hw = G.hw) (hp : D.lalls p cs = true) : ObjOk G' w cp K (D.rens f cs) o := by
  obtain ⟨vs, h1, h2, h3⟩ := h
  refine ⟨vs, h1, ⟨by rw [h2.1, D.rens_length], fun i d v hd hv => ?_⟩, fun d hd => ?_⟩
  · rw [D.rens_get] at hd
    obtain ⟨d0, h0, rfl⟩ := Option.map_eq_some_iff.1 hd
    exact (h2.2 i d0 v h0 hv).ren G' f p hf hw (D.lalls_mem hp d0 (List.mem_of_getElem? h0))
  · obtain ⟨i, hi⟩ := List.getElem?_of_mem hd
    rw [D.rens_get] at hi
    obtain ⟨d0, h0, rfl⟩ := Option.map_eq_some_iff.1 hi
    have := h3 d0 (List.mem_of_getElem? h0)
    cases K with
    | row E s => exact (D.ren_one f d0).trans this
    | map ks => trivial
    | iter n s => trivial
theorem SimS.ren_ {k : Nat} [hB : B.Lim k] {G : Gh} {a : Act} {w : World} (h : SimS B G N ρ m nx a w) (f : Nat → Nat) {ρ1 : Slots} {m1 : Mem} {nx1 : Nat} (hρ : SubSf f nx1 ρ ρ1) (hm : SubMf f nx1 m m1) (hi : (m1.map fun x => f x.1).Nodup) (hk : k ≤ nx1) (hf : ∀ l, l < k → f l = l) : SimS B (G.pull f (below nx1)) N ρ1 m1 nx1 a w := by
  refine ⟨⟨h.sim.new, ?_, h.sim.old, fun l T cs hl => ?_, fun l E s hl => ?_, fun l K cs hl => ?_, fun l l' ha hb hne n1 n2 => ?_, h.sim.data⟩, h.defers, h.size, fun t d hd => ?_, fun l hl => ?_⟩
  · refine ⟨fun l hl => ?_, h.sim.ext.hw, h.sim.ext.cell, h.sim.ext.size⟩
    have hlk := hB.le l hl
    have e := hf l hlk
    have := h.sim.ext.kn l hl
    simp only [Gh.pull, e, below]
    refine ⟨?_, this.2⟩
    rw [this.1]; simp; omega
  · obtain ⟨h1, ⟨cs0, h2, h3, h4⟩, _⟩ := hm.get l _ hl
    obtain ⟨a1, a2, a3, a4, vs, a5, a6, a7⟩ := h.sim.var (f l) T cs0 h2
    have a6' := h3.reps a6
    have a7' := h3.one a7
    refine ⟨by simp only [Gh.pull, a1, h1, Bool.true_and], a2, a3, a4, vs, a5, ⟨by rw [a6'.1, D.rens_length], fun i d v hd hv => ?_⟩, fun d hd => ?_⟩
    · exact (a6'.2 i (d.ren f) v (by rw [D.rens_get, hd]; rfl) hv).pull f _ rfl (D.lalls_mem h4 d (List.mem_of_getElem? hd))
    · obtain ⟨i, hi⟩ := List.getElem?_of_mem hd
      have := a7' (d.ren f) (List.mem_of_getElem? (i := i) (by rw [D.rens_get, hi]; rfl))
      rw [D.ren_one] at this; exact this
  · obtain ⟨h1, h2, _⟩ := hm.get l _ hl
    obtain ⟨a1, a2, a3⟩ := h.sim.tok (f l) E s h2
    exact ⟨by simp only [Gh.pull, a1, h1, Bool.true_and], a2, a3⟩
  · obtain ⟨h1, ⟨cs0, h2, h3, h4⟩, _⟩ := hm.get l _ hl
    obtain ⟨a1, a2, a3⟩ := h.sim.obj (f l) K cs0 h2
    refine ⟨by simp only [Gh.pull, a1, h1, Bool.true_and], fun hn => OKind.none_rens (OKind.none_up h3 (a2 hn)), fun hn => ?_⟩
    obtain ⟨c1, c2, o, c3, c4⟩ := a3 hn
    exact ⟨c1, c2, o, c3, (c4.up h3).pull f _ h4⟩
  · obtain ⟨c1, hc1⟩ := Option.isSome_iff_exists.1 ha
    obtain ⟨c2, hc2⟩ := Option.isSome_iff_exists.1 hb
    obtain ⟨_, h2, x, hx, ex⟩ := hm.get l c1 hc1
    obtain ⟨_, h2', y, hy, ey⟩ := hm.get l' c2 hc2
    have hs1 : (mget m (f l)).isSome = true := by cases c1 with | var T cs => obtain ⟨_, e, _⟩ := h2; rw [e]; rfl | tok E s => rw [h2]; rfl | obj K cs => obtain ⟨_, e, _⟩ := h2; rw [e]; rfl
    have hs2 : (mget m (f l')).isSome = true := by cases c2 with | var T cs => obtain ⟨_, e, _⟩ := h2'; rw [e]; rfl | tok E s => rw [h2']; rfl | obj K cs => obtain ⟨_, e, _⟩ := h2'; rw [e]; rfl
    refine h.sim.inj (f l) (f l') hs1 hs2 (fun e => hne ?_) n1 n2
    have := nodup_map_inj hi x hx y hy (by rw [ex, ey]; exact e)
    rw [← ex, ← ey, this]
  · obtain ⟨d0, h1, h2, h3⟩ := hρ.get t d hd
    exact (h2.rep (h.slots t d0 h1)).pull f _ rfl h3
  · simp only [Gh.pull, Bool.and_eq_true, below] at hl
    exact Nat.blt_eq ▸ hl.2
theorem weak_ren {k : Nat} [hB : B.Lim k] (f : Nat → Nat) {ρ1 : Slots} {m1 : Mem} {nx1 : Nat} (hρ : SubSf f nx1 ρ ρ1) (hm : SubMf f nx1 m m1) (hi : (m1.map fun x => f x.1).Nodup) (hk : k ≤ nx1) (hf : ∀ l, l < k → f l = l) : Weak B N ρ m nx ρ1 m1 nx1 :=
  fun _ _ _ h => ⟨_, h.ren_ f hρ hm hi hk hf⟩
theorem weak_tok (E : TypeId) (s : Nat) : Weak B N ρ m nx ρ ((nx, some (.tok E s)) :: m) (nx + 1) := by
  intro G a w h
  have hnk : G.kn nx = false := by
    cases hk : G.kn nx with
    | false => rfl
    | true => have := h.fresh nx hk; omega
  have hml : mget m nx = none := by
    cases hm : mget m nx with
    | none => rfl
    | some c => have := h.sim.known (l := nx) (by rw [hm]; rfl); rw [hnk] at this; cases this
  let G' : Gh := ⟨fun x => G.kn x || x == nx, G.g, fun x => G.al x || x == nx, G.hw, fun x => G.nl x || x == nx, G.cp⟩
  have hne : ∀ x, G.kn x = true → x ≠ nx := fun x hx e => by rw [e, hnk] at hx; cases hx
  have hx : Ext G w G' w := ⟨fun x hk => by
    have := hne x hk
    refine ⟨by simp [G', hk], rfl, fun ha => ⟨by simpa [G', this] using ha, fun _ => rfl⟩, by simp [G', this], rfl⟩, fun _ => Nat.le_refl _, fun _ _ _ => rfl, Nat.le_refl _⟩
  refine ⟨G', ⟨⟨h.sim.new, h.sim.ext.trans hx, h.sim.old, fun l T cs hl => ?_, fun l E' s' hl => ?_, fun l K cs hl => ?_, fun l l' ha hb hne' n1 n2 => ?_, h.sim.data⟩, h.defers, h.size, fun t d hd => (h.slots t d hd).mono hx, fun l hl => ?_⟩⟩
  · by_cases e : l = nx
    · subst e; rw [mget_eq] at hl; simp at hl
    · rw [mget_ne _ _ e] at hl
      obtain ⟨a1, a2, a3, a4, vs, a5, a6, a7⟩ := h.sim.var l T cs hl
      exact ⟨by simp [G', a1], a2, a3, by simp [G', a4, e], vs, a5, a6.mono hx, a7⟩
  · by_cases e : l = nx
    · subst e; exact ⟨by simp [G'], by simp [G'], fun hn => by simp [G'] at hn⟩
    · rw [mget_ne _ _ e] at hl
      obtain ⟨a1, a2, a3⟩ := h.sim.tok l E' s' hl
      exact ⟨by simp [G', a1], by simp [G', a2], fun hn => a3 (by simpa [G', e] using hn)⟩
  · by_cases e : l = nx
    · subst e; rw [mget_eq] at hl; simp at hl
    · rw [mget_ne _ _ e] at hl
      obtain ⟨a1, a2, a3⟩ := h.sim.obj l K cs hl
      refine ⟨by simp [G', a1], fun hn => a2 (by simpa [G', e] using hn), fun hn => ?_⟩
      obtain ⟨c1, c2, o, c3, c4⟩ := a3 (by simpa [G', e] using hn)
      exact ⟨c1, c2, o, c3, c4.mono hx⟩
  · have e1 : l ≠ nx := fun e => by subst e; simp [G'] at n1
    have e2 : l' ≠ nx := fun e => by subst e; simp [G'] at n2
    rw [mget_ne _ _ e1] at ha
    rw [mget_ne _ _ e2] at hb
    exact h.sim.inj l l' ha hb hne' (by simpa [G', e1] using n1) (by simpa [G', e2] using n2)
  · simp only [G', Bool.or_eq_true, beq_iff_eq] at hl
    rcases hl with hl | hl
    · have := h.fresh l hl; omega
    · omega
mutual
def D.bel (n : Nat) : D → Bool
  | .agg cs | .tup cs | .fn _ cs => D.bels n cs
  | .slice tk _ _ => match tk with | .own k => Nat.blt k n | _ => true
  | .ptr l _ => Nat.blt l n
  | .ms l _ _ => Nat.blt l n
  | .rs l _ => Nat.blt l n
  | .mp l => Nat.blt l n
  | _ => true
def D.bels (n : Nat) : List D → Bool
  | [] => true
  | d :: ds => d.bel n && D.bels n ds
end
theorem D.bels_mem {n : Nat} : ∀ {ds : List D}, D.bels n ds = true → ∀ d ∈ ds, d.bel n = true
  | [], _, _, h => by simp at h
  | x :: xs, h, d, hd => by
    simp only [D.bels, Bool.and_eq_true] at h
    rcases List.mem_cons.1 hd with rfl | hd
    · exact h.1
    · exact D.bels_mem h.2 d hd
def Gh.cut (G : Gh) (n : Nat) : Gh := { G with kn := fun l => G.kn l && Nat.blt l n }
theorem TokOk.cut_ {G : Gh} {n : Nat} {tk : Tok} {b o e k cap : Nat} (h : TokOk G tk b o e k cap) (hb : (match tk with | .own k => Nat.blt k n | _ => true) = true) : TokOk (G.cut n) tk b o e k cap := by
  cases tk with
  | frozen => trivial
  | tight => exact h
  | nil => exact h
  | own j => exact ⟨by simp only [Gh.cut, h.1, Bool.true_and]; exact hb, h.2⟩
theorem Rep.cut_ {G : Gh} {n : Nat} {w : World} {d : D} {v : Value} (h : Rep G w d v) (hb : d.bel n = true) : Rep (G.cut n) w d v := by
  induction h with
  | int k n => exact .int k n
  | bool b => exact .bool b
  | str s => exact .str s
  | agg ds vs hl h1 _ ih => exact .agg ds vs hl h1 fun i d v hd hv => ih i d v hd hv (D.bels_mem (by simpa [D.bel] using hb) d (List.mem_of_getElem? hd))
  | tup ds vs hl _ ih => exact .tup ds vs hl fun i d v hd hv => ih i d v hd hv (D.bels_mem (by simpa [D.bel] using hb) d (List.mem_of_getElem? hd))
  | nil tk => exact .nil tk
  | slice tk n' cs b o cap vs hl h1 h hh hc hb' hn ht _ => exact .slice tk n' cs b o cap vs hl h1 (fun i d v hd hv => (h i d v hd hv).closed (G.cut n) rfl (h1 d (List.mem_of_getElem? hd)).2) hh hc hb' hn (ht.cut_ (by cases tk <;> first | rfl | simpa [D.bel] using hb))
  | ptr l off h => exact .ptr (G := G.cut n) l off (by simp only [Gh.cut, h, Bool.true_and]; simpa [D.bel] using hb)
  | ms l off n' cap h hn => exact .ms (G := G.cut n) l off n' cap (by simp only [Gh.cut, h, Bool.true_and]; simpa [D.bel] using hb) hn
  | rs l n' h hnl hn => exact .rs (G := G.cut n) l n' (by simp only [Gh.cut, h, Bool.true_and]; simpa [D.bel] using hb) hnl hn
  | rsn l => exact .rsn l
  | mp l h hnl => exact .mp (G := G.cut n) l (by simp only [Gh.cut, h, Bool.true_and]; simpa [D.bel] using hb) hnl
  | eptr cs b o vs hl h1 h hh hc _ => exact .eptr cs b o vs hl h1 (fun i d v hd hv => (h i d v hd hv).closed (G.cut n) rfl (h1 d (List.mem_of_getElem? hd)).2) hh hc
  | fn f ds vs hl _ ih => exact .fn f ds vs hl fun i d v hd hv => ih i d v hd hv (D.bels_mem (by simpa [D.bel] using hb) d (List.mem_of_getElem? hd))
  | raw v h => exact .raw v h
  | opq v h => exact .opq v h
  | undef v => exact .undef v
def SubS (nx : Nat) (ρ : Slots) : Slots → Prop
  | [] => True
  | (t, d) :: r => (sget ρ t = some d ∧ d.bel nx = true) ∧ SubS nx ρ r
def SubM (nx : Nat) (m : Mem) : Mem → Prop
  | [] => True
  | (l, c) :: r => (mget m l = c ∧ Nat.blt l nx = true ∧ (match c with | some (.var _ cs) => D.bels nx cs | some (.obj _ cs) => D.bels nx cs | _ => true) = true) ∧ SubM nx m r
theorem SubS.get {nx : Nat} {ρ : Slots} : ∀ {ρ1 : Slots}, SubS nx ρ ρ1 → ∀ t d, sget ρ1 t = some d → sget ρ t = some d ∧ d.bel nx = true
  | [], _, t, d, h => by simp [sget] at h
  | (k, x) :: r, h, t, d, hd => by
    simp only [sget] at hd
    rcases Bool.eq_false_or_eq_true (Nat.beq k t) with hb | hb
    · simp only [hb, cond_true, Option.some.injEq] at hd
      subst hd
      rw [← Nat.eq_of_beq_eq_true hb]; exact h.1
    · simp only [hb, cond_false] at hd
      exact SubS.get h.2 t d hd
theorem SubM.get {nx : Nat} {m : Mem} : ∀ {m1 : Mem}, SubM nx m m1 → ∀ l c, mget m1 l = some c → mget m l = some c ∧ Nat.blt l nx = true ∧ (match c with | .var _ cs => D.bels nx cs | .obj _ cs => D.bels nx cs | _ => true) = true
  | [], _, l, c, h => by simp [mget] at h
  | (k, x) :: r, h, l, c, hc => by
    simp only [mget] at hc
    rcases Bool.eq_false_or_eq_true (Nat.beq k l) with hb | hb
    · simp only [hb, cond_true] at hc
      subst hc
      obtain ⟨h1, h2, h3⟩ := h.1
      rw [← Nat.eq_of_beq_eq_true hb]; exact ⟨h1, h2, by cases c <;> exact h3⟩
    · simp only [hb, cond_false] at hc
      exact SubM.get h.2 l c hc
theorem SimS.weak {k : Nat} [hB : B.Lim k] {G : Gh} {a : Act} {w : World} {ρ1 : Slots} {m1 : Mem} {nx1 : Nat} (h : SimS B G N ρ m nx a w) (hρ : SubS nx1 ρ ρ1) (hm : SubM nx1 m m1) (hk : k ≤ nx1) : SimS B (G.cut nx1) N ρ1 m1 nx1 a w := by
  refine ⟨⟨h.sim.new, ?_, h.sim.old, fun l T cs hl => ?_, fun l E s hl => ?_, fun l K cs hl => ?_, fun l l' a b hne n1 n2 => ?_, h.sim.data⟩, h.defers, h.size, fun t d hd => ?_, fun l hl => ?_⟩
  · refine ⟨fun l hl => ?_, h.sim.ext.hw, h.sim.ext.cell, h.sim.ext.size⟩
    have hlk := hB.le l hl
    have := h.sim.ext.kn l hl
    refine ⟨?_, this.2⟩
    simp only [Gh.cut, this.1]; simp; omega
  · obtain ⟨h1, h2, h3⟩ := hm.get l _ hl
    obtain ⟨a1, a2, a3, a0, vs, a4, a5, a6⟩ := h.sim.var l T cs h1
    refine ⟨by simp only [Gh.cut, a1, Bool.true_and]; exact h2, a2, a3, a0, vs, a4, ⟨a5.1, fun i d v hd hv => (a5.2 i d v hd hv).cut_ (D.bels_mem h3 d (List.mem_of_getElem? hd))⟩, a6⟩
  · obtain ⟨h1, h2, _⟩ := hm.get l _ hl
    obtain ⟨a1, a2, a3⟩ := h.sim.tok l E s h1
    exact ⟨by simp only [Gh.cut, a1, Bool.true_and]; exact h2, a2, a3⟩
  · obtain ⟨h1, h2, h3⟩ := hm.get l _ hl
    obtain ⟨a1, a2, a3⟩ := h.sim.obj l K cs h1
    refine ⟨by simp only [Gh.cut, a1, Bool.true_and]; exact h2, a2, fun hn => ?_⟩
    obtain ⟨c1, c2, o, c3, vs, c4, c5, c6⟩ := a3 hn
    exact ⟨c1, c2, o, c3, vs, c4, ⟨c5.1, fun i d v hd hv => (c5.2 i d v hd hv).cut_ (D.bels_mem h3 d (List.mem_of_getElem? hd))⟩, c6⟩
  · obtain ⟨c, hc⟩ := Option.isSome_iff_exists.1 a
    obtain ⟨c', hc'⟩ := Option.isSome_iff_exists.1 b
    exact h.sim.inj l l' (by rw [(hm.get l c hc).1]; rfl) (by rw [(hm.get l' c' hc').1]; rfl) hne n1 n2
  · obtain ⟨h1, h2⟩ := hρ.get t d hd
    exact (h.slots t d h1).cut_ h2
  · simp only [Gh.cut, Bool.and_eq_true] at hl
    exact Nat.blt_eq ▸ hl.2
theorem weak_sub {k : Nat} [hB : B.Lim k] {ρ1 : Slots} {m1 : Mem} {nx1 : Nat} (hρ : SubS nx1 ρ ρ1) (hm : SubM nx1 m m1) (hk : k ≤ nx1) : Weak B N ρ m nx ρ1 m1 nx1 := fun _ _ _ h => ⟨_, h.weak hρ hm hk⟩
theorem W_of_weak {c : Code} {ρ1 : Slots} {m1 : Mem} {nx1 : Nat} (hw : Weak B N ρ m nx ρ1 m1 nx1) (h : W P B N c Q ρ1 m1 nx1) : W P B N c Q ρ m nx :=
  fun G a w hs => by obtain ⟨G', hs'⟩ := hw G a w hs; exact h _ a w hs'
theorem W_loopW {c : Code} (J : Nat → Slots → Mem → Nat → Prop) (h0 : ∃ n ρ1 m1 nx1, Weak B N ρ m nx ρ1 m1 nx1 ∧ J n ρ1 m1 nx1)
    (hr : ∀ n ρ m nx, J n ρ m nx → W P B N c (thenD (fun ρ' m' nx' => ∃ n' ρ1 m1 nx1, Weak B N ρ' m' nx' ρ1 m1 nx1 ∧ n' < n ∧ J n' ρ1 m1 nx1) Q) ρ m nx) : W P B N (.loop c) Q ρ m nx := by
  intro G a w hs
  obtain ⟨n0, ρ1, m1, nx1, hw, hJ⟩ := h0
  obtain ⟨G1, hs1⟩ := hw G a w hs
  intro b k cs
  have key : ∀ n ρ m nx G a w, J n ρ m nx → SimS B G N ρ m nx a w →
      ∃ e a' w', (∃ ρ' m' nx' G', SimS B G' N ρ' m' nx' a' w' ∧ Q e ρ' m' nx') ∧ Arrives P (lone (b.at a (.code c :: .inLoop c :: k)) cs w) b k cs e a' w' := by
    intro n
    induction n using Nat.strongRecOn with
    | _ n ih =>
      intro ρ m nx G a w hJ hs
      obtain ⟨e, a₁, w₁, ⟨ρ', m', nx', G', hs', hq⟩, harr⟩ := hr n ρ m nx hJ G a w hs b (.inLoop c :: k) cs
      cases e with
      | normal =>
        obtain ⟨n', ρ2, m2, nx2, h1, hlt, hJ'⟩ := hq
        obtain ⟨G2, hs2⟩ := h1 G' a₁ w₁ hs'
        obtain ⟨e₂, a₂, w₂, hq₂, harr₂⟩ := ih n' hlt ρ2 m2 nx2 G2 a₁ w₁ hJ' hs2
        exact ⟨e₂, a₂, w₂, hq₂, .of_steps (Steps.trans harr (.one step_inLoop)) harr₂⟩
      | exit id => exact ⟨_, a₁, w₁, ⟨ρ', m', nx', G', hs', hq⟩, .pass (x := .inLoop c) rfl (fun _ _ => .inl (by simp)) harr⟩
      | goto l => exact ⟨_, a₁, w₁, ⟨ρ', m', nx', G', hs', hq⟩, .pass (x := .inLoop c) rfl (fun _ _ => .inl (by simp)) harr⟩
      | ret => exact ⟨_, a₁, w₁, ⟨ρ', m', nx', G', hs', hq⟩, .pass (x := .inLoop c) rfl (fun _ _ => .inl (by simp)) harr⟩
      | panic ch => exact ⟨_, a₁, w₁, ⟨ρ', m', nx', G', hs', hq⟩, .pass (x := .inLoop c) rfl (fun _ _ => .inl (by simp)) harr⟩
      | outgrown => exact ⟨_, a₁, w₁, ⟨ρ', m', nx', G', hs', hq⟩, .pass (x := .inLoop c) rfl (fun _ _ => .inl (by simp)) harr⟩
  obtain ⟨e, a', w', hq, harr⟩ := key n0 ρ1 m1 nx1 G1 a w hJ hs1
  exact ⟨e, a', w', hq, .of_steps (.one step_loop) harr⟩
theorem W_mono {c : Code} {Q' : Post} (h : W P B N c Q ρ m nx) (hq : ∀ e ρ m nx, Q e ρ m nx → Q' e ρ m nx) : W P B N c Q' ρ m nx :=
  fun G a w hs => wp_mono (h G a w hs) fun e a' w' ⟨ρ', m', nx', G', hs', h'⟩ => ⟨ρ', m', nx', G', hs', hq _ _ _ _ h'⟩
theorem W_loop {k : Nat} [hB : B.Lim k] {c : Code} (J : Nat → Slots → Mem → Nat → Prop) (h0 : ∃ n ρ1 m1 nx1, SubS nx1 ρ ρ1 ∧ SubM nx1 m m1 ∧ J n ρ1 m1 nx1)
    (hr : ∀ n ρ m nx, J n ρ m nx → W P B N c (thenD (fun ρ' m' nx' => ∃ n' ρ1 m1 nx1, SubS nx1 ρ' ρ1 ∧ SubM nx1 m' m1 ∧ n' < n ∧ J n' ρ1 m1 nx1) Q) ρ m nx) (hk : ∀ n ρ m nx, J n ρ m nx → k ≤ nx := by intros; exact Nat.zero_le _) : W P B N (.loop c) Q ρ m nx := by
  obtain ⟨n, ρ1, m1, nx1, a1, a2, a3⟩ := h0
  refine W_loopW J ⟨n, ρ1, m1, nx1, weak_sub a1 a2 (hk _ _ _ _ a3), a3⟩ fun n ρ m nx hJ => W_mono (hr n ρ m nx hJ) fun e ρ' m' nx' h => ?_
  cases e with
  | normal =>
    obtain ⟨n', ρ1, m1, nx1, b1, b2, b3, b4⟩ := h
    exact ⟨n', ρ1, m1, nx1, weak_sub b1 b2 (hk _ _ _ _ b4), b3, b4⟩
  | _ => exact h
end
def HwOk (hw : Nat → Nat) (w : World) : Prop := ∀ b, 0 < hw b → ∃ vs T fr, w.heap[b]? = some (.cells vs T fr) ∧ hw b ≤ vs.size
def Pur (P : Program) (F : FuncId) (ds : List D) (d : D) : Prop :=
  ∀ (w : World) (hw : Nat → Nat) (vs : Array Value), GTab w [] → HwOk hw w → Reps (bare hw) w ds vs → Calls P F vs w fun e w' => ∃ v hw', e = .returned v ∧ New w w' ∧ HwOk hw' w' ∧ (∀ b, b < w.heap.size → hw' b = hw b) ∧ Rep (bare hw') w' d v
inductive RetV (P : Program) (ρ : Slots) (m : Mem) : ResultVar → D → Prop where
  | tmp (t : Tmp) (d : D) (h : sget ρ t = some d) : RetV P ρ m (.tmp t) d
  | cell (t : Tmp) (T : TypeId) (ty : Ty) (l off : Nat) (T' : TypeId) (cs : List D) (d : D) (ht : HasTy P T ty) (h : sget ρ t = some (.ptr l off)) (hm : mget m l = some (.var T' cs)) (hd : cut ty off cs = some d) : RetV P ρ m (.cell t T) d
section
variable {P : Program} {B : Base} {N : Nat} {ρ : Slots} {m : Mem} {nx : Nat}
def retSem (tmps : Array Value) : ResultVar → Sem Value
  | .tmp t => pure (tmps[t]?.getD undef)
  | .cell a t => do loadVar t (← asAddr (tmps[a]?.getD undef))
theorem results_1 {fn : Func} {r1 : ResultVar} (h : fn.results = #[r1]) (tmps : Array Value) (w : World) : (results fn tmps).run P w = ((retSem tmps r1).run P w).andThen fun v1 w => .ok v1 w := by
  have e : (results fn tmps).run P w = (retSem tmps r1).run P w := by simp [results, h]; rfl
  rw [e]; cases (retSem tmps r1).run P w <;> rfl
theorem results_2 {fn : Func} {r1 r2 : ResultVar} (h : fn.results = #[r1, r2]) (tmps : Array Value) (w : World) : (results fn tmps).run P w = ((retSem tmps r1).run P w).andThen fun v1 w => ((retSem tmps r2).run P w).andThen fun v2 w => .ok (.tuple #[v1, v2]) w := by
  simp [results, h]; rfl
theorem results_3 {fn : Func} {r1 r2 r3 : ResultVar} (h : fn.results = #[r1, r2, r3]) (tmps : Array Value) (w : World) : (results fn tmps).run P w = ((retSem tmps r1).run P w).andThen fun v1 w => ((retSem tmps r2).run P w).andThen fun v2 w => ((retSem tmps r3).run P w).andThen fun v3 w => .ok (.tuple #[v1, v2, v3]) w := by
  simp [results, h]; rfl
theorem results_4 {fn : Func} {r1 r2 r3 r4 : ResultVar} (h : fn.results = #[r1, r2, r3, r4]) (tmps : Array Value) (w : World) : (results fn tmps).run P w = ((retSem tmps r1).run P w).andThen fun v1 w => ((retSem tmps r2).run P w).andThen fun v2 w => ((retSem tmps r3).run P w).andThen fun v3 w => ((retSem tmps r4).run P w).andThen fun v4 w => .ok (.tuple #[v1, v2, v3, v4]) w := by
  simp [results, h]; rfl
theorem RetV.run {r : ResultVar} {d : D} (h : RetV P ρ m r d) {G : Gh} {a : Act} {w : World} (hs : SimS B G N ρ m nx a w) :
    ∃ v, (retSem a.tmps r).run P w = .ok v w ∧ Rep G w d v := by
  cases h with
  | tmp t d h =>
    have := hs.slots t d h
    simp only [Act.eval, Array.getD_eq_getD_getElem?] at this
    exact ⟨_, rfl, this⟩
  | cell t T ty l off T' cs d ht h hm hd =>
    have hp := hs.slots t _ h
    have he : a.eval (.tmp t) = .pointer (some ⟨G.g l, off, none⟩) := (show ∀ v, Rep G w (.ptr l off) v → v = .pointer (some ⟨G.g l, off, none⟩) from fun v h => by cases h; rfl) _ hp
    have he' : a.tmps[t]?.getD undef = .pointer (some ⟨G.g l, off, none⟩) := by rw [← Array.getD_eq_getD_getElem?]; exact he
    obtain ⟨vs, hv, hr, h1⟩ := hs.sim.at_ hm
    obtain ⟨v, h2, h3⟩ := run_cut (P := P) (T := T) (b := G.g l) (o := 0) hr h1 (fun i _ => by rw [cell_of_row w _ _ vs T' (0, 0) hv, Nat.zero_add]) hd
    rw [Nat.zero_add] at h2
    refine ⟨v, ?_, h3⟩
    simp only [retSem, Sem.run_bind, he']
    simpa [asAddr] using h2
def Rets (P : Program) (rs : Array ResultVar) (d : D) (ρ : Slots) (m : Mem) : Prop :=
  (rs = #[] ∧ d = .tup []) ∨ (∃ r1 d1, rs = #[r1] ∧ RetV P ρ m r1 d1 ∧ d = d1.fz) ∨ (∃ r1 r2 d1 d2, rs = #[r1, r2] ∧ RetV P ρ m r1 d1 ∧ RetV P ρ m r2 d2 ∧ d = .tup [d1.fz, d2.fz]) ∨
  (∃ r1 r2 r3 d1 d2 d3, rs = #[r1, r2, r3] ∧ RetV P ρ m r1 d1 ∧ RetV P ρ m r2 d2 ∧ RetV P ρ m r3 d3 ∧ d = .tup [d1.fz, d2.fz, d3.fz]) ∨
  (∃ r1 r2 r3 r4 d1 d2 d3 d4, rs = #[r1, r2, r3, r4] ∧ RetV P ρ m r1 d1 ∧ RetV P ρ m r2 d2 ∧ RetV P ρ m r3 d3 ∧ RetV P ρ m r4 d4 ∧ d = .tup [d1.fz, d2.fz, d3.fz, d4.fz])
theorem Rets.run {fn : Func} {d : D} (h : Rets P fn.results d ρ m) {G : Gh} {a : Act} {w : World} (hs : SimS B G N ρ m nx a w) : ∃ v, (results fn a.tmps).run P w = .ok v w ∧ Rep G w d v := by
  rcases h with ⟨h, rfl⟩ | ⟨r1, d1, h, h1, rfl⟩ | ⟨r1, r2, d1, d2, h, h1, h2, rfl⟩ | ⟨r1, r2, r3, d1, d2, d3, h, h1, h2, h3, rfl⟩ | ⟨r1, r2, r3, r4, d1, d2, d3, d4, h, h1, h2, h3, h4, rfl⟩
  · exact ⟨.tuple #[], by simp [results, h], .tup [] #[] rfl fun i d v hd => by simp at hd⟩
  · obtain ⟨v1, e1, p1⟩ := h1.run hs
    exact ⟨v1, by rw [results_1 h, e1]; rfl, p1.fz⟩
  · obtain ⟨v1, e1, p1⟩ := h1.run hs
    obtain ⟨v2, e2, p2⟩ := h2.run hs
    have := Reps.cons p1.fz (Reps.cons p2.fz (vs := []) Reps.nil)
    exact ⟨.tuple #[v1, v2], by simp only [results_2 h, e1, e2, Result.andThen_ok], .tup _ _ this.1 this.2⟩
  · obtain ⟨v1, e1, p1⟩ := h1.run hs
    obtain ⟨v2, e2, p2⟩ := h2.run hs
    obtain ⟨v3, e3, p3⟩ := h3.run hs
    have := Reps.cons p1.fz (Reps.cons p2.fz (Reps.cons p3.fz (vs := []) Reps.nil))
    exact ⟨.tuple #[v1, v2, v3], by simp only [results_3 h, e1, e2, e3, Result.andThen_ok], .tup _ _ this.1 this.2⟩
  · obtain ⟨v1, e1, p1⟩ := h1.run hs
    obtain ⟨v2, e2, p2⟩ := h2.run hs
    obtain ⟨v3, e3, p3⟩ := h3.run hs
    obtain ⟨v4, e4, p4⟩ := h4.run hs
    have := Reps.cons p1.fz (Reps.cons p2.fz (Reps.cons p3.fz (Reps.cons p4.fz (vs := []) Reps.nil)))
    exact ⟨.tuple #[v1, v2, v3, v4], by simp only [results_4 h, e1, e2, e3, e4, Result.andThen_ok], .tup _ _ this.1 this.2⟩
theorem rets1 {rs : Array ResultVar} {r1 : ResultVar} {d1 d : D} (hr : rs = #[r1]) (h1 : RetV P ρ m r1 d1) (hd : d1.fz = d) : Rets P rs d ρ m := .inr (.inl ⟨r1, d1, hr, h1, hd.symm⟩)
theorem rets2 {rs : Array ResultVar} {r1 r2 : ResultVar} {d1 d2 d d' : D} (hr : rs = #[r1, r2]) (h1 : RetV P ρ m r1 d1) (h2 : RetV P ρ m r2 d2) (hd : d1.fz = d) (hd' : d2.fz = d') : Rets P rs (.tup [d, d']) ρ m := .inr (.inr (.inl ⟨r1, r2, d1, d2, hr, h1, h2, by rw [hd, hd']⟩))
theorem rets3 {rs : Array ResultVar} {r1 r2 r3 : ResultVar} {d1 d2 d3 e1 e2 e3 : D} (hr : rs = #[r1, r2, r3]) (h1 : RetV P ρ m r1 d1) (h2 : RetV P ρ m r2 d2) (h3 : RetV P ρ m r3 d3) (k1 : d1.fz = e1) (k2 : d2.fz = e2) (k3 : d3.fz = e3) : Rets P rs (.tup [e1, e2, e3]) ρ m :=
  .inr (.inr (.inr (.inl ⟨r1, r2, r3, d1, d2, d3, hr, h1, h2, h3, by rw [k1, k2, k3]⟩)))
def endD (P : Program) (rs : Array ResultVar) (d : D) : Post := fun e ρ m _ => match e with | .normal | .ret => Rets P rs d ρ m | _ => False
theorem q_endr {rs : Array ResultVar} {d : D} (h : Rets P rs d ρ m) : endD P rs d .ret ρ m nx := h
def slots0 : List D → Nat → Slots
  | [], _ => []
  | d :: ds, i => (i, d) :: slots0 ds (i + 1)
theorem slots0_get : ∀ (ds : List D) (i t : Nat) (d : D), sget (slots0 ds i) t = some d → i ≤ t ∧ ds[t - i]? = some d
  | [], i, t, d, h => by simp [slots0, sget] at h
  | x :: ds, i, t, d, h => by
    simp only [slots0, sget] at h
    rcases Bool.eq_false_or_eq_true (Nat.beq i t) with hb | hb
    · simp only [hb, cond_true, Option.some.injEq] at h
      have := Nat.eq_of_beq_eq_true hb
      subst this
      exact ⟨Nat.le_refl _, by simp [h]⟩
    · simp only [hb, cond_false] at h
      obtain ⟨h1, h2⟩ := slots0_get ds (i + 1) t d h
      refine ⟨by omega, ?_⟩
      rw [show t - i = (t - (i + 1)) + 1 from by omega]
      simpa using h2
theorem pur_intro {F : FuncId} {fn : Func} {c : Code} {ds : List D} {d : D} {N : Nat} (hf : P.funcs[F]? = some fn) (hb : fn.body = some c) (hn : fn.ntmps = N) (hl : Nat.ble ds.length N = true) (hd : d.cl = true) (h : ∀ (B : Base) [B.Lim 0], W P B N c (endD P fn.results d) (slots0 ds 0) [] 0) : Pur P F ds d := by
  intro w hw vs hg hok hvs
  have hle := Nat.le_of_ble_eq_true hl
  refine calls_of_wp hf hb (wp_mono (@h ⟨w, bare hw, [], hg⟩ ⟨fun l hl => by simp [bare] at hl⟩ (bare hw) _ w ⟨⟨Keep.refl [] w, Ext.refl _ w, fun _ _ _ => rfl, fun l T cs hm => by simp [mget] at hm, fun l E s hm => by simp [mget] at hm, fun l K cs hm => by simp [mget] at hm, fun l l' a => by simp [mget] at a, hok⟩, rfl, ?_, fun t x hx => ?_, fun l hl => by simp [bare] at hl⟩) ?_)
  · have := hvs.1
    simp [hn]; omega
  · obtain ⟨_, h2⟩ := slots0_get ds 0 t x hx
    rw [Nat.sub_zero] at h2
    obtain ⟨v, hv, hr⟩ := hvs.at_ h2
    have hlt : t < vs.size := (Array.getElem?_eq_some_iff.1 hv).1
    have : (vs ++ Array.replicate (fn.ntmps - vs.size) undef)[t]? = some v := by rw [Array.getElem?_append_left hlt]; exact hv
    simp only [Act.eval, Array.getD_eq_getD_getElem?, this, Option.getD_some]
    exact hr
  · rintro e a' w' ⟨ρ', m', nx', G', hs', hq⟩
    have fin : ∀ {v : Value}, Rep G' w' d v → ∃ v' hw', (Ending.returned v) = .returned v' ∧ New w w' ∧ HwOk hw' w' ∧ (∀ b, b < w.heap.size → hw' b = hw b) ∧ Rep (bare hw') w' d v' := fun {v} hr =>
      ⟨v, G'.hw, rfl, hs'.sim.new.nil, hs'.sim.data, fun b hb => hs'.sim.old b hb (by simp), hr.closed (bare G'.hw) rfl hd⟩
    cases e with
    | normal =>
      obtain ⟨v, hv, hr⟩ := Rets.run (fn := fn) (d := d) hq hs'
      exact bodyPost_end hv hs'.defers (fin hr)
    | ret =>
      obtain ⟨v, hv, hr⟩ := Rets.run (fn := fn) (d := d) hq hs'
      exact bodyPost_ret hv hs'.defers (fin hr)
    | _ => exact hq.elim
class HasFn (P : Program) (F : FuncId) : Prop where
  fn : ∃ fn, P.funcs[F]? = some fn ∧ (fn.name == "runtime.NumGoroutine") = false ∧ fn.body.isNone = false
def oevs (ρ : Slots) : List Operand → Option (List D)
  | [] => some []
  | x :: xs => match oev ρ x, oevs ρ xs with | some d, some ds => some (d :: ds) | _, _ => none
theorem oevs_reps {G : Gh} {w : World} {a : Act} {ρ : Slots} : ∀ {xs : List Operand} {ds : List D}, oevs ρ xs = some ds → (∀ x ∈ xs, ∀ d, oev ρ x = some d → Rep G w d (a.eval x)) → Reps G w ds (xs.map a.eval).toArray
  | [], ds, h, _ => by simp [oevs] at h; subst h; exact Reps.nil
  | x :: xs, ds, h, hx => by
    simp only [oevs] at h
    split at h
    · rename_i d ds' h1 h2
      injection h with h
      subst h
      exact Reps.cons (hx x (by simp) d h1) (oevs_reps h2 fun y hy => hx y (by simp [hy]))
    · cases h
theorem Reps.fzs {G : Gh} {w : World} {ds : List D} {vs : Array Value} (h : Reps G w ds vs) : Reps G w (D.fzs ds) vs := by
  refine ⟨by rw [D.fzs_length]; exact h.1, fun i d v hd hv => ?_⟩
  rw [D.fzs_get] at hd
  obtain ⟨d0, h0, rfl⟩ := Option.map_eq_some_iff.1 hd
  exact (h.2 i d0 v h0 hv).fz
theorem pur_call {o : Oper} {F : FuncId} {ds : List D} {d : D} (hp : Pur P F ds d) (hc : D.cls ds = true) (hd : d.cl = true)
    (h : ∀ (B : Base) (G : Gh) (a : Act) (w : World) (m' : Mem), Sim B G m' w → (∀ x ∈ o.op.operands, ∀ d, oev ρ x = some d → Rep G w d (a.eval x)) → ∃ vs, (execOp a.eval o).run P w = .ok (.enter F vs) w ∧ Reps G w ds vs) : OpSound P o (Eff.val d) ρ m := by
  intro B G a w m' K Q hs hx ht hn hK
  obtain ⟨vs, hv, hr⟩ := h B G a w m' hs hx
  unfold Oper.wp
  rw [hv, Oper.upon_enter]
  have hr0 : Reps (bare G.hw) w ds vs := ⟨hr.1, fun i d v hd hv => (hr.2 i d v hd hv).closed (bare G.hw) rfl (D.cls_mem hc d (List.mem_of_getElem? hd))⟩
  refine (hp w G.hw vs hs.gtab_ hs.data hr0).mono fun e w' ⟨v, hw', he, hN, hok, hold, hrv⟩ => ?_
  subst he
  let G' : Gh := { G with hw := hw' }
  have hlt : ∀ b, 0 < G.hw b → b < w.heap.size := fun b hb => by
    obtain ⟨_, _, _, hv, _⟩ := hs.data b hb
    exact (Array.getElem?_eq_some_iff.1 hv).1
  have hle : ∀ b, G.hw b ≤ hw' b := fun b => by
    rcases Nat.eq_zero_or_pos (G.hw b) with h0 | h0
    · omega
    · rw [hold b (hlt b h0)]; exact Nat.le_refl _
  have hx0 := Ext.grow hs.data hN
  let G2 : Gh := { G with hw := hw', al := fun k => G.al k && (G.nl k || decide (G.g k < w.heap.size)) }
  have hX : Ext G w G2 w' := by
    refine ⟨fun l hl => ⟨hl, rfl, fun ha => ?_, rfl, rfl⟩, hle, hx0.cell, hx0.size⟩
    simp only [G2, Bool.and_eq_true, Bool.or_eq_true, decide_eq_true_iff] at ha
    exact ⟨ha.1, fun hn => hold _ (ha.2.resolve_left (by rw [hn]; simp))⟩
  refine hK v w' _ hX ?_ (hrv.closed G2 rfl hd) fun l hl => .inl hl
  have hg := hs.grow hN
  show Sim B G2 m' w'
  refine ⟨hg.new, hs.ext.trans hX, fun b hb hT => ?_, fun l T cs hm => ?_, fun l E s hm => ?_, fun l K cs hm => ?_, hg.inj, hok⟩
  · show hw' b = B.G.hw b
    rw [hold b (Nat.lt_of_lt_of_le hb hs.new.size)]; exact hs.old b hb hT
  · obtain ⟨a1, a2, a3, a0, vs', a4, a5, a6⟩ := hs.var l T cs hm
    exact ⟨a1, a2, (hold _ (hs.vlt hm)).trans a3, a0, vs', (hN.block _ (hs.vlt hm)).trans a4, a5.mono hX, a6⟩
  · obtain ⟨a1, a2, a3⟩ := hs.tok l E s hm
    refine ⟨a1, ?_, fun hn => ?_⟩
    · simp only [G2, a2, Bool.true_and, Bool.or_eq_true, decide_eq_true_iff]
      cases hnl : G.nl l with
      | true => exact .inl rfl
      | false => exact .inr (hs.lt (by rw [hm]; rfl) hnl)
    · obtain ⟨c1, c2, vs', c3, c4, c5⟩ := a3 hn
      have hlt' := hs.lt (l := l) (by rw [hm]; rfl) hn
      exact ⟨c1, c2, vs', (hN.block _ hlt').trans c3, by show hw' (G.g l) ≤ _; rw [hold _ hlt']; exact c4, c5⟩
  · obtain ⟨a1, a2, a3⟩ := hs.obj l K cs hm
    refine ⟨a1, a2, fun hn => ?_⟩
    obtain ⟨c1, c2, o, c3, c4⟩ := a3 hn
    have hlt' := hs.lt (l := l) (by rw [hm]; rfl) hn
    exact ⟨c1, by show hw' (G.g l) = 0; rw [hold _ hlt']; exact c2, o, (hN.block _ hlt').trans c3, c4.mono hX⟩
theorem r_call {o : Oper} {F : FuncId} [hf : HasFn P F] {args : Array Operand} {ts : Array TypeId} {ds ds' : List D} {d : D} (hp : Pur P F ds' d) (ho : o.op = .call { callee := .value (.func F), args := args, argTypes := ts }) (hx : oevs ρ args.toList = some ds) (hfz : D.fzs ds = ds') (hc : D.cls ds' = true) (hd : d.cl = true) : OpSound P o (Eff.val d) ρ m := by
  obtain ⟨fn, h1, h2, h3⟩ := hf.fn
  refine pur_call hp hc hd fun B G a w m' hs h => ⟨args.map a.eval, ?_, ?_⟩
  · unfold execOp
    have e : a.eval (.func F) = .func (.func F) #[] #[] := rfl
    simp only [ho, resolve, e, Deferred.ofValue, Sem.run_bind, Sem.run_pure, Result.andThen_ok, invoke, callFunc, run_program, h1, h2, h3]
    simp
  · have := oevs_reps (G := G) (w := w) (a := a) hx fun x hx' => h x (by rw [ho]; simp [Op.operands, Call.operands]; exact .inr (by simpa using hx'))
    rw [← hfz]
    have := this.fzs
    have e : (args.toList.map a.eval).toArray = args.map a.eval := by simp [← Array.toList_map]
    rw [e] at this; exact this
theorem r_callv {o : Oper} {F : FuncId} [hf : HasFn P F] {x : Operand} {caps : List D} {args : Array Operand} {ts : Array TypeId} {ds ds' : List D} {d : D} (hp : Pur P F ds' d) (ho : o.op = .call { callee := .value x, args := args, argTypes := ts }) (hx0 : oev ρ x = some (.fn F caps)) (hx : oevs ρ args.toList = some ds) (hfz : D.fzs (ds ++ caps) = ds') (hc : D.cls ds' = true) (hd : d.cl = true) : OpSound P o (Eff.val d) ρ m := by
  obtain ⟨fn, h1, h2, h3⟩ := hf.fn
  refine pur_call hp hc hd fun B G a w m' hs h => ?_
  have hq := h x (by rw [ho]; simp [Op.operands, Call.operands]) _ hx0
  generalize hev : a.eval x = vx at hq
  cases hq with
  | fn f dcs vcs hl hh =>
  refine ⟨args.map a.eval ++ vcs, ?_, ?_⟩
  · unfold execOp
    simp only [ho, resolve, hev, Deferred.ofValue, Sem.run_bind, Sem.run_pure, Result.andThen_ok, invoke, callFunc, run_program, h1, h2, h3]
    simp
  · have hr := oevs_reps (G := G) (w := w) (a := a) hx fun x hx' => h x (by rw [ho]; simp [Op.operands, Call.operands]; exact .inr (by simpa using hx'))
    rw [← hfz]
    refine Reps.fzs ⟨?_, fun i d v hd hv => ?_⟩
    · have := hr.1; simp at this ⊢; omega
    · have hsz : (args.map a.eval).size = ds.length := by have := hr.1; simpa using this
      rw [List.getElem?_append] at hd
      rw [Array.getElem?_append] at hv
      by_cases c : i < ds.length
      · rw [if_pos c] at hd
        rw [if_pos (by rw [hsz]; exact c)] at hv
        exact hr.2 i d v hd (by simpa using hv)
      · rw [if_neg c] at hd
        rw [if_neg (by rw [hsz]; exact c), hsz] at hv
        exact hh _ d v hd hv
mutual
def D.val : D → Option Value
  | .int k n => some (.int k n)
  | .bool b => some (.bool b)
  | .str s => some (.string s)
  | .agg cs => match D.vals cs with | some vs => some (.agg vs.toArray) | none => none
  | .tup cs => match D.vals cs with | some vs => some (.tuple vs.toArray) | none => none
  | .fn f cs => match D.vals cs with | some vs => some (.func (.func f) #[] vs.toArray) | none => none
  | _ => none
def D.vals : List D → Option (List Value)
  | [] => some []
  | d :: ds => match d.val, D.vals ds with | some v, some vs => some (v :: vs) | _, _ => none
end
theorem D.vals_at : ∀ {ds : List D} {vs : List Value}, D.vals ds = some vs → vs.length = ds.length ∧ ∀ (i : Nat) (d : D) (v : Value), ds[i]? = some d → vs[i]? = some v → d.val = some v
  | [], vs, h => by simp [D.vals] at h; subst h; exact ⟨rfl, fun i d v hd => by simp at hd⟩
  | x :: xs, vs, h => by
    simp only [D.vals] at h
    split at h
    · rename_i v vs' h1 h2
      injection h with h
      subst h
      obtain ⟨e1, e2⟩ := D.vals_at h2
      refine ⟨by simp [e1], fun i d v' hd hv => ?_⟩
      cases i with
      | zero => simp at hd hv; subst hd; subst hv; exact h1
      | succ i => exact e2 i d v' (by simpa using hd) (by simpa using hv)
    · cases h
theorem Rep.val_eq {G : Gh} {w : World} {d : D} {v u : Value} (h : Rep G w d v) (hu : d.val = some u) : v = u := by
  have key : ∀ (ds : List D) (vs : Array Value) (us : List Value), vs.size = ds.length → (∀ (i : Nat) (d : D) (v : Value), ds[i]? = some d → vs[i]? = some v → ∀ u, d.val = some u → v = u) → D.vals ds = some us → vs = us.toArray := by
    intro ds vs us hl hh hus
    obtain ⟨e1, e2⟩ := D.vals_at hus
    apply Array.ext_getElem?
    intro i
    by_cases hi : i < ds.length
    · have h1 : ds[i]? = some ds[i] := List.getElem?_eq_getElem hi
      have h2 : vs[i]? = some (vs[i]'(by omega)) := Array.getElem?_eq_getElem (by omega)
      have h3 : us[i]? = some (us[i]'(by omega)) := List.getElem?_eq_getElem (by omega)
      rw [h2, hh i _ _ h1 h2 _ (e2 i _ _ h1 h3)]
      simp
    · rw [Array.getElem?_eq_none (by omega), Array.getElem?_eq_none (by simp; omega)]
  induction h generalizing u with
  | int k n => simp [D.val] at hu; exact hu
  | bool b => simp [D.val] at hu; exact hu
  | str s => simp [D.val] at hu; exact hu
  | agg ds vs hl h1 _ ih =>
    simp only [D.val] at hu
    split at hu
    · rename_i us hus
      injection hu with hu
      rw [← hu, key ds vs us hl (fun i d v hd hv u hu => ih i d v hd hv hu) hus]
    · cases hu
  | tup ds vs hl _ ih =>
    simp only [D.val] at hu
    split at hu
    · rename_i us hus
      injection hu with hu
      rw [← hu, key ds vs us hl (fun i d v hd hv u hu => ih i d v hd hv hu) hus]
    · cases hu
  | fn f ds vs hl _ ih =>
    simp only [D.val] at hu
    split at hu
    · rename_i us hus
      injection hu with hu
      rw [← hu, key ds vs us hl (fun i d v hd hv u hu => ih i d v hd hv hu) hus]
    · cases hu
  | nil => simp [D.val] at hu
  | slice => simp [D.val] at hu
  | ptr => simp [D.val] at hu
  | ms => simp [D.val] at hu
  | rs => simp [D.val] at hu
  | rsn => simp [D.val] at hu
  | mp => simp [D.val] at hu
  | eptr => simp [D.val] at hu
  | raw => simp [D.val] at hu
  | opq => simp [D.val] at hu
  | undef => simp [D.val] at hu
mutual
def D.ok : D → Bool
  | .agg cs => D.oks cs && cs.all D.one
  | .tup cs | .fn _ cs => D.oks cs
  | .int _ _ | .bool _ | .str _ => true
  | _ => false
def D.oks : List D → Bool
  | [] => true
  | d :: ds => d.ok && D.oks ds
end
mutual
theorem D.ok_val (G : Gh) (w : World) : ∀ (d : D), d.ok = true → ∃ u, d.val = some u ∧ Rep G w d u
  | .int k n, _ => ⟨_, rfl, .int k n⟩
  | .bool b, _ => ⟨_, rfl, .bool b⟩
  | .str s, _ => ⟨_, rfl, .str s⟩
  | .agg cs, h => by
    simp only [D.ok, Bool.and_eq_true] at h
    obtain ⟨us, h1, h2⟩ := D.oks_val G w cs h.1
    exact ⟨.agg us.toArray, by simp [D.val, h1], .agg _ _ h2.1 (by simpa using h.2) h2.2⟩
  | .tup cs, h => by
    simp only [D.ok] at h
    obtain ⟨us, h1, h2⟩ := D.oks_val G w cs h
    exact ⟨.tuple us.toArray, by simp [D.val, h1], .tup _ _ h2.1 h2.2⟩
  | .fn f cs, h => by
    simp only [D.ok] at h
    obtain ⟨us, h1, h2⟩ := D.oks_val G w cs h
    exact ⟨.func (.func f) #[] us.toArray, by simp [D.val, h1], .fn f _ _ h2.1 h2.2⟩
  | .slice _ _ _, h => by simp [D.ok] at h
  | .ptr _ _, h => by simp [D.ok] at h
  | .ms _ _ _, h => by simp [D.ok] at h
  | .rs _ _, h => by simp [D.ok] at h
  | .mp _, h => by simp [D.ok] at h
  | .eptr _, h => by simp [D.ok] at h
  | .raw _, h => by simp [D.ok] at h
  | .opq, h => by simp [D.ok] at h
  | .undef, h => by simp [D.ok] at h
theorem D.oks_val (G : Gh) (w : World) : ∀ (ds : List D), D.oks ds = true → ∃ us, D.vals ds = some us ∧ Reps G w ds us.toArray
  | [], _ => ⟨[], rfl, Reps.nil⟩
  | d :: ds, h => by
    simp only [D.oks, Bool.and_eq_true] at h
    obtain ⟨u, h1, h2⟩ := D.ok_val G w d h.1
    obtain ⟨us, h3, h4⟩ := D.oks_val G w ds h.2
    exact ⟨u :: us, by simp [D.vals, h1, h3], Reps.cons h2 h4⟩
end
theorem pur_of_calls {F : FuncId} {ds : List D} {d : D} {vs : List Value} {v : Value} (hvs : D.vals ds = some vs) (hv : d.val = some v) (hd : d.ok = true) (h : ∀ w, Calls P F vs.toArray w fun e w' => e = .returned v ∧ New w w') : Pur P F ds d := by
  intro w hw xs _ hok hr
  obtain ⟨e1, e2⟩ := D.vals_at hvs
  have hx : xs = vs.toArray := by
    apply Array.ext_getElem?
    intro i
    have hsz := hr.1
    by_cases hi : i < ds.length
    · have h1 : ds[i]? = some ds[i] := List.getElem?_eq_getElem hi
      have h2 : xs[i]? = some (xs[i]'(by omega)) := Array.getElem?_eq_getElem (by omega)
      have h3 : vs[i]? = some (vs[i]'(by omega)) := List.getElem?_eq_getElem (by omega)
      rw [h2, (hr.2 i _ _ h1 h2).val_eq (e2 i _ _ h1 h3)]
      simp
    · rw [Array.getElem?_eq_none (by omega), Array.getElem?_eq_none (by simp; omega)]
  subst hx
  refine (h w).mono fun e w' ⟨he, hN⟩ => ⟨v, hw, he, hN, fun b hb => ?_, fun _ _ => rfl, ?_⟩
  · obtain ⟨ws, T, fr, hv, hs⟩ := hok b hb
    exact ⟨ws, T, fr, (hN.block _ (Array.getElem?_eq_some_iff.1 hv).1).trans hv, hs⟩
  · obtain ⟨u, hu, hr⟩ := D.ok_val (bare hw) w' d hd
    rw [hv] at hu; cases hu; exact hr
end
end Go.Proofs.YtcfefmbbbfdppaaGreatDoor
