/- Rows: slices whose memory the function knows, writes and makes grow. Of any program. No conditions. -/
import Derived.Test.YtnlacdclnhoghaaDApp
import Derived.Test.YtnlacdclnhoghaaDMs
import Derived.Test.YtnlacdclnhoghaaDPart
namespace Go.Proofs.Ytnlacdclnhoghaa
open Go.RowKit
set_option linter.unusedVariables false
set_option linter.unusedSimpArgs false

/-- a new row -/
theorem Sim.newR_ {B : Base} {G : Gh} {m : Mem} {w w' : World} (h : Sim B G m w) (hn : New w w') {l : Nat} (hl : G.kn l = false) {E : TypeId} {s cap : Nat} {cs : List D} {vs ws : Array Value} (hw' : w'.heap[w.heap.size]? = some (.cells ws E (0, 0))) (kills : Mem) (hk : ∀ x, (kills.any fun y => Nat.beq y.1 x) = true → mget kills x = none)
    (hr : Reps G w cs vs) (h1 : ∀ d ∈ cs, d.one = true) (hw : vs.size ≤ ws.size) (hv : ∀ i, i < vs.size → ws[i]? = vs[i]?) (hcap : ws.size = cap * s) (hmax : cap ≤ maxLen) (hone : ∀ v ∈ ws.toList, v.oneCell' = true) :
    ∃ G', Ext G w G' w' ∧ Sim B G' ((l, some (.obj (.row E s) cs)) :: (kills ++ m)) w' ∧ (∀ l', G'.kn l' = true → G.kn l' = true ∨ l' = l) ∧
      ∀ n, n ≤ cap → Rep G' w' (.rs l n) (.slice (some ⟨w.heap.size, 0, none⟩) n cap) := by
  have h0 := h.none_
  let G' : Gh := ⟨fun x => G.kn x || x == l, fun x => if x = l then w.heap.size else G.g x, fun x => G.al x && (G.nl x || decide (G.g x < w.heap.size)), G.hw, fun x => G.nl x && !(x == l), fun x => if x = l then cap else G.cp x⟩
  have hkl : ∀ x, G.kn x = true → x ≠ l := fun x hx e => by rw [e, hl] at hx; cases hx
  have hml : mget m l = none := by
    cases hm : mget m l with
    | none => rfl
    | some c => have := h.known (l := l) (by rw [hm]; rfl); rw [hl] at this; cases this
  have hgl : G'.g l = w.heap.size := by simp [G']
  have hget : ∀ x, x ≠ l → mget ((l, some (.obj (.row E s) cs)) :: (kills ++ m)) x = mget m x ∨ mget ((l, some (.obj (.row E s) cs)) :: (kills ++ m)) x = none := fun x hne => by
    rw [mget_ne _ _ hne, mget_append]
    by_cases c : (kills.any fun y => Nat.beq y.1 x) = true
    · rw [if_pos c]; exact .inr (hk x c)
    · rw [if_neg c]; exact .inl rfl
  have hG1 : ∀ x, G.kn x = true → G'.kn x = true ∧ G'.g x = G.g x ∧ G'.nl x = G.nl x ∧ G'.cp x = G.cp x ∧ (G'.al x = true → G.al x = true ∧ (G.nl x = false → G'.hw (G.g x) = G.hw (G.g x))) := fun x hkx => by
    have hne := hkl x hkx
    refine ⟨by simp [G', hkx], by simp [G', hne], by simp [G', hne], by simp [G', hne], fun ha => ?_⟩
    simp only [G', Bool.and_eq_true] at ha
    exact ⟨ha.1, fun _ => rfl⟩
  have hx0 := Ext.grow h.data hn
  have hx : Ext G w G' w' := ⟨fun x hk => by
    obtain ⟨a1, a2, a3, a4, a5⟩ := hG1 x hk
    exact ⟨a1, a2, a5, a3, a4⟩, fun _ => Nat.le_refl _, hx0.cell, hx0.size⟩
  obtain ⟨_, hS⟩ := h.fresh_ (G' := G') (m' := (l, some (.obj (.row E s) cs)) :: (kills ++ m)) (c := .obj (.row E s) cs) hn hl ⟨hG1, fun x => by
      by_cases e : x = l
      · subst e; exact .inr (.inr ⟨rfl, mget_eq _ _ _⟩)
      · rcases hget x e with h | h
        · exact .inl h
        · exact .inr (.inl h)⟩
    (fun x E' s' hne hm => by
      rcases hget x hne with h' | h'
      · rw [h'] at hm
        obtain ⟨a1, a2, a3⟩ := h.tok x E' s' hm
        simp only [G', Bool.or_eq_true, Bool.and_eq_true, decide_eq_true_iff]
        refine ⟨a2, ?_⟩
        cases hnl : G.nl x with
        | true => exact .inl rfl
        | false => exact .inr (h.lt (by rw [hm]; rfl) hnl)
      · rw [h'] at hm; cases hm)
    (fun _ _ => rfl) (fun b hb => by
      obtain ⟨vs', T', fr, hv', hs⟩ := h.data b hb
      exact ⟨vs', T', fr, (hn.block _ (Array.getElem?_eq_some_iff.1 hv').1).trans hv', hs⟩) hml (fun _ => hgl)
    ⟨fun T' cs' hm => by rw [mget_eq] at hm; simp at hm, fun E' s' hm => by rw [mget_eq] at hm; simp at hm, fun K cs' hm => by
      rw [mget_eq] at hm
      simp only [Option.some.injEq, Loc.obj.injEq] at hm
      obtain ⟨rfl, rfl⟩ := hm
      refine ⟨by simp [G'], fun hn => by simp [G'] at hn, fun _ => ⟨by rw [hgl]; exact h0, .cells ws E (0, 0), by rw [hgl]; exact hw', vs, ⟨ws, rfl, by simp [G']; exact hcap, by simp [G']; exact hmax, hw, hv, hone⟩, hr.mono hx, h1⟩⟩⟩
  refine ⟨G', hx, hS, fun x hk => by simpa [G'] using hk, fun n hnc => ?_⟩
  have := Rep.rs (G := G') (w := w') l n (by simp [G']) (by simp [G']) (by simp [G']; exact hnc)
  have e1 : G'.cp l = cap := by simp [G']
  rw [hgl, e1] at this
  exact this

/-- the same object under a new name -/
theorem Sim.alias_ {B : Base} {G : Gh} {m : Mem} {w : World} (h : Sim B G m w) {k l : Nat} {K : OKind} {cs : List D} (hm : mget m k = some (.obj K cs)) (hnl : G.nl k = false) (hl : G.kn l = false) :
    ∃ G', Ext G w G' w ∧ Sim B G' ((l, some (.obj K cs)) :: (k, none) :: m) w ∧ (∀ l', G'.kn l' = true → G.kn l' = true ∨ l' = l) ∧ G'.kn l = true ∧ G'.nl l = false ∧ G'.g l = G.g k ∧ G'.cp l = G.cp k := by
  let G' : Gh := ⟨fun x => G.kn x || x == l, fun x => if x = l then G.g k else G.g x, fun x => G.al x, G.hw, fun x => G.nl x && !(x == l), fun x => if x = l then G.cp k else G.cp x⟩
  have hkl : ∀ x, G.kn x = true → x ≠ l := fun x hx e => by rw [e, hl] at hx; cases hx
  have hg' : ∀ x, G.kn x = true → G'.kn x = true ∧ G'.g x = G.g x ∧ G'.nl x = G.nl x ∧ G'.cp x = G.cp x := fun x hx => by simp [G', hkl x hx, hx]
  have hx : Ext G w G' w := ⟨fun x hk => by
    obtain ⟨a1, a2, a3, a4⟩ := hg' x hk
    exact ⟨a1, a2, fun ha => ⟨ha, fun _ => rfl⟩, a3, a4⟩, fun _ => Nat.le_refl _, fun _ _ _ => rfl, Nat.le_refl _⟩
  have hget : ∀ x c, x ≠ l → mget ((l, some (.obj K cs)) :: (k, none) :: m) x = some c → x ≠ k ∧ mget m x = some c := fun x c hne hc => by
    rw [mget_ne _ _ hne] at hc
    by_cases e : x = k
    · subst e; rw [mget_eq] at hc; cases hc
    · rw [mget_ne _ _ e] at hc; exact ⟨e, hc⟩
  have hgl : G'.g l = G.g k := by simp [G']
  have hap : ∀ x c, x ≠ k → mget m x = some c → G.nl x = false → G.g x ≠ G.g k := fun x c hne hc hn => h.inj x k (by rw [hc]; rfl) (by rw [hm]; rfl) hne hn hnl
  refine ⟨G', hx, ⟨h.new, h.ext.trans hx, h.old, fun x T cs' hc => ?_, fun x E' s' hc => ?_, fun x K' cs' hc => ?_, fun x y hxm hym hne n1 n2 => ?_, h.data⟩, fun x hk => by simpa [G'] using hk, by simp [G'], by simp [G'], hgl, by simp [G']⟩
  · by_cases e : x = l
    · subst e; rw [mget_eq] at hc; simp at hc
    · obtain ⟨hne, hc⟩ := hget x _ e hc
      obtain ⟨a1, a2, a3, a4, vs', a5, a6, a7⟩ := h.var x T cs' hc
      obtain ⟨e0, e1, e2, e3⟩ := hg' x a1
      exact ⟨e0, by rw [e1]; exact a2, by rw [e1]; exact a3, e2.trans a4, vs', by rw [e1]; exact a5, a6.mono hx, a7⟩
  · by_cases e : x = l
    · subst e; rw [mget_eq] at hc; simp at hc
    · obtain ⟨hne, hc⟩ := hget x _ e hc
      obtain ⟨a1, a2, a3⟩ := h.tok x E' s' hc
      obtain ⟨e0, e1, e2, e3⟩ := hg' x a1
      refine ⟨e0, a2, fun hn => ?_⟩
      obtain ⟨c1, c2, vs', c3, c4, c5⟩ := a3 (e2 ▸ hn)
      exact ⟨by rw [e1]; exact c1, by rw [e3]; exact c2, vs', by rw [e1]; exact c3, by rw [e1]; exact c4, by rw [e3]; exact c5⟩
  · by_cases e : x = l
    · subst e
      rw [mget_eq] at hc
      simp only [Option.some.injEq, Loc.obj.injEq] at hc
      obtain ⟨rfl, rfl⟩ := hc
      obtain ⟨a1, a2, a3⟩ := h.obj k _ _ hm
      obtain ⟨c1, c2, o, c3, c4⟩ := a3 hnl
      have e3 : G'.cp x = G.cp k := by simp [G']
      exact ⟨by simp [G'], fun hn => by simp [G'] at hn, fun _ => ⟨by rw [hgl]; exact c1, by rw [hgl]; exact c2, o, by rw [hgl]; exact c3, by rw [e3]; exact c4.mono hx⟩⟩
    · obtain ⟨hne, hc⟩ := hget x _ e hc
      obtain ⟨a1, a2, a3⟩ := h.obj x K' cs' hc
      obtain ⟨e0, e1, e2, e3⟩ := hg' x a1
      refine ⟨e0, fun hn => a2 (e2 ▸ hn), fun hn => ?_⟩
      obtain ⟨c1, c2, o, c3, c4⟩ := a3 (e2 ▸ hn)
      exact ⟨by rw [e1]; exact c1, by rw [e1]; exact c2, o, by rw [e1]; exact c3, by rw [e3]; exact c4.mono hx⟩
  · obtain ⟨c1, hc1⟩ := Option.isSome_iff_exists.1 hxm
    obtain ⟨c2, hc2⟩ := Option.isSome_iff_exists.1 hym
    by_cases e : x = l
    · subst e
      obtain ⟨hne', hc2⟩ := hget y _ (Ne.symm hne) hc2
      obtain ⟨_, e1, e2, _⟩ := hg' y (h.known (by rw [hc2]; rfl))
      rw [e2] at n2
      rw [hgl, e1]
      exact (hap y _ hne' hc2 n2).symm
    · obtain ⟨hne1, hd1⟩ := hget x _ e hc1
      obtain ⟨_, e1, e2, _⟩ := hg' x (h.known (by rw [hd1]; rfl))
      rw [e2] at n1
      by_cases e' : y = l
      · subst e'
        rw [hgl, e1]
        exact hap x _ hne1 hd1 n1
      · obtain ⟨hne2, hc2⟩ := hget y _ e' hc2
        obtain ⟨_, e1', e2', _⟩ := hg' y (h.known (by rw [hc2]; rfl))
        rw [e2'] at n2
        rw [e1, e1']
        exact h.inj x y (by rw [hd1]; rfl) (by rw [hc2]; rfl) hne n1 n2

/-- nothing of nothing -/
theorem Sim.virtR_ {B : Base} {G : Gh} {m : Mem} {w : World} (h : Sim B G m w) {l : Nat} (hl : G.kn l = false) (E : TypeId) (s : Nat) (kills : Mem) (hk : ∀ x, (kills.any fun y => Nat.beq y.1 x) = true → mget kills x = none) :
    ∃ G', Ext G w G' w ∧ Sim B G' ((l, some (.obj (.row E s) [])) :: (kills ++ m)) w ∧ (∀ l', G'.kn l' = true → G.kn l' = true ∨ l' = l) := by
  let G' : Gh := ⟨fun x => G.kn x || x == l, G.g, G.al, G.hw, fun x => G.nl x || x == l, G.cp⟩
  have hne : ∀ x, G.kn x = true → x ≠ l := fun x hx e => by rw [e, hl] at hx; cases hx
  have hx : Ext G w G' w := ⟨fun x hk => by
    have := hne x hk
    refine ⟨by simp [G', hk], rfl, fun ha => ⟨by simpa [G', this] using ha, fun _ => rfl⟩, by simp [G', this], rfl⟩, fun _ => Nat.le_refl _, fun _ _ _ => rfl, Nat.le_refl _⟩
  have hget : ∀ x c, x ≠ l → mget ((l, some (.obj (.row E s) [])) :: (kills ++ m)) x = some c → mget m x = some c := fun x c hne hc => by
    rw [mget_ne _ _ hne, mget_append] at hc
    by_cases d : (kills.any fun y => Nat.beq y.1 x) = true
    · rw [if_pos d, hk x d] at hc; cases hc
    · rw [if_neg d] at hc; exact hc
  refine ⟨G', hx, ⟨h.new, h.ext.trans hx, h.old, fun x T cs hc => ?_, fun x E' s' hc => ?_, fun x K cs hc => ?_, fun x y ha hb hne' n1 n2 => ?_, h.data⟩, fun x hk => by simpa [G'] using hk⟩
  · by_cases e : x = l
    · subst e; rw [mget_eq] at hc; simp at hc
    · obtain ⟨a1, a2, a3, a4, vs, a5, a6, a7⟩ := h.var x T cs (hget x _ e hc)
      exact ⟨by simp [G', a1], a2, a3, by simp [G', a4, e], vs, a5, a6.mono hx, a7⟩
  · by_cases e : x = l
    · subst e; rw [mget_eq] at hc; simp at hc
    · obtain ⟨a1, a2, a3⟩ := h.tok x E' s' (hget x _ e hc)
      exact ⟨by simp [G', a1], by simp [G', a2], fun hn => a3 (by simpa [G', e] using hn)⟩
  · by_cases e : x = l
    · subst e
      rw [mget_eq] at hc
      simp only [Option.some.injEq, Loc.obj.injEq] at hc
      obtain ⟨rfl, rfl⟩ := hc
      exact ⟨by simp [G'], fun _ => rfl, fun hn => by simp [G'] at hn⟩
    · obtain ⟨a1, a2, a3⟩ := h.obj x K cs (hget x _ e hc)
      refine ⟨by simp [G', a1], fun hn => a2 (by simpa [G', e] using hn), fun hn => ?_⟩
      obtain ⟨c1, c2, o, c3, c4⟩ := a3 (by simpa [G', e] using hn)
      exact ⟨c1, c2, o, c3, c4.mono hx⟩
  · obtain ⟨c1, hc1⟩ := Option.isSome_iff_exists.1 ha
    obtain ⟨c2, hc2⟩ := Option.isSome_iff_exists.1 hb
    have e1 : x ≠ l := fun e => by subst e; simp [G'] at n1
    have e2 : y ≠ l := fun e => by subst e; simp [G'] at n2
    have h1 := hget x _ e1 hc1
    have h2 := hget y _ e2 hc2
    exact h.inj x y (by rw [h1]; rfl) (by rw [h2]; rfl) hne' (by simpa [G', e1] using n1) (by simpa [G', e2] using n2)

/-- what may be appended to as a row: n elements, cs; the name that ends -/
inductive RB (m : Mem) (E : TypeId) (s : Nat) : D → Nat → List D → Mem → Prop where
  | nil : RB m E s (.slice .nil 0 []) 0 [] []
  | row (k n : Nat) (cs : List D) (hm : mget m k = some (.obj (.row E s) cs)) : RB m E s (.rs k n) n cs [(k, none)]

theorem zeroCells_one {z : Array Value} (h : ∀ v ∈ z.toList, v.oneCell' = true) (n : Nat) : ∀ v ∈ (Builtin.zeroCells z n).toList, v.oneCell' = true := by
  intro v hv
  unfold Builtin.zeroCells at hv
  simp only [Array.toList_map, List.mem_map, Array.mem_toList_iff, Array.mem_range] at hv
  obtain ⟨i, hi, rfl⟩ := hv
  have hz : 0 < z.size := by
    rcases Nat.eq_zero_or_pos z.size with h0 | h0
    · rw [h0, Nat.mul_zero] at hi; omega
    · exact h0
  have hlt := Nat.mod_lt i hz
  rw [getElem!_pos z _ hlt]
  exact h _ (by simp)
theorem Reps.oneCells {G : Gh} {w : World} {cs : List D} {vs : Array Value} (h : Reps G w cs vs) (h1 : ∀ d ∈ cs, d.one = true) : ∀ v ∈ vs.toList, v.oneCell' = true := by
  intro v hv
  obtain ⟨i, hi⟩ := List.getElem?_of_mem hv
  have hi' : vs[i]? = some v := by simpa using hi
  have hlt : i < cs.length := by rw [← h.1]; exact (Array.getElem?_eq_some_iff.1 hi').1
  have hd : cs[i]? = some cs[i] := List.getElem?_eq_getElem hlt
  exact ((h.2 i _ v hd hi').one (h1 _ (List.mem_of_getElem? hd))).1

theorem Sim.appendR_ {P : Program} {B : Base} {G : Gh} {m' : Mem} {w : World} (hs : Sim B G m' w) {t tx T E : TypeId} {ty : Ty} {by_ : Nat} (ha : HasSl P t E) (ht : HasTy P E ty) (hb : HasBy P E by_) {d0 : D} {n mm : Nat} {cs cs2 : List D} {ends : Mem} {vx vy : Value} {news : List Value}
    (hbase : Rep G w d0 vx) (hrb : RB m' E ty.size d0 n cs ends) (hn1 : n * ty.size = cs.length) (hzl : ty.zero.length = ty.size) (hsrc : Src P ty.size tx vy mm news w) (hnr : Reps G w cs2 news.toArray) (h2 : ∀ d ∈ cs2, d.one = true) (hsm : n + mm ≤ 16777216) (hby : Nat.ble by_ 1048576 = true) {l : Nat} (hl : G.kn l = false) :
    ∃ v w' G', (Builtin.append_ #[t, tx] T #[vx, vy]).run P w = .ok v w' ∧ Ext G w G' w' ∧ Sim B G' ((l, some (.obj (.row E ty.size) (cs ++ cs2))) :: (ends ++ m')) w' ∧ (∀ l', G'.kn l' = true → G.kn l' = true ∨ l' = l) ∧ Rep G' w' (.rs l (n + mm)) v := by
  obtain ⟨z, hz, hzr, hz1⟩ := ht.zero_
  obtain ⟨i, hi, hiz⟩ := Option.bind_eq_some_iff.1 hz
  obtain ⟨j, hj, hjs⟩ := Option.map_eq_some_iff.1 ht.size
  rw [hi] at hj; cases hj
  obtain ⟨j, hj, hjb⟩ := Option.map_eq_some_iff.1 hb.bytes
  rw [hi] at hj; cases hj
  have hby' := Nat.le_of_ble_eq_true hby
  have hzs : z.cells.size = ty.size := by rw [(hzr G w).1, hzl]
  have hzo := (hzr G w).oneCells hz1
  have hsrc' : Src P i.size tx vy mm news w := by rw [hjs]; exact hsrc
  have hnl := hsrc.newsLen
  have hcl2 : cs2.length = mm * ty.size := by have := hnr.1; simp only [List.size_toArray] at this; omega
  have hends : ∀ x, (ends.any fun y => Nat.beq y.1 x) = true → mget ends x = none := by
    intro x h
    cases hrb with
    | nil => simp at h
    | row k n cs hm =>
      simp only [List.any_cons, List.any_nil, Bool.or_false] at h
      simp [mget, h]
  have hfit : ∀ old, old < n + mm → Builtin.nextslicecap (n + mm) old * i.bytes ≤ 281474976710656 := fun old ho => growslice_fits ho (by
    rw [hjb]
    have : (n + mm) * by_ ≤ 16777216 * 1048576 := Nat.mul_le_mul hsm hby'
    omega)
  -- the way that makes a new block
  have grow : ∀ (base : Option Addr) (cap : Nat) (olds : List Value), Reps G w cs olds.toArray → (∀ d ∈ cs, d.one = true) → (Builtin.firstCells i.size n (.slice base n cap)).run P w.drew = .ok olds.toArray w.drew → cap < n + mm → vx = .slice base n cap →
      ∃ v w' G', (Builtin.append_ #[t, tx] T #[vx, vy]).run P w = .ok v w' ∧ Ext G w G' w' ∧ Sim B G' ((l, some (.obj (.row E ty.size) (cs ++ cs2))) :: (ends ++ m')) w' ∧ (∀ l', G'.kn l' = true → G.kn l' = true ∨ l' = l) ∧ Rep G' w' (.rs l (n + mm)) v := by
    rintro base cap olds hor h1 hold hg rfl
    have hrun := run_append_grow_src (P := P) w t tx T E i z ha.sl hi hiz base n cap olds hold vy mm news hsrc' hg (by omega) (hfit _ hg)
    have hge := grownCap_ge w (n + mm) cap E
    have hcm := grownCap_le_maxLen w (n + mm) cap E (by simp only [maxLen]; omega)
    have hol : olds.length = cs.length := by have := hor.1; simpa using this
    have hrr : Reps G w (cs ++ cs2) (olds ++ news).toArray := by have := hor.append hnr; simpa using this
    have h12 : ∀ d ∈ cs ++ cs2, d.one = true := fun d hd => by
      rcases List.mem_append.1 hd with h | h
      · exact h1 d h
      · exact h2 d h
    have hsz : ((olds ++ news).toArray ++ Builtin.zeroCells z.cells (grownCap w (n + mm) cap E - (n + mm))).size = grownCap w (n + mm) cap E * ty.size := by
      simp only [Array.size_append, List.size_toArray, List.length_append, size_zeroCells, hzs]
      rw [hol, ← hn1, hnl, ← Nat.add_mul, ← Nat.add_mul]
      congr 1; omega
    obtain ⟨G', g1, g2, g3, g4⟩ := hs.newR_ (new_alloc (new_drew (new_refl w)) (.cells ((olds ++ news).toArray ++ Builtin.zeroCells z.cells (grownCap w (n + mm) cap E - (n + mm))) E)) hl (by have := heap_alloc_new w.drew (.cells ((olds ++ news).toArray ++ Builtin.zeroCells z.cells (grownCap w (n + mm) cap E - (n + mm))) E); simpa using this) ends hends hrr h12 (by simp) (fun k hk => by
      rw [Array.getElem?_append_left (by simpa using hk)]) hsz hcm (fun v hv => by
      rw [Array.toList_append] at hv
      rcases List.mem_append.1 hv with h | h
      · exact hrr.oneCells h12 v h
      · exact zeroCells_one hzo _ v h)
    exact ⟨_, _, G', hrun, g1, g2, g3, g4 _ hge⟩
  -- nothing yet
  have nothing : n = 0 → cs = [] → vx = .slice none 0 0 → ∃ v w' G', (Builtin.append_ #[t, tx] T #[vx, vy]).run P w = .ok v w' ∧ Ext G w G' w' ∧ Sim B G' ((l, some (.obj (.row E ty.size) (cs ++ cs2))) :: (ends ++ m')) w' ∧ (∀ l', G'.kn l' = true → G.kn l' = true ∨ l' = l) ∧ Rep G' w' (.rs l (n + mm)) v := by
    rintro rfl rfl rfl
    rcases Nat.eq_zero_or_pos mm with h0 | h0
    · subst h0
      have hn0 : news = [] := List.eq_nil_of_length_eq_zero (by simpa using hnl)
      subst hn0
      have hc20 : cs2 = [] := List.eq_nil_of_length_eq_zero (by simpa using hcl2)
      subst hc20
      obtain ⟨G', g1, g2, g3⟩ := hs.virtR_ hl E ty.size ends hends
      exact ⟨_, w, G', run_append_nothing (P := P) w t tx T E i ha.sl hi none 0 0 (Nat.le_refl _) vy hsrc', g1, g2, g3, .rsn _⟩
    · exact grow none 0 [] Reps.nil (fun d hd => by simp at hd) (run_firstCells_none w.drew i.size 0 0 0) (by omega) rfl
  cases hrb with
  | nil =>
    cases hbase with
    | nil => exact nothing rfl rfl rfl
    | slice _ _ _ _ _ _ _ _ _ _ _ _ _ _ ht' => exact ht'.elim
  | row k n cs hm =>
    cases hbase with
    | rsn => exact nothing rfl (List.eq_nil_of_length_eq_zero (by omega)) rfl
    | rs _ _ hkn hnlk hncp =>
      obtain ⟨k1, k2, k3⟩ := hs.obj k _ _ hm
      obtain ⟨k4, k5, o, k6, vs, ⟨ws, rfl, c1, c2, c3, c4, c5⟩, k7, k8⟩ := k3 hnlk
      have hvsl := k7.1
      have hcellv : ∀ j u, vs.toList[j]? = some u → w.cell? ((⟨G.g k, 0, none⟩ : Addr).add j) = some u := fun j u hj => by
        have hj' : vs[j]? = some u := by simpa using hj
        have hlt := (Array.getElem?_eq_some_iff.1 hj').1
        rw [add_off, Nat.zero_add, cell_of_row w _ _ ws E (0, 0) k6, c4 j hlt]; exact hj'
      have hold : (Builtin.firstCells i.size n (.slice (some ⟨G.g k, 0, none⟩) n (G.cp k))).run P w.drew = .ok vs.toList.toArray w.drew :=
        run_firstCells_some (P := P) w.drew i.size n ⟨G.g k, 0, none⟩ n (G.cp k) vs.toList (by simp [hvsl, ← hn1, hjs]) (by simpa using hcellv)
      have hvr : Reps G w cs vs.toList.toArray := by rw [Array.toArray_toList]; exact k7
      have k8' : ∀ d ∈ cs, d.one = true := k8
      by_cases hroom : n + mm ≤ G.cp k
      · have hfit' : n * i.size + news.length ≤ ws.size := by rw [hnl, hjs, c1, ← Nat.add_mul]; exact Nat.mul_le_mul_right _ hroom
        have hst := run_storeCells_at (P := P) (G.g k) (n * i.size) E news 0 ws w k6 (by omega) hsrc.one
        simp only [Nat.add_zero] at hst
        have hrun : (Builtin.append_ #[t, tx] T #[.slice (some ⟨G.g k, 0, none⟩) n (G.cp k), vy]).run P w = .ok (.slice (some ⟨G.g k, 0, none⟩) (n + mm) (G.cp k)) (w.setRow (G.g k) (ws.toList.take (n * i.size) ++ news ++ ws.toList.drop (n * i.size + news.length)).toArray) := by
          rcases hsrc.kind with ⟨e', hk⟩ | hk <;> simp [Builtin.append_, run_underlying ha.sl, run_underlying hk, sizeOf, typeInfo, hi, hsrc'.len, hroom, hsrc'.cells, Addr.add_lit, hst]
        have hvl : vs.toList.length = n * i.size := by simp [hvsl, ← hn1, hjs]
        have htake : ws.toList.take (n * i.size) = vs.toList := by
          apply List.ext_getElem?
          intro j
          rw [List.getElem?_take]
          by_cases c : j < n * i.size
          · rw [if_pos c]
            have := c4 j (by rw [← hvl] at c; simpa using c)
            simpa using this
          · rw [if_neg c, List.getElem?_eq_none (by omega)]
        have hrr : Reps G w (cs ++ cs2) (vs.toList ++ news).toArray := Reps.append k7 hnr
        have hcells := setRow_heap w (G.g k) ws (ws.toList.take (n * i.size) ++ news ++ ws.toList.drop (n * i.size + news.length)).toArray E (0, 0) k6
        have hsz : (ws.toList.take (n * i.size) ++ news ++ ws.toList.drop (n * i.size + news.length)).toArray.size = ws.size := by simp; omega
        obtain ⟨_, hS⟩ := hs.writeO (K' := .row E ty.size) (cs' := cs ++ cs2) (w' := w.setRow (G.g k) (ws.toList.take (n * i.size) ++ news ++ ws.toList.drop (n * i.size + news.length)).toArray) hm hnlk ⟨rfl, rfl, rfl, by simp, fun b _ hb => setRow_other w _ b _ (fun e => hb (by rw [e]))⟩ hcells
          ⟨(vs.toList ++ news).toArray, ⟨_, rfl, by rw [hsz]; exact c1, c2, by rw [hsz]; simp only [List.size_toArray, List.length_append]; omega, fun j hj => by
            rw [htake]
            simp only [List.getElem?_toArray]
            rw [List.getElem?_append_left (by simpa using hj)], fun v hv => by
            simp only at hv
            rcases List.mem_append.1 hv with hv | hv
            · rcases List.mem_append.1 hv with hv | hv
              · exact c5 v (List.mem_of_mem_take hv)
              · exact hsrc.one v hv
            · exact c5 v (List.mem_of_mem_drop hv)⟩, hrr, fun d hd => by
            rcases List.mem_append.1 hd with h | h
            · exact k8' d h
            · exact h2 d h⟩
        obtain ⟨hX1, _⟩ := hs.writeO (K' := .row E ty.size) (cs' := cs ++ cs2) (w' := w.setRow (G.g k) (ws.toList.take (n * i.size) ++ news ++ ws.toList.drop (n * i.size + news.length)).toArray) hm hnlk ⟨rfl, rfl, rfl, by simp, fun b _ hb => setRow_other w _ b _ (fun e => hb (by rw [e]))⟩ hcells
          ⟨(vs.toList ++ news).toArray, ⟨_, rfl, by rw [hsz]; exact c1, c2, by rw [hsz]; simp only [List.size_toArray, List.length_append]; omega, fun j hj => by
            rw [htake]
            simp only [List.getElem?_toArray]
            rw [List.getElem?_append_left (by simpa using hj)], fun v hv => by
            simp only at hv
            rcases List.mem_append.1 hv with hv | hv
            · rcases List.mem_append.1 hv with hv | hv
              · exact c5 v (List.mem_of_mem_take hv)
              · exact hsrc.one v hv
            · exact c5 v (List.mem_of_mem_drop hv)⟩, hrr, fun d hd => by
            rcases List.mem_append.1 hd with h | h
            · exact k8' d h
            · exact h2 d h⟩
        obtain ⟨G', g1, g2, g3, g4, g5, g6, g7⟩ := hS.alias_ (mget_eq _ _ _) hnlk hl
        have hrep := Rep.rs (G := G') (w := w.setRow (G.g k) (ws.toList.take (n * i.size) ++ news ++ ws.toList.drop (n * i.size + news.length)).toArray) l (n + mm) g4 g5 (by rw [g7]; exact hroom)
        rw [g6, g7] at hrep
        refine ⟨_, _, G', hrun, hX1.trans g1, g2.same fun x => ?_, g3, hrep⟩
        simp only [List.cons_append, List.nil_append]
        by_cases e : x = l
        · subst e; rw [mget_eq, mget_eq]
        · rw [mget_ne _ _ e, mget_ne _ _ e]
          by_cases e' : x = k
          · subst e'; rw [mget_eq, mget_eq]
          · rw [mget_ne _ _ e', mget_ne _ _ e', mget_ne _ _ e']
      · exact grow _ _ vs.toList hvr k8' hold (by omega) rfl

section
variable {P : Program} {o : Oper} {ρ : Slots} {m : Mem}
/-- append to a row -/
theorem r_appendR {t tx E E2 : TypeId} {ty : Ty} {by_ : Nat} [ha : HasSl P t E] [hax : HasSl P tx E2] [ht : HasTy P E ty] [hb : HasBy P E by_] {x y : Operand} {d0 : D} {tk2 : Tok} {n mm nm : Nat} {cs cs2 cs3 : List D} {ends : Mem} (l : Nat) (ho : o.op = .call { callee := .builtin .append, args := #[x, y], argTypes := #[t, tx] }) (hx : oev ρ x = some d0) (hy : oev ρ y = some (.slice tk2 mm cs2))
    (hrb : RB m E ty.size d0 n cs ends) (hn1 : n * ty.size = cs.length) (hn2 : mm * ty.size = cs2.length) (hzl : ty.zero.length = ty.size) (hsm : n + mm ≤ 16777216) (hby : Nat.ble by_ 1048576 = true) (hnm : n + mm = nm) (hcs : cs ++ cs2 = cs3) :
    OpSound P o ⟨.rs l nm, [], (l, some (.obj (.row E ty.size) cs3)) :: ends, [l]⟩ ρ m := by
  subst hnm; subst hcs
  intro B G a w m' K Q hs h hag hn hK
  have hpx := h x (by simp [ho, Op.operands, Call.operands]) _ hx
  have hpy := h y (by simp [ho, Op.operands, Call.operands]) _ hy
  have hrb' : RB m' E ty.size d0 n cs ends := by
    cases hrb with
    | nil => exact .nil
    | row k n cs hm => exact .row k n cs ((hag k (by unfold Eff.touch Eff.writes; simp)).trans hm)
  have hsrc : ∃ news, Src P ty.size tx (a.eval y) mm news w ∧ Reps G w cs2 news.toArray ∧ ∀ d ∈ cs2, d.one = true := by
    generalize a.eval y = vy at hpy
    cases hpy with
    | nil tk => exact ⟨[], Src.ofNil w hax.sl 0, Reps.nil, fun d hd => by simp at hd⟩
    | slice tk n cs b o' cap vs hl' h1 hh hhw hc hb' hn ht' =>
      refine ⟨vs.toList, Src.ofSlice w hax.sl ⟨b, o', none⟩ mm cap vs.toList (by rw [Array.length_toList, hl']; exact hn2.symm) (fun j u hj => ?_) (Reps.oneCells ⟨hl', hh⟩ fun d hd => (h1 d hd).1), by rw [Array.toArray_toList]; exact ⟨hl', hh⟩, fun d hd => (h1 d hd).1⟩
      rw [add_off]
      have hj' : vs[j]? = some u := by simpa using hj
      rw [hc j (by rw [← hl']; exact (Array.getElem?_eq_some_iff.1 hj').1)]; exact hj'
  obtain ⟨news, hS, hnr, h2⟩ := hsrc
  obtain ⟨v, w', G', hrun, g1, g2, g3, g4⟩ := hs.appendR_ (T := o.type) ha ht hb hpx hrb' hn1 hzl hS hnr h2 hsm hby (hn l (by simp))
  have hex : (execOp a.eval o).run P w = .ok (.value v) w' := by
    unfold execOp
    simp only [ho, resolve, invoke, builtin, Sem.run_bind, Sem.run_pure, Result.andThen_ok, List.map_toArray, List.map_cons, List.map_nil, hrun]
  unfold Oper.wp
  rw [hex, Oper.upon_value]
  exact hK v w' G' g1 g2 g4 fun l' hl => (g3 l' hl).imp id fun h => by simp [h]

theorem r_indexAddrR {T : TypeId} {x ix : Operand} {E : TypeId} {ty : Ty} [ha : HasSl P T E] [ht : HasTy P E ty] {l n : Nat} {k : IntKind} {j : Int} (ho : o.op = .indexAddr T x ix) (hx : oev ρ x = some (.rs l n)) (hix : oev ρ ix = some (.int k j)) (hj : 0 ≤ j ∧ j < n) : OpSound P o (Eff.val (.ptr l (j.toNat * ty.size))) ρ m := by
  refine sound_val fun B G a w m' hs h _ => ?_
  have hp := h x (by simp [ho, Op.operands]) _ hx
  have hq := h ix (by simp [ho, Op.operands]) _ hix
  generalize hev : a.eval x = vx at hp
  generalize hevi : a.eval ix = vi at hq
  cases hq
  cases hp with
  | rsn => omega
  | rs l n hk hnl hn =>
    obtain ⟨i, hi, hsi⟩ := Option.map_eq_some_iff.1 ht.size
    refine ⟨.pointer (some ⟨G.g l, j.toNat * ty.size, none⟩), ?_, .ptr l _ hk⟩
    simp [execOp, ho, hev, hevi, Instr.indexAt, Instr.sureAddr, Sem.run_bind, run_underlying ha.sl, asIntOf, hj.1, hj.2, sizeOf, typeInfo, hi, hsi, add_off]

/-- where a pointer into a row stands, a value must lie: no row is nil there -/
theorem Sim.rowAt {B : Base} {G : Gh} {w : World} (hs : Sim B G m w) {l : Nat} {E : TypeId} {s : Nat} {cs : List D} (hm : mget m l = some (.obj (.row E s) cs)) (hne : cs ≠ []) : G.nl l = false ∧ ∃ ws vs, w.heap[G.g l]? = some (.cells ws E (0, 0)) ∧ ws.size = G.cp l * s ∧ G.cp l ≤ maxLen ∧ vs.size ≤ ws.size ∧ (∀ i, i < vs.size → ws[i]? = vs[i]?) ∧ (∀ v ∈ ws.toList, v.oneCell' = true) ∧ Reps G w cs vs ∧ ∀ d ∈ cs, d.one = true := by
  obtain ⟨k1, k2, k3⟩ := hs.obj l _ _ hm
  have hnl : G.nl l = false := by
    cases h : G.nl l with
    | false => rfl
    | true => exact absurd (k2 h) hne
  obtain ⟨k4, k5, o, k6, vs, ⟨ws, rfl, c1, c2, c3, c4, c5⟩, k7, k8⟩ := k3 hnl
  exact ⟨hnl, ws, vs, k6, c1, c2, c3, c4, c5, k7, k8⟩

theorem cut_ne {ty : Ty} {off : Nat} {d : D} (h : cut ty off [] = some d) (hsz : Nat.blt 0 ty.size = true) : False := by
  unfold cut at h
  rcases Bool.eq_false_or_eq_true ty.agg with ha | ha
  · simp only [ha, cond_true] at h
    rcases Bool.eq_false_or_eq_true (Nat.ble (off + ty.size) ([] : List D).length) with hb | hb
    · have := Nat.le_of_ble_eq_true hb
      have h2 : 0 < ty.size := Nat.blt_eq ▸ hsz
      simp at this; omega
    · simp only [hb, cond_false] at h; cases h
  · simp only [ha, cond_false] at h; simp at h

theorem r_loadR {T : TypeId} {ty : Ty} [ht : HasTy P T ty] {x : Operand} {l off : Nat} {E : TypeId} {s : Nat} {cs : List D} {d : D} (ho : o.op = .load T x) (hx : oev ρ x = some (.ptr l off)) (hm : mget m l = some (.obj (.row E s) cs)) (hd : cut ty off cs = some d) (hsz : Nat.blt 0 ty.size = true) : OpSound P o ⟨d, [l], [], []⟩ ρ m := by
  refine sound_val fun B G a w m' hs h hrd => ?_
  have hne : cs ≠ [] := fun e => by subst e; exact cut_ne hd hsz
  obtain ⟨_, ws, vs, hv, _, _, c3, c4, _, hr, h1⟩ := hs.rowAt ((hrd l (by simp)).trans hm) hne
  have hp := h x (by simp [ho, Op.operands]) _ hx
  have he : a.eval x = .pointer (some ⟨G.g l, off, none⟩) := (show ∀ v, Rep G w (.ptr l off) v → v = .pointer (some ⟨G.g l, off, none⟩) from fun v h => by cases h; rfl) _ hp
  obtain ⟨v, h2, h3⟩ := run_cut (P := P) (T := T) (b := G.g l) (o := 0) hr h1 (fun i hi => by rw [cell_of_row w _ _ ws E (0, 0) hv, Nat.zero_add]; exact c4 i (by rw [hr.1]; exact hi)) hd
  rw [Nat.zero_add] at h2
  exact ⟨v, by simp [execOp, ho, Instr.loadAt, Instr.sureAddr, he, Sem.run_bind, h2], h3⟩

theorem r_storeR {T : TypeId} {ty : Ty} [ht : HasTy P T ty] {x y : Operand} {l off : Nat} {E : TypeId} {s : Nat} {cs cs' : List D} {d : D} (ho : o.op = .store T x y) (hx : oev ρ x = some (.ptr l off)) (hy : oev ρ y = some d) (hdst : o.dst = none)
    (hm : mget m l = some (.obj (.row E s) cs)) (hne : cs ≠ []) (hsz : d.cells.length = ty.size) (h1 : d.fits = true) (hsp : splice off d.cells cs = some cs') : OpSound P o ⟨.undef, [], [(l, some (.obj (.row E s) cs'))], []⟩ ρ m := by
  have hd : d.one = true ∨ ∃ cs, d = .agg cs := by cases d <;> simp_all [D.one, D.fits]
  intro B G a w m' K Q hs h hag hn hK
  have hml : mget m' l = some (.obj (.row E s) cs) := (hag l (by unfold Eff.touch Eff.writes; simp)).trans hm
  obtain ⟨hnl, ws, vs, hv, c1, c2, c3, c4, c5, hr, h1'⟩ := hs.rowAt hml hne
  have hp := h x (by simp [ho, Op.operands]) _ hx
  have he : a.eval x = .pointer (some ⟨G.g l, off, none⟩) := (show ∀ v, Rep G w (.ptr l off) v → v = .pointer (some ⟨G.g l, off, none⟩) from fun v h => by cases h; rfl) _ hp
  have hyr := h y (by simp [ho, Op.operands]) _ hy
  obtain ⟨hc1, hc2⟩ := hyr.cells hd
  obtain ⟨hle, hr', h1''⟩ := hr.splice hc1 h1' hc2 hsp
  obtain ⟨i, hi, hsi⟩ := Option.map_eq_some_iff.1 ht.size
  have hone := hc1.oneCells hc2
  have hst := run_storeCells_at (P := P) (G.g l) off E (a.eval y).cells.toList 0 ws w hv (by simp; omega) hone
  simp only [Nat.add_zero, Array.length_toList] at hst
  have hrun : (execOp a.eval o).run P w = .ok .skip (w.setRow (G.g l) (ws.toList.take off ++ (a.eval y).cells.toList ++ ws.toList.drop (off + (a.eval y).cells.size)).toArray) := by
    have hsz' : (a.eval y).cells.size = i.size := by rw [hc1.1, hsz, hsi]
    simp [execOp, ho, Instr.storeAt, Instr.sureAddr, he, Sem.run_bind, storeVar, sizeOf, typeInfo, hi, hsz', hst]
  unfold Oper.wp
  rw [hrun, Oper.upon_skip]
  have hg : w.grownBy (w.setRow (G.g l) (ws.toList.take off ++ (a.eval y).cells.toList ++ ws.toList.drop (off + (a.eval y).cells.size)).toArray) (some (G.g l)) := by
    refine ⟨rfl, rfl, rfl, by simp [World.setRow], fun i hi hne => ?_⟩
    have : ¬ G.g l = i := fun h => hne (by rw [h])
    simp [World.setRow, Array.getElem?_modify, this]
  have hvl : vs.size ≤ ws.size := c3
  have hws : (ws.toList.take off ++ (a.eval y).cells.toList ++ ws.toList.drop (off + (a.eval y).cells.size)).toArray.size = ws.size := by simp; omega
  have hpre : ∀ j, j < vs.size → ws.toList[j]? = vs.toList[j]? := fun j hj => by simpa using c4 j hj
  obtain ⟨hx', hs'⟩ := hs.writeO (K' := .row E s) (cs' := cs') hml hnl hg (setRow_heap w _ ws _ E (0, 0) hv)
    ⟨(vs.toList.take off ++ (a.eval y).cells.toList ++ vs.toList.drop (off + (a.eval y).cells.size)).toArray, ⟨_, rfl, by rw [hws]; exact c1, c2, by rw [hws]; simp; omega, fun j hj => by
      simp only [List.getElem?_toArray]
      have hj' : j < vs.size := by simp at hj; omega
      rw [List.getElem?_append, List.getElem?_append, List.getElem?_append, List.getElem?_append]
      simp only [List.length_append, List.length_take, Array.length_toList]
      rw [show min off ws.size = off from by omega, show min off vs.size = off from by omega]
      split
      · split
        · rw [List.getElem?_take, List.getElem?_take]
          by_cases c : j < off
          · rw [if_pos c, if_pos c]; exact hpre j hj'
          · rw [if_neg c, if_neg c]
        · rfl
      · rw [List.getElem?_drop, List.getElem?_drop]
        exact hpre _ (by omega), fun v hv => by
      simp only at hv
      rcases List.mem_append.1 hv with hv | hv
      · rcases List.mem_append.1 hv with hv | hv
        · exact c5 v (List.mem_of_mem_take hv)
        · exact hone v hv
      · exact c5 v (List.mem_of_mem_drop hv)⟩, hr', h1''⟩
  exact hK undef _ G hx' hs' (.undef _) fun l hl => .inl hl
theorem r_sliceR {T E : TypeId} {ty : Ty} [ha : HasSl P T E] [ht : HasTy P E ty] {x : Operand} {low high : Option Operand} {l n nn off : Nat} {lo hi : Int} (ho : o.op = .slice T x low high none) (hx : oev ρ x = some (.rs l n)) (hlo : bnd ρ low 0 = some lo) (hhi : bnd ρ high n = some hi)
    (h : 0 ≤ lo ∧ lo ≤ hi ∧ hi ≤ n ∧ lo < n) (hnn : (hi - lo).toNat = nn) (hoff : lo.toNat * ty.size = off) : OpSound P o (Eff.val (.ms l off nn)) ρ m := by
  subst hoff
  refine sound_val fun B G a w m' hs hh _ => ?_
  have hpr := hh x (by simp [ho, Op.operands]) _ hx
  have hl := bnd_rep (G := G) (w := w) (a := a) hlo fun y hy d hd => hh y (by rw [ho]; subst hy; simp [Op.operands]) d hd
  have hh' := bnd_rep (G := G) (w := w) (a := a) hhi fun y hy d hd => hh y (by rw [ho]; subst hy; cases low <;> simp [Op.operands]) d hd
  obtain ⟨i, hi', hsi⟩ := Option.map_eq_some_iff.1 ht.size
  generalize hev : a.eval x = v at hpr
  cases hpr with
  | rsn => omega
  | rs l n hk hnl hn =>
    have hb := run_bounds (P := P) (w := w) (a := a) (isSlice := true) (len := n) (cap := G.cp l) hl hh' ⟨h.1, h.2.1, by omega⟩
    have e4 : hi.toNat - lo.toNat = nn := by omega
    refine ⟨.slice (some ⟨G.g l, lo.toNat * ty.size, none⟩) nn (G.cp l - lo.toNat), ?_, .ms l _ nn _ hk (by omega)⟩
    simp only [execOp, ho, hev, Instr.sliceAt, Instr.slice, Sem.run_bind, run_underlying ha.sl, Sem.run_pure, Result.andThen_ok, Option.map_none, Option.isSome_none, hb, sizeOf, typeInfo, run_program, hi', hsi, e4]
    rw [if_neg (by omega)]
    simp only [Option.map_some, add_off, Nat.zero_add]

/-- a row made of its parts -/
theorem r_buildSliceR {T E : TypeId} {ty : Ty} [ha : HasSl P T E] [ht : HasTy P E ty] {n : Nat} {parts : Array (Nat × Operand)} {xs : List (Nat × D)} {cs : List D} (l : Nat) (ho : o.op = .buildSlice T n parts) (hx : pevs ρ parts.toList = some xs) (hf : dfill (bpl n ty.size) (zeros n ty.zero) xs = some cs)
    (hzl : ty.zero.length = ty.size) (hsm : Nat.ble (n * ty.size) 16777216 = true) (hn16 : Nat.ble n 16777216 = true := by rfl) : OpSound P o ⟨.rs l n, [], [(l, some (.obj (.row E ty.size) cs))], [l]⟩ ρ m := by
  intro B G a w m' K Q hs hh _ hn hK
  obtain ⟨z, hz, hzr, hz1⟩ := ht.zero_
  obtain ⟨i, hi, hiz⟩ := Option.bind_eq_some_iff.1 hz
  obtain ⟨j, hj, hjs⟩ := Option.map_eq_some_iff.1 ht.size
  rw [hi] at hj; cases hj
  obtain ⟨e1, e2⟩ := pevs_reps (G := G) (w := w) (a := a) hx fun x hx' => hh x.2 (by rw [ho]; simp [Op.operands]; exact ⟨x.1, by simpa using hx'⟩)
  have hzs := (hzr G w).1
  -- the noughts
  let zc : Array Value := (Array.range (n * ty.size)).map (z.cells[· % z.cells.size]!)
  have hzc : Reps G w (zeros n ty.zero) zc := by
    refine ⟨by simp [zc, zeros_length, hzl], fun k d v hd hv => ?_⟩
    have hk : k < n * ty.size := by
      have := (List.getElem?_eq_some_iff.1 hd).1
      rw [zeros_length, hzl] at this; exact this
    have hz0 : 0 < ty.size := Nat.pos_of_mul_pos_left (by omega : 0 < n * ty.size)
    have hne : ty.zero ≠ [] := fun e => by rw [e] at hzl; simp at hzl; omega
    rw [zeros_get _ hne n k (by rw [hzl]; exact hk), hzl] at hd
    have hkm : k % ty.size < ty.size := Nat.mod_lt _ hz0
    have hv' : v = z.cells[k % ty.size]! := by
      simp only [zc, Array.getElem?_map, Array.getElem?_range, hk, if_true, Option.map_some, Option.some.injEq] at hv
      rw [← hv, hzs, hzl]
    have : z.cells[k % ty.size]? = some v := by
      rw [hv', getElem!_pos z.cells _ (by rw [hzs, hzl]; exact hkm)]
      exact Array.getElem?_eq_getElem _
    exact (hzr G w).2 _ d v hd this
  have hz1' : ∀ d ∈ zeros n ty.zero, d.one = true := by
    intro d hd
    have : ∀ k, ∀ d ∈ zeros k ty.zero, d.one = true := by
      intro k
      induction k with
      | zero => intro d hd; simp [zeros] at hd
      | succ k ih =>
        intro d hd
        unfold zeros at hd
        rcases List.mem_append.1 hd with h | h
        · exact hz1 d h
        · exact ih d h
    exact this n d hd
  obtain ⟨vs', h1, h2, h3⟩ := fill_reps (place := fun i => some (i * ty.size, ty.size)) (fun i x h => by
    unfold bpl at h
    simp only [List.getElem?_map, Option.map_eq_some_iff] at h
    obtain ⟨k, hk, rfl⟩ := h
    rw [List.getElem?_range (by rcases Nat.lt_or_ge i n with h' | h'; exact h'; rw [List.getElem?_eq_none (by simpa using h')] at hk; cases hk)] at hk
    injection hk with hk
    subst hk; rfl) xs (parts.toList.map fun x => (x.1, a.eval x.2)) _ cs zc e1 e2 hzc hz1' hf
  have hsm' := Nat.le_of_ble_eq_true hsm
  have hnn : n ≤ 16777216 := Nat.le_of_ble_eq_true hn16
  have hlen : vs'.size = n * ty.size := by
    have := h2.1
    rw [this, dfill_length _ _ _ _ hf, zeros_length, hzl]
  obtain ⟨G', g1, g2, g3, g4⟩ := hs.newR_ (w' := w.alloc (.cells vs' E)) (new_alloc (new_refl w) _) (hn l (by simp)) (heap_alloc_new w _) [] (fun x h => by simp at h) h2 h3 (Nat.le_refl _) (fun _ _ => rfl) hlen (by simp only [maxLen]; omega) (h2.oneCells h3)
  have hrun : (execOp a.eval o).run P w = .ok (.value (.slice (some ⟨w.heap.size, 0, none⟩) n n)) (w.alloc (.cells vs' E)) := by
    have hzz : n * ty.size = 0 → zc = (Array.range (n * ty.size)).map ((#[] : Array Value)[· % (#[] : Array Value).size]!) := fun h => by simp [zc, h]
    have h1' : Instr.fill (fun i => some (i * ty.size, ty.size)) zc (List.map (fun x => (x.fst, a.eval x.snd)) parts.toList) = some vs' := h1
    simp only [execOp, ho, Instr.buildSlice, Sem.run_bind, run_underlying ha.sl, Result.andThen_ok, sizeOf, typeInfo, run_program, hi, Sem.run_pure, hjs]
    rw [if_neg (by omega)]
    by_cases h0 : n * ty.size = 0
    · rw [hzz h0] at h1'
      rw [h0] at h1'
      simp only [h0, if_true, Sem.run_bind, Sem.run_pure, Result.andThen_ok, Array.toList_map, h1', newRow, newObj]
      rfl
    · simp only [h0, if_false, zeroValue, typeInfo, Sem.run_bind, run_program, Result.andThen_ok, hi, hiz, Sem.run_pure, Array.toList_map]
      simp only [zc] at h1'
      simp only [h1', newRow, newObj]
      rfl
  unfold Oper.wp
  rw [hrun, Oper.upon_value]
  exact hK _ _ G' g1 g2 (g4 n (Nat.le_refl _)) fun l' hl => (g3 l' hl).imp id fun h => by simp [h]
end

/-! ### Freezing -/
/-- the same but that the row is data -/
inductive Frz (k n : Nat) (cs : List D) : D → D → Prop where
  | refl (d : D) : Frz k n cs d d
  | rs : Frz k n cs (.rs k n) (.slice .frozen n cs)
  | agg (ds es : List D) (hl : es.length = ds.length) (h : ∀ (i : Nat) (d e : D), ds[i]? = some d → es[i]? = some e → Frz k n cs d e) : Frz k n cs (.agg ds) (.agg es)
inductive Frzs (k n : Nat) (cs : List D) : List D → List D → Prop where
  | nil : Frzs k n cs [] []
  | cons {d e : D} {ds es : List D} (h : Frz k n cs d e) (t : Frzs k n cs ds es) : Frzs k n cs (d :: ds) (e :: es)
theorem Frzs.at_ {k n : Nat} {cs ds es : List D} (h : Frzs k n cs ds es) : es.length = ds.length ∧ ∀ (i : Nat) (d e : D), ds[i]? = some d → es[i]? = some e → Frz k n cs d e := by
  induction h with
  | nil => exact ⟨rfl, fun i d e h => by simp at h⟩
  | cons h _ ih =>
    refine ⟨by simp [ih.1], fun i d e hd he => ?_⟩
    cases i with
    | zero => simp at hd he; subst hd; subst he; exact h
    | succ i => exact ih.2 i d e (by simpa using hd) (by simpa using he)
theorem Frz.agg_ {k n : Nat} {cs ds es : List D} (h : Frzs k n cs ds es) : Frz k n cs (.agg ds) (.agg es) := .agg ds es h.at_.1 h.at_.2
theorem Frzs.refl {k n : Nat} {cs : List D} : ∀ (ds : List D), Frzs k n cs ds ds
  | [] => .nil
  | d :: ds => .cons (.refl d) (Frzs.refl ds)
theorem Frz.one {k n : Nat} {cs : List D} {d e : D} (h : Frz k n cs d e) : e.one = d.one := by cases h <;> rfl
theorem Frz.rep {k n : Nat} {cs : List D} {d e : D} (h : Frz k n cs d e) {G : Gh} {w : World} (hk : ∀ v, Rep G w (.rs k n) v → Rep G w (.slice .frozen n cs) v) : ∀ {v : Value}, Rep G w d v → Rep G w e v := by
  induction h with
  | refl => exact fun h => h
  | rs => exact fun h => hk _ h
  | agg ds es hl hu ih =>
    intro v h
    cases h with
    | agg _ vs hl' h1 hh =>
      refine .agg es vs (by omega) (fun e he => ?_) (fun i e v he hv => ?_)
      · obtain ⟨i, hi⟩ := List.getElem?_of_mem he
        have hlt := (List.getElem?_eq_some_iff.1 hi).1
        have hd : ds[i]? = some (ds[i]'(by omega)) := List.getElem?_eq_getElem _
        rw [(hu i _ e hd hi).one]; exact h1 _ (List.mem_of_getElem? hd)
      · have hlt := (List.getElem?_eq_some_iff.1 he).1
        have hd : ds[i]? = some (ds[i]'(by omega)) := List.getElem?_eq_getElem _
        exact ih i _ e hd he (hh i _ v hd hv)
theorem Frzs.reps {k n : Nat} {cs ds es : List D} (h : Frzs k n cs ds es) {G : Gh} {w : World} (hk : ∀ v, Rep G w (.rs k n) v → Rep G w (.slice .frozen n cs) v) {vs : Array Value} (hr : Reps G w ds vs) : Reps G w es vs := by
  obtain ⟨h1, h2⟩ := h.at_
  refine ⟨by rw [hr.1, h1], fun i e v he hv => ?_⟩
  have hlt := (List.getElem?_eq_some_iff.1 he).1
  have hd : ds[i]? = some (ds[i]'(by omega)) := List.getElem?_eq_getElem _
  exact (h2 i _ e hd he).rep hk (hr.2 i _ v hd hv)
theorem Frzs.one {k n : Nat} {cs ds es : List D} (h : Frzs k n cs ds es) (h1 : ∀ d ∈ ds, d.one = true) : ∀ e ∈ es, e.one = true := by
  intro e he
  obtain ⟨i, hi⟩ := List.getElem?_of_mem he
  obtain ⟨k1, k2⟩ := h.at_
  have hlt := (List.getElem?_eq_some_iff.1 hi).1
  have hd : ds[i]? = some (ds[i]'(by omega)) := List.getElem?_eq_getElem _
  rw [(k2 i _ e hd hi).one]; exact h1 _ (List.mem_of_getElem? hd)

def SubSz (k n : Nat) (cs : List D) (ρ : Slots) : Slots → Prop
  | [] => True
  | (t, d) :: r => (∃ d0, sget ρ t = some d0 ∧ Frz k n cs d0 d) ∧ SubSz k n cs ρ r
def SubMz (k n : Nat) (cs : List D) (m : Mem) : Mem → Prop
  | [] => True
  | (l, c) :: r => (Nat.beq l k = false ∧ (match c with | some (.var T es) => ∃ ds, mget m l = some (.var T ds) ∧ Frzs k n cs ds es | some (.tok E s) => mget m l = some (.tok E s) | some (.obj K es) => mget m l = some (.obj K es) | none => False)) ∧ SubMz k n cs m r
theorem SubSz.get {k n : Nat} {cs : List D} {ρ : Slots} : ∀ {ρ1 : Slots}, SubSz k n cs ρ ρ1 → ∀ t d, sget ρ1 t = some d → ∃ d0, sget ρ t = some d0 ∧ Frz k n cs d0 d
  | [], _, t, d, h => by simp [sget] at h
  | (j, x) :: r, h, t, d, hd => by
    simp only [sget] at hd
    rcases Bool.eq_false_or_eq_true (Nat.beq j t) with hb | hb
    · simp only [hb, cond_true, Option.some.injEq] at hd
      subst hd
      rw [← Nat.eq_of_beq_eq_true hb]; exact h.1
    · simp only [hb, cond_false] at hd
      exact SubSz.get h.2 t d hd
theorem SubMz.get {k n : Nat} {cs : List D} {m : Mem} : ∀ {m1 : Mem}, SubMz k n cs m m1 → ∀ l c, mget m1 l = some c → l ≠ k ∧ (match c with | .var T es => ∃ ds, mget m l = some (.var T ds) ∧ Frzs k n cs ds es | .tok E s => mget m l = some (.tok E s) | .obj K es => mget m l = some (.obj K es))
  | [], _, l, c, h => by simp [mget] at h
  | (j, x) :: r, h, l, c, hc => by
    simp only [mget] at hc
    rcases Bool.eq_false_or_eq_true (Nat.beq j l) with hb | hb
    · simp only [hb, cond_true] at hc
      subst hc
      have := Nat.eq_of_beq_eq_true hb
      subst this
      exact ⟨fun e => (by have := h.1.1; rw [e, Nat.beq_refl] at this; cases this), (by cases c <;> exact h.1.2)⟩
    · simp only [hb, cond_false] at hc
      exact SubMz.get h.2 l c hc

theorem weak_freeze {B : Base} {N : Nat} {ρ ρ1 : Slots} {m m1 : Mem} {nx : Nat} {E : TypeId} {s : Nat} (k n : Nat) (cs : List D) (hm : mget m k = some (.obj (.row E s) cs)) (hns : n * s = cs.length) (hcl : D.cls cs = true) (hρ : SubSz k n cs ρ ρ1) (hmz : SubMz k n cs m m1) : Weak B N ρ m nx ρ1 m1 nx := by
  intro G a w h
  obtain ⟨k1, k2, k3⟩ := h.sim.obj k _ _ hm
  have hsome : ∀ l c, mget m1 l = some c → l ≠ k ∧ ∃ c0, mget m l = some c0 := fun l c hc => by
    obtain ⟨a1, a2⟩ := hmz.get l c hc
    refine ⟨a1, ?_⟩
    cases c with
    | var T es => obtain ⟨ds, e, _⟩ := a2; exact ⟨_, e⟩
    | tok E s => exact ⟨_, a2⟩
    | obj K es => exact ⟨_, a2⟩
  have fin : ∀ (G' : Gh), Ext G w G' w → (∀ l c, mget m1 l = some c → G'.kn l = G.kn l ∧ G'.g l = G.g l ∧ G'.nl l = G.nl l ∧ G'.cp l = G.cp l ∧ (G.nl l = false → G'.hw (G.g l) = G.hw (G.g l)) ∧ (∀ E s, mget m l = some (.tok E s) → G'.al l = true)) → (∀ b, b < B.W.heap.size → b ∉ B.T → G'.hw b = G.hw b) →
      (∀ b, 0 < G'.hw b → ∃ vs T fr, w.heap[b]? = some (.cells vs T fr) ∧ G'.hw b ≤ vs.size) → (∀ l, G'.kn l = G.kn l) → (∀ v, Rep G' w (.rs k n) v → Rep G' w (.slice .frozen n cs) v) → ∃ G', SimS B G' N ρ1 m1 nx a w := by
    intro G' hx hG hold hdata hkn hk
    refine ⟨G', ⟨⟨h.sim.new, h.sim.ext.trans hx, fun b hb hT => (hold b hb hT).trans (h.sim.old b hb hT), fun l T es hl => ?_, fun l E' s' hl => ?_, fun l K es hl => ?_, fun l l' ha hb hne n1 n2 => ?_, hdata⟩, h.defers, h.size, fun t d hd => ?_, fun l hl => h.fresh l (by rw [← hkn]; exact hl)⟩⟩
    · obtain ⟨b1, b2, b3, b4, b5, _⟩ := hG l _ hl
      obtain ⟨_, ds, e1, e2⟩ := hmz.get l _ hl
      obtain ⟨a1, a2, a3, a4, vs, a5, a6, a7⟩ := h.sim.var l T ds e1
      exact ⟨b1.trans a1, by rw [b2]; exact a2, by rw [b2, b5 a4]; exact a3, b3.trans a4, vs, by rw [b2]; exact a5, e2.reps hk (a6.mono hx), e2.one a7⟩
    · obtain ⟨b1, b2, b3, b4, b5, b6⟩ := hG l _ hl
      obtain ⟨_, e1⟩ := hmz.get l _ hl
      obtain ⟨a1, a2, a3⟩ := h.sim.tok l E' s' e1
      refine ⟨b1.trans a1, b6 _ _ e1, fun hn => ?_⟩
      have hn' : G.nl l = false := b3 ▸ hn
      obtain ⟨c1, c2, vs, c3, c4, c5⟩ := a3 hn'
      exact ⟨by rw [b2]; exact c1, by rw [b4]; exact c2, vs, by rw [b2]; exact c3, by rw [b2, b5 hn']; exact c4, by rw [b4]; exact c5⟩
    · obtain ⟨b1, b2, b3, b4, b5, _⟩ := hG l _ hl
      obtain ⟨_, e1⟩ := hmz.get l _ hl
      obtain ⟨a1, a2, a3⟩ := h.sim.obj l K es e1
      refine ⟨b1.trans a1, fun hn => a2 (b3 ▸ hn), fun hn => ?_⟩
      have hn' : G.nl l = false := b3 ▸ hn
      obtain ⟨c1, c2, o, c3, c4⟩ := a3 hn'
      exact ⟨by rw [b2]; exact c1, by rw [b2, b5 hn']; exact c2, o, by rw [b2]; exact c3, by rw [b4]; exact c4.mono hx⟩
    · obtain ⟨c1, hc1⟩ := Option.isSome_iff_exists.1 ha
      obtain ⟨c2, hc2⟩ := Option.isSome_iff_exists.1 hb
      obtain ⟨_, b2, b3, _⟩ := hG l _ hc1
      obtain ⟨_, b2', b3', _⟩ := hG l' _ hc2
      obtain ⟨_, _, e1⟩ := hsome l _ hc1
      obtain ⟨_, _, e2⟩ := hsome l' _ hc2
      rw [b2, b2']
      exact h.sim.inj l l' (by rw [e1]; rfl) (by rw [e2]; rfl) hne (b3 ▸ n1) (b3' ▸ n2)
    · obtain ⟨d0, e1, e2⟩ := hρ.get t d hd
      exact e2.rep hk ((h.slots t d0 e1).mono hx)
  cases hnl : G.nl k with
  | true =>
    refine fin G (Ext.refl G w) (fun l c hl => ⟨rfl, rfl, rfl, rfl, fun _ => rfl, fun E s hl' => (h.sim.tok l E s hl').2.1⟩) (fun _ _ _ => rfl) h.sim.data (fun _ => rfl) fun v hv => ?_
    have : cs = [] := k2 hnl
    subst this
    cases hv with
    | rs _ _ _ hn' => rw [hnl] at hn'; cases hn'
    | rsn => exact .nil _
  | false =>
    obtain ⟨k4, k5, o, k6, vs, ⟨ws, rfl, c1, c2, c3, c4, c5⟩, k7, k8⟩ := k3 hnl
    have k8' : ∀ d ∈ cs, d.one = true := k8
    have hvl := k7.1
    let G' : Gh := { G with hw := fun b => if b = G.g k then cs.length else G.hw b, al := fun x => G.al x && (G.nl x || !decide (G.g x = G.g k)) }
    have hwb : ∀ b, b ≠ G.g k → G'.hw b = G.hw b := fun b hb => by simp [G', hb]
    have hwk : G'.hw (G.g k) = cs.length := by simp [G']
    have hx : Ext G w G' w := by
      refine ⟨fun x hk => ⟨hk, rfl, fun ha => ?_, rfl, rfl⟩, fun b => ?_, fun _ _ _ => rfl, Nat.le_refl _⟩
      · simp only [G', Bool.and_eq_true, Bool.or_eq_true, Bool.not_eq_true', decide_eq_false_iff_not] at ha
        exact ⟨ha.1, fun hn => hwb _ (ha.2.resolve_left (by rw [hn]; simp))⟩
      · by_cases e : b = G.g k
        · subst e; rw [hwk, k5]; exact Nat.zero_le _
        · rw [hwb b e]; exact Nat.le_refl _
    have hap : ∀ l c, mget m1 l = some c → G.nl l = false → G.g l ≠ G.g k := fun l c hc hn => by
      obtain ⟨hne, c0, e⟩ := hsome l c hc
      exact h.sim.inj l k (by rw [e]; rfl) (by rw [hm]; rfl) hne hn hnl
    refine fin G' hx (fun l c hl => ⟨rfl, rfl, rfl, rfl, fun hn => hwb _ (hap l c hl hn), fun E s hl' => ?_⟩) (fun b hb hT => hwb b fun e => ?_) (fun b hb => ?_) (fun _ => rfl) fun v hv => ?_
    · simp only [G', (h.sim.tok l E s hl').2.1, Bool.true_and, Bool.or_eq_true, Bool.not_eq_true', decide_eq_false_iff_not]
      cases hn : G.nl l with
      | true => exact .inl rfl
      | false => exact .inr (hap l c hl hn)
    · rcases k4 with h | h
      · omega
      · exact hT (e ▸ h)
    · by_cases e : b = G.g k
      · subst e
        exact ⟨ws, E, (0, 0), k6, by rw [hwk]; omega⟩
      · rw [hwb b e] at hb ⊢
        exact h.sim.data b hb
    · cases hv with
      | rsn =>
        have : cs = [] := List.eq_nil_of_length_eq_zero (by omega)
        subst this
        exact .nil _
      | rs _ _ hkn hnl' hncp =>
        refine .slice .frozen n cs (G.g k) 0 (G.cp k) vs hvl (fun d hd => ⟨k8' d hd, D.cls_mem hcl d hd⟩) (k7.mono hx).2 (by rw [hwk]; omega) (fun i hi => ?_) (Array.getElem?_eq_some_iff.1 k6).1 hncp trivial
        rw [Nat.zero_add, cell_of_row w _ _ ws E (0, 0) k6]
        exact c4 i (by omega)

section
variable {P : Program} {ρ : Slots} {m : Mem} {nx : Nat} {ops : Array Oper} {os : List Oper} {K : List Eff → Slots → Mem → Nat → Prop}
theorem k_appendR {t : Tmp} {tt tx E E2 : TypeId} {ty : Ty} {by_ : Nat} [HasSl P tt E] [HasSl P tx E2] [HasTy P E ty] [HasBy P E by_] {x y : Operand} {d0 : D} {tk2 : Tok} {n mm nm : Nat} {cs cs2 cs3 : List D} {ends : Mem} {V : TypeId} {pos : String} {af : Array Edge} {gd : Option (Nat × Bool)} (hg : gok ops ρ ⟨some t, .call { callee := .builtin .append, args := #[x, y], argTypes := #[tt, tx] }, V, pos, af, gd⟩ = some true)
    (hx : oev ρ x = some d0) (hy : oev ρ y = some (.slice tk2 mm cs2)) (hrb : RB m E ty.size d0 n cs ends) (hn1 : n * ty.size = cs.length) (hn2 : mm * ty.size = cs2.length) (hzl : ty.zero.length = ty.size) (hsm : n + mm ≤ 16777216) (hby : Nat.ble by_ 1048576 = true) (hnm : n + mm = nm) (hcs : cs ++ cs2 = cs3)
    (hh : R P ops os (fun Es => K (⟨.rs nx nm, [], (nx, some (.obj (.row E ty.size) cs3)) :: ends, [nx]⟩ :: Es)) ((t, .rs nx nm) :: ρ) ((nx, some (.obj (.row E ty.size) cs3)) :: (ends ++ m)) (nx + 1)) : R P ops (⟨some t, .call { callee := .builtin .append, args := #[x, y], argTypes := #[tt, tx] }, V, pos, af, gd⟩ :: os) K ρ m nx :=
  R_new hg (r_appendR nx rfl hx hy hrb hn1 hn2 hzl hsm hby hnm hcs) rfl hh
theorem k_buildSliceR {t : Tmp} {T E : TypeId} {ty : Ty} [ha : HasSl P T E] [ht : HasTy P E ty] {n : Nat} {parts : Array (Nat × Operand)} {xs : List (Nat × D)} {cs : List D} {V : TypeId} {pos : String} {af : Array Edge} {gd : Option (Nat × Bool)} (hg : gok ops ρ ⟨some t, .buildSlice T n parts, V, pos, af, gd⟩ = some true)
    (hx : pevs ρ parts.toList = some xs) (hf : dfill (bpl n ty.size) (zeros n ty.zero) xs = some cs) (hzl : ty.zero.length = ty.size) (hsm : Nat.ble (n * ty.size) 16777216 = true)
    (hh : R P ops os (fun Es => K (⟨.rs nx n, [], [(nx, some (.obj (.row E ty.size) cs))], [nx]⟩ :: Es)) ((t, .rs nx n) :: ρ) ((nx, some (.obj (.row E ty.size) cs)) :: m) (nx + 1)) (hn16 : Nat.ble n 16777216 = true := by rfl) : R P ops (⟨some t, .buildSlice T n parts, V, pos, af, gd⟩ :: os) K ρ m nx :=
  R_new hg (r_buildSliceR nx rfl hx hf hzl hsm hn16) rfl hh
theorem k_indexAddrR {t : Tmp} {T : TypeId} {x ix : Operand} {E : TypeId} {ty : Ty} [HasSl P T E] [HasTy P E ty] {l n : Nat} {k : IntKind} {j : Int} {V : TypeId} {pos : String} {af : Array Edge} {gd : Option (Nat × Bool)} (hg : gok ops ρ ⟨some t, .indexAddr T x ix, V, pos, af, gd⟩ = some true)
    (hx : oev ρ x = some (.rs l n)) (hix : oev ρ ix = some (.int k j)) (hj : 0 ≤ j ∧ j < n)
    (hh : R P ops os (fun Es => K (Eff.val (.ptr l (j.toNat * ty.size)) :: Es)) ((t, .ptr l (j.toNat * ty.size)) :: ρ) m nx) : R P ops (⟨some t, .indexAddr T x ix, V, pos, af, gd⟩ :: os) K ρ m nx := R_cons hg (r_indexAddrR rfl hx hix hj) rfl hh
theorem k_loadR {t : Tmp} {T : TypeId} {ty : Ty} [HasTy P T ty] {x : Operand} {l off : Nat} {E : TypeId} {s : Nat} {cs : List D} {d : D} {V : TypeId} {pos : String} {af : Array Edge} {gd : Option (Nat × Bool)} (hg : gok ops ρ ⟨some t, .load T x, V, pos, af, gd⟩ = some true)
    (hx : oev ρ x = some (.ptr l off)) (hm : mget m l = some (.obj (.row E s) cs)) (hd : cut ty off cs = some d) (hsz : Nat.blt 0 ty.size = true)
    (hh : R P ops os (fun Es => K (⟨d, [l], [], []⟩ :: Es)) ((t, d) :: ρ) m nx) : R P ops (⟨some t, .load T x, V, pos, af, gd⟩ :: os) K ρ m nx := R_cons hg (r_loadR rfl hx hm hd hsz) rfl hh
theorem k_storeR {T : TypeId} {ty : Ty} [HasTy P T ty] {x y : Operand} {l off : Nat} {E : TypeId} {s : Nat} {cs cs' : List D} {d : D} {V : TypeId} {pos : String} {af : Array Edge} {gd : Option (Nat × Bool)} (hg : gok ops ρ ⟨none, .store T x y, V, pos, af, gd⟩ = some true)
    (hx : oev ρ x = some (.ptr l off)) (hy : oev ρ y = some d) (hm : mget m l = some (.obj (.row E s) cs)) (hne : cs ≠ []) (hsz : d.cells.length = ty.size) (h1 : d.fits = true) (hsp : splice off d.cells cs = some cs')
    (hh : R P ops os (fun Es => K (⟨.undef, [], [(l, some (.obj (.row E s) cs'))], []⟩ :: Es)) ρ ((l, some (.obj (.row E s) cs')) :: m) nx) : R P ops (⟨none, .store T x y, V, pos, af, gd⟩ :: os) K ρ m nx := R_cons hg (r_storeR rfl hx hy rfl hm hne hsz h1 hsp) rfl hh
theorem k_sliceR {t : Tmp} {T E : TypeId} {ty : Ty} [HasSl P T E] [HasTy P E ty] {x : Operand} {low high : Option Operand} {l n nn off : Nat} {lo hi : Int} {V : TypeId} {pos : String} {af : Array Edge} {gd : Option (Nat × Bool)} (hg : gok ops ρ ⟨some t, .slice T x low high none, V, pos, af, gd⟩ = some true)
    (hx : oev ρ x = some (.rs l n)) (hlo : bnd ρ low 0 = some lo) (hhi : bnd ρ high n = some hi) (h : 0 ≤ lo ∧ lo ≤ hi ∧ hi ≤ n ∧ lo < n) (hnn : (hi - lo).toNat = nn) (hoff : lo.toNat * ty.size = off)
    (hh : R P ops os (fun Es => K (Eff.val (.ms l off nn) :: Es)) ((t, .ms l off nn) :: ρ) m nx) : R P ops (⟨some t, .slice T x low high none, V, pos, af, gd⟩ :: os) K ρ m nx := R_cons hg (r_sliceR rfl hx hlo hhi h hnn hoff) rfl hh
theorem r_lenR {o : Oper} {x : Operand} {t E : TypeId} [ha : HasSl P t E] {l n : Nat} (ho : o.op = .call { callee := .builtin .len, args := #[x], argTypes := #[t] }) (hx : oev ρ x = some (.rs l n)) : OpSound P o (Eff.val (.int .i64 n)) ρ m := by
  refine sound_val fun B G a w m' _ hh _ => ?_
  have hp := hh x (by simp [ho, Op.operands, Call.operands]) _ hx
  generalize hev : a.eval x = vx at hp
  refine ⟨.int .i64 n, run_len_ ho hev ?_, .int _ _⟩
  cases hp <;> simp [Builtin.len_, Sem.run_bind, run_underlying ha.sl, goInt]
theorem k_lenR {t : Tmp} {T E : TypeId} [HasSl P T E] {x : Operand} {l n : Nat} {V : TypeId} {pos : String} {af : Array Edge} {gd : Option (Nat × Bool)} (hg : gok ops ρ ⟨some t, .call { callee := .builtin .len, args := #[x], argTypes := #[T] }, V, pos, af, gd⟩ = some true) (hx : oev ρ x = some (.rs l n)) (hh : R P ops os (fun Es => K (Eff.val ((.int .i64 n)) :: Es)) ((t, (.int .i64 n)) :: ρ) m nx) :
    R P ops (⟨some t, .call { callee := .builtin .len, args := #[x], argTypes := #[T] }, V, pos, af, gd⟩ :: os) K ρ m nx := R_cons hg (r_lenR rfl hx) rfl hh
end
end Go.Proofs.Ytnlacdclnhoghaa
