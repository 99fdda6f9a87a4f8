/- Functions of data and memory: they may turn variables that they are told of, and give new ones. Of any program. No conditions. -/
import Derived.Test.YtcfefmbbbfdppaaGreatDoorSDCode
namespace Go.Proofs.YtcfefmbbbfdppaaGreatDoor
open Go.RowKit
set_option linter.unusedVariables false
set_option linter.unusedSimpArgs false
def told (k : Nat) (G : Gh) : List Nat := ((List.range k).filter fun l => G.kn l && !G.nl l).map G.g
theorem mem_told {k : Nat} {G : Gh} {b : Nat} : b ∈ told k G ↔ ∃ l, l < k ∧ G.kn l = true ∧ G.nl l = false ∧ G.g l = b := by
  simp [told, and_assoc]
def Fn (P : Program) (F : FuncId) (k : Nat) (ds : List D) (m0 : Mem) (d : D) (m1 : Mem) : Prop :=
  ∀ (w : World) (G : Gh) (vs : Array Value) (hg : GTab w (told k G)), (∀ l, G.kn l = true → l < k) → Sim ⟨w, G, told k G, hg⟩ G m0 w → Reps G w ds vs → Calls P F vs w fun e w' => ∃ v G', e = .returned v ∧ Sim ⟨w, G, told k G, hg⟩ G' m1 w' ∧ Rep G' w' d v
section
variable {P : Program} {B : Base} {N : Nat} {ρ : Slots} {m : Mem} {nx : Nat}
inductive RetsF (P : Program) (f : Nat → Nat) (ρ : Slots) (m : Mem) : Array ResultVar → D → Prop where
  | r0 : RetsF P f ρ m #[] (.tup [])
  | r1 {r1 : ResultVar} {d1 e1 : D} (h1 : RetV P ρ m r1 d1) (u1 : Up d1 (e1.ren f)) : RetsF P f ρ m #[r1] e1
  | r2 {r1 r2 : ResultVar} {d1 d2 e1 e2 : D} (h1 : RetV P ρ m r1 d1) (u1 : Up d1 (e1.ren f)) (h2 : RetV P ρ m r2 d2) (u2 : Up d2 (e2.ren f)) : RetsF P f ρ m #[r1, r2] (.tup [e1, e2])
  | r3 {r1 r2 r3 : ResultVar} {d1 d2 d3 e1 e2 e3 : D} (h1 : RetV P ρ m r1 d1) (u1 : Up d1 (e1.ren f)) (h2 : RetV P ρ m r2 d2) (u2 : Up d2 (e2.ren f)) (h3 : RetV P ρ m r3 d3) (u3 : Up d3 (e3.ren f)) : RetsF P f ρ m #[r1, r2, r3] (.tup [e1, e2, e3])
  | r4 {r1 r2 r3 r4 : ResultVar} {d1 d2 d3 d4 e1 e2 e3 e4 : D} (h1 : RetV P ρ m r1 d1) (u1 : Up d1 (e1.ren f)) (h2 : RetV P ρ m r2 d2) (u2 : Up d2 (e2.ren f)) (h3 : RetV P ρ m r3 d3) (u3 : Up d3 (e3.ren f)) (h4 : RetV P ρ m r4 d4) (u4 : Up d4 (e4.ren f)) : RetsF P f ρ m #[r1, r2, r3, r4] (.tup [e1, e2, e3, e4])
theorem RetsF.run {fn : Func} {f : Nat → Nat} {d : D} (h : RetsF P f ρ m fn.results d) {G : Gh} {a : Act} {w : World} (hs : SimS B G N ρ m nx a w) : ∃ v, (results fn a.tmps).run P w = .ok v w ∧ Rep G w (d.ren f) v := by
  generalize hr : fn.results = rs at h
  cases h with
  | r0 => exact ⟨.tuple #[], by simp [results, hr], .tup [] #[] rfl fun i d v hd => by simp at hd⟩
  | r1 h1 u1 =>
    obtain ⟨v1, e1, p1⟩ := h1.run hs
    exact ⟨v1, by rw [results_1 hr, e1]; rfl, u1.rep p1⟩
  | r2 h1 u1 h2 u2 =>
    obtain ⟨v1, e1, p1⟩ := h1.run hs
    obtain ⟨v2, e2, p2⟩ := h2.run hs
    have := Reps.cons (u1.rep p1) (Reps.cons (u2.rep p2) (vs := []) Reps.nil)
    exact ⟨.tuple #[v1, v2], by simp only [results_2 hr, e1, e2, Result.andThen_ok], .tup _ _ this.1 this.2⟩
  | r3 h1 u1 h2 u2 h3 u3 =>
    obtain ⟨v1, e1, p1⟩ := h1.run hs
    obtain ⟨v2, e2, p2⟩ := h2.run hs
    obtain ⟨v3, e3, p3⟩ := h3.run hs
    have := Reps.cons (u1.rep p1) (Reps.cons (u2.rep p2) (Reps.cons (u3.rep p3) (vs := []) Reps.nil))
    exact ⟨.tuple #[v1, v2, v3], by simp only [results_3 hr, e1, e2, e3, Result.andThen_ok], .tup _ _ this.1 this.2⟩
  | r4 h1 u1 h2 u2 h3 u3 h4 u4 =>
    obtain ⟨v1, e1, p1⟩ := h1.run hs
    obtain ⟨v2, e2, p2⟩ := h2.run hs
    obtain ⟨v3, e3, p3⟩ := h3.run hs
    obtain ⟨v4, e4, p4⟩ := h4.run hs
    have := Reps.cons (u1.rep p1) (Reps.cons (u2.rep p2) (Reps.cons (u3.rep p3) (Reps.cons (u4.rep p4) (vs := []) Reps.nil)))
    exact ⟨.tuple #[v1, v2, v3, v4], by simp only [results_4 hr, e1, e2, e3, e4, Result.andThen_ok], .tup _ _ this.1 this.2⟩
def endF (P : Program) (rs : Array ResultVar) (k : Nat) (d : D) (m1 : Mem) : Post := fun e ρ m _ => match e with
  | .normal | .ret => ∃ (f : Nat → Nat) (K : Nat), RetsF P f ρ m rs d ∧ d.lall (below K) = true ∧ SubMf f K m m1 ∧ (m1.map fun x => f x.1).Nodup ∧ k ≤ K ∧ ∀ l, l < k → f l = l
  | _ => False
theorem q_fn {rs : Array ResultVar} {k : Nat} {d : D} {m1 : Mem} (f : Nat → Nat) (K : Nat) (h : RetsF P f ρ m rs d) (hd : d.lall (below K) = true) (hm : SubMf f K m m1) (hn : (m1.map fun x => f x.1).Nodup) (hk : k ≤ K) (hf : ∀ l, l < k → f l = l) : endF P rs k d m1 .normal ρ m nx := ⟨f, K, h, hd, hm, hn, hk, hf⟩
theorem q_fr {rs : Array ResultVar} {k : Nat} {d : D} {m1 : Mem} (f : Nat → Nat) (K : Nat) (h : RetsF P f ρ m rs d) (hd : d.lall (below K) = true) (hm : SubMf f K m m1) (hn : (m1.map fun x => f x.1).Nodup) (hk : k ≤ K) (hf : ∀ l, l < k → f l = l) : endF P rs k d m1 .ret ρ m nx := ⟨f, K, h, hd, hm, hn, hk, hf⟩
theorem fn_intro {F : FuncId} {fn : Func} {c : Code} {k : Nat} {ds : List D} {m0 : Mem} {d : D} {m1 : Mem} {N : Nat} (hf : P.funcs[F]? = some fn) (hb : fn.body = some c) (hn : fn.ntmps = N) (hl : Nat.ble ds.length N = true) (h : ∀ (B : Base) [B.Lim k], W P B N c (endF P fn.results k d m1) (slots0 ds 0) m0 k) : Fn P F k ds m0 d m1 := by
  intro w G vs hg hkn hsim hvs
  have hle := Nat.le_of_ble_eq_true hl
  refine calls_of_wp hf hb (wp_mono (@h ⟨w, G, told k G, hg⟩ ⟨hkn⟩ G _ w ⟨hsim, rfl, ?_, fun t x hx => ?_, hkn⟩) ?_)
  · have := hvs.1
    simp [hn]; omega
  · obtain ⟨_, h2⟩ := slots0_get ds 0 t x hx
    rw [Nat.sub_zero] at h2
    obtain ⟨v, hv, hr⟩ := hvs.at_ h2
    have hlt : t < vs.size := (Array.getElem?_eq_some_iff.1 hv).1
    have : (vs ++ Array.replicate (fn.ntmps - vs.size) undef)[t]? = some v := by rw [Array.getElem?_append_left hlt]; exact hv
    simp only [Act.eval, Array.getD_eq_getD_getElem?, this, Option.getD_some]
    exact hr
  · rintro e a' w' ⟨ρ', m', nx', G', hs', hq⟩
    have fin : (∃ (f : Nat → Nat) (K : Nat), RetsF P f ρ' m' fn.results d ∧ d.lall (below K) = true ∧ SubMf f K m' m1 ∧ (m1.map fun x => f x.1).Nodup ∧ k ≤ K ∧ ∀ l, l < k → f l = l) →
        ∃ v, (results fn a'.tmps).run P w' = .ok v w' ∧ ∃ v' G2, (Ending.returned v) = .returned v' ∧ Sim ⟨w, G, told k G, hg⟩ G2 m1 w' ∧ Rep G2 w' d v' := by
      rintro ⟨f, K, h1, h2, h3, h4, h5, h6⟩
      obtain ⟨v, hv, hr⟩ := h1.run hs'
      haveI : Base.Lim ⟨w, G, told k G, hg⟩ k := ⟨hkn⟩
      have := hs'.ren_ f (ρ1 := []) trivial h3 h4 h5 h6
      exact ⟨v, hv, v, _, rfl, this.sim, hr.pull f _ rfl h2⟩
    cases e with
    | normal =>
      obtain ⟨v, hv, hr⟩ := fin hq
      exact bodyPost_end hv hs'.defers hr
    | ret =>
      obtain ⟨v, hv, hr⟩ := fin hq
      exact bodyPost_ret hv hs'.defers hr
    | _ => exact hq.elim
def Loc.ren (f : Nat → Nat) : Loc → Loc
  | .var T cs => .var T (D.rens f cs)
  | .tok E s => .tok E s
  | .obj K cs => .obj K (D.rens f cs)
def wrs (f : Nat → Nat) (m1 : Mem) : List Nat → Mem
  | [] => []
  | l :: ns => (f l, match mget m1 l with | some c => some (c.ren f) | none => none) :: wrs f m1 ns
def nws (f : Nat → Nat) (k : Nat) : List Nat → List Nat
  | [] => []
  | l :: ns => cond (Nat.blt l k) (nws f k ns) (f l :: nws f k ns)
def inns (ns : List Nat) : Nat → Bool := fun l => ns.any (Nat.beq l)
def Mlall (p : Nat → Bool) : Mem → Bool
  | [] => true
  | (l, c) :: r => p l && (match c with | some (.var _ cs) => D.lalls p cs | some (.obj _ cs) => D.lalls p cs | _ => true) && Mlall p r
theorem inns_mem {ns : List Nat} {l : Nat} : inns ns l = true ↔ l ∈ ns := by
  simp only [inns, List.any_eq_true]
  constructor
  · rintro ⟨x, hx, e⟩; rw [Nat.eq_of_beq_eq_true e]; exact hx
  · intro h; exact ⟨l, h, by simp⟩
theorem Mlall.get {p : Nat → Bool} : ∀ {m : Mem}, Mlall p m = true → ∀ l c, mget m l = some c → p l = true ∧ (match c with | .var _ cs => D.lalls p cs = true | .obj _ cs => D.lalls p cs = true | _ => True)
  | [], _, l, c, h => by simp [mget] at h
  | (k, x) :: r, h, l, c, hc => by
    simp only [Mlall, Bool.and_eq_true] at h
    simp only [mget] at hc
    rcases Bool.eq_false_or_eq_true (Nat.beq k l) with hb | hb
    · simp only [hb, cond_true] at hc
      subst hc
      rw [← Nat.eq_of_beq_eq_true hb]
      exact ⟨h.1.1, by cases c with | var T cs => exact h.1.2 | tok E s => trivial | obj K cs => exact h.1.2⟩
    · simp only [hb, cond_false] at hc
      exact Mlall.get h.2 l c hc
theorem wrs_get {f : Nat → Nat} {m1 : Mem} : ∀ {ns : List Nat}, (ns.map f).Nodup → (∀ l ∈ ns, mget (wrs f m1 ns) (f l) = (match mget m1 l with | some c => some (c.ren f) | none => none) ∧ ((wrs f m1 ns).any fun y => Nat.beq y.1 (f l)) = true) ∧ ∀ x, (∀ l ∈ ns, f l ≠ x) → ((wrs f m1 ns).any fun y => Nat.beq y.1 x) = false
  | [], _ => ⟨fun l h => by simp at h, fun x _ => rfl⟩
  | l0 :: ns, h => by
    simp only [List.map_cons, List.nodup_cons] at h
    obtain ⟨h1, h2⟩ := wrs_get (m1 := m1) h.2
    refine ⟨fun l hl => ?_, fun x hx => ?_⟩
    · rcases List.mem_cons.1 hl with rfl | hl
      · simp [wrs, mget, Nat.beq_refl]
      · have hne : f l0 ≠ f l := fun e => h.1 (List.mem_map.2 ⟨l, hl, e.symm⟩)
        have hb : Nat.beq (f l0) (f l) = false := by rw [← Bool.not_eq_true]; exact fun h => hne (Nat.eq_of_beq_eq_true h)
        obtain ⟨k1, k2⟩ := h1 l hl
        simp only [wrs, mget, hb, cond_false, List.any_cons, Bool.false_or]
        exact ⟨k1, k2⟩
    · have hb : Nat.beq (f l0) x = false := by rw [← Bool.not_eq_true]; exact fun h => hx l0 (by simp) (Nat.eq_of_beq_eq_true h)
      simp only [wrs, List.any_cons, hb, Bool.false_or]
      exact h2 x fun l hl => hx l (by simp [hl])
theorem nws_mem {f : Nat → Nat} {k : Nat} : ∀ {ns : List Nat} {x : Nat}, x ∈ nws f k ns ↔ ∃ l, l ∈ ns ∧ k ≤ l ∧ f l = x
  | [], x => by simp [nws]
  | l0 :: ns, x => by
    have ih := nws_mem (f := f) (k := k) (ns := ns) (x := x)
    simp only [nws]
    rcases Bool.eq_false_or_eq_true (Nat.blt l0 k) with hb | hb
    · have : l0 < k := Nat.blt_eq ▸ hb
      simp only [hb, cond_true, ih]
      constructor
      · rintro ⟨l, h1, h2, h3⟩; exact ⟨l, by simp [h1], h2, h3⟩
      · rintro ⟨l, h1, h2, h3⟩
        rcases List.mem_cons.1 h1 with rfl | h1
        · omega
        · exact ⟨l, h1, h2, h3⟩
    · have : ¬ l0 < k := fun h => by
        have h' : Nat.blt l0 k = true := by rw [Nat.blt_eq]; exact h
        rw [h'] at hb; cases hb
      simp only [hb, cond_false, List.mem_cons, ih]
      constructor
      · rintro (h | ⟨l, h1, h2, h3⟩)
        · exact ⟨l0, by simp, by omega, h.symm⟩
        · exact ⟨l, by simp [h1], h2, h3⟩
      · rintro ⟨l, h1 | h1, h2, h3⟩
        · subst h1; exact .inl h3.symm
        · exact .inr ⟨l, h1, h2, h3⟩
def idx (f : Nat → Nat) (ns : List Nat) (x : Nat) : Option Nat := ns.find? fun l => f l == x
theorem idx_some {f : Nat → Nat} {ns : List Nat} (hn : (ns.map f).Nodup) {l : Nat} (hl : l ∈ ns) : idx f ns (f l) = some l := by
  cases h : idx f ns (f l) with
  | none => have := List.find?_eq_none.1 h l hl; simp at this
  | some l' =>
    have h1 := List.find?_some h
    have h2 := List.mem_of_find?_eq_some h
    rw [nodup_map_inj hn l' h2 l hl (by simpa using h1)]
theorem idx_of {f : Nat → Nat} {ns : List Nat} {x l : Nat} (h : idx f ns x = some l) : l ∈ ns ∧ f l = x := ⟨List.mem_of_find?_eq_some h, by simpa using List.find?_some h⟩
theorem idx_none {f : Nat → Nat} {ns : List Nat} {x : Nat} (h : idx f ns x = none) : ∀ l ∈ ns, f l ≠ x := fun l hl e => by simpa [e] using List.find?_eq_none.1 h l hl
theorem fn_call {o : Oper} {F : FuncId} {k : Nat} {ds ds1 : List D} {m0 : Mem} {d : D} {m1 : Mem} (hp : Fn P F k ds m0 d m1) (f : Nat → Nat) (ns : List Nat) (hu : Ups ds1 (D.rens f ds)) (hl : D.lalls (below k) ds = true) (hm : SubMf f k m m0) (hi : (ns.map f).Nodup) (hi0 : (m0.map fun x => f x.1).Nodup)
    (hk : ∀ l, l < k → inns ns l = true ∧ (mget m0 l).isSome = true) (h1 : Mlall (inns ns) m1 = true) (hd : d.lall (inns ns) = true)
    (h : ∀ (B : Base) (G : Gh) (a : Act) (w : World) (m' : Mem), Sim B G m' w → (∀ x ∈ o.op.operands, ∀ d, oev ρ x = some d → Rep G w d (a.eval x)) → ∃ vs, (execOp a.eval o).run P w = .ok (.enter F vs) w ∧ Reps G w ds1 vs) :
    OpSound P o ⟨d.ren f, [], wrs f m1 ns, nws f k ns⟩ ρ m := by
  intro B G a w m' K' Q hs hx ht hn hK
  obtain ⟨vs, hrun, hr⟩ := h B G a w m' hs hx
  have hkn : ∀ l, l < k → l ∈ ns := fun l hl => inns_mem.1 (hk l hl).1
  obtain ⟨hw1, hw2⟩ := wrs_get (f := f) (m1 := m1) (ns := ns) hi
  have hag : ∀ l, l ∈ ns → mget m' (f l) = mget m (f l) := fun l hl => ht _ (by unfold Eff.touch Eff.writes; rw [(hw1 l hl).2]; simp)
  have hgetm : ∀ l c, mget m0 l = some c → l < k ∧ (match c with | .var T cs => ∃ cs0, mget m' (f l) = some (.var T cs0) ∧ Ups cs0 (D.rens f cs) ∧ D.lalls (below k) cs = true | .tok E s => mget m' (f l) = some (.tok E s) | .obj K cs => ∃ cs0, mget m' (f l) = some (.obj K cs0) ∧ Ups cs0 (D.rens f cs) ∧ D.lalls (below k) cs = true) ∧ ∃ x, x ∈ m0 ∧ x.1 = l := fun l c hc => by
    obtain ⟨a1, a2, a3⟩ := hm.get l c hc
    have hlk : l < k := Nat.blt_eq ▸ a1
    refine ⟨hlk, ?_, a3⟩
    have e := hag l (hkn l hlk)
    cases c with
    | var T cs => obtain ⟨cs0, b1, b2⟩ := a2; exact ⟨cs0, e.trans b1, b2⟩
    | tok E s => exact e.trans a2
    | obj K cs => obtain ⟨cs0, b1, b2⟩ := a2; exact ⟨cs0, e.trans b1, b2⟩
  have hsome : ∀ l, l < k → (mget m' (f l)).isSome = true := fun l hl => by
    obtain ⟨c, hc⟩ := Option.isSome_iff_exists.1 (hk l hl).2
    obtain ⟨_, h2, _⟩ := hgetm l c hc
    cases c with
    | var T cs => obtain ⟨cs0, b1, _⟩ := h2; rw [b1]; rfl
    | tok E s => rw [h2]; rfl
    | obj K cs => obtain ⟨cs0, b1, _⟩ := h2; rw [b1]; rfl
  let Gc := G.pull f (below k)
  have hGk : ∀ l, l < k → Gc.kn l = true := fun l hl => by
    simp only [Gc, Gh.pull, hs.known (hsome l hl), Bool.true_and, below]; simpa using hl
  have hGk' : ∀ l, Gc.kn l = true → l < k := fun l hl => by
    simp only [Gc, Gh.pull, Bool.and_eq_true, below] at hl; exact Nat.blt_eq ▸ hl.2
  have hT : ∀ l, l < k → Gc.nl l = false → Gc.g l ∈ told k Gc := fun l hl hnl => mem_told.2 ⟨l, hl, hGk l hl, hnl, rfl⟩
  have hTb : ∀ b, b ∈ told k Gc → b < w.heap.size ∧ (B.W.heap.size ≤ b ∨ b ∈ B.T) ∧ ∃ l, l < k ∧ G.nl (f l) = false ∧ G.g (f l) = b := fun b hb => by
    obtain ⟨l, hlk, _, hnl, rfl⟩ := mem_told.1 hb
    have hnl' : G.nl (f l) = false := hnl
    refine ⟨hs.lt (hsome l hlk) hnl', ?_, l, hlk, hnl', rfl⟩
    obtain ⟨c, hc⟩ := Option.isSome_iff_exists.1 (hsome l hlk)
    cases c with
    | var T cs => exact (hs.var _ _ _ hc).2.1
    | tok E s => exact ((hs.tok _ _ _ hc).2.2 hnl').1
    | obj K cs => exact ((hs.obj _ _ _ hc).2.2 hnl').1
  have hg : GTab w (told k Gc) := fun x hx => by
    obtain ⟨h1, E, fr, h2⟩ := B.glb x hx
    have hlt := (Array.getElem?_eq_some_iff.1 h2).1
    refine ⟨fun hb => ?_, (hs.gtab_ x hx).2⟩
    rcases (hTb _ hb).2.1 with h | h
    · omega
    · exact h1 h
  have hS : Sim ⟨w, Gc, told k Gc, hg⟩ Gc m0 w := by
    refine ⟨Keep.refl _ w, Ext.refl _ w, fun _ _ _ => rfl, fun l T cs hl => ?_, fun l E s hl => ?_, fun l K cs hl => ?_, fun l l' ha hb hne n1 n2 => ?_, hs.data⟩
    · obtain ⟨hlk, ⟨cs0, h2, h3, h4⟩, _⟩ := hgetm l _ hl
      obtain ⟨a1, a2, a3, a4, vs, a5, a6, a7⟩ := hs.var (f l) T cs0 h2
      have a6' := h3.reps a6
      have a7' := h3.one a7
      refine ⟨hGk l hlk, .inr (hT l hlk a4), a3, a4, vs, a5, ⟨by rw [a6'.1, D.rens_length], fun i d v hd hv => ?_⟩, fun d hd => ?_⟩
      · exact (a6'.2 i (d.ren f) v (by rw [D.rens_get, hd]; rfl) hv).pull f _ rfl (D.lalls_mem h4 d (List.mem_of_getElem? hd))
      · obtain ⟨i, hi⟩ := List.getElem?_of_mem hd
        have := a7' (d.ren f) (List.mem_of_getElem? (i := i) (by rw [D.rens_get, hi]; rfl))
        rw [D.ren_one] at this; exact this
    · obtain ⟨hlk, h2, _⟩ := hgetm l _ hl
      obtain ⟨a1, a2, a3⟩ := hs.tok (f l) E s h2
      exact ⟨hGk l hlk, a2, fun hnl => ⟨.inr (hT l hlk hnl), (a3 hnl).2⟩⟩
    · obtain ⟨hlk, ⟨cs0, h2, h3, h4⟩, _⟩ := hgetm l _ hl
      obtain ⟨a1, a2, a3⟩ := hs.obj (f l) K cs0 h2
      refine ⟨hGk l hlk, fun hnl => OKind.none_rens (OKind.none_up h3 (a2 hnl)), fun hnl => ?_⟩
      obtain ⟨c1, c2, o, c3, c4⟩ := a3 hnl
      exact ⟨.inr (hT l hlk hnl), c2, o, c3, (c4.up h3).pull f _ h4⟩
    · obtain ⟨c1, hc1⟩ := Option.isSome_iff_exists.1 ha
      obtain ⟨c2, hc2⟩ := Option.isSome_iff_exists.1 hb
      obtain ⟨hlk, _, x, hx, ex⟩ := hgetm l c1 hc1
      obtain ⟨hlk', _, y, hy, ey⟩ := hgetm l' c2 hc2
      refine hs.inj (f l) (f l') (hsome l hlk) (hsome l' hlk') (fun e => hne ?_) n1 n2
      have := nodup_map_inj hi0 x hx y hy (by rw [ex, ey]; exact e)
      rw [← ex, ← ey, this]
  have hR : Reps Gc w ds vs := by
    have h3 := hu.reps hr
    refine ⟨by rw [h3.1, D.rens_length], fun i d v hd hv => ?_⟩
    exact (h3.2 i (d.ren f) v (by rw [D.rens_get, hd]; rfl) hv).pull f _ rfl (D.lalls_mem hl d (List.mem_of_getElem? hd))
  unfold Oper.wp
  rw [hrun, Oper.upon_enter]
  refine (hp w Gc vs hg hGk' hS hR).mono fun e w' ⟨v, G', he, hS', hrv⟩ => ?_
  subst he
  have hTn : ∀ x, (mget m' x).isSome = true → G.nl x = false → (∀ l ∈ ns, f l ≠ x) → G.g x ∉ told k Gc := fun x hx hnl hne hb => by
    obtain ⟨_, _, l, hlk, hnl', e⟩ := hTb _ hb
    exact hs.inj (f l) x (hsome l hlk) hx (hne l (hkn l hlk)) hnl' hnl e
  have hfresh : ∀ l, l ∈ ns → k ≤ l → G.kn (f l) = false := fun l hl hkl => hn _ (nws_mem.2 ⟨l, hl, hkl, rfl⟩)
  let G2 : Gh := ⟨fun x => match idx f ns x with | some l => G'.kn l | none => G.kn x, fun x => match idx f ns x with | some l => G'.g l | none => G.g x,
    fun x => match idx f ns x with | some l => G'.al l | none => G.al x && (G.nl x || (decide (G.g x < w.heap.size) && !decide (G.g x ∈ told k Gc))), G'.hw,
    fun x => match idx f ns x with | some l => G'.nl l | none => G.nl x, fun x => match idx f ns x with | some l => G'.cp l | none => G.cp x⟩
  have hsm : ∀ x, idx f ns x = none → G2.kn x = G.kn x ∧ G2.g x = G.g x ∧ G2.nl x = G.nl x ∧ G2.cp x = G.cp x := fun x e => by simp [G2, e]
  have hin : ∀ l, l ∈ ns → G2.kn (f l) = G'.kn l ∧ G2.g (f l) = G'.g l ∧ G2.al (f l) = G'.al l ∧ G2.nl (f l) = G'.nl l ∧ G2.cp (f l) = G'.cp l := fun l hl => by simp [G2, idx_some hi hl]
  have hX : Ext G w G2 w' := by
    refine ⟨fun x hkx => ?_, hS'.ext.hw, hS'.ext.cell, hS'.ext.size⟩
    cases e : idx f ns x with
    | some l =>
      obtain ⟨hl, rfl⟩ := idx_of e
      have hlk : l < k := by
        rcases Nat.lt_or_ge l k with h | h
        · exact h
        · rw [hfresh l hl h] at hkx; cases hkx
      obtain ⟨a1, a2, a3, a4, a5⟩ := hS'.ext.kn l (hGk l hlk)
      obtain ⟨b1, b2, b3, b4, b5⟩ := hin l hl
      refine ⟨b1.trans a1, b2.trans a2, fun ha => ?_, b4.trans a4, b5.trans a5⟩
      rw [b3] at ha
      exact a3 ha
    | none =>
      obtain ⟨b1, b2, b4, b5⟩ := hsm x e
      refine ⟨b1.trans hkx, b2, fun ha => ?_, b4, b5⟩
      simp only [G2, e, Bool.and_eq_true, Bool.or_eq_true, decide_eq_true_iff, Bool.not_eq_true', decide_eq_false_iff_not] at ha
      refine ⟨ha.1, fun hnl => ?_⟩
      have := ha.2.resolve_left (by rw [hnl]; simp)
      exact hS'.old _ this.1 this.2
  have hren : ∀ l, G'.kn l = true → inns ns l = true → G2.kn (f l) = true ∧ G2.g (f l) = G'.g l ∧ (G2.al (f l) = true → G'.al l = true) ∧ G2.nl (f l) = G'.nl l ∧ G2.cp (f l) = G'.cp l := fun l hkl hl => by
    obtain ⟨b1, b2, b3, b4, b5⟩ := hin l (inns_mem.1 hl)
    exact ⟨b1.trans hkl, b2, fun ha => b3 ▸ ha, b4, b5⟩
  have hfin : Rep G2 w' (d.ren f) v := hrv.ren G2 f (inns ns) hren rfl hd
  have hget : ∀ x, mget (wrs f m1 ns ++ m') x = match idx f ns x with | some l => (match mget m1 l with | some c => some (c.ren f) | none => none) | none => mget m' x := fun x => by
    rw [mget_append]
    cases e : idx f ns x with
    | some l =>
      obtain ⟨hl, rfl⟩ := idx_of e
      rw [if_pos (hw1 l hl).2]; exact (hw1 l hl).1
    | none => rw [if_neg (by rw [hw2 x (idx_none e)]; simp)]
  have hnew : ∀ b, (w.heap.size ≤ b ∨ b ∈ told k Gc) → (B.W.heap.size ≤ b ∨ b ∈ B.T) := fun b hb => by
    rcases hb with hb | hb
    · exact .inl (Nat.le_trans hs.new.size hb)
    · exact (hTb b hb).2.1
  refine hK v w' G2 hX ?_ hfin fun x hx => ?_
  · show Sim B G2 (wrs f m1 ns ++ m') w'
    refine ⟨⟨hS'.new.os.trans hs.new.os, hS'.new.tape.trans hs.new.tape, hS'.new.output.trans hs.new.output, Nat.le_trans hs.new.size hS'.new.size, fun b hb hbT => ?_⟩, hs.ext.trans hX, fun b hb hbT => ?_, fun x T cs hxm => ?_, fun x E s hxm => ?_, fun x K cs hxm => ?_, fun x y hxm hym hne n1 n2 => ?_, hS'.data⟩
    · have hnT : b ∉ told k Gc := fun h => by rcases (hTb b h).2.1 with h | h; omega; exact hbT h
      exact (hS'.new.block b (Nat.lt_of_lt_of_le hb hs.new.size) hnT).trans (hs.new.block b hb hbT)
    · have hnT : b ∉ told k Gc := fun h => by rcases (hTb b h).2.1 with h | h; omega; exact hbT h
      exact (hS'.old b (Nat.lt_of_lt_of_le hb hs.new.size) hnT).trans (hs.old b hb hbT)
    · rw [hget] at hxm
      cases e : idx f ns x with
      | some l =>
        obtain ⟨hl, rfl⟩ := idx_of e
        rw [e] at hxm
        simp only at hxm
        cases hml : mget m1 l with
        | none => rw [hml] at hxm; cases hxm
        | some c =>
          rw [hml] at hxm
          cases c with
          | tok E s => simp [Loc.ren] at hxm
          | obj K cs => simp [Loc.ren] at hxm
          | var T0 cs0 =>
            simp only [Loc.ren, Option.some.injEq, Loc.var.injEq] at hxm
            obtain ⟨rfl, rfl⟩ := hxm
            obtain ⟨a1, a2, a3, a4, vs', a5, a6, a7⟩ := hS'.var l _ _ hml
            obtain ⟨b1, b2, b3, b4, b5⟩ := hin l hl
            have hla := (Mlall.get h1 l _ hml).2
            refine ⟨b1.trans a1, by rw [b2]; exact hnew _ a2, by rw [b2]; exact a3, b4.trans a4, vs', by rw [b2]; exact a5, ⟨by rw [D.rens_length]; exact a6.1, fun i d v hd hv => ?_⟩, fun d hd => ?_⟩
            · rw [D.rens_get] at hd
              obtain ⟨d0, h0, rfl⟩ := Option.map_eq_some_iff.1 hd
              exact (a6.2 i d0 v h0 hv).ren G2 f (inns ns) hren rfl (D.lalls_mem hla d0 (List.mem_of_getElem? h0))
            · obtain ⟨i, hi'⟩ := List.getElem?_of_mem hd
              rw [D.rens_get] at hi'
              obtain ⟨d0, h0, rfl⟩ := Option.map_eq_some_iff.1 hi'
              rw [D.ren_one]; exact a7 d0 (List.mem_of_getElem? h0)
      | none =>
        rw [e] at hxm
        simp only at hxm
        obtain ⟨a1, a2, a3, a4, vs', a5, a6, a7⟩ := hs.var x T cs hxm
        obtain ⟨b1, b2, b4, b5⟩ := hsm x e
        have hlt := hs.vlt hxm
        have hnT := hTn x (Option.isSome_iff_exists.2 ⟨_, hxm⟩) a4 (idx_none e)
        exact ⟨b1.trans a1, by rw [b2]; exact a2, by rw [b2]; exact (hS'.old _ hlt hnT).trans a3, b4.trans a4, vs', by rw [b2]; exact (hS'.new.block _ hlt hnT).trans a5, a6.mono hX, a7⟩
    · rw [hget] at hxm
      cases e : idx f ns x with
      | some l =>
        obtain ⟨hl, rfl⟩ := idx_of e
        rw [e] at hxm
        simp only at hxm
        cases hml : mget m1 l with
        | none => rw [hml] at hxm; cases hxm
        | some c =>
          rw [hml] at hxm
          cases c with
          | var T0 cs0 => simp [Loc.ren] at hxm
          | obj K cs => simp [Loc.ren] at hxm
          | tok E0 s0 =>
            simp only [Loc.ren, Option.some.injEq, Loc.tok.injEq] at hxm
            obtain ⟨rfl, rfl⟩ := hxm
            obtain ⟨a1, a2, a3⟩ := hS'.tok l _ _ hml
            obtain ⟨b1, b2, b3, b4, b5⟩ := hin l hl
            refine ⟨b1.trans a1, b3.trans a2, fun hnl => ?_⟩
            rw [b4] at hnl
            obtain ⟨c1, c2, vs', c3, c4, c5⟩ := a3 hnl
            exact ⟨by rw [b2]; exact hnew _ c1, by rw [b5]; exact c2, vs', by rw [b2]; exact c3, by rw [b2]; exact c4, by rw [b5]; exact c5⟩
      | none =>
        rw [e] at hxm
        simp only at hxm
        obtain ⟨a1, a2, a3⟩ := hs.tok x E s hxm
        obtain ⟨b1, b2, b4, b5⟩ := hsm x e
        refine ⟨b1.trans a1, ?_, fun hnl => ?_⟩
        · simp only [G2, e, Bool.and_eq_true, Bool.or_eq_true, decide_eq_true_iff, Bool.not_eq_true', decide_eq_false_iff_not]
          refine ⟨a2, ?_⟩
          cases hnl : G.nl x with
          | true => exact .inl rfl
          | false => exact .inr ⟨hs.lt (Option.isSome_iff_exists.2 ⟨_, hxm⟩) hnl, hTn x (Option.isSome_iff_exists.2 ⟨_, hxm⟩) hnl (idx_none e)⟩
        · rw [b4] at hnl
          obtain ⟨c1, c2, vs', c3, c4, c5⟩ := a3 hnl
          have hlt := hs.lt (l := x) (Option.isSome_iff_exists.2 ⟨_, hxm⟩) hnl
          have hnT := hTn x (Option.isSome_iff_exists.2 ⟨_, hxm⟩) hnl (idx_none e)
          refine ⟨by rw [b2]; exact c1, by rw [b5]; exact c2, vs', by rw [b2]; exact (hS'.new.block _ hlt hnT).trans c3, ?_, by rw [b5]; exact c5⟩
          rw [b2]
          show G'.hw (G.g x) ≤ _
          have e3 : G'.hw (G.g x) = G.hw (G.g x) := hS'.old _ hlt hnT
          rw [e3]; exact c4
    · rw [hget] at hxm
      cases e : idx f ns x with
      | some l =>
        obtain ⟨hl, rfl⟩ := idx_of e
        rw [e] at hxm
        simp only at hxm
        cases hml : mget m1 l with
        | none => rw [hml] at hxm; cases hxm
        | some c =>
          rw [hml] at hxm
          cases c with
          | var T0 cs0 => simp [Loc.ren] at hxm
          | tok E0 s0 => simp [Loc.ren] at hxm
          | obj K0 cs0 =>
            simp only [Loc.ren, Option.some.injEq, Loc.obj.injEq] at hxm
            obtain ⟨rfl, rfl⟩ := hxm
            obtain ⟨a1, a2, a3⟩ := hS'.obj l _ _ hml
            obtain ⟨b1, b2, b3, b4, b5⟩ := hin l hl
            have hla := (Mlall.get h1 l _ hml).2
            refine ⟨b1.trans a1, fun hnl => ?_, fun hnl => ?_⟩
            · rw [b4] at hnl
              have := a2 hnl
              cases K0 with
              | row E s => have this : cs0 = [] := this; subst this; rfl
              | map ks => exact this.elim
              | iter n s => exact this.elim
            · rw [b4] at hnl
              obtain ⟨c1, c2, o, c3, c4⟩ := a3 hnl
              exact ⟨by rw [b2]; exact hnew _ c1, by rw [b2]; exact c2, o, by rw [b2]; exact c3, by rw [b5]; exact c4.ren G2 f (inns ns) hren rfl hla⟩
      | none =>
        rw [e] at hxm
        simp only at hxm
        obtain ⟨a1, a2, a3⟩ := hs.obj x K cs hxm
        obtain ⟨b1, b2, b4, b5⟩ := hsm x e
        refine ⟨b1.trans a1, fun hnl => a2 (b4 ▸ hnl), fun hnl => ?_⟩
        rw [b4] at hnl
        obtain ⟨c1, c2, o, c3, c4⟩ := a3 hnl
        have hlt := hs.lt (l := x) (Option.isSome_iff_exists.2 ⟨_, hxm⟩) hnl
        have hnT := hTn x (Option.isSome_iff_exists.2 ⟨_, hxm⟩) hnl (idx_none e)
        have e3 : G'.hw (G.g x) = G.hw (G.g x) := hS'.old _ hlt hnT
        refine ⟨by rw [b2]; exact c1, ?_, o, by rw [b2]; exact (hS'.new.block _ hlt hnT).trans c3, by rw [b5]; exact c4.mono hX⟩
        rw [b2]
        show G'.hw (G.g x) = 0
        rw [e3]; exact c2
    · rw [hget] at hxm hym
      have hcal : ∀ l, l ∈ ns → (mget m1 l).isSome = true → G'.nl l = false → (w.heap.size ≤ G'.g l ∨ G'.g l ∈ told k Gc) := fun l _ hml hnl => by
        obtain ⟨c, hc⟩ := Option.isSome_iff_exists.1 hml
        cases c with
        | var T cs => exact (hS'.var l _ _ hc).2.1
        | tok E s => exact ((hS'.tok l _ _ hc).2.2 hnl).1
        | obj K cs => exact ((hS'.obj l _ _ hc).2.2 hnl).1
      have hmix : ∀ l y, l ∈ ns → (mget m1 l).isSome = true → G'.nl l = false → idx f ns y = none → (mget m' y).isSome = true → G.nl y = false → G'.g l ≠ G.g y := fun l y hl hml hnl hy hmy hny e => by
        rcases hcal l hl hml hnl with h | h
        · have := hs.lt hmy hny; omega
        · exact hTn y hmy hny (idx_none hy) (e ▸ h)
      have hms : ∀ l, ((match mget m1 l with | some c => some (c.ren f) | none => none) : Option Loc).isSome = true → (mget m1 l).isSome = true := fun l h => by
        cases hml : mget m1 l with
        | none => rw [hml] at h; cases h
        | some c => rfl
      cases e : idx f ns x with
      | some l =>
        obtain ⟨hl, rfl⟩ := idx_of e
        rw [e] at hxm
        obtain ⟨_, b2, _, b4, _⟩ := hin l hl
        rw [b4] at n1
        rw [b2]
        cases e' : idx f ns y with
        | some l' =>
          obtain ⟨hl', rfl⟩ := idx_of e'
          rw [e'] at hym
          obtain ⟨_, b2', _, b4', _⟩ := hin l' hl'
          rw [b4'] at n2
          rw [b2']
          exact hS'.inj l l' (hms l hxm) (hms l' hym) (fun h => hne (by rw [h])) n1 n2
        | none =>
          rw [e'] at hym
          obtain ⟨_, b2', b4', _⟩ := hsm y e'
          rw [b4'] at n2
          rw [b2']
          exact hmix l y hl (hms l hxm) n1 e' hym n2
      | none =>
        rw [e] at hxm
        simp only at hxm
        obtain ⟨_, b2, b4, _⟩ := hsm x e
        rw [b4] at n1
        rw [b2]
        cases e' : idx f ns y with
        | some l' =>
          obtain ⟨hl', rfl⟩ := idx_of e'
          rw [e'] at hym
          obtain ⟨_, b2', _, b4', _⟩ := hin l' hl'
          rw [b4'] at n2
          rw [b2']
          exact fun h => hmix l' x hl' (hms l' hym) n2 e hxm n1 h.symm
        | none =>
          rw [e'] at hym
          obtain ⟨_, b2', b4', _⟩ := hsm y e'
          rw [b4'] at n2
          rw [b2']
          exact hs.inj x y hxm hym hne n1 n2
  · cases e : idx f ns x with
    | some l =>
      obtain ⟨hl, rfl⟩ := idx_of e
      rcases Nat.lt_or_ge l k with hlk | hlk
      · exact .inl (hs.known (hsome l hlk))
      · exact .inr (nws_mem.2 ⟨l, hl, hlk, rfl⟩)
    | none => exact .inl ((hsm x e).1 ▸ hx)
theorem enter_fn {o : Oper} {F : FuncId} [hf : HasFn P F] {args : Array Operand} {ts : Array TypeId} {ds : List D} (ho : o.op = .call { callee := .value (.func F), args := args, argTypes := ts }) (hx : oevs ρ args.toList = some ds) {G : Gh} {a : Act} {w : World} (h : ∀ x ∈ o.op.operands, ∀ d, oev ρ x = some d → Rep G w d (a.eval x)) :
    ∃ vs, (execOp a.eval o).run P w = .ok (.enter F vs) w ∧ Reps G w ds vs := by
  obtain ⟨fn, h1, h2, h3⟩ := hf.fn
  refine ⟨args.map a.eval, ?_, ?_⟩
  · unfold execOp
    have e : a.eval (.func F) = .func (.func F) #[] #[] := rfl
    simp only [ho, resolve, e, Deferred.ofValue, Sem.run_bind, Sem.run_pure, Result.andThen_ok, invoke, callFunc, run_program, h1, h2, h3]
    simp
  · have := oevs_reps (G := G) (w := w) (a := a) hx fun x hx' => h x (by rw [ho]; simp [Op.operands, Call.operands]; exact .inr (by simpa using hx'))
    have e : (args.toList.map a.eval).toArray = args.map a.eval := by simp [← Array.toList_map]
    rw [e] at this; exact this
theorem r_callf {o : Oper} {F : FuncId} [hf : HasFn P F] {args : Array Operand} {ts : Array TypeId} {k : Nat} {ds ds1 : List D} {m0 : Mem} {d : D} {m1 : Mem} (hp : Fn P F k ds m0 d m1) (f : Nat → Nat) (ns : List Nat) (ho : o.op = .call { callee := .value (.func F), args := args, argTypes := ts }) (hx : oevs ρ args.toList = some ds1)
    (hu : Ups ds1 (D.rens f ds)) (hl : D.lalls (below k) ds = true) (hm : SubMf f k m m0) (hi : (ns.map f).Nodup) (hi0 : (m0.map fun x => f x.1).Nodup) (hk : ∀ l, l < k → inns ns l = true ∧ (mget m0 l).isSome = true) (h1 : Mlall (inns ns) m1 = true) (hd : d.lall (inns ns) = true) :
    OpSound P o ⟨d.ren f, [], wrs f m1 ns, nws f k ns⟩ ρ m :=
  fn_call hp f ns hu hl hm hi hi0 hk h1 hd fun _ _ _ _ _ _ h => enter_fn ho hx h
variable {ops : Array Oper} {os : List Oper} {K : List Eff → Slots → Mem → Nat → Prop}
theorem R_news {o : Oper} {E : Eff} (nx1 : Nat) (hg : gok ops ρ o = some true) (ho : OpSound P o E ρ m) (hn : nx ≤ nx1) (hw : ∀ l ∈ E.nw, nx ≤ l ∧ l < nx1) (h : R P ops os (fun Es => K (E :: Es)) (sput ρ o.dst E.d) (E.wr ++ m) nx1) : R P ops (o :: os) K ρ m nx := by
  obtain ⟨Es, ρ', m', nx', hr, hk⟩ := h
  exact ⟨E :: Es, ρ', m', nx', .step (.inl ⟨hg, ho⟩) hn hw hr, hk⟩
def PurN (P : Program) (F : FuncId) (ds : List D) (l0 : Nat) (T : TypeId) (cs : List D) (d : D) : Prop := Fn P F 0 ds [] d [(l0, some (.var T cs))]
def endN (P : Program) (rs : Array ResultVar) (l0 : Nat) (T : TypeId) (cs : List D) (d : D) : Post := fun e ρ m _ => match e with | .normal | .ret => (∃ r, rs = #[r] ∧ RetV P ρ m r d) ∧ mget m l0 = some (.var T cs) | _ => False
theorem q_endNr {rs : Array ResultVar} {r : ResultVar} {l0 : Nat} {T : TypeId} {cs : List D} {d : D} (hr : rs = #[r]) (h : RetV P ρ m r d) (hm : mget m l0 = some (.var T cs)) : endN P rs l0 T cs d .ret ρ m nx := ⟨⟨r, hr, h⟩, hm⟩
mutual
theorem D.ren_id : ∀ (d : D), d.ren (fun l => l) = d
  | .agg cs => by simp only [D.ren, D.rens_id cs]
  | .tup cs => by simp only [D.ren, D.rens_id cs]
  | .fn g cs => by simp only [D.ren, D.rens_id cs]
  | .slice tk n cs => by cases tk <;> simp [D.ren]
  | .ptr _ _ => rfl
  | .ms _ _ _ => rfl
  | .rs _ _ => rfl
  | .mp _ => rfl
  | .int _ _ => rfl
  | .bool _ => rfl
  | .str _ => rfl
  | .eptr _ => rfl
  | .raw _ => rfl
  | .opq => rfl
  | .undef => rfl
theorem D.rens_id : ∀ (ds : List D), D.rens (fun l => l) ds = ds
  | [] => rfl
  | d :: ds => by simp only [D.rens, D.ren_id d, D.rens_id ds]
end
mutual
theorem D.cl_ren (f : Nat → Nat) (p : Nat → Bool) : ∀ (d : D), d.cl = true → d.ren f = d ∧ d.lall p = true
  | .agg cs, h => by simp only [D.cl] at h; simp only [D.ren, D.lall, (D.cls_ren f p cs h).1, (D.cls_ren f p cs h).2, and_self]
  | .tup cs, h => by simp only [D.cl] at h; simp only [D.ren, D.lall, (D.cls_ren f p cs h).1, (D.cls_ren f p cs h).2, and_self]
  | .fn g cs, h => by simp only [D.cl] at h; simp only [D.ren, D.lall, (D.cls_ren f p cs h).1, (D.cls_ren f p cs h).2, and_self]
  | .slice tk n cs, h => by cases tk <;> simp [D.cl] at h <;> simp [D.ren, D.lall]
  | .ptr _ _, h => by simp [D.cl] at h
  | .ms _ _ _, h => by simp [D.cl] at h
  | .rs _ _, h => by simp [D.cl] at h
  | .mp _, h => by simp [D.cl] at h
  | .int _ _, _ => ⟨rfl, rfl⟩
  | .bool _, _ => ⟨rfl, rfl⟩
  | .str _, _ => ⟨rfl, rfl⟩
  | .eptr _, _ => ⟨rfl, rfl⟩
  | .raw _, _ => ⟨rfl, rfl⟩
  | .opq, _ => ⟨rfl, rfl⟩
  | .undef, _ => ⟨rfl, rfl⟩
theorem D.cls_ren (f : Nat → Nat) (p : Nat → Bool) : ∀ (ds : List D), D.cls ds = true → D.rens f ds = ds ∧ D.lalls p ds = true
  | [], _ => ⟨rfl, rfl⟩
  | d :: ds, h => by
    simp only [D.cls, Bool.and_eq_true] at h
    simp only [D.rens, D.lalls, (D.cl_ren f p d h.1).1, (D.cl_ren f p d h.1).2, (D.cls_ren f p ds h.2).1, (D.cls_ren f p ds h.2).2, Bool.and_self, and_self]
end
theorem purn_intro {F : FuncId} {fn : Func} {c : Code} {ds : List D} {d : D} {l0 : Nat} {T : TypeId} {cs : List D} {N : Nat} (hf : P.funcs[F]? = some fn) (hb : fn.body = some c) (hn : fn.ntmps = N) (hl : Nat.ble ds.length N = true) (h : ∀ (B : Base) [B.Lim 0], W P B N c (endN P fn.results l0 T cs d) (slots0 ds 0) [] 0)
    (hd : d.lall (below (l0 + 1)) = true := by rfl) (hcs : D.lalls (below (l0 + 1)) cs = true := by rfl) : PurN P F ds l0 T cs d := by
  refine fn_intro hf hb hn hl fun B _ => W_mono (h B) fun e ρ m nx hq => ?_
  have key : ((∃ r, fn.results = #[r] ∧ RetV P ρ m r d) ∧ mget m l0 = some (.var T cs)) → ∃ (f : Nat → Nat) (K : Nat), RetsF P f ρ m fn.results d ∧ d.lall (below K) = true ∧ SubMf f K m [(l0, some (.var T cs))] ∧ (([(l0, some (.var T cs))] : Mem).map fun x => f x.1).Nodup ∧ 0 ≤ K ∧ ∀ l, l < 0 → f l = l := by
    rintro ⟨⟨r, hr, hv⟩, hm⟩
    refine ⟨fun l => l, l0 + 1, ?_, hd, ⟨⟨by simp [below], cs, hm, ?_, hcs⟩, trivial⟩, by simp, Nat.zero_le _, fun l hl => by omega⟩
    · rw [hr]; exact .r1 hv (by rw [D.ren_id]; exact .refl d)
    · rw [D.rens_id]; exact Ups.refl cs
  cases e with
  | normal => exact key hq
  | ret => exact key hq
  | _ => exact hq.elim
theorem k_calln {t : Tmp} {F : FuncId} [HasFn P F] {args : Array Operand} {ts : Array TypeId} {ds ds' : List D} {d d' : D} {l0 : Nat} {T : TypeId} {cs : List D} {V : TypeId} {pos : String} {af : Array Edge} {gd : Option (Nat × Bool)} (hg : gok ops ρ ⟨some t, .call { callee := .value (.func F), args := args, argTypes := ts }, V, pos, af, gd⟩ = some true)
    (hp : PurN P F ds' l0 T cs d) (hx : oevs ρ args.toList = some ds) (hfz : ds = ds') (hc : D.cls ds' = true) (hcs : D.cls cs = true) (hd : d.lall (Nat.beq l0) = true) (hd' : d.ren (fun _ => nx) = d')
    (hh : R P ops os (fun Es => K (⟨d', [], [(nx, some (.var T cs))], [nx]⟩ :: Es)) ((t, d') :: ρ) ((nx, some (.var T cs)) :: m) (nx + 1)) : R P ops (⟨some t, .call { callee := .value (.func F), args := args, argTypes := ts }, V, pos, af, gd⟩ :: os) K ρ m nx := by
  subst hfz; subst hd'
  obtain ⟨e1, e2⟩ := D.cls_ren (fun _ => nx) (below 0) ds hc
  obtain ⟨e3, _⟩ := D.cls_ren (fun _ => nx) (below 0) cs hcs
  have h := r_callf (ρ := ρ) (m := m) (o := ⟨some t, .call { callee := .value (.func F), args := args, argTypes := ts }, V, pos, af, gd⟩) hp (fun _ => nx) [l0] rfl hx (by rw [e1]; exact Ups.refl ds) e2 trivial (by simp) (by simp) (fun l hl => by omega) (by
    obtain ⟨_, e4⟩ := D.cls_ren (fun _ => nx) (inns [l0]) cs hcs
    simp [Mlall, inns, e4]) (by
      have : inns [l0] = fun l => Nat.beq l l0 := by funext l; simp [inns]
      have h2 : (fun l => Nat.beq l l0) = Nat.beq l0 := by funext l; rw [Bool.eq_iff_iff]; simp; exact eq_comm
      rw [this, h2]; exact hd)
  have e : (⟨d.ren (fun _ => nx), [], wrs (fun _ => nx) [(l0, some (.var T cs))] [l0], nws (fun _ => nx) 0 [l0]⟩ : Eff) = ⟨d.ren (fun _ => nx), [], [(nx, some (.var T cs))], [nx]⟩ := by
    simp [wrs, nws, mget, Nat.beq_refl, Loc.ren, e3, show Nat.blt l0 0 = false from rfl]
  rw [e] at h
  exact R_new hg h rfl hh
end
end Go.Proofs.YtcfefmbbbfdppaaGreatDoor
