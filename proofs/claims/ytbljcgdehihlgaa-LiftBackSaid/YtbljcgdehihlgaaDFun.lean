/- Functions that give a new variable with what they give. Of any program. No conditions. -/
import Derived.Test.YtbljcgdehihlgaaDCode
namespace Go.Proofs.Ytbljcgdehihlgaa
open Go.RowKit
set_option linter.unusedVariables false
set_option linter.unusedSimpArgs false

mutual
/-- the variables named anew -/
def D.ren (f : Nat → Nat) : D → D
  | .agg cs => .agg (D.rens f cs)
  | .tup cs => .tup (D.rens f cs)
  | .fn g cs => .fn g (D.rens f cs)
  | .slice tk n cs => .slice (match tk with | .own k => .own (f k) | t => t) n cs
  | .ptr l off => .ptr (f l) off
  | d => d
def D.rens (f : Nat → Nat) : List D → List D
  | [] => []
  | d :: ds => d.ren f :: D.rens f ds
end
mutual
/-- all variables that are named are such -/
def D.lall (p : Nat → Bool) : D → Bool
  | .agg cs | .tup cs | .fn _ cs => D.lalls p cs
  | .slice tk _ _ => match tk with | .own k => p k | _ => true
  | .ptr l _ => p l
  | _ => true
def D.lalls (p : Nat → Bool) : List D → Bool
  | [] => true
  | d :: ds => d.lall p && D.lalls p ds
end
theorem D.lalls_mem {p : Nat → Bool} : ∀ {ds : List D}, D.lalls p ds = true → ∀ d ∈ ds, d.lall p = true
  | [], _, _, h => by simp at h
  | x :: xs, h, d, hd => by
    simp only [D.lalls, Bool.and_eq_true] at h
    rcases List.mem_cons.1 hd with rfl | hd
    · exact h.1
    · exact D.lalls_mem h.2 d hd
theorem D.rens_length (f : Nat → Nat) : ∀ (ds : List D), (D.rens f ds).length = ds.length
  | [] => rfl
  | _ :: ds => by simp [D.rens, D.rens_length f ds]
theorem D.rens_get (f : Nat → Nat) : ∀ (ds : List D) (i : Nat), (D.rens f ds)[i]? = (ds[i]?).map (D.ren f)
  | [], i => by simp [D.rens]
  | d :: ds, 0 => by simp [D.rens]
  | d :: ds, i + 1 => by simp [D.rens, D.rens_get f ds i]
theorem D.ren_one (f : Nat → Nat) (d : D) : (d.ren f).one = d.one := by cases d <;> simp [D.ren, D.one]

theorem Rep.ren {G : Gh} {w : World} {d : D} {v : Value} (h : Rep G w d v) (G' : Gh) (f : Nat → Nat) (p : Nat → Bool) (hf : ∀ l, G.kn l = true → p l = true → G'.kn (f l) = true ∧ G'.g (f l) = G.g l ∧ (G'.al (f l) = true → G.al l = true)) (hw : G'.hw = G.hw) (hp : d.lall p = true) : Rep G' w (d.ren f) v := by
  have key : ∀ (ds : List D) (vs : Array Value), (∀ (i : Nat) (d : D) (v : Value), ds[i]? = some d → vs[i]? = some v → d.lall p = true → Rep G' w (d.ren f) v) → D.lalls p ds = true → ∀ (i : Nat) (d : D) (v : Value), (D.rens f ds)[i]? = some d → vs[i]? = some v → Rep G' w d v := by
    intro ds vs ih hl i d v hd hv
    rw [D.rens_get] at hd
    obtain ⟨d0, h0, rfl⟩ := Option.map_eq_some_iff.1 hd
    exact ih i d0 v h0 hv (D.lalls_mem hl d0 (List.mem_of_getElem? h0))
  induction h with
  | int k n => exact .int k n
  | bool b => exact .bool b
  | str s => exact .str s
  | agg ds vs hl h1 _ ih =>
    refine .agg _ vs (by rw [D.rens_length]; exact hl) (fun d hd => ?_) (key ds vs ih (by simpa [D.lall] using hp))
    obtain ⟨i, hi⟩ := List.getElem?_of_mem hd
    rw [D.rens_get] at hi
    obtain ⟨d0, h0, rfl⟩ := Option.map_eq_some_iff.1 hi
    rw [D.ren_one]; exact h1 d0 (List.mem_of_getElem? h0)
  | tup ds vs hl _ ih => exact .tup _ vs (by rw [D.rens_length]; exact hl) (key ds vs ih (by simpa [D.lall] using hp))
  | nil tk hk =>
    refine .nil _ fun k e => ?_
    cases tk with
    | own j =>
      simp only [Tok.own.injEq] at e
      subst e
      exact (hf j (hk j rfl) (by simpa [D.lall] using hp)).1
    | frozen => cases e
    | tight => cases e
  | slice tk n cs b o cap vs hl h1 h hh hc hb hn ht _ =>
    refine .slice _ n cs b o cap vs hl h1 (fun i d v hd hv => (h i d v hd hv).closed G' hw (h1 d (List.mem_of_getElem? hd)).2) (by rw [hw]; exact hh) hc hb hn ?_
    cases tk with
    | frozen => trivial
    | tight => exact ht
    | own j =>
      obtain ⟨a1, a2, a3⟩ := hf j ht.1 (by simpa [D.lall] using hp)
      exact ⟨a1, fun ha => by rw [a2, hw]; exact ht.2 (a3 ha)⟩
  | ptr l off h =>
    obtain ⟨a1, a2, _⟩ := hf l h (by simpa [D.lall] using hp)
    rw [← a2]; exact .ptr _ off a1
  | eptr cs b o vs hl h1 h hh hc _ => exact .eptr cs b o vs hl h1 (fun i d v hd hv => (h i d v hd hv).closed G' hw (h1 d (List.mem_of_getElem? hd)).2) (by rw [hw]; exact hh) hc
  | fn g ds vs hl _ ih => exact .fn g _ vs (by rw [D.rens_length]; exact hl) (key ds vs ih (by simpa [D.lall] using hp))
  | raw v h => exact .raw v h
  | opq v h => exact .opq v h
  | undef v => exact .undef v

/-- A FUNCTION THAT MAKES OF THIS DATA THAT, AND A NEW VARIABLE which it names -/
def PurN (P : Program) (F : FuncId) (ds : List D) (l0 : Nat) (T : TypeId) (cs : List D) (d : D) : Prop :=
  ∀ (w : World) (hw : Nat → Nat) (vs : Array Value), HwOk hw w → Reps (bare hw) w ds vs → Calls P F vs w fun e w' => ∃ v G', e = .returned v ∧ Sim ⟨w, hw, []⟩ G' [(l0, some (.var T cs))] w' ∧ Rep G' w' d v

section
variable {P : Program} {B : Base} {N : Nat} {ρ : Slots} {m : Mem} {nx : Nat}
/-- the one result, as it is -/
def endN (P : Program) (rs : Array ResultVar) (l0 : Nat) (T : TypeId) (cs : List D) (d : D) : Post := fun e ρ m _ => match e with | .normal | .ret => (∃ r, rs = #[r] ∧ RetV P ρ m r d) ∧ mget m l0 = some (.var T cs) | _ => False
theorem q_endNr {rs : Array ResultVar} {r : ResultVar} {l0 : Nat} {T : TypeId} {cs : List D} {d : D} (hr : rs = #[r]) (h : RetV P ρ m r d) (hm : mget m l0 = some (.var T cs)) : endN P rs l0 T cs d .ret ρ m nx := ⟨⟨r, hr, h⟩, hm⟩

theorem purn_intro {F : FuncId} {fn : Func} {c : Code} {ds : List D} {d : D} {l0 : Nat} {T : TypeId} {cs : List D} {N : Nat} (hf : P.funcs[F]? = some fn) (hb : fn.body = some c) (hn : fn.ntmps = N) (hl : Nat.ble ds.length N = true) (h : ∀ B, W P B N c (endN P fn.results l0 T cs d) (slots0 ds 0) [] 0) : PurN P F ds l0 T cs d := by
  intro w hw vs hok hvs
  have hle := Nat.le_of_ble_eq_true hl
  refine calls_of_wp hf hb (wp_mono (h ⟨w, hw, []⟩ (bare hw) _ w ⟨⟨Keep.refl [] w, fun _ _ => rfl, fun l T cs hm => by simp [mget] at hm, fun l hm => by simp [mget] at hm, fun l l' a => by simp [mget] at a, hok⟩, rfl, ?_, fun t x hx => ?_, fun l hl => by simp [bare] at hl⟩) ?_)
  · have := hvs.1
    simp [hn]; omega
  · obtain ⟨_, h2⟩ := slots0_get ds 0 t x hx
    rw [Nat.sub_zero] at h2
    obtain ⟨v, hv, hr⟩ := hvs.at_ h2
    have hlt : t < vs.size := (Array.getElem?_eq_some_iff.1 hv).1
    have : (vs ++ Array.replicate (fn.ntmps - vs.size) undef)[t]? = some v := by rw [Array.getElem?_append_left hlt]; exact hv
    simp only [Act.eval, Array.getD_eq_getD_getElem?, this, Option.getD_some]
    exact hr
  · rintro e a' w' ⟨ρ', m', nx', G', hs', hq⟩
    have fin : ∀ {v : Value}, mget m' l0 = some (.var T cs) → Rep G' w' d v → ∃ v' G', (Ending.returned v) = .returned v' ∧ Sim ⟨w, hw, []⟩ G' [(l0, some (.var T cs))] w' ∧ Rep G' w' d v' := fun {v} hm hr => by
      refine ⟨v, G', rfl, ⟨hs'.sim.new, hs'.sim.old, fun l T' cs' hl => ?_, fun l hl => ?_, fun l l' a b hne => ?_, hs'.sim.data⟩, hr⟩
      · simp only [mget] at hl
        rcases Bool.eq_false_or_eq_true (Nat.beq l0 l) with hb | hb
        · simp only [hb, cond_true, Option.some.injEq, Loc.var.injEq] at hl
          obtain ⟨rfl, rfl⟩ := hl
          have := Nat.eq_of_beq_eq_true hb
          subst this
          exact hs'.sim.var _ _ _ hm
        · simp [hb] at hl
      · simp only [mget] at hl
        rcases Bool.eq_false_or_eq_true (Nat.beq l0 l) with hb | hb <;> simp [hb] at hl
      · exfalso
        simp only [mget] at a b
        rcases Bool.eq_false_or_eq_true (Nat.beq l0 l) with h1 | h1
        · rcases Bool.eq_false_or_eq_true (Nat.beq l0 l') with h2 | h2
          · exact hne ((Nat.eq_of_beq_eq_true h1).symm.trans (Nat.eq_of_beq_eq_true h2))
          · simp [h2] at b
        · simp [h1] at a
    cases e with
    | normal =>
      obtain ⟨⟨r, hr, hv⟩, hm⟩ := hq
      obtain ⟨v, hv, hrep⟩ := hv.run hs'
      exact bodyPost_end (by rw [results_1 hr, hv]; rfl) hs'.defers (fin hm hrep)
    | ret =>
      obtain ⟨⟨r, hr, hv⟩, hm⟩ := hq
      obtain ⟨v, hv, hrep⟩ := hv.run hs'
      exact bodyPost_ret (by rw [results_1 hr, hv]; rfl) hs'.defers (fin hm hrep)
    | _ => exact hq.elim

theorem r_calln {o : Oper} {F : FuncId} [hf : HasFn P F] {args : Array Operand} {ts : Array TypeId} {ds ds' : List D} {d d' : D} {l0 : Nat} {T : TypeId} {cs : List D} (l : Nat) (hp : PurN P F ds' l0 T cs d) (ho : o.op = .call { callee := .value (.func F), args := args, argTypes := ts }) (hx : oevs ρ args.toList = some ds) (hfz : D.fzs ds = ds') (hc : D.cls ds' = true) (hcs : D.cls cs = true)
    (hd : d.lall (Nat.beq l0) = true) (hd' : d.ren (fun _ => l) = d') : OpSound P o ⟨d', [], [(l, some (.var T cs))], [l]⟩ ρ m := by
  obtain ⟨fn, h1, h2, h3⟩ := hf.fn
  intro B G a w m' K Q hs h ht hn hK
  have hkl : G.kn l = false := hn l (by simp)
  have hargs := (oevs_reps (G := G) (w := w) (a := a) hx fun x hx' => h x (by rw [ho]; simp [Op.operands, Call.operands]; exact .inr (by simpa using hx'))).fzs
  have e : (args.toList.map a.eval).toArray = args.map a.eval := by simp [← Array.toList_map]
  rw [hfz, e] at hargs
  have hr0 : Reps (bare G.hw) w ds' (args.map a.eval) := ⟨hargs.1, fun i d v hd hv => (hargs.2 i d v hd hv).closed (bare G.hw) rfl (D.cls_mem hc d (List.mem_of_getElem? hd))⟩
  unfold Oper.wp
  have hrun : (execOp a.eval o).run P w = .ok (.enter F (args.map a.eval)) w := by
    unfold execOp
    have e : a.eval (.func F) = .func (.func F) #[] #[] := rfl
    simp only [ho, resolve, e, Deferred.ofValue, Sem.run_bind, Sem.run_pure, Result.andThen_ok, invoke, callFunc, run_program, h1, h2, h3]
    simp
  rw [hrun, Oper.upon_enter]
  refine (hp w G.hw _ hs.data hr0).mono fun e w' ⟨v, G', he, hS, hrv⟩ => ?_
  subst he
  have hN : New w w' := hS.new.nil
  obtain ⟨b1, b2, b3, vs', b4, b5, b6⟩ := hS.var l0 T cs (by simp [mget])
  have b2 : w.heap.size ≤ G'.g l0 := b2.resolve_right (by simp)
  have hold : ∀ b, b < w.heap.size → G'.hw b = G.hw b := hS.old
  have hlt : ∀ b, 0 < G.hw b → b < w.heap.size := fun b hb => by
    obtain ⟨_, _, _, hv, _⟩ := hs.data b hb
    exact (Array.getElem?_eq_some_iff.1 hv).1
  have hle : ∀ b, G.hw b ≤ G'.hw b := fun b => by
    rcases Nat.eq_zero_or_pos (G.hw b) with h0 | h0
    · omega
    · rw [hold b (hlt b h0)]; exact Nat.le_refl _
  have hmb : ∀ k, (mget m' k).isSome = true → G.g k < w.heap.size := fun k hk => hs.lt hk
  have hx0 := Ext.grow hs.data hN
  let G2 : Gh := ⟨fun k => G.kn k || k == l, fun k => if k = l then G'.g l0 else G.g k, fun k => G.al k && decide (G.g k < w.heap.size) && !(k == l), G'.hw⟩
  have hne : ∀ k, G.kn k = true → k ≠ l := fun k hk e => by rw [e, hkl] at hk; cases hk
  have hg : ∀ k, G.kn k = true → G2.g k = G.g k := fun k hk => by simp [G2, hne k hk]
  have hgl : G2.g l = G'.g l0 := by simp [G2]
  have hX : Ext G w G2 w' := by
    refine ⟨fun k hk => ⟨by simp [G2, hk], hg k hk, fun ha => ?_⟩, hle, hx0.cell, hx0.size⟩
    simp only [G2, Bool.and_eq_true, decide_eq_true_iff] at ha
    exact ⟨ha.1.1, hold _ ha.1.2⟩
  have hget : ∀ k, k ≠ l → mget ((l, some (.var T cs)) :: m') k = mget m' k := fun k hne => by
    have : Nat.beq l k = false := by rw [← Bool.not_eq_true]; exact fun h => hne (Nat.eq_of_beq_eq_true h).symm
    simp [mget, this]
  have hkm : ∀ k, (mget m' k).isSome = true → G.kn k = true := fun k hk => by
    cases hm : mget m' k with
    | none => rw [hm] at hk; cases hk
    | some c => cases c with
      | var T cs => exact (hs.var k T cs hm).1
      | tok => exact (hs.tok k hm).1
  have hfin : Rep G2 w' d' v := by
    rw [← hd']
    refine hrv.ren G2 (fun _ => l) (Nat.beq l0) (fun k hk hpk => ?_) rfl hd
    have := Nat.eq_of_beq_eq_true hpk
    subst this
    exact ⟨by simp [G2], hgl, fun ha => by simp [G2] at ha⟩
  refine hK v w' G2 hX ?_ hfin fun k hk => ?_
  · have hs' := hs.grow hN
    show Sim B G2 ((l, some (.var T cs)) :: m') w'
    refine ⟨hs'.new, fun b hb => ?_, fun k T' cs' hk => ?_, fun k hk => ?_, fun k k' a b hkk => ?_, hS.data⟩
    · show G'.hw b = B.hw b
      rw [hold b (Nat.lt_of_lt_of_le hb hs.new.size)]; exact hs.old b hb
    · by_cases hkl' : k = l
      · subst hkl'
        simp only [mget, Nat.beq_refl, cond_true, Option.some.injEq, Loc.var.injEq] at hk
        obtain ⟨rfl, rfl⟩ := hk
        refine ⟨by simp [G2], by rw [hgl]; exact .inl (Nat.le_trans hs.new.size b2), by rw [hgl]; exact b3, vs', by rw [hgl]; exact b4, ?_, b6⟩
        exact ⟨b5.1, fun i d v hd hv => (b5.2 i d v hd hv).closed G2 rfl (D.cls_mem hcs d (List.mem_of_getElem? hd))⟩
      · rw [hget k hkl'] at hk
        obtain ⟨a1, a2, a3, vs2, a4, a5, a6⟩ := hs.var k T' cs' hk
        have hlk := hmb k (by rw [hk]; rfl)
        refine ⟨by simp [G2, a1], by rw [hg k a1]; exact a2, by rw [hg k a1]; exact (hold _ hlk).trans a3, vs2, by rw [hg k a1]; exact (hN.block _ hlk).trans a4, a5.mono hX, a6⟩
    · by_cases hkl' : k = l
      · subst hkl'
        simp [mget, Nat.beq_refl] at hk
      · rw [hget k hkl'] at hk
        obtain ⟨a1, a2, a3, vs2, T2, a4, a5⟩ := hs.tok k hk
        have hlk := hmb k (by rw [hk]; rfl)
        refine ⟨by simp [G2, a1], by simp [G2, a2, hlk, hkl'], by rw [hg k a1]; exact a3, vs2, T2, by rw [hg k a1]; exact (hN.block _ hlk).trans a4, ?_⟩
        rw [hg k a1]
        show G'.hw (G.g k) ≤ _
        rw [hold _ hlk]; exact a5
    · by_cases h1' : k = l
      · subst h1'
        rw [hget k' (Ne.symm hkk)] at b
        have := hmb k' b
        rw [hgl, hg k' (hkm k' b)]; omega
      · by_cases h2' : k' = l
        · subst h2'
          rw [hget k h1'] at a
          have := hmb k a
          rw [hgl, hg k (hkm k a)]; omega
        · rw [hget k h1'] at a; rw [hget k' h2'] at b
          rw [hg k (hkm k a), hg k' (hkm k' b)]
          exact hs.inj k k' a b hkk
  · simp only [G2, Bool.or_eq_true, beq_iff_eq] at hk
    rcases hk with h | h
    · exact .inl h
    · exact .inr (by simp [h])

variable {ops : Array Oper} {os : List Oper} {K : List Eff → Slots → Mem → Nat → Prop}
theorem k_calln {t : Tmp} {F : FuncId} [HasFn P F] {args : Array Operand} {ts : Array TypeId} {ds ds' : List D} {d d' : D} {l0 : Nat} {T : TypeId} {cs : List D} {V : TypeId} {pos : String} {af : Array Edge} {gd : Option (Nat × Bool)} (hg : gok ops ρ ⟨some t, .call { callee := .value (.func F), args := args, argTypes := ts }, V, pos, af, gd⟩ = some true)
    (hp : PurN P F ds' l0 T cs d) (hx : oevs ρ args.toList = some ds) (hfz : D.fzs ds = ds') (hc : D.cls ds' = true) (hcs : D.cls cs = true) (hd : d.lall (Nat.beq l0) = true) (hd' : d.ren (fun _ => nx) = d')
    (hh : R P ops os (fun Es => K (⟨d', [], [(nx, some (.var T cs))], [nx]⟩ :: Es)) ((t, d') :: ρ) ((nx, some (.var T cs)) :: m) (nx + 1)) : R P ops (⟨some t, .call { callee := .value (.func F), args := args, argTypes := ts }, V, pos, af, gd⟩ :: os) K ρ m nx :=
  R_new hg (r_calln nx hp rfl hx hfz hc hcs hd hd') rfl hh
end
end Go.Proofs.Ytbljcgdehihlgaa
