/- Calls that are told of parts of variables, and only read them. Of any program. No conditions. -/
import Derived.Test.YtnlacdclnhoghaaDFun
namespace Go.Proofs.Ytnlacdclnhoghaa
open Go.RowKit
set_option linter.unusedVariables false
set_option linter.unusedVariables false

/-- how much there is of a block -/
def allsz (w : World) (b : Nat) : Nat := match w.heap[b]? with | some (.cells vs _ _) => vs.size | _ => 0

/-- what a callee reads that keeps nothing -/
inductive Views (m : Mem) : List D → List D → List Nat → Prop where
  | nil : Views m [] [] []
  | fz {d e : D} {ds es : List D} {rd : List Nat} (h : d.fz = e) (hc : e.cl = true) (t : Views m ds es rd) : Views m (d :: ds) (e :: es) rd
  | ms {l off n : Nat} {T : TypeId} {vs cs : List D} {ds es : List D} {rd : List Nat} (c : Nat) (hm : mget m l = some (.var T vs)) (hcs : (vs.drop off).take c = cs) (hle : Nat.ble (off + c) vs.length = true) (hcl : D.cls cs = true) (t : Views m ds es rd) : Views m (.ms l off n :: ds) (.slice .frozen n cs :: es) (l :: rd)

theorem Views.reps {m m' : Mem} {B : Base} {G : Gh} {w : World} (hs : Sim B G m' w) {hw2 : Nat → Nat} (hle : ∀ b, G.hw b ≤ hw2 b) : ∀ {ds es : List D} {rd : List Nat}, Views m ds es rd → (∀ l ∈ rd, mget m' l = mget m l) → (∀ l ∈ rd, hw2 (G.g l) = allsz w (G.g l)) → ∀ {vs : Array Value}, Reps G w ds vs → Reps (bare hw2) w es vs := by
  intro ds es rd h
  induction h with
  | nil => intro _ _ vs h; rw [h.unnil]; exact Reps.nil
  | fz h hc t ih =>
    intro h1 h2 vs hr
    obtain ⟨v, rest, rfl, hv, hrest⟩ := hr.uncons
    refine Reps.cons ?_ (ih h1 h2 hrest)
    have := hv.fz
    rw [h] at this
    have := this.closed (bare G.hw) rfl hc
    exact this.mono ⟨fun l hl => by simp [bare] at hl, hle, fun _ _ _ => rfl, Nat.le_refl _⟩
  | @ms l off n T vs cs ds es rd c hm hcs hle' hcl t ih =>
    intro h1 h2 vs' hr
    obtain ⟨v, rest, rfl, hv, hrest⟩ := hr.uncons
    refine Reps.cons ?_ (ih (fun l hl => h1 l (by simp [hl])) (fun l hl => h2 l (by simp [hl])) hrest)
    have hml : mget m' l = some (.var T vs) := (h1 l (by simp)).trans hm
    obtain ⟨a1, a2, a3, a4, cur, a5, a6, a7⟩ := hs.var l T vs hml
    have hsz : hw2 (G.g l) = cur.size := by rw [h2 l (by simp)]; unfold allsz; rw [a5]
    have hle'' := Nat.le_of_ble_eq_true hle'
    have hcu := a6.1
    have hlen : cs.length = c := by rw [← hcs]; simp; omega
    cases hv with
    | ms l off n cap hk hn =>
      refine .slice .frozen n cs (G.g l) off cap (cur.extract off (off + c)) (by simp; omega) (fun d hd => ?_) (fun i d v hd hv => ?_) (by show _ ≤ hw2 (G.g l); rw [hsz]; omega) (fun i hi => ?_) (hs.vlt hml) hn trivial
      · refine ⟨?_, D.cls_mem hcl d hd⟩
        rw [← hcs] at hd
        exact a7 d (List.mem_of_mem_drop (List.mem_of_mem_take hd))
      · have hcd : d.cl = true := D.cls_mem hcl d (List.mem_of_getElem? hd)
        rw [← hcs, List.getElem?_take] at hd
        split at hd
        · rw [List.getElem?_drop] at hd
          rw [Array.getElem?_extract] at hv
          split at hv
          · exact ((a6.2 _ d v hd hv).closed (bare G.hw) rfl hcd).mono ⟨fun l hl => by simp [bare] at hl, hle, fun _ _ _ => rfl, Nat.le_refl _⟩
          · cases hv
        · cases hd
      · rw [cell_of_row w _ _ cur T (0, 0) a5, Array.getElem?_extract, if_pos (by omega)]

section
variable {P : Program} {o : Oper} {ρ : Slots} {m : Mem}
theorem r_callms {F : FuncId} [hf : HasFn P F] {args : Array Operand} {ts : Array TypeId} {ds ds' : List D} {d : D} {rd : List Nat} (hp : Pur P F ds' d) (ho : o.op = .call { callee := .value (.func F), args := args, argTypes := ts }) (hx : oevs ρ args.toList = some ds) (hv : Views m ds ds' rd) (hd : d.ok = true) : OpSound P o ⟨d, rd, [], []⟩ ρ m := by
  intro B G a w m' K Q hs h hag hn hK
  obtain ⟨vs, hrun, hr⟩ := enter_fn (P := P) ho hx h
  let hw2 : Nat → Nat := fun b => if b ∈ rd.map G.g then allsz w b else G.hw b
  have hagl : ∀ l ∈ rd, mget m' l = mget m l := fun l hl => hag l (by unfold Eff.touch; rw [Bool.or_eq_true]; exact .inl (List.any_eq_true.2 ⟨l, hl, by simp⟩))
  have hok : HwOk hw2 w := fun b hb => by
    by_cases c : b ∈ rd.map G.g
    · have e : hw2 b = allsz w b := by simp only [hw2]; rw [if_pos c]
      rw [e] at hb ⊢
      unfold allsz at hb ⊢
      cases hh : w.heap[b]? with
      | none => rw [hh] at hb; simp at hb
      | some ob => cases ob with
        | cells vs T fr => exact ⟨vs, T, fr, rfl, Nat.le_refl _⟩
        | _ => rw [hh] at hb; simp at hb
    · have e : hw2 b = G.hw b := by simp only [hw2]; rw [if_neg c]
      rw [e] at hb ⊢
      exact hs.data b hb
  have hle : ∀ b, G.hw b ≤ hw2 b := fun b => by
    by_cases c : b ∈ rd.map G.g
    · have e : hw2 b = allsz w b := by simp only [hw2]; rw [if_pos c]
      rw [e]
      rcases Nat.eq_zero_or_pos (G.hw b) with h0 | h0
      · omega
      · obtain ⟨vs, T, fr, h1, h2⟩ := hs.data b h0
        unfold allsz; rw [h1]; exact h2
    · have e : hw2 b = G.hw b := by simp only [hw2]; rw [if_neg c]
      rw [e]; exact Nat.le_refl _
  have hr2 := hv.reps hs hle hagl (fun l hl => by simp only [hw2]; rw [if_pos (List.mem_map.2 ⟨l, hl, rfl⟩)]) hr
  unfold Oper.wp
  rw [hrun, Oper.upon_enter]
  refine (hp w hw2 vs hs.gtab_ hok hr2).mono fun e w' ⟨v, hw', he, hN, _, _, hrv⟩ => ?_
  subst he
  obtain ⟨u, hu, hru⟩ := D.ok_val G w' d hd
  have := hrv.val_eq hu
  subst this
  exact hK v w' G (Ext.grow hs.data hN) (hs.grow hN) hru fun l hl => .inl hl
end

section
variable {P : Program} {ρ : Slots} {m : Mem} {nx : Nat} {ops : Array Oper} {os : List Oper} {K : List Eff → Slots → Mem → Nat → Prop}
theorem k_callms {t : Tmp} {F : FuncId} [HasFn P F] {args : Array Operand} {ts : Array TypeId} {ds ds' : List D} {d : D} {rd : List Nat} {V : TypeId} {pos : String} {af : Array Edge} {gd : Option (Nat × Bool)} (hg : gok ops ρ ⟨some t, .call { callee := .value (.func F), args := args, argTypes := ts }, V, pos, af, gd⟩ = some true)
    (hp : Pur P F ds' d) (hx : oevs ρ args.toList = some ds) (hv : Views m ds ds' rd) (hd : d.ok = true) (hh : R P ops os (fun Es => K (⟨d, rd, [], []⟩ :: Es)) ((t, d) :: ρ) m nx) : R P ops (⟨some t, .call { callee := .value (.func F), args := args, argTypes := ts }, V, pos, af, gd⟩ :: os) K ρ m nx :=
  R_cons hg (r_callms hp rfl hx hv hd) rfl hh
end
end Go.Proofs.Ytnlacdclnhoghaa
