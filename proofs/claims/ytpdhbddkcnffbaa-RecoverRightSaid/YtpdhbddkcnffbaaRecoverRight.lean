/- RecoverRight: whatever point is told by a signature, the signature is right by it. No conditions. -/
import Derived.Test.YtpdhbddkcnffbaaDFun
import Derived.Test.YtpdhbddkcnffbaaDSl
import Derived.Deep.Upon
import Derived.Test.YtpdhbddkcnffbaaDInst
import Derived.Lib.BytesEntry
import Derived.Scope
import Derived.Lib.ConvBytes
import Derived.Laws.IdiomStrings
import Derived.Test.YtpdhbddkcnffbaaDNum
import Derived.Test.YtpdhbddkcnffbaaSgnM
import Derived.Test.YtpdhbddkcnffbaaLaw
import Derived.Test.YtpdhbddkcnffbaaRow
namespace Go.Proofs.Ytpdhbddkcnffbaa
open Go.RowKit
set_option linter.unusedVariables false
set_option linter.unusedVariables false

/-- how much there is of a block -/
def allsz (w : World) (b : Nat) : Nat := match w.heap[b]? with | some (.cells vs _ _) => vs.size | _ => 0

/-- what a callee reads that keeps nothing -/
inductive Views (m : Mem) : List D → List D → List Nat → Prop where
  | nil : Views m [] [] []
  | fz {d e : D} {ds es : List D} {rd : List Nat} (h : d.fz = e) (hc : e.cl = true) (t : Views m ds es rd) : Views m (d :: ds) (e :: es) rd
  | ms {l off n : Nat} {T : TypeId} {vs cs : List D} {ds es : List D} {rd : List Nat} (c : Nat) (hm : mget m l = some (.var T vs)) (hcs : (vs.drop off).take c = cs) (hle : Nat.ble (off + c) vs.length = true) (hcl : D.cls cs = true) (t : Views m ds es rd) : Views m (.ms l off n :: ds) (.slice .frozen n cs :: es) (l :: rd)

theorem Views.reps {m m' : Mem} {B : Base} {G : Gh} {w : World} (hs : Sim B G m' w) {hw2 : Nat → Nat} (hle : ∀ b, G.hw b ≤ hw2 b) : ∀ {ds es : List D} {rd : List Nat}, Views m ds es rd → (∀ l ∈ rd, mget m' l = mget m l) → (∀ l ∈ rd, hw2 (G.g l) = allsz w (G.g l)) → ∀ {vs : Array Value}, Reps G w ds vs → Reps (bare hw2) w es vs := by
  intro ds es rd h
  induction h with
  | nil => intro _ _ vs h; rw [h.unnil]; exact Reps.nil
  | fz h hc t ih =>
    intro h1 h2 vs hr
    obtain ⟨v, rest, rfl, hv, hrest⟩ := hr.uncons
    refine Reps.cons ?_ (ih h1 h2 hrest)
    have := hv.fz
    rw [h] at this
    have := this.closed (bare G.hw) rfl hc
    exact this.mono ⟨fun l hl => by simp [bare] at hl, hle, fun _ _ _ => rfl, Nat.le_refl _⟩
  | @ms l off n T vs cs ds es rd c hm hcs hle' hcl t ih =>
    intro h1 h2 vs' hr
    obtain ⟨v, rest, rfl, hv, hrest⟩ := hr.uncons
    refine Reps.cons ?_ (ih (fun l hl => h1 l (by simp [hl])) (fun l hl => h2 l (by simp [hl])) hrest)
    have hml : mget m' l = some (.var T vs) := (h1 l (by simp)).trans hm
    obtain ⟨a1, a2, a3, a4, cur, a5, a6, a7⟩ := hs.var l T vs hml
    have hsz : hw2 (G.g l) = cur.size := by rw [h2 l (by simp)]; unfold allsz; rw [a5]
    have hle'' := Nat.le_of_ble_eq_true hle'
    have hcu := a6.1
    have hlen : cs.length = c := by rw [← hcs]; simp; omega
    cases hv with
    | ms l off n cap hk hn =>
      refine .slice .frozen n cs (G.g l) off cap (cur.extract off (off + c)) (by simp; omega) (fun d hd => ?_) (fun i d v hd hv => ?_) (by show _ ≤ hw2 (G.g l); rw [hsz]; omega) (fun i hi => ?_) (hs.vlt hml) hn trivial
      · refine ⟨?_, D.cls_mem hcl d hd⟩
        rw [← hcs] at hd
        exact a7 d (List.mem_of_mem_drop (List.mem_of_mem_take hd))
      · have hcd : d.cl = true := D.cls_mem hcl d (List.mem_of_getElem? hd)
        rw [← hcs, List.getElem?_take] at hd
        split at hd
        · rw [List.getElem?_drop] at hd
          rw [Array.getElem?_extract] at hv
          split at hv
          · exact ((a6.2 _ d v hd hv).closed (bare G.hw) rfl hcd).mono ⟨fun l hl => by simp [bare] at hl, hle, fun _ _ _ => rfl, Nat.le_refl _⟩
          · cases hv
        · cases hd
      · rw [cell_of_row w _ _ cur T (0, 0) a5, Array.getElem?_extract, if_pos (by omega)]

section
variable {P : Program} {o : Oper} {ρ : Slots} {m : Mem}
theorem r_callms {F : FuncId} [hf : HasFn P F] {args : Array Operand} {ts : Array TypeId} {ds ds' : List D} {d : D} {rd : List Nat} (hp : Pur P F ds' d) (ho : o.op = .call { callee := .value (.func F), args := args, argTypes := ts }) (hx : oevs ρ args.toList = some ds) (hv : Views m ds ds' rd) (hd : d.ok = true) : OpSound P o ⟨d, rd, [], []⟩ ρ m := by
  intro B G a w m' K Q hs h hag hn hK
  obtain ⟨vs, hrun, hr⟩ := enter_fn (P := P) ho hx h
  let hw2 : Nat → Nat := fun b => if b ∈ rd.map G.g then allsz w b else G.hw b
  have hagl : ∀ l ∈ rd, mget m' l = mget m l := fun l hl => hag l (by unfold Eff.touch; rw [Bool.or_eq_true]; exact .inl (List.any_eq_true.2 ⟨l, hl, by simp⟩))
  have hok : HwOk hw2 w := fun b hb => by
    by_cases c : b ∈ rd.map G.g
    · have e : hw2 b = allsz w b := by simp only [hw2]; rw [if_pos c]
      rw [e] at hb ⊢
      unfold allsz at hb ⊢
      cases hh : w.heap[b]? with
      | none => rw [hh] at hb; simp at hb
      | some ob => cases ob with
        | cells vs T fr => exact ⟨vs, T, fr, rfl, Nat.le_refl _⟩
        | _ => rw [hh] at hb; simp at hb
    · have e : hw2 b = G.hw b := by simp only [hw2]; rw [if_neg c]
      rw [e] at hb ⊢
      exact hs.data b hb
  have hle : ∀ b, G.hw b ≤ hw2 b := fun b => by
    by_cases c : b ∈ rd.map G.g
    · have e : hw2 b = allsz w b := by simp only [hw2]; rw [if_pos c]
      rw [e]
      rcases Nat.eq_zero_or_pos (G.hw b) with h0 | h0
      · omega
      · obtain ⟨vs, T, fr, h1, h2⟩ := hs.data b h0
        unfold allsz; rw [h1]; exact h2
    · have e : hw2 b = G.hw b := by simp only [hw2]; rw [if_neg c]
      rw [e]; exact Nat.le_refl _
  have hr2 := hv.reps hs hle hagl (fun l hl => by simp only [hw2]; rw [if_pos (List.mem_map.2 ⟨l, hl, rfl⟩)]) hr
  unfold Oper.wp
  rw [hrun, Oper.upon_enter]
  refine (hp w hw2 vs hs.gtab_ hok hr2).mono fun e w' ⟨v, hw', he, hN, _, _, hrv⟩ => ?_
  subst he
  obtain ⟨u, hu, hru⟩ := D.ok_val G w' d hd
  have := hrv.val_eq hu
  subst this
  exact hK v w' G (Ext.grow hs.data hN) (hs.grow hN) hru fun l hl => .inl hl
end

section
variable {P : Program} {ρ : Slots} {m : Mem} {nx : Nat} {ops : Array Oper} {os : List Oper} {K : List Eff → Slots → Mem → Nat → Prop}
theorem k_callms {t : Tmp} {F : FuncId} [HasFn P F] {args : Array Operand} {ts : Array TypeId} {ds ds' : List D} {d : D} {rd : List Nat} {V : TypeId} {pos : String} {af : Array Edge} {gd : Option (Nat × Bool)} (hg : gok ops ρ ⟨some t, .call { callee := .value (.func F), args := args, argTypes := ts }, V, pos, af, gd⟩ = some true)
    (hp : Pur P F ds' d) (hx : oevs ρ args.toList = some ds) (hv : Views m ds ds' rd) (hd : d.ok = true) (hh : R P ops os (fun Es => K (⟨d, rd, [], []⟩ :: Es)) ((t, d) :: ρ) m nx) : R P ops (⟨some t, .call { callee := .value (.func F), args := args, argTypes := ts }, V, pos, af, gd⟩ :: os) K ρ m nx :=
  R_cons hg (r_callms hp rfl hx hv hd) rfl hh
end
end Go.Proofs.Ytpdhbddkcnffbaa

namespace Go.Proofs.Ytpdhbddkcnffbaa
open Go.RowKit
set_option linter.unusedVariables false
set_option linter.unusedSimpArgs false

section
variable {P : Program} {o : Oper} {ρ : Slots} {m : Mem}

/-- the right that ends -/
def Tok.ends : Tok → Mem
  | .own k => [(k, none)]
  | _ => []
/-- may so much be appended? -/
def Tok.may (m : Mem) (E : TypeId) (s n : Nat) : Tok → Prop
  | .own k => mget m k = some (.tok E s)
  | .nil => True
  | .tight => 0 < n
  | .frozen => False

theorem Tok.ends_none (tk : Tok) : ∀ x, (tk.ends.any fun y => Nat.beq y.1 x) = true → mget tk.ends x = none := by
  intro x h
  cases tk with
  | own k =>
    simp only [Tok.ends, List.any_cons, List.any_nil, Bool.or_false] at h
    simp [Tok.ends, mget, h]
  | _ => simp [Tok.ends] at h

theorem Reps.append {G : Gh} {w : World} {cs cs2 : List D} {vs : Array Value} {news : List Value} (h : Reps G w cs vs) (h2 : Reps G w cs2 news.toArray) : Reps G w (cs ++ cs2) (vs.toList ++ news).toArray := by
  have e1 := h.1
  have e2 := h2.1
  simp only [List.size_toArray] at e2
  refine ⟨by simp; omega, fun i d v hd hv => ?_⟩
  simp only [List.getElem?_toArray] at hv
  rw [List.getElem?_append] at hd hv
  simp only [Array.length_toList] at hv
  rw [e1] at hv
  by_cases c : i < cs.length
  · rw [if_pos c] at hd hv; exact h.2 i d v hd (by simpa using hv)
  · rw [if_neg c] at hd hv; exact h2.2 _ d v hd (by simpa using hv)

theorem add0 (b i : Nat) (h : i = 0) : (⟨b, i, none⟩ : Addr) = ⟨b, 0, none⟩ := by rw [h]

theorem Sim.append_ {B : Base} {G : Gh} {m' : Mem} {w : World} (hs : Sim B G m' w) {t tx T E : TypeId} {ty : Ty} {by_ : Nat} (ha : HasSl P t E) (ht : HasTy P E ty) (hb : HasBy P E by_) {tk : Tok} {n mm : Nat} {cs cs2 : List D} {vx vy : Value} {news : List Value}
    (hbase : Rep G w (.slice tk n cs) vx) (hmay : tk.may m' E ty.size mm) (hn1 : n * ty.size = cs.length) (hzl : ty.zero.length = ty.size) (hsrc : Src P ty.size tx vy mm news w) (hnr : Reps G w cs2 news.toArray) (h2 : ∀ d ∈ cs2, d.one = true ∧ d.cl = true) (hsm : n + mm ≤ 16777216) (hby : Nat.ble by_ 1048576 = true) {l : Nat} (hl : G.kn l = false) :
    ∃ v w' G', (Builtin.append_ #[t, tx] T #[vx, vy]).run P w = .ok v w' ∧ Ext G w G' w' ∧ Sim B G' ((l, some (.tok E ty.size)) :: (tk.ends ++ m')) w' ∧ (∀ l', G'.kn l' = true → G.kn l' = true ∨ l' = l) ∧ Rep G' w' (.slice (.own l) (n + mm) (cs ++ cs2)) v := by
  obtain ⟨z, hz, hzr, hz1⟩ := ht.zero_
  obtain ⟨i, hi, hiz⟩ := Option.bind_eq_some_iff.1 hz
  obtain ⟨j, hj, hjs⟩ := Option.map_eq_some_iff.1 ht.size
  rw [hi] at hj; cases hj
  obtain ⟨j, hj, hjb⟩ := Option.map_eq_some_iff.1 hb.bytes
  rw [hi] at hj; cases hj
  have hby' := Nat.le_of_ble_eq_true hby
  have hzs : z.cells.size = ty.size := by rw [(hzr G w).1, hzl]
  have hsrc' : Src P i.size tx vy mm news w := by rw [hjs]; exact hsrc
  have hnl := hsrc.newsLen
  have hcl2 : cs2.length = mm * ty.size := by have := hnr.1; simp only [List.size_toArray] at this; omega
  have hfit : ∀ old, old < n + mm → Builtin.nextslicecap (n + mm) old * i.bytes ≤ 281474976710656 := fun old ho => growslice_fits ho (by
    rw [hjb]
    have : (n + mm) * by_ ≤ 16777216 * 1048576 := Nat.mul_le_mul hsm hby'
    omega)
  -- the way that makes a new block
  have grow : ∀ (base : Option Addr) (cap : Nat) (olds : List Value), Reps G w cs olds.toArray → (∀ d ∈ cs, d.one = true ∧ d.cl = true) → (Builtin.firstCells i.size n (.slice base n cap)).run P w.drew = .ok olds.toArray w.drew → cap < n + mm → vx = .slice base n cap →
      ∃ v w' G', (Builtin.append_ #[t, tx] T #[vx, vy]).run P w = .ok v w' ∧ Ext G w G' w' ∧ Sim B G' ((l, some (.tok E ty.size)) :: (tk.ends ++ m')) w' ∧ (∀ l', G'.kn l' = true → G.kn l' = true ∨ l' = l) ∧ Rep G' w' (.slice (.own l) (n + mm) (cs ++ cs2)) v := by
    rintro base cap olds hor h1 hold hg rfl
    have hrun := run_append_grow_src (P := P) w t tx T E i z ha.sl hi hiz base n cap olds hold vy mm news hsrc' hg (by omega) (hfit _ hg)
    have hge := grownCap_ge w (n + mm) cap E
    have hcm := grownCap_le_maxLen w (n + mm) cap E (by simp only [maxLen]; omega)
    have hol : olds.length = cs.length := by have := hor.1; simpa using this
    have hrr : Reps G w (cs ++ cs2) (olds ++ news).toArray := by have := hor.append hnr; simpa using this
    have hsz : ((olds ++ news).toArray ++ Builtin.zeroCells z.cells (grownCap w (n + mm) cap E - (n + mm))).size = grownCap w (n + mm) cap E * ty.size := by
      simp only [Array.size_append, List.size_toArray, List.length_append, size_zeroCells, hzs]
      rw [hol, ← hn1, hnl, ← Nat.add_mul, ← Nat.add_mul]
      congr 1; omega
    obtain ⟨G', g1, g2, g3, g4⟩ := hs.row_ (new_alloc (new_drew (new_refl w)) (.cells ((olds ++ news).toArray ++ Builtin.zeroCells z.cells (grownCap w (n + mm) cap E - (n + mm))) E)) hl (by have := heap_alloc_new w.drew (.cells ((olds ++ news).toArray ++ Builtin.zeroCells z.cells (grownCap w (n + mm) cap E - (n + mm))) E); simpa using this) tk.ends tk.ends_none hrr (fun d hd => by
      rcases List.mem_append.1 hd with h | h
      · exact h1 d h
      · exact h2 d h) (by simp) (fun k hk => by
      rw [Array.getElem?_append_left (by simpa using hk)]) hsz hcm
    exact ⟨_, _, G', hrun, g1, g2, g3, g4 _ hge⟩
  cases hbase with
  | nil tk =>
    have hc0 : Reps G w [] (([] : List Value).toArray) := Reps.nil
    rcases Nat.eq_zero_or_pos mm with h0 | h0
    · subst h0
      have hn0 : news = [] := List.eq_nil_of_length_eq_zero (by simpa using hnl)
      subst hn0
      have hc20 : cs2 = [] := List.eq_nil_of_length_eq_zero (by simpa using hcl2)
      subst hc20
      obtain ⟨G', g1, g2, g3⟩ := hs.virt_ hl E ty.size tk.ends tk.ends_none
      exact ⟨_, w, G', run_append_nothing (P := P) w t tx T E i ha.sl hi none 0 0 (Nat.le_refl _) vy hsrc', g1, g2, g3, .nil _⟩
    · exact grow none 0 [] hc0 (fun d hd => by simp at hd) (run_firstCells_none w.drew i.size 0 0 0) (by omega) rfl
  | slice tk n cs b o' cap vs hl' h1 hh hhw hc hb' hn ht' =>
    have hcell : ∀ j u, vs.toList[j]? = some u → w.cell? ((⟨b, o', none⟩ : Addr).add j) = some u := fun j u hj => by
      rw [add_off]
      have hj' : vs[j]? = some u := by simpa using hj
      rw [hc j (by rw [← hl']; exact (Array.getElem?_eq_some_iff.1 hj').1)]; exact hj'
    have hold : (Builtin.firstCells i.size n (.slice (some ⟨b, o', none⟩) n cap)).run P w.drew = .ok vs.toList.toArray w.drew :=
      run_firstCells_some (P := P) w.drew i.size n ⟨b, o', none⟩ n cap vs.toList (by simp [hl', ← hn1, hjs]) (by simpa using hcell)
    have hvr : Reps G w cs vs.toList.toArray := by rw [Array.toArray_toList]; exact ⟨hl', hh⟩
    cases tk with
    | frozen => exact hmay.elim
    | nil => exact ht'.elim
    | tight =>
      have e : cap = n := ht'
      have : 0 < mm := hmay
      exact grow _ cap vs.toList hvr h1 hold (by omega) rfl
    | own k =>
      have hmk : mget m' k = some (.tok E ty.size) := hmay
      by_cases hroom : n + mm ≤ cap
      · obtain ⟨k1, k2, k3⟩ := hs.tok k _ _ hmk
        obtain ⟨e1, e2, e3, e4, e5⟩ := ht'.2 k2
        obtain ⟨k4, k5, cur, k6, k7, k8⟩ := k3 e1
        subst e2; subst e3; subst e5
        rw [Nat.zero_add] at e4
        have hfit' : n * i.size + news.length ≤ cur.size := by rw [hnl, hjs, k8, ← Nat.add_mul]; exact Nat.mul_le_mul_right _ hroom
        have hst := run_storeCells_at (P := P) (G.g k) (n * i.size) E news 0 cur w k6 (by omega) hsrc.one
        simp only [Nat.add_zero] at hst
        have hrun : (Builtin.append_ #[t, tx] T #[.slice (some ⟨G.g k, 0, none⟩) n (G.cp k), vy]).run P w = .ok (.slice (some ⟨G.g k, 0, none⟩) (n + mm) (G.cp k)) (w.setRow (G.g k) (cur.toList.take (n * i.size) ++ news ++ cur.toList.drop (n * i.size + news.length)).toArray) := by
          rcases hsrc.kind with ⟨e', hk⟩ | hk <;> simp [Builtin.append_, run_underlying ha.sl, run_underlying hk, sizeOf, typeInfo, hi, hsrc'.len, hroom, hsrc'.cells, Addr.add_lit, hst]
        have htake : cur.toList.take (n * i.size) = vs.toList := by
          apply List.ext_getElem?
          intro j
          rw [List.getElem?_take]
          by_cases c : j < n * i.size
          · rw [if_pos c]
            have := hc j (by rw [← hn1, ← hjs]; exact c)
            rw [Nat.zero_add, cell_of_row w _ _ cur E (0, 0) k6] at this
            simpa using this
          · rw [if_neg c, List.getElem?_eq_none (by simp [hl', ← hn1, ← hjs]; omega)]
        have hrr : Reps G w (cs ++ cs2) (vs.toList ++ news).toArray := Reps.append ⟨hl', hh⟩ hnr
        have hvl : vs.toList.length = n * i.size := by simp [hl', ← hn1, hjs]
        have hcells := setRow_heap w (G.g k) cur (cur.toList.take (n * i.size) ++ news ++ cur.toList.drop (n * i.size + news.length)).toArray E (0, 0) k6
        have hsz : (cur.toList.take (n * i.size) ++ news ++ cur.toList.drop (n * i.size + news.length)).toArray.size = cur.size := by simp; omega
        have hpre : ∀ j, j < (vs.toList ++ news).toArray.size → (cur.toList.take (n * i.size) ++ news ++ cur.toList.drop (n * i.size + news.length)).toArray[j]? = (vs.toList ++ news).toArray[j]? := fun j hj => by
          rw [htake]
          simp only [List.getElem?_toArray]
          rw [List.getElem?_append_left (by simpa using hj)]
        obtain ⟨G', g1, g2, g3, g4⟩ := hs.inplace_ (w' := w.setRow (G.g k) (cur.toList.take (n * i.size) ++ news ++ cur.toList.drop (n * i.size + news.length)).toArray) hmk e1 hl ⟨rfl, rfl, rfl, by simp, fun b _ hb => setRow_other w _ b _ (fun e => hb (by rw [e]))⟩ hcells (by rw [hsz]; exact k8) hrr (fun d hd => by
            rcases List.mem_append.1 hd with h | h
            · exact h1 d h
            · exact h2 d h) (by rw [← e4]; simp; omega) (by rw [hsz]; simp [hvl]; omega) hpre (fun j hj => by
            rw [cell_of_row _ _ _ _ E (0, 0) hcells, cell_of_row w _ _ cur E (0, 0) k6]
            rw [htake]
            simp only [List.getElem?_toArray]
            rw [← e4] at hj
            rw [List.getElem?_append_left (by simp; omega), List.getElem?_append_left (by simp; omega), ← htake, List.getElem?_take, if_pos (by rw [← hvl]; simp; omega)]
            simp)
        exact ⟨_, _, G', hrun, g1, g2, g3, g4 _ hroom⟩
      · exact grow _ cap vs.toList hvr h1 hold (by omega) rfl

/-- append of a slice's elements -/
theorem r_append {t tx E E2 : TypeId} {ty : Ty} {by_ : Nat} [ha : HasSl P t E] [hax : HasSl P tx E2] [ht : HasTy P E ty] [hb : HasBy P E by_] {x y : Operand} {tk tk2 : Tok} {n mm nm : Nat} {cs cs2 cs3 : List D} (l : Nat) (ho : o.op = .call { callee := .builtin .append, args := #[x, y], argTypes := #[t, tx] }) (hx : oev ρ x = some (.slice tk n cs)) (hy : oev ρ y = some (.slice tk2 mm cs2))
    (hmay : tk.may m E ty.size mm) (hn1 : n * ty.size = cs.length) (hn2 : mm * ty.size = cs2.length) (hzl : ty.zero.length = ty.size) (hsm : n + mm ≤ 16777216) (hby : Nat.ble by_ 1048576 = true) (hnm : n + mm = nm) (hcs : cs ++ cs2 = cs3) :
    OpSound P o ⟨.slice (.own l) nm cs3, [], (l, some (.tok E ty.size)) :: tk.ends, [l]⟩ ρ m := by
  subst hnm; subst hcs
  intro B G a w m' K Q hs h hag hn hK
  have hpx := h x (by simp [ho, Op.operands, Call.operands]) _ hx
  have hpy := h y (by simp [ho, Op.operands, Call.operands]) _ hy
  have hmay' : tk.may m' E ty.size mm := by
    cases tk with
    | own k => exact (hag k (by unfold Eff.touch Eff.writes; simp [Tok.ends])).trans hmay
    | _ => exact hmay
  have hsrc : ∃ news, Src P ty.size tx (a.eval y) mm news w ∧ Reps G w cs2 news.toArray ∧ ∀ d ∈ cs2, d.one = true ∧ d.cl = true := by
    generalize a.eval y = vy at hpy
    cases hpy with
    | nil tk => exact ⟨[], Src.ofNil w hax.sl 0, Reps.nil, fun d hd => by simp at hd⟩
    | slice tk n cs b o' cap vs hl' h1 hh hhw hc hb' hn ht' =>
      refine ⟨vs.toList, Src.ofSlice w hax.sl ⟨b, o', none⟩ mm cap vs.toList (by rw [Array.length_toList, hl']; exact hn2.symm) (fun j u hj => ?_) (fun u hu => ?_), by rw [Array.toArray_toList]; exact ⟨hl', hh⟩, h1⟩
      · rw [add_off]
        have hj' : vs[j]? = some u := by simpa using hj
        rw [hc j (by rw [← hl']; exact (Array.getElem?_eq_some_iff.1 hj').1)]; exact hj'
      · obtain ⟨j, hj⟩ := List.getElem?_of_mem hu
        have hj' : vs[j]? = some u := by simpa using hj
        have hlt : j < cs2.length := by rw [← hl']; exact (Array.getElem?_eq_some_iff.1 hj').1
        have hd : cs2[j]? = some cs2[j] := List.getElem?_eq_getElem hlt
        exact ((hh j _ u hd hj').one (h1 _ (List.mem_of_getElem? hd)).1).1
  obtain ⟨news, hS, hnr, h2⟩ := hsrc
  obtain ⟨v, w', G', hrun, g1, g2, g3, g4⟩ := hs.append_ (T := o.type) ha ht hb hpx hmay' hn1 hzl hS hnr h2 hsm hby (hn l (by simp))
  have hex : (execOp a.eval o).run P w = .ok (.value v) w' := by
    unfold execOp
    simp only [ho, resolve, invoke, builtin, Sem.run_bind, Sem.run_pure, Result.andThen_ok, List.map_toArray, List.map_cons, List.map_nil, hrun]
  unfold Oper.wp
  rw [hex, Oper.upon_value]
  exact hK v w' G' g1 g2 g4 fun l' hl => (g3 l' hl).imp id fun h => by simp [h]
end

section
variable {P : Program} {ρ : Slots} {m : Mem} {nx : Nat} {ops : Array Oper} {os : List Oper} {K : List Eff → Slots → Mem → Nat → Prop}
theorem k_append {t : Tmp} {tt tx E E2 : TypeId} {ty : Ty} {by_ : Nat} [HasSl P tt E] [HasSl P tx E2] [HasTy P E ty] [HasBy P E by_] {x y : Operand} {tk tk2 : Tok} {n mm nm : Nat} {cs cs2 cs3 : List D} {V : TypeId} {pos : String} {af : Array Edge} {gd : Option (Nat × Bool)} (hg : gok ops ρ ⟨some t, .call { callee := .builtin .append, args := #[x, y], argTypes := #[tt, tx] }, V, pos, af, gd⟩ = some true)
    (hx : oev ρ x = some (.slice tk n cs)) (hy : oev ρ y = some (.slice tk2 mm cs2)) (hmay : tk.may m E ty.size mm) (hn1 : n * ty.size = cs.length) (hn2 : mm * ty.size = cs2.length) (hzl : ty.zero.length = ty.size) (hsm : n + mm ≤ 16777216) (hby : Nat.ble by_ 1048576 = true) (hnm : n + mm = nm) (hcs : cs ++ cs2 = cs3)
    (hh : R P ops os (fun Es => K (⟨.slice (.own nx) nm cs3, [], (nx, some (.tok E ty.size)) :: tk.ends, [nx]⟩ :: Es)) ((t, .slice (.own nx) nm cs3) :: ρ) ((nx, some (.tok E ty.size)) :: (tk.ends ++ m)) (nx + 1)) : R P ops (⟨some t, .call { callee := .builtin .append, args := #[x, y], argTypes := #[tt, tx] }, V, pos, af, gd⟩ :: os) K ρ m nx :=
  R_new hg (r_append nx rfl hx hy hmay hn1 hn2 hzl hsm hby hnm hcs) rfl hh
end
end Go.Proofs.Ytpdhbddkcnffbaa

namespace Go.Proofs.Ytpdhbddkcnffbaa
open Go.RowKit
set_option linter.unusedVariables false
set_option linter.unusedSimpArgs false

section
variable {P : Program} {o : Oper} {ρ : Slots} {m : Mem}

/-- a bound, or what stands for it -/
def bnd (ρ : Slots) (x : Option Operand) (dflt : Int) : Option Int := match x with
  | none => some dflt
  | some x => match oev ρ x with
    | some (.int _ i) => some i
    | _ => none

theorem bnd_rep {G : Gh} {w : World} {a : Act} {ρ : Slots} {x : Option Operand} {dflt i : Int} (h : bnd ρ x dflt = some i) (hx : ∀ y, x = some y → ∀ d, oev ρ y = some d → Rep G w d (a.eval y)) : (x = none ∧ i = dflt) ∨ ∃ y k, x = some y ∧ a.eval y = .int k i := by
  unfold bnd at h
  cases x with
  | none => simp at h; exact .inl ⟨rfl, h.symm⟩
  | some y =>
    simp only at h
    split at h
    · rename_i k j hd
      injection h with h
      subst h
      have := hx y rfl _ hd
      have hv : a.eval y = .int k j := by generalize a.eval y = v at this; cases this; rfl
      exact .inr ⟨y, k, rfl, hv⟩
    · cases h

theorem run_sliceBound {w : World} (k : IntKind) (i : Int) (y : Nat) (code : BoundsCode) (h : 0 ≤ i ∧ i ≤ y) : (Instr.sliceBound (.int k i) y code).run P w = .ok i.toNat w := by
  simp [Instr.sliceBound, asIntOf, h]

/-- the bounds of a part -/
theorem run_bounds {w : World} {a : Act} {low high : Option Operand} {isSlice : Bool} {len cap : Nat} {lo hi : Int} (hl : (low = none ∧ lo = 0) ∨ ∃ y k, low = some y ∧ a.eval y = .int k lo) (hh : (high = none ∧ hi = len) ∨ ∃ y k, high = some y ∧ a.eval y = .int k hi) (h : 0 ≤ lo ∧ lo ≤ hi ∧ hi ≤ cap) :
    (Instr.sliceBounds isSlice len cap (low.map a.eval) (high.map a.eval) none).run P w = .ok (lo.toNat, hi.toNat, cap) w := by
  have e : (hi.toNat : Int) = hi := Int.toNat_of_nonneg (by omega)
  unfold Instr.sliceBounds
  rcases hh with ⟨rfl, rfl⟩ | ⟨y, k, rfl, hy⟩
  · rcases hl with ⟨rfl, rfl⟩ | ⟨y', k', rfl, hy'⟩
    · simp
    · simp [hy', Sem.run_bind, run_sliceBound k' lo len _ ⟨h.1, h.2.1⟩]
  · rcases hl with ⟨rfl, rfl⟩ | ⟨y', k', rfl, hy'⟩
    · simp [hy, Sem.run_bind, run_sliceBound k hi _ _ ⟨by omega, h.2.2⟩]
    · simp [hy, hy', Sem.run_bind, run_sliceBound k hi _ _ ⟨by omega, h.2.2⟩, run_sliceBound k' lo hi.toNat _ ⟨h.1, by omega⟩]
theorem run_bounds3 {w : World} {a : Act} {low : Option Operand} {high mx : Operand} {isSlice : Bool} {len cap : Nat} {lo hi mm : Int} {k1 k2 : IntKind} (hl : (low = none ∧ lo = 0) ∨ ∃ y k, low = some y ∧ a.eval y = .int k lo) (hh : a.eval high = .int k1 hi) (hm : a.eval mx = .int k2 mm) (h : 0 ≤ lo ∧ lo ≤ hi ∧ hi ≤ mm ∧ mm ≤ cap) :
    (Instr.sliceBounds isSlice len cap (low.map a.eval) (some (a.eval high)) (some (a.eval mx))).run P w = .ok (lo.toNat, hi.toNat, mm.toNat) w := by
  have e : (hi.toNat : Int) = hi := Int.toNat_of_nonneg (by omega)
  have e' : (mm.toNat : Int) = mm := Int.toNat_of_nonneg (by omega)
  unfold Instr.sliceBounds
  rcases hl with ⟨rfl, rfl⟩ | ⟨y', k', rfl, hy'⟩
  · simp [hh, hm, Sem.run_bind, run_sliceBound k2 mm _ _ ⟨by omega, h.2.2.2⟩, run_sliceBound k1 hi mm.toNat _ ⟨by omega, by omega⟩]
  · simp [hh, hm, hy', Sem.run_bind, run_sliceBound k2 mm _ _ ⟨by omega, h.2.2.2⟩, run_sliceBound k1 hi mm.toNat _ ⟨by omega, by omega⟩, run_sliceBound k' lo hi.toNat _ ⟨h.1, by omega⟩]

/-- a part of a slice's data -/
theorem Rep.part {G : Gh} {w : World} {tk : Tok} {n : Nat} {cs : List D} {v : Value} (h : Rep G w (.slice tk n cs) v) {s lo nn mm : Nat} (hs : n * s = cs.length) (hle : lo + nn ≤ n) (tk' : Tok) (ht : tk' = .frozen ∨ (tk' = .tight ∧ mm = nn)) (hmn : nn ≤ mm)  :
    ∃ b cap, v = .slice b n cap ∧ n ≤ cap ∧ ((mm + lo ≤ cap) → Rep G w (.slice tk' nn ((cs.drop (lo * s)).take (nn * s))) (.slice (if mm + lo = lo then b else b.map (·.add (lo * s))) nn mm)) := by
  cases h with
  | nil tk =>
    have e1 : lo = 0 := by omega
    have e2 : nn = 0 := by omega
    subst e1; subst e2
    refine ⟨none, 0, rfl, Nat.le_refl _, fun h => ?_⟩
    have : mm = 0 := by omega
    subst this
    simp
    exact .nil _
  | slice tk n cs b o' cap vs hl h1 hh hhw hc hb hn htk =>
    refine ⟨some ⟨b, o', none⟩, cap, rfl, hn, fun hcap => ?_⟩
    have hms : lo * s + nn * s ≤ cs.length := by rw [← hs, ← Nat.add_mul]; exact Nat.mul_le_mul_right _ hle
    by_cases h0 : mm + lo = lo
    · have e1 : mm = 0 := by omega
      have e2 : nn = 0 := by omega
      subst e1; subst e2
      rw [if_pos h0]
      simp only [Nat.zero_mul, List.take_zero]
      refine .slice tk' 0 [] b o' 0 #[] rfl (fun d hd => by simp at hd) (fun i d v hd => by simp at hd) (by simp; omega) (fun i hi => by simp at hi) hb (Nat.le_refl _) ?_
      rcases ht with rfl | ⟨rfl, _⟩
      · trivial
      · rfl
    · rw [if_neg h0]
      simp only [Option.map_some, add_off]
      have hln : ((cs.drop (lo * s)).take (nn * s)).length = nn * s := by simp; omega
      refine .slice tk' nn _ b (o' + lo * s) mm (vs.extract (lo * s) (lo * s + nn * s)) (by rw [hln]; simp; omega) (fun d hd => h1 d (List.mem_of_mem_drop (List.mem_of_mem_take hd))) (fun i d v hd hv => ?_) (by rw [hln]; omega) (fun i hi => ?_) hb hmn ?_
      · rw [List.getElem?_take] at hd
        split at hd
        · rw [List.getElem?_drop] at hd
          rw [Array.getElem?_extract] at hv
          split at hv
          · exact hh _ d v hd hv
          · cases hv
        · cases hd
      · rw [hln] at hi
        rw [show o' + lo * s + i = o' + (lo * s + i) from by omega, hc _ (by omega), Array.getElem?_extract, if_pos (by omega)]
      · rcases ht with rfl | ⟨rfl, e⟩
        · trivial
        · exact e

theorem r_slice {T E : TypeId} {ty : Ty} [ha : HasSl P T E] [ht : HasTy P E ty] {x : Operand} {low high : Option Operand} {tk : Tok} {n nn : Nat} {cs cs' : List D} {lo hi : Int} (ho : o.op = .slice T x low high none) (hx : oev ρ x = some (.slice tk n cs)) (hlo : bnd ρ low 0 = some lo) (hhi : bnd ρ high n = some hi)
    (h : 0 ≤ lo ∧ lo ≤ hi ∧ hi ≤ n) (hlen : n * ty.size = cs.length) (hnn : (hi - lo).toNat = nn) (hcs : (cs.drop (lo.toNat * ty.size)).take (nn * ty.size) = cs') : OpSound P o (Eff.val (.slice .frozen nn cs')) ρ m := by
  subst hcs
  refine sound_val fun B G a w m' hs hh _ => ?_
  have hp := hh x (by simp [ho, Op.operands]) _ hx
  have hl := bnd_rep (G := G) (w := w) (a := a) hlo fun y hy d hd => hh y (by rw [ho]; subst hy; simp [Op.operands]) d hd
  have hh' := bnd_rep (G := G) (w := w) (a := a) hhi fun y hy d hd => hh y (by rw [ho]; subst hy; cases low <;> simp [Op.operands]) d hd
  obtain ⟨i, hi', hsi⟩ := Option.map_eq_some_iff.1 ht.size
  -- the capacity first
  have hcap : ∃ b cap, a.eval x = .slice b n cap ∧ n ≤ cap := by
    generalize a.eval x = v at hp
    cases hp with
    | nil tk => exact ⟨none, 0, rfl, Nat.le_refl _⟩
    | slice tk n cs b o' cap vs hl h1 hh hhw hc hb hn htk => exact ⟨_, cap, rfl, hn⟩
  obtain ⟨b0, cap0, hv0, hn0⟩ := hcap
  obtain ⟨b, cap, hv, hn, hrep⟩ := hp.part (s := ty.size) (lo := lo.toNat) (nn := nn) (mm := cap0 - lo.toNat) hlen (by omega) .frozen (.inl rfl) (by omega)
  rw [hv0] at hv
  injection hv with e1 e2 e3
  subst e1; subst e3
  have hr := hrep (by omega)
  refine ⟨_, ?_, hr⟩
  have hb := run_bounds (P := P) (w := w) (a := a) (isSlice := true) (len := n) (cap := cap0) hl hh' ⟨h.1, h.2.1, by omega⟩
  have e4 : hi.toNat - lo.toNat = nn := by omega
  have e5 : (cap0 = lo.toNat) = (cap0 - lo.toNat + lo.toNat = lo.toNat) := by rw [eq_iff_iff]; omega
  simp only [execOp, ho, hv0, Instr.sliceAt, Instr.slice, Sem.run_bind, run_underlying ha.sl, Result.andThen_ok, Option.map_none, hb, sizeOf, typeInfo, run_program, hi', Sem.run_pure, hsi, e4, e5]

theorem r_slice3 {T E : TypeId} {ty : Ty} [ha : HasSl P T E] [ht : HasTy P E ty] {x y z : Operand} {low : Option Operand} {tk : Tok} {n nn : Nat} {cs cs' : List D} {k1 k2 : IntKind} {lo hi : Int} (ho : o.op = .slice T x low (some y) (some z)) (hx : oev ρ x = some (.slice tk n cs)) (hlo : bnd ρ low 0 = some lo) (hhi : oev ρ y = some (.int k1 hi)) (hmx : oev ρ z = some (.int k2 hi))
    (h : 0 ≤ lo ∧ lo ≤ hi ∧ hi ≤ n) (hlen : n * ty.size = cs.length) (hnn : (hi - lo).toNat = nn) (hcs : (cs.drop (lo.toNat * ty.size)).take (nn * ty.size) = cs') : OpSound P o (Eff.val (.slice .tight nn cs')) ρ m := by
  subst hcs
  refine sound_val fun B G a w m' hs hh _ => ?_
  have hp := hh x (by simp [ho, Op.operands]) _ hx
  have hl := bnd_rep (G := G) (w := w) (a := a) hlo fun y hy d hd => hh y (by rw [ho]; subst hy; simp [Op.operands]) d hd
  have hy := hh y (by rw [ho]; cases low <;> simp [Op.operands]) _ hhi
  have hz := hh z (by rw [ho]; cases low <;> simp [Op.operands]) _ hmx
  have hy' : a.eval y = .int k1 hi := by generalize a.eval y = v at hy; cases hy; rfl
  have hz' : a.eval z = .int k2 hi := by generalize a.eval z = v at hz; cases hz; rfl
  obtain ⟨i, hi', hsi⟩ := Option.map_eq_some_iff.1 ht.size
  obtain ⟨b, cap, hv, hn, hrep⟩ := hp.part (s := ty.size) (lo := lo.toNat) (nn := nn) (mm := nn) hlen (by omega) .tight (.inr ⟨rfl, rfl⟩) (by omega)
  have hr := hrep (by omega)
  refine ⟨_, ?_, hr⟩
  have hb := run_bounds3 (P := P) (w := w) (a := a) (isSlice := true) (len := n) (cap := cap) hl hy' hz' ⟨h.1, h.2.1, Int.le_refl _, by omega⟩
  have e4 : hi.toNat - lo.toNat = nn := by omega
  have e5 : (hi.toNat = lo.toNat) = (nn + lo.toNat = lo.toNat) := by rw [eq_iff_iff]; omega
  simp only [execOp, ho, hv, Instr.sliceAt, Instr.slice, Sem.run_bind, run_underlying ha.sl, Result.andThen_ok, Option.map_some, hb, sizeOf, typeInfo, run_program, hi', Sem.run_pure, hsi, e4, e5]

/-- a part of a string -/
theorem r_slices {T : TypeId} {x : Operand} {low high : Option Operand} {s s' : ByteArray} {lo hi : Int} (ho : o.op = .slice T x low high none) (hu : P.underlying T = some .string) (hx : oev ρ x = some (.str s)) (hlo : bnd ρ low 0 = some lo) (hhi : bnd ρ high s.size = some hi) (h : 0 ≤ lo ∧ lo ≤ hi ∧ hi ≤ s.size) (hs' : s.extract lo.toNat hi.toNat = s') : OpSound P o (Eff.val (.str s')) ρ m := by
  subst hs'
  refine sound_val fun B G a w m' hs hh _ => ?_
  have hp := hh x (by simp [ho, Op.operands]) _ hx
  have hl := bnd_rep (G := G) (w := w) (a := a) hlo fun y hy d hd => hh y (by rw [ho]; subst hy; simp [Op.operands]) d hd
  have hh' := bnd_rep (G := G) (w := w) (a := a) hhi fun y hy d hd => hh y (by rw [ho]; subst hy; cases low <;> simp [Op.operands]) d hd
  generalize hev : a.eval x = v at hp
  cases hp
  refine ⟨_, ?_, .str _⟩
  have hb := run_bounds (P := P) (w := w) (a := a) (isSlice := false) (len := s.size) (cap := s.size) hl hh' h
  simp only [execOp, ho, hev, Instr.sliceAt, Instr.slice, Sem.run_bind, run_underlying hu, Result.andThen_ok, Option.map_none, Option.isSome_none, Bool.false_eq_true, if_false, Sem.run_pure, hb]

/-- the part of an array that is a variable: told by its name -/
theorem r_sliceA {T E : TypeId} {n : Nat} {ty : Ty} [ha : HasArr P T n E] [ht : HasTy P E ty] {x : Operand} {low high : Option Operand} {l off off' nn : Nat} {lo hi : Int} (ho : o.op = .slice T x low high none) (hx : oev ρ x = some (.ptr l off)) (hlo : bnd ρ low 0 = some lo) (hhi : bnd ρ high n = some hi)
    (h : 0 ≤ lo ∧ lo ≤ hi ∧ hi ≤ n ∧ lo < n) (hnn : (hi - lo).toNat = nn) (hoff : off + lo.toNat * ty.size = off') : OpSound P o (Eff.val (.ms l off' nn)) ρ m := by
  subst hoff
  refine sound_val fun B G a w m' hs hh _ => ?_
  have hpr := hh x (by simp [ho, Op.operands]) _ hx
  have hl := bnd_rep (G := G) (w := w) (a := a) hlo fun y hy d hd => hh y (by rw [ho]; subst hy; simp [Op.operands]) d hd
  have hh' := bnd_rep (G := G) (w := w) (a := a) hhi fun y hy d hd => hh y (by rw [ho]; subst hy; cases low <;> simp [Op.operands]) d hd
  obtain ⟨i, hi', hsi⟩ := Option.map_eq_some_iff.1 ht.size
  generalize hev : a.eval x = v at hpr
  cases hpr with
  | ptr l off hk =>
    have hb := run_bounds (P := P) (w := w) (a := a) (isSlice := false) (len := n) (cap := n) hl hh' ⟨h.1, h.2.1, h.2.2.1⟩
    have e4 : hi.toNat - lo.toNat = nn := by omega
    refine ⟨.slice (some ⟨G.g l, off + lo.toNat * ty.size, none⟩) nn (n - lo.toNat), ?_, .ms l _ nn _ hk (by omega)⟩
    simp only [execOp, ho, hev, Instr.sliceAt, Sem.run_bind, run_underlying ha.arr, Instr.sureAddr, Sem.run_pure, Result.andThen_ok, Option.map_none, hb, sizeOf, typeInfo, run_program, hi', hsi, e4]
    rw [if_neg (by omega), add_off]

/-- the part of an array that is data -/
theorem r_sliceE {T E : TypeId} {n : Nat} {ty : Ty} [ha : HasArr P T n E] [ht : HasTy P E ty] {x : Operand} {low high : Option Operand} {cs cs' : List D} {nn : Nat} {lo hi : Int} (ho : o.op = .slice T x low high none) (hx : oev ρ x = some (.eptr cs)) (hlo : bnd ρ low 0 = some lo) (hhi : bnd ρ high n = some hi)
    (h : 0 ≤ lo ∧ lo ≤ hi ∧ hi ≤ n ∧ lo < n) (hsz : Nat.blt 0 ty.size = true) (hlen : Nat.ble (n * ty.size) cs.length = true) (hnn : (hi - lo).toNat = nn) (hcs : (cs.drop (lo.toNat * ty.size)).take (nn * ty.size) = cs') : OpSound P o (Eff.val (.slice .frozen nn cs')) ρ m := by
  subst hcs
  refine sound_val fun B G a w m' hs hh _ => ?_
  have hpr := hh x (by simp [ho, Op.operands]) _ hx
  have hl := bnd_rep (G := G) (w := w) (a := a) hlo fun y hy d hd => hh y (by rw [ho]; subst hy; simp [Op.operands]) d hd
  have hh' := bnd_rep (G := G) (w := w) (a := a) hhi fun y hy d hd => hh y (by rw [ho]; subst hy; cases low <;> simp [Op.operands]) d hd
  obtain ⟨i, hi', hsi⟩ := Option.map_eq_some_iff.1 ht.size
  have hlen' := Nat.le_of_ble_eq_true hlen
  generalize hev : a.eval x = v at hpr
  cases hpr with
  | eptr cs b o' vs hl' h1 hh2 hhw hc =>
    have hb := run_bounds (P := P) (w := w) (a := a) (isSlice := false) (len := n) (cap := n) hl hh' ⟨h.1, h.2.1, h.2.2.1⟩
    have e4 : hi.toNat - lo.toNat = nn := by omega
    have hms : lo.toNat * ty.size + nn * ty.size ≤ cs.length := by
      rw [← Nat.add_mul]
      exact Nat.le_trans (Nat.mul_le_mul_right _ (by omega)) hlen'
    have hln : ((cs.drop (lo.toNat * ty.size)).take (nn * ty.size)).length = nn * ty.size := by simp; omega
    refine ⟨.slice (some ⟨b, o' + lo.toNat * ty.size, none⟩) nn (n - lo.toNat), ?_, ?_⟩
    · simp only [execOp, ho, hev, Instr.sliceAt, Sem.run_bind, run_underlying ha.arr, Instr.sureAddr, Sem.run_pure, Result.andThen_ok, Option.map_none, hb, sizeOf, typeInfo, run_program, hi', hsi, e4]
      rw [if_neg (by omega), add_off]
    · by_cases hb0 : b < w.heap.size
      · refine .slice .frozen nn _ b (o' + lo.toNat * ty.size) (n - lo.toNat) (vs.extract (lo.toNat * ty.size) (lo.toNat * ty.size + nn * ty.size)) (by rw [hln]; simp; omega) (fun d hd => h1 d (List.mem_of_mem_drop (List.mem_of_mem_take hd))) (fun i d v hd hv => ?_) (by rw [hln]; omega) (fun i hi => ?_) hb0 (by omega) trivial
        · rw [List.getElem?_take] at hd
          split at hd
          · rw [List.getElem?_drop] at hd
            rw [Array.getElem?_extract] at hv
            split at hv
            · exact hh2 _ d v hd hv
            · cases hv
          · cases hd
        · rw [hln] at hi
          rw [show o' + lo.toNat * ty.size + i = o' + (lo.toNat * ty.size + i) from by omega, hc _ (by omega), Array.getElem?_extract, if_pos (by omega)]
      · have hn0 : 0 < ty.size := by rw [← Nat.blt_eq]; exact hsz
        have : 0 < cs.length := Nat.lt_of_lt_of_le (Nat.mul_pos (by omega) hn0) hlen'
        have h0 := hc 0 this
        have hv0 : vs[0]? = some (vs[0]'(by omega)) := Array.getElem?_eq_getElem _
        rw [hv0] at h0
        have : w.heap[b]? = none := Array.getElem?_eq_none (by omega)
        simp [World.cell?, this] at h0
end

section
variable {P : Program} {B : Base} {N : Nat} {Q : Post} {ρ : Slots} {m : Mem} {nx : Nat}
/-- a loop at a round's head -/
def WL (P : Program) (B : Base) (N : Nat) (c : Code) (Q : Post) (ρ : Slots) (m : Mem) (nx : Nat) : Prop :=
  ∀ G a w, SimS B G N ρ m nx a w → ∀ b k cs, ∃ e a' w', (∃ ρ' m' nx' G', SimS B G' N ρ' m' nx' a' w' ∧ Q e ρ' m' nx') ∧ Arrives P (lone (b.at a (.code c :: .inLoop c :: k)) cs w) b k cs e a' w'
theorem W_unroll {c : Code} (h : WL P B N c Q ρ m nx) : W P B N (.loop c) Q ρ m nx := by
  intro G a w hs b k cs
  obtain ⟨e, a', w', hq, harr⟩ := h G a w hs b k cs
  exact ⟨e, a', w', hq, .of_steps (.one step_loop) harr⟩
/-- one round of a loop, and the loop again -/
theorem WL_round {c : Code} (h : W P B N c (thenD (WL P B N c Q) Q) ρ m nx) : WL P B N c Q ρ m nx := by
  intro G a w hs b k cs
  obtain ⟨e, a₁, w₁, ⟨ρ', m', nx', G', hs', hq⟩, harr⟩ := h G a w hs b (.inLoop c :: k) cs
  cases e with
  | normal =>
    obtain ⟨e₂, a₂, w₂, hq₂, harr₂⟩ := hq G' a₁ w₁ hs' b k cs
    exact ⟨e₂, a₂, w₂, hq₂, .of_steps (Steps.trans harr (.one step_inLoop)) harr₂⟩
  | exit id => exact ⟨_, a₁, w₁, ⟨ρ', m', nx', G', hs', hq⟩, .pass (x := .inLoop c) rfl (fun _ _ => .inl (by simp)) harr⟩
  | goto l => exact ⟨_, a₁, w₁, ⟨ρ', m', nx', G', hs', hq⟩, .pass (x := .inLoop c) rfl (fun _ _ => .inl (by simp)) harr⟩
  | ret => exact ⟨_, a₁, w₁, ⟨ρ', m', nx', G', hs', hq⟩, .pass (x := .inLoop c) rfl (fun _ _ => .inl (by simp)) harr⟩
  | panic ch => exact ⟨_, a₁, w₁, ⟨ρ', m', nx', G', hs', hq⟩, .pass (x := .inLoop c) rfl (fun _ _ => .inl (by simp)) harr⟩
  | outgrown => exact ⟨_, a₁, w₁, ⟨ρ', m', nx', G', hs', hq⟩, .pass (x := .inLoop c) rfl (fun _ _ => .inl (by simp)) harr⟩
end

section
variable {P : Program} {ρ : Slots} {m : Mem} {nx : Nat} {ops : Array Oper} {os : List Oper} {K : List Eff → Slots → Mem → Nat → Prop}
theorem k_slice {t : Tmp} {T E : TypeId} {ty : Ty} [HasSl P T E] [HasTy P E ty] {x : Operand} {low high : Option Operand} {tk : Tok} {n nn : Nat} {cs cs' : List D} {lo hi : Int} {V : TypeId} {pos : String} {af : Array Edge} {gd : Option (Nat × Bool)} (hg : gok ops ρ ⟨some t, .slice T x low high none, V, pos, af, gd⟩ = some true)
    (hx : oev ρ x = some (.slice tk n cs)) (hlo : bnd ρ low 0 = some lo) (hhi : bnd ρ high n = some hi) (h : 0 ≤ lo ∧ lo ≤ hi ∧ hi ≤ n) (hlen : n * ty.size = cs.length) (hnn : (hi - lo).toNat = nn) (hcs : (cs.drop (lo.toNat * ty.size)).take (nn * ty.size) = cs')
    (hh : R P ops os (fun Es => K (Eff.val (.slice .frozen nn cs') :: Es)) ((t, .slice .frozen nn cs') :: ρ) m nx) : R P ops (⟨some t, .slice T x low high none, V, pos, af, gd⟩ :: os) K ρ m nx := R_cons hg (r_slice rfl hx hlo hhi h hlen hnn hcs) rfl hh
theorem k_slice3 {t : Tmp} {T E : TypeId} {ty : Ty} [HasSl P T E] [HasTy P E ty] {x y z : Operand} {low : Option Operand} {tk : Tok} {n nn : Nat} {cs cs' : List D} {k1 k2 : IntKind} {lo hi : Int} {V : TypeId} {pos : String} {af : Array Edge} {gd : Option (Nat × Bool)} (hg : gok ops ρ ⟨some t, .slice T x low (some y) (some z), V, pos, af, gd⟩ = some true)
    (hx : oev ρ x = some (.slice tk n cs)) (hlo : bnd ρ low 0 = some lo) (hhi : oev ρ y = some (.int k1 hi)) (hmx : oev ρ z = some (.int k2 hi)) (h : 0 ≤ lo ∧ lo ≤ hi ∧ hi ≤ n) (hlen : n * ty.size = cs.length) (hnn : (hi - lo).toNat = nn) (hcs : (cs.drop (lo.toNat * ty.size)).take (nn * ty.size) = cs')
    (hh : R P ops os (fun Es => K (Eff.val (.slice .tight nn cs') :: Es)) ((t, .slice .tight nn cs') :: ρ) m nx) : R P ops (⟨some t, .slice T x low (some y) (some z), V, pos, af, gd⟩ :: os) K ρ m nx := R_cons hg (r_slice3 rfl hx hlo hhi hmx h hlen hnn hcs) rfl hh
theorem k_slices {t : Tmp} {T : TypeId} {x : Operand} {low high : Option Operand} {s s' : ByteArray} {lo hi : Int} {V : TypeId} {pos : String} {af : Array Edge} {gd : Option (Nat × Bool)} (hg : gok ops ρ ⟨some t, .slice T x low high none, V, pos, af, gd⟩ = some true)
    (hu : P.underlying T = some .string) (hx : oev ρ x = some (.str s)) (hlo : bnd ρ low 0 = some lo) (hhi : bnd ρ high s.size = some hi) (h : 0 ≤ lo ∧ lo ≤ hi ∧ hi ≤ s.size) (hs' : s.extract lo.toNat hi.toNat = s')
    (hh : R P ops os (fun Es => K (Eff.val (.str s') :: Es)) ((t, .str s') :: ρ) m nx) : R P ops (⟨some t, .slice T x low high none, V, pos, af, gd⟩ :: os) K ρ m nx := R_cons hg (r_slices rfl hu hx hlo hhi h hs') rfl hh
theorem k_sliceA {t : Tmp} {T E : TypeId} {n : Nat} {ty : Ty} [HasArr P T n E] [HasTy P E ty] {x : Operand} {low high : Option Operand} {l off off' nn : Nat} {lo hi : Int} {V : TypeId} {pos : String} {af : Array Edge} {gd : Option (Nat × Bool)} (hg : gok ops ρ ⟨some t, .slice T x low high none, V, pos, af, gd⟩ = some true)
    (hx : oev ρ x = some (.ptr l off)) (hlo : bnd ρ low 0 = some lo) (hhi : bnd ρ high n = some hi) (h : 0 ≤ lo ∧ lo ≤ hi ∧ hi ≤ n ∧ lo < n) (hnn : (hi - lo).toNat = nn) (hoff : off + lo.toNat * ty.size = off')
    (hh : R P ops os (fun Es => K (Eff.val (.ms l off' nn) :: Es)) ((t, .ms l off' nn) :: ρ) m nx) : R P ops (⟨some t, .slice T x low high none, V, pos, af, gd⟩ :: os) K ρ m nx := R_cons hg (r_sliceA rfl hx hlo hhi h hnn hoff) rfl hh
theorem k_sliceE {t : Tmp} {T E : TypeId} {n : Nat} {ty : Ty} [HasArr P T n E] [HasTy P E ty] {x : Operand} {low high : Option Operand} {cs cs' : List D} {nn : Nat} {lo hi : Int} {V : TypeId} {pos : String} {af : Array Edge} {gd : Option (Nat × Bool)} (hg : gok ops ρ ⟨some t, .slice T x low high none, V, pos, af, gd⟩ = some true)
    (hx : oev ρ x = some (.eptr cs)) (hlo : bnd ρ low 0 = some lo) (hhi : bnd ρ high n = some hi) (h : 0 ≤ lo ∧ lo ≤ hi ∧ hi ≤ n ∧ lo < n) (hsz : Nat.blt 0 ty.size = true) (hlen : Nat.ble (n * ty.size) cs.length = true) (hnn : (hi - lo).toNat = nn) (hcs : (cs.drop (lo.toNat * ty.size)).take (nn * ty.size) = cs')
    (hh : R P ops os (fun Es => K (Eff.val (.slice .frozen nn cs') :: Es)) ((t, .slice .frozen nn cs') :: ρ) m nx) : R P ops (⟨some t, .slice T x low high none, V, pos, af, gd⟩ :: os) K ρ m nx := R_cons hg (r_sliceE rfl hx hlo hhi h hsz hlen hnn hcs) rfl hh
end
end Go.Proofs.Ytpdhbddkcnffbaa

namespace Go.Proofs.Ytpdhbddkcnffbaa
open Go.RowKit Go.Lib
set_option linter.unusedVariables false

/-- bytes -/
def bs (l : List UInt8) : List D := l.map fun x => .int .u8 (x.toNat : Int)
theorem bs_len (l : List UInt8) : (bs l).length = l.length := by simp [bs]
theorem bs_cl (l : List UInt8) : D.cls (bs l) = true := D.cls_of fun d hd => by
  obtain ⟨x, _, rfl⟩ := List.mem_map.1 hd
  rfl

section
variable {P : Program}
theorem Rep.bytes {G : Gh} {w : World} {tk : Tok} {n : Nat} {l : List UInt8} {v : Value} (h : Rep G w (.slice tk n (bs l)) v) (hn : n = l.length) : (Extern.Bytes.bytesOf v).run P w = .ok ⟨l.toArray⟩ w := by
  generalize hcs : bs l = cs at h
  cases h with
  | nil tk =>
    have : l = [] := by cases l with | nil => rfl | cons a l => simp [bs] at hcs
    subst this
    rfl
  | slice tk n cs b o cap vs hl h1 hh hhw hc hb hn' htk =>
    subst hcs
    subst hn
    have hcell : ∀ j x, l[j]? = some x → w.cell? ((⟨b, o, none⟩ : Addr).add j) = some (.int .u8 x.toNat) := fun j x hx => by
      have hlt := (List.getElem?_eq_some_iff.1 hx).1
      have hd : (bs l)[j]? = some (.int .u8 (x.toNat : Int)) := by simp [bs, hx]
      have hv : vs[j]? = some (vs[j]'(by rw [hl, bs_len]; exact hlt)) := Array.getElem?_eq_getElem _
      have hr := hh j _ _ hd hv
      rw [add_off, hc j (by rw [bs_len]; exact hlt), hv]
      generalize vs[j]'(by rw [hl, bs_len]; exact hlt) = u at hr
      cases hr; rfl
    have := Lib.run_loadBytesX (P := P) w (l.map fun x => (x.toNat : Int)) ⟨b, o, none⟩ .empty (fun j x hx => by
      rw [List.getElem?_map] at hx
      obtain ⟨y, hy, rfl⟩ := Option.map_eq_some_iff.1 hx
      exact hcell j y hy)
    rw [List.length_map] at this
    have e : Lib.bytesOf (l.map fun x => (x.toNat : Int)) = l := by
      unfold Lib.bytesOf
      rw [List.map_map]
      conv => rhs; rw [← List.map_id l]
      apply List.map_congr_left
      intro x _
      simp
    rw [e] at this
    show (Extern.Bytes.loadBytes ⟨b, o, none⟩ l.length .empty).run P w = _
    rw [this]
    simp

/-- the entry that compares -/
class HasCmp (P : Program) (F : FuncId) : Prop where
  fn : ∃ fn, P.funcs[F]? = some fn ∧ (fn.name == "runtime.NumGoroutine") = false ∧ fn.body.isNone = true ∧ Extern.findNext fn = none ∧ Extern.find fn = some Extern.BytealgCompare.compare

variable {o : Oper} {ρ : Slots} {m : Mem}
theorem r_cmpx {F : FuncId} [hf : HasCmp P F] {x y : Operand} {ts : Array TypeId} {tk tk2 : Tok} {n n2 : Nat} {l l2 : List UInt8} {c : Int} (ho : o.op = .call { callee := .value (.func F), args := #[x, y], argTypes := ts }) (hx : oev ρ x = some (.slice tk n (bs l))) (hy : oev ρ y = some (.slice tk2 n2 (bs l2))) (hn : n = l.length) (hn2 : n2 = l2.length) (hc : compareBytes l l2 = c) : OpSound P o (Eff.val (.int .i64 c)) ρ m := by
  subst hc
  obtain ⟨fn, h1, h2, h3, h4, h5⟩ := hf.fn
  refine sound_val fun B G a w m' hs h _ => ⟨.int .i64 (compareBytes l l2), ?_, .int _ _⟩
  have hpx := (h x (by simp [ho, Op.operands, Call.operands]) _ hx).bytes (P := P) hn
  have hpy := (h y (by simp [ho, Op.operands, Call.operands]) _ hy).bytes (P := P) hn2
  have e : a.eval (.func F) = .func (.func F) #[] #[] := rfl
  unfold execOp
  simp only [ho, resolve, e, Deferred.ofValue, Sem.run_bind, Sem.run_pure, Result.andThen_ok, invoke, List.map_toArray, List.map_cons, List.map_nil]
  have hrun := run_callFunc_extern h1 h2 h3 h4 h5 #[a.eval x, a.eval y] w
  have hcmp : (Extern.BytealgCompare.compare #[a.eval x, a.eval y]).run P w = .ok (.int .i64 (compareBytes l l2)) w := by
    change Sem.run P (do pure (goInt (Extern.BytealgCompare.cmp (← Extern.Bytes.bytesOf (a.eval x)) (← Extern.Bytes.bytesOf (a.eval y))))) w = _
    simp only [Sem.run_bind, hpx, hpy, Sem.run_pure, Result.andThen_ok]
    rw [cmp_eq]
    simp [goInt]
  rw [hcmp] at hrun
  simp only [Result.andThen_ok] at hrun
  simpa using hrun
end

section
variable {P : Program} {ρ : Slots} {m : Mem} {nx : Nat} {ops : Array Oper} {os : List Oper} {K : List Eff → Slots → Mem → Nat → Prop}
theorem k_cmpx {t : Tmp} {F : FuncId} [HasCmp P F] {x y : Operand} {ts : Array TypeId} {tk tk2 : Tok} {n n2 : Nat} {l l2 : List UInt8} {c : Int} {V : TypeId} {pos : String} {af : Array Edge} {gd : Option (Nat × Bool)} (hg : gok ops ρ ⟨some t, .call { callee := .value (.func F), args := #[x, y], argTypes := ts }, V, pos, af, gd⟩ = some true)
    (hx : oev ρ x = some (.slice tk n (bs l))) (hy : oev ρ y = some (.slice tk2 n2 (bs l2))) (hn : n = l.length) (hn2 : n2 = l2.length) (hc : compareBytes l l2 = c)
    (hh : R P ops os (fun Es => K (Eff.val (.int .i64 c) :: Es)) ((t, .int .i64 c) :: ρ) m nx) : R P ops (⟨some t, .call { callee := .value (.func F), args := #[x, y], argTypes := ts }, V, pos, af, gd⟩ :: os) K ρ m nx :=
  R_cons hg (r_cmpx rfl hx hy hn hn2 hc) rfl hh
end
end Go.Proofs.Ytpdhbddkcnffbaa

namespace Go.Proofs.Ytpdhbddkcnffbaa
open Go.RowKit
set_option linter.unusedVariables false

section
variable {P : Program} {o : Oper} {ρ : Slots} {m : Mem}
theorem run_min_ {ts : Array TypeId} {v1 v2 : Value} {w : World} {x y : Operand} {a : Act} {r : Value} (ho : o.op = .call { callee := .builtin .min, args := #[x, y], argTypes := ts }) (he : a.eval x = v1) (he2 : a.eval y = v2) (h : (Builtin.min_ ts o.type #[v1, v2]).run P w = .ok r w) : (execOp a.eval o).run P w = .ok (.value r) w := by
  simp only [execOp, ho, resolve, Sem.run_bind, Sem.run_pure, Result.andThen_ok, invoke]
  simp [builtin, he, he2, h]
theorem run_max_ {ts : Array TypeId} {v1 v2 : Value} {w : World} {x y : Operand} {a : Act} {r : Value} (ho : o.op = .call { callee := .builtin .max, args := #[x, y], argTypes := ts }) (he : a.eval x = v1) (he2 : a.eval y = v2) (h : (Builtin.max_ ts o.type #[v1, v2]).run P w = .ok r w) : (execOp a.eval o).run P w = .ok (.value r) w := by
  simp only [execOp, ho, resolve, Sem.run_bind, Sem.run_pure, Result.andThen_ok, invoke]
  simp [builtin, he, he2, h]
theorem r_min {ts : Array TypeId} {x y : Operand} {k k' : IntKind} {p q c : Int} (ho : o.op = .call { callee := .builtin .min, args := #[x, y], argTypes := ts }) (hx : oev ρ x = some (.int k p)) (hy : oev ρ y = some (.int k' q)) (h : min p q = c) : OpSound P o (Eff.val (.int k c)) ρ m := by
  refine sound_val fun B G a w m' _ hh _ => ?_
  have hp := hh x (by simp [ho, Op.operands, Call.operands]) _ hx
  have hq := hh y (by simp [ho, Op.operands, Call.operands]) _ hy
  generalize hev : a.eval x = vx at hp
  generalize hev2 : a.eval y = vy at hq
  cases hp; cases hq
  refine ⟨.int k c, run_min_ ho hev hev2 ?_, .int k c⟩
  have e : (if q < p then q else p) = c := by rw [← h]; split <;> omega
  simp [Builtin.min_, Builtin.min2, e]
theorem r_max {ts : Array TypeId} {x y : Operand} {k k' : IntKind} {p q c : Int} (ho : o.op = .call { callee := .builtin .max, args := #[x, y], argTypes := ts }) (hx : oev ρ x = some (.int k p)) (hy : oev ρ y = some (.int k' q)) (h : max p q = c) : OpSound P o (Eff.val (.int k c)) ρ m := by
  refine sound_val fun B G a w m' _ hh _ => ?_
  have hp := hh x (by simp [ho, Op.operands, Call.operands]) _ hx
  have hq := hh y (by simp [ho, Op.operands, Call.operands]) _ hy
  generalize hev : a.eval x = vx at hp
  generalize hev2 : a.eval y = vy at hq
  cases hp; cases hq
  refine ⟨.int k c, run_max_ ho hev hev2 ?_, .int k c⟩
  have e : (if p < q then q else p) = c := by rw [← h]; split <;> omega
  simp [Builtin.max_, Builtin.max2, e]
end
section
variable {P : Program} {ops : Array Oper} {os : List Oper} {K : List Eff → Slots → Mem → Nat → Prop} {ρ : Slots} {m : Mem} {nx : Nat}
theorem k_min {t : Tmp} {ts : Array TypeId} {x y : Operand} {k k' : IntKind} {p q c : Int} {V : TypeId} {pos : String} {af : Array Edge} {gd : Option (Nat × Bool)} (hg : gok ops ρ ⟨some t, .call { callee := .builtin .min, args := #[x, y], argTypes := ts }, V, pos, af, gd⟩ = some true) (hx : oev ρ x = some (.int k p)) (hy : oev ρ y = some (.int k' q)) (h : min p q = c) (hh : R P ops os (fun Es => K (Eff.val (.int k c) :: Es)) ((t, .int k c) :: ρ) m nx) :
    R P ops (⟨some t, .call { callee := .builtin .min, args := #[x, y], argTypes := ts }, V, pos, af, gd⟩ :: os) K ρ m nx := R_cons hg (r_min rfl hx hy h) rfl hh
theorem k_max {t : Tmp} {ts : Array TypeId} {x y : Operand} {k k' : IntKind} {p q c : Int} {V : TypeId} {pos : String} {af : Array Edge} {gd : Option (Nat × Bool)} (hg : gok ops ρ ⟨some t, .call { callee := .builtin .max, args := #[x, y], argTypes := ts }, V, pos, af, gd⟩ = some true) (hx : oev ρ x = some (.int k p)) (hy : oev ρ y = some (.int k' q)) (h : max p q = c) (hh : R P ops os (fun Es => K (Eff.val (.int k c) :: Es)) ((t, .int k c) :: ρ) m nx) :
    R P ops (⟨some t, .call { callee := .builtin .max, args := #[x, y], argTypes := ts }, V, pos, af, gd⟩ :: os) K ρ m nx := R_cons hg (r_max rfl hx hy h) rfl hh
end
section
variable {P : Program} {B : Base} {N : Nat} {Q : Post} {ρ : Slots} {m : Mem} {nx : Nat}
/-- a body that holds a label, and no jump -/
def scopeD (Q : Post) : Post := fun e ρ m nx => match e with | .goto _ => False | e => Q e ρ m nx
theorem W_scope {c : Code} (h : W P B N c (scopeD Q) ρ m nx) : W P B N (.scope c) Q ρ m nx := by
  intro G a w hs
  refine wp_scope_straight (wp_mono (h G a w hs) ?_)
  rintro e a' w' ⟨ρ', m', nx', G', hs', hq⟩
  cases e with
  | goto l => exact hq.elim
  | _ => exact ⟨ρ', m', nx', G', hs', hq⟩
theorem q_scope (h : Q .normal ρ m nx) : scopeD Q .normal ρ m nx := h
theorem q_scoper (h : Q .ret ρ m nx) : scopeD Q .ret ρ m nx := h
theorem q_scopex {i : Nat} (h : Q (.exit i) ρ m nx) : scopeD Q (.exit i) ρ m nx := h
end
end Go.Proofs.Ytpdhbddkcnffbaa

namespace Go.Proofs.Ytpdhbddkcnffbaa
open Go.RowKit Go.Lib
set_option linter.unusedVariables false

section
variable {P : Program} {o : Oper} {ρ : Slots} {m : Mem}
/-- an operation that makes new memory, and turns nothing -/
theorem sound_mk {d : D} (hd : d.cl = true)
    (h : ∀ (B : Base) (G : Gh) (a : Act) (w : World) (m' : Mem), Sim B G m' w → (∀ x ∈ o.op.operands, ∀ d, oev ρ x = some d → Rep G w d (a.eval x)) →
      ∃ v w' hw', (execOp a.eval o).run P w = .ok (.value v) w' ∧ New w w' ∧ HwOk hw' w' ∧ (∀ b, b < w.heap.size → hw' b = G.hw b) ∧ Rep (bare hw') w' d v) : OpSound P o (Eff.val d) ρ m := by
  intro B G a w m' K Q hs hx ht hn hK
  obtain ⟨v, w', hw', hv, hN, hok, hold, hrv⟩ := h B G a w m' hs hx
  unfold Oper.wp
  rw [hv, Oper.upon_value]
  have hlt : ∀ b, 0 < G.hw b → b < w.heap.size := fun b hb => by
    obtain ⟨_, _, _, hv, _⟩ := hs.data b hb
    exact (Array.getElem?_eq_some_iff.1 hv).1
  have hle : ∀ b, G.hw b ≤ hw' b := fun b => by
    rcases Nat.eq_zero_or_pos (G.hw b) with h0 | h0
    · omega
    · rw [hold b (hlt b h0)]; exact Nat.le_refl _
  have hx0 := Ext.grow hs.data hN
  let G2 : Gh := { G with hw := hw', al := fun k => G.al k && (G.nl k || decide (G.g k < w.heap.size)) }
  have hX : Ext G w G2 w' := by
    refine ⟨fun l hl => ⟨hl, rfl, fun ha => ?_, rfl, rfl⟩, hle, hx0.cell, hx0.size⟩
    simp only [G2, Bool.and_eq_true, Bool.or_eq_true, decide_eq_true_iff] at ha
    exact ⟨ha.1, fun hn => hold _ (ha.2.resolve_left (by rw [hn]; simp))⟩
  refine hK v w' _ hX ?_ (hrv.closed G2 rfl hd) fun l hl => .inl hl
  have hg := hs.grow hN
  show Sim B G2 m' w'
  refine ⟨hg.new, hs.ext.trans hX, fun b hb hT => ?_, fun l T cs hm => ?_, fun l E s hm => ?_, hg.inj, hok⟩
  · show hw' b = B.G.hw b
    rw [hold b (Nat.lt_of_lt_of_le hb hs.new.size)]; exact hs.old b hb hT
  · obtain ⟨a1, a2, a3, a0, vs', a4, a5, a6⟩ := hs.var l T cs hm
    exact ⟨a1, a2, (hold _ (hs.vlt hm)).trans a3, a0, vs', (hN.block _ (hs.vlt hm)).trans a4, a5.mono hX, a6⟩
  · obtain ⟨a1, a2, a3⟩ := hs.tok l E s hm
    refine ⟨a1, ?_, fun hn => ?_⟩
    · simp only [G2, a2, Bool.true_and, Bool.or_eq_true, decide_eq_true_iff]
      cases hnl : G.nl l with
      | true => exact .inl rfl
      | false => exact .inr (hs.lt (by rw [hm]; rfl) hnl)
    · obtain ⟨c1, c2, vs', c3, c4, c5⟩ := a3 hn
      have hlt' := hs.lt (l := l) (by rw [hm]; rfl) hn
      exact ⟨c1, c2, vs', (hN.block _ hlt').trans c3, by show hw' (G.g l) ≤ _; rw [hold _ hlt']; exact c4, c5⟩

theorem bs_get (l : List UInt8) (i : Nat) (x : UInt8) (h : l[i]? = some x) : (bs l)[i]? = some (.int .u8 (x.toNat : Int)) := by simp [bs, h]
theorem r_s2b {S T E : TypeId} [ha : HasSl P T E] {x : Operand} {s : ByteArray} {l : List UInt8} {n : Nat} (hS : P.underlying S = some .string) (hE : P.underlying E = some (.int .u8)) (ho : o.op = .convert S T x) (hx : oev ρ x = some (.str s)) (hl : s.data.toList = l) (hn : l.length = n) : OpSound P o (Eff.val (.slice .frozen n (bs l))) ρ m := by
  subst hl; subst hn
  refine sound_mk rfl fun B G a w m' hs h => ?_
  have hp := h x (by simp [ho, Op.operands]) _ hx
  generalize hev : a.eval x = vx at hp
  cases hp
  have hrun := Go.Lib.run_convert_string_bytes (P := P) w S T E s hS ha.sl hE
  have hsz : s.data.toList.length = s.size := by rw [Array.length_toList]; rfl
  have hnew : New w (bytesWorld w E s) := by
    unfold bytesWorld
    exact new_freeze (new_alloc (new_drew (new_refl w)) _) (Nat.le_refl _) 1
  have hgc := grownCap_ge w s.size 0 E
  refine ⟨.slice (some ⟨w.heap.size, 0, none⟩) s.size (grownCap w s.size 0 E), bytesWorld w E s, fun b => if b = w.heap.size then (bytesCells w E s).size else G.hw b, by simp only [execOp, ho, hev, Sem.run_bind, hrun, Result.andThen_ok, Sem.run_pure], hnew, fun b hb => ?_, fun b hb => by simp [Nat.ne_of_lt hb], ?_⟩
  · by_cases e : b = w.heap.size
    · subst e
      simp only [if_pos]
      exact ⟨_, _, _, bytesWorld_at_new w E s, Nat.le_refl _⟩
    · simp only [if_neg e] at hb ⊢
      obtain ⟨vs, T', fr, h1, h2⟩ := hs.data b hb
      exact ⟨vs, T', fr, (hnew.block b (Array.getElem?_eq_some_iff.1 h1).1).trans h1, h2⟩
  · rw [← hsz]
    have hbl : (bs s.data.toList).length = s.size := by rw [bs_len, hsz]
    refine .slice .frozen _ _ _ 0 _ (s.data.map fun b => Value.int .u8 b.toNat) (by rw [hbl]; simp) (fun d hd => ?_) (fun i d v hd hv => ?_) ?_ (fun i hi => ?_) ?_ (by rw [hsz]; exact hgc) trivial
    · obtain ⟨y, _, rfl⟩ := List.mem_map.1 hd
      exact ⟨rfl, rfl⟩
    · obtain ⟨y, hy, rfl⟩ : ∃ y, s.data[i]? = some y ∧ d = .int .u8 (y.toNat : Int) := by
        unfold bs at hd
        rw [List.getElem?_map] at hd
        obtain ⟨y, h1, h2⟩ := Option.map_eq_some_iff.1 hd
        exact ⟨y, by simpa using h1, h2.symm⟩
      rw [Array.getElem?_map, hy] at hv
      simp at hv; subst hv
      exact .int _ _
    · show 0 + _ ≤ (if _ then _ else _)
      rw [if_pos rfl, hbl]; simp [bytesCells]
    · have hi' : i < s.size := by rw [← hbl]; exact hi
      rw [Nat.zero_add, bytesWorld_cell w E s i hi']
      have hlt : i < s.data.size := hi'
      rw [Array.getElem?_map, Array.getElem?_eq_getElem hlt]
      simp [List.getD, Array.getElem?_eq_getElem hlt]
    · rw [bytesWorld_size]; omega

theorem Rep.cell8 {G : Gh} {w : World} {tk : Tok} {n : Nat} {l : List UInt8} {v : Value} (h : Rep G w (.slice tk n (bs l)) v) (hn : n = l.length) : (v = .slice none 0 0 ∧ l = []) ∨ ∃ a cap, v = .slice (some a) l.length cap ∧ ∀ j (hj : j < l.length), w.cell? (a.add j) = some (.int .u8 (l[j].toNat : Int)) := by
  generalize hcs : bs l = cs at h
  cases h with
  | nil tk => exact .inl ⟨rfl, by cases l with | nil => rfl | cons a l => simp [bs] at hcs⟩
  | slice tk n cs b o cap vs hl h1 hh hhw hc hb hn' htk =>
    subst hcs; subst hn
    refine .inr ⟨⟨b, o, none⟩, cap, rfl, fun j hj => ?_⟩
    have hd := bs_get l j _ (List.getElem?_eq_getElem hj)
    have hv : vs[j]? = some (vs[j]'(by rw [hl, bs_len]; exact hj)) := Array.getElem?_eq_getElem _
    have hr := hh j _ _ hd hv
    rw [add_off, hc j (by rw [bs_len]; exact hj), hv]
    generalize vs[j]'(by rw [hl, bs_len]; exact hj) = u at hr
    cases hr; rfl
theorem r_b2s {S T E : TypeId} [ha : HasSl P S E] {x : Operand} {tk : Tok} {n : Nat} {l : List UInt8} (hT : P.underlying T = some .string) (hE : P.underlying E = some (.int .u8)) (ho : o.op = .convert S T x) (hx : oev ρ x = some (.slice tk n (bs l))) (hn : n = l.length) : OpSound P o (Eff.val (.str ⟨l.toArray⟩)) ρ m := by
  refine sound_val fun B G a w m' hs h _ => ?_
  have hp := (h x (by simp [ho, Op.operands]) _ hx).cell8 hn
  generalize hev : a.eval x = vx at hp
  refine ⟨.string ⟨l.toArray⟩, ?_, .str _⟩
  rcases hp with ⟨rfl, rfl⟩ | ⟨ad, cap, rfl, hc⟩
  · have hrun : (convert S T (.slice none 0 0)).run P w = .ok (.string ⟨#[]⟩) w := by
      simp [convert, Sem.run_bind, run_underlying ha.sl, run_underlying hT, run_underlying hE, Conv.bytesToString]
      rfl
    simp only [execOp, ho, hev, Sem.run_bind, hrun, Result.andThen_ok, Sem.run_pure]
  · have hrun := run_convert_bytes_back (P := P) w S T E ad cap l ha.sl hE hT hc
    simp only [execOp, ho, hev, Sem.run_bind, hrun, Result.andThen_ok, Sem.run_pure]
theorem r_strop {op : BinOp} {T U : TypeId} {x y : Operand} {s t : ByteArray} {c : Bool} (ho : o.op = .binOp op T x y U) (hx : oev ρ x = some (.str s)) (hy : oev ρ y = some (.str t)) (hop : op ≠ .shl ∧ op ≠ .shr) (h : ∀ w, (Op.stringOp op s t).run P w = .ok (.bool c) w) : OpSound P o (Eff.val (.bool c)) ρ m :=
  sound_bin ho hx hy fun G w vx vy h1 h2 => by
    cases h1; cases h2
    have hb : ∀ w, (binOp op T (.string s) (.string t)).run P w = .ok (.bool c) w := fun w => by
      rw [← h w]; cases op <;> first | rfl | simp at hop
    exact ⟨.bool c, by simp [eqGuard, hb], .bool c⟩
theorem r_nes {T U : TypeId} {x y : Operand} {s t : ByteArray} {c : Bool} (ho : o.op = .binOp .neq T x y U) (hx : oev ρ x = some (.str s)) (hy : oev ρ y = some (.str t)) (h : (!(s.toList == t.toList)) = c) : OpSound P o (Eff.val (.bool c)) ρ m :=
  r_strop ho hx hy (by decide) fun w => by rw [← h]; rfl
theorem r_eqs {T U : TypeId} {x y : Operand} {s t : ByteArray} {c : Bool} (ho : o.op = .binOp .eql T x y U) (hx : oev ρ x = some (.str s)) (hy : oev ρ y = some (.str t)) (h : (s.toList == t.toList) = c) : OpSound P o (Eff.val (.bool c)) ρ m :=
  r_strop ho hx hy (by decide) fun w => by rw [← h]; rfl
theorem r_lts {T U : TypeId} {x y : Operand} {s t : ByteArray} {c : Bool} (ho : o.op = .binOp .lss T x y U) (hx : oev ρ x = some (.str s)) (hy : oev ρ y = some (.str t)) (h : Op.bytesLess s.toList t.toList = c) : OpSound P o (Eff.val (.bool c)) ρ m :=
  r_strop ho hx hy (by decide) fun w => by rw [← h]; rfl
end

section
variable {P : Program} {ρ : Slots} {m : Mem} {nx : Nat} {ops : Array Oper} {os : List Oper} {K : List Eff → Slots → Mem → Nat → Prop}
theorem k_s2b {t : Tmp} {S T E : TypeId} [HasSl P T E] {x : Operand} {s : ByteArray} {l : List UInt8} {n : Nat} {V : TypeId} {pos : String} {af : Array Edge} {gd : Option (Nat × Bool)} (hg : gok ops ρ ⟨some t, .convert S T x, V, pos, af, gd⟩ = some true) (hS : P.underlying S = some .string) (hE : P.underlying E = some (.int .u8)) (hx : oev ρ x = some (.str s)) (hl : s.data.toList = l) (hn : l.length = n) (hh : R P ops os (fun Es => K (Eff.val (.slice .frozen n (bs l)) :: Es)) ((t, .slice .frozen n (bs l)) :: ρ) m nx) :
    R P ops (⟨some t, .convert S T x, V, pos, af, gd⟩ :: os) K ρ m nx := R_cons hg (r_s2b hS hE rfl hx hl hn) rfl hh
theorem k_b2s {t : Tmp} {S T E : TypeId} [HasSl P S E] {x : Operand} {tk : Tok} {n : Nat} {l : List UInt8} {V : TypeId} {pos : String} {af : Array Edge} {gd : Option (Nat × Bool)} (hg : gok ops ρ ⟨some t, .convert S T x, V, pos, af, gd⟩ = some true) (hT : P.underlying T = some .string) (hE : P.underlying E = some (.int .u8)) (hx : oev ρ x = some (.slice tk n (bs l))) (hn : n = l.length) (hh : R P ops os (fun Es => K (Eff.val (.str ⟨l.toArray⟩) :: Es)) ((t, .str ⟨l.toArray⟩) :: ρ) m nx) :
    R P ops (⟨some t, .convert S T x, V, pos, af, gd⟩ :: os) K ρ m nx := R_cons hg (r_b2s hT hE rfl hx hn) rfl hh
theorem k_nes {t : Tmp} {T U : TypeId} {x y : Operand} {s s' : ByteArray} {c : Bool} {V : TypeId} {pos : String} {af : Array Edge} {gd : Option (Nat × Bool)} (hg : gok ops ρ ⟨some t, .binOp .neq T x y U, V, pos, af, gd⟩ = some true) (hx : oev ρ x = some (.str s)) (hy : oev ρ y = some (.str s')) (h : (!(s.toList == s'.toList)) = c) (hh : R P ops os (fun Es => K (Eff.val (.bool c) :: Es)) ((t, .bool c) :: ρ) m nx) :
    R P ops (⟨some t, .binOp .neq T x y U, V, pos, af, gd⟩ :: os) K ρ m nx := R_cons hg (r_nes rfl hx hy h) rfl hh
theorem k_eqs {t : Tmp} {T U : TypeId} {x y : Operand} {s s' : ByteArray} {c : Bool} {V : TypeId} {pos : String} {af : Array Edge} {gd : Option (Nat × Bool)} (hg : gok ops ρ ⟨some t, .binOp .eql T x y U, V, pos, af, gd⟩ = some true) (hx : oev ρ x = some (.str s)) (hy : oev ρ y = some (.str s')) (h : (s.toList == s'.toList) = c) (hh : R P ops os (fun Es => K (Eff.val (.bool c) :: Es)) ((t, .bool c) :: ρ) m nx) :
    R P ops (⟨some t, .binOp .eql T x y U, V, pos, af, gd⟩ :: os) K ρ m nx := R_cons hg (r_eqs rfl hx hy h) rfl hh
theorem k_lts {t : Tmp} {T U : TypeId} {x y : Operand} {s s' : ByteArray} {c : Bool} {V : TypeId} {pos : String} {af : Array Edge} {gd : Option (Nat × Bool)} (hg : gok ops ρ ⟨some t, .binOp .lss T x y U, V, pos, af, gd⟩ = some true) (hx : oev ρ x = some (.str s)) (hy : oev ρ y = some (.str s')) (h : Op.bytesLess s.toList s'.toList = c) (hh : R P ops os (fun Es => K (Eff.val (.bool c) :: Es)) ((t, .bool c) :: ρ) m nx) :
    R P ops (⟨some t, .binOp .lss T x y U, V, pos, af, gd⟩ :: os) K ρ m nx := R_cons hg (r_lts rfl hx hy h) rfl hh
end
end Go.Proofs.Ytpdhbddkcnffbaa

namespace Go.Proofs.Ytpdhbddkcnffbaa
open Go.RowKit Go.Lib
set_option linter.unusedVariables false

def nm (l : List UInt8) : Nat := l.foldl (fun a c => a * 256 + c.toNat) 0
def toB : Nat → Nat → List UInt8
  | 0, _ => []
  | k + 1, n => toB k (n / 256) ++ [UInt8.ofNat n]
theorem toB_len : ∀ (k n : Nat), (toB k n).length = k
  | 0, _ => rfl
  | k + 1, n => by simp [toB, toB_len k]
theorem nm_snoc (l : List UInt8) (c : UInt8) : nm (l ++ [c]) = nm l * 256 + c.toNat := by simp [nm, List.foldl_append]
theorem nm_toB : ∀ (k n : Nat), nm (toB k n) = n % 256 ^ k
  | 0, n => by simp [toB, nm, Nat.mod_one]
  | k + 1, n => by
    have e : (256 : Nat) ^ (k + 1) = 256 * 256 ^ k := by rw [Nat.pow_succ, Nat.mul_comm]
    rw [toB, nm_snoc, nm_toB k, UInt8.toNat_ofNat', e, Nat.mod_mul]
    omega
theorem toB_nm : ∀ (k : Nat) (l : List UInt8), l.length = k → toB k (nm l) = l
  | 0, l, h => by
    have : l = [] := List.eq_nil_of_length_eq_zero h
    subst this; rfl
  | k + 1, l, h => by
    have hne : l ≠ [] := fun e => by rw [e] at h; cases h
    obtain ⟨i, c, rfl⟩ : ∃ i c, l = i ++ [c] := ⟨l.dropLast, l.getLast hne, (List.dropLast_concat_getLast hne).symm⟩
    have hi : i.length = k := by simp at h; exact h
    have hc := c.toNat_lt
    rw [nm_snoc, toB, show (nm i * 256 + c.toNat) / 256 = nm i from by omega, toB_nm k i hi]
    have : UInt8.ofNat (nm i * 256 + c.toNat) = c := by
      apply UInt8.toNat_inj.1
      rw [UInt8.toNat_ofNat']; omega
    rw [this]
theorem nm_lt (l : List UInt8) : nm l < 256 ^ l.length := by
  have h := toB_nm l.length l rfl
  have := nm_toB l.length (nm l)
  rw [h] at this
  rw [this]
  exact Nat.mod_lt _ (Nat.pow_pos (by decide))
theorem toB_get : ∀ (k n j : Nat), j < k → (toB k n)[j]? = some (UInt8.ofNat (n / 256 ^ (k - 1 - j)))
  | k + 1, n, j, h => by
    rw [toB]
    rcases Nat.lt_or_ge j k with h1 | h1
    · rw [List.getElem?_append_left (by rw [toB_len]; exact h1), toB_get k _ j h1, Nat.div_div_eq_div_mul]
      congr 3
      rw [← Nat.pow_succ']
      congr 1; omega
    · have : j = k := by omega
      subst this
      rw [List.getElem?_append_right (by rw [toB_len]; exact Nat.le_refl _), toB_len]
      simp
/-- the bytes of 32 -/
def b32 (n : Nat) : List UInt8 := toB 32 n
theorem b32_len (n : Nat) : (b32 n).length = 32 := toB_len 32 n
theorem b32_nm (l : List UInt8) (h : l.length = 32) : b32 (nm l) = l := toB_nm 32 l h
theorem nm_b32 (n : Nat) (h : n < M256) : nm (b32 n) = n := by
  unfold b32
  rw [nm_toB, Nat.mod_eq_of_lt (by have : (256 : Nat) ^ 32 = M256 := by decide
                                   omega)]
theorem nm_lt32 (l : List UInt8) (h : l.length = 32) : nm l < M256 := by
  have := nm_lt l
  rw [h] at this
  have e : (256 : Nat) ^ 32 = M256 := by decide
  omega
/-- as one puts them one by one -/
def xb (n i : Nat) : Int := ((n / 256 ^ i % 256 : Nat) : Int)
theorem b32_bs (n : Nat) : bs (b32 n) = (List.range 32).map fun j => D.int .u8 (xb n (31 - j)) := by
  apply List.ext_getElem?
  intro j
  rcases Nat.lt_or_ge j 32 with h | h
  · unfold b32
    rw [bs_get _ _ _ (toB_get 32 n j h), List.getElem?_map, List.getElem?_range h]
    show some (D.int .u8 (((UInt8.ofNat (n / 256 ^ (32 - 1 - j))).toNat : Nat) : Int)) = some _
    rw [UInt8.toNat_ofNat']; rfl
  · rw [List.getElem?_eq_none (by rw [bs_len, b32_len]; exact h), List.getElem?_eq_none (by simp; exact h)]
theorem lim_byte (n q r : Nat) (hr : r < 8) : IntKind.u8.wrap ((lim n q).fdiv (2 ^ (8 * r))) = xb n (8 * q + r) := by
  unfold lim xb
  rw [Int.fdiv_eq_ediv_of_nonneg _ (by exact Int.le_of_lt (Int.pow_pos (by decide)))]
  have e1 : ((2 : Int) ^ (8 * r)) = ((256 ^ r : Nat) : Int) := by
    rw [Int.natCast_pow, Int.pow_mul]; rfl
  rw [e1, ← Int.natCast_ediv, IntKind.wrap_u8]
  have e2 : n / 18446744073709551616 ^ q % 18446744073709551616 / 256 ^ r % 256 = n / 256 ^ (8 * q + r) % 256 := by
    have p1 : (18446744073709551616 : Nat) = 256 ^ 8 := by decide
    have p2 : (256 : Nat) ^ 8 = 256 ^ r * 256 ^ (8 - r) := by rw [← Nat.pow_add]; congr 1; omega
    rw [p1, ← Nat.pow_mul]
    conv => lhs; rw [show (256 : Nat) ^ 8 = 256 ^ r * 256 ^ (8 - r) from p2]
    rw [Nat.mod_mul_right_div_self, Nat.div_div_eq_div_mul, ← Nat.pow_add]
    rw [Nat.mod_mod_of_dvd]
    exact Nat.dvd_trans (by decide : 256 ∣ 256 ^ 1) (Nat.pow_dvd_pow 256 (by omega))
  omega
end Go.Proofs.Ytpdhbddkcnffbaa

namespace Go.Proofs.Ytpdhbddkcnffbaa
open Go.RowKit Go.Lib
set_option linter.unusedVariables false

theorem ba_list (s : ByteArray) : s.toList = s.data.toList := by rw [ByteArray.toList_eq]
theorem ba_mk (l : List UInt8) : (⟨l.toArray⟩ : ByteArray).toList = l := ba_list _
theorem less_nm : ∀ (x y : List UInt8), x.length = y.length → Op.bytesLess x y = decide (nm x < nm y)
  | [], [], _ => rfl
  | [], _ :: _, h => by cases h
  | _ :: _, [], h => by cases h
  | a :: x, b :: y, h => by
    have h' : x.length = y.length := by simpa using h
    have ih := less_nm x y h'
    have cons : ∀ (c : UInt8) (l : List UInt8), nm (c :: l) = c.toNat * 256 ^ l.length + nm l := by
      intro c l
      have key : ∀ (l : List UInt8) (s : Nat), l.foldl (fun a c => a * 256 + c.toNat) s = s * 256 ^ l.length + nm l := by
        intro l
        induction l with
        | nil => intro s; simp [nm]
        | cons d l ih =>
          intro s
          have h1 : nm (d :: l) = d.toNat * 256 ^ l.length + nm l := by
            show l.foldl _ (0 * 256 + d.toNat) = _
            rw [ih, Nat.zero_mul, Nat.zero_add]
          rw [List.foldl_cons, ih, h1, List.length_cons, Nat.pow_succ, Nat.add_mul, Nat.mul_assoc, Nat.mul_comm 256, Nat.add_assoc]
      show l.foldl _ (0 * 256 + c.toNat) = _
      rw [key, Nat.zero_mul, Nat.zero_add]
    rw [cons, cons, h', Op.bytesLess, ih]
    have bx := nm_lt x
    have by_ := nm_lt y
    rw [h'] at bx
    have hlt : (a < b) ↔ a.toNat < b.toNat := UInt8.lt_iff_toNat_lt
    have heq : (a = b) ↔ a.toNat = b.toNat := UInt8.toNat_inj.symm
    generalize nm x = X at *
    generalize nm y = Y at *
    generalize 256 ^ y.length = Z at *
    rcases Nat.lt_trichotomy a.toNat b.toNat with h1 | h1 | h1
    · have : (a.toNat + 1) * Z ≤ b.toNat * Z := Nat.mul_le_mul_right _ h1
      rw [Nat.succ_mul] at this
      rw [decide_eq_true (hlt.2 h1), Bool.true_or, decide_eq_true (by omega)]
    · have e := heq.2 h1
      subst e
      have : ¬ a < a := UInt8.lt_irrefl a
      simp [this]
    · have : (b.toNat + 1) * Z ≤ a.toNat * Z := Nat.mul_le_mul_right _ h1
      rw [Nat.succ_mul] at this
      have n1 : ¬ a < b := fun h => by have := hlt.1 h; omega
      have n2 : ¬ a = b := fun h => by have := heq.1 h; omega
      rw [decide_eq_false n1, Bool.false_or, beq_eq_false_iff_ne.2 n2, Bool.false_and, decide_eq_false (by omega)]
theorem b32_less (a b : Nat) (ha : a < M256) (hb : b < M256) : Op.bytesLess (⟨(b32 a).toArray⟩ : ByteArray).toList (⟨(b32 b).toArray⟩ : ByteArray).toList = decide (a < b) := by
  rw [ba_mk, ba_mk, less_nm _ _ (by rw [b32_len, b32_len]), nm_b32 a ha, nm_b32 b hb]
end Go.Proofs.Ytpdhbddkcnffbaa

namespace Go.Proofs.Ytpdhbddkcnffbaa
open Go.RowKit Go.Lib
set_option linter.unusedVariables false

section
variable {P : Program} {o : Oper} {ρ : Slots} {m : Mem}
theorem r_b2sm {S T E : TypeId} [ha : HasSl P S E] {x : Operand} {l off n : Nat} {T' : TypeId} {cs : List D} {z : List UInt8} (hT : P.underlying T = some .string) (hE : P.underlying E = some (.int .u8)) (ho : o.op = .convert S T x) (hx : oev ρ x = some (.ms l off n)) (hm : mget m l = some (.var T' cs)) (hz : (cs.drop off).take n = bs z) (hn : z.length = n) : OpSound P o ⟨.str ⟨z.toArray⟩, [l], [], []⟩ ρ m := by
  refine sound_val fun B G a w m' hs h hrd => ?_
  obtain ⟨vs, hv, hr, h1⟩ := hs.at_ ((hrd l (by simp)).trans hm)
  have hp := h x (by simp [ho, Op.operands]) _ hx
  generalize hev : a.eval x = vx at hp
  refine ⟨.string ⟨z.toArray⟩, ?_, .str _⟩
  cases hp with
  | ms _ _ _ cap hk hn' =>
    subst hn
    have hc : ∀ j (hj : j < z.length), w.cell? ((⟨G.g l, off, none⟩ : Addr).add j) = some (.int .u8 (z[j].toNat : Int)) := fun j hj => by
      rw [add_off, cell_of_row w _ _ vs T' (0, 0) hv]
      have hd : cs[off + j]? = some (.int .u8 (z[j].toNat : Int)) := by
        have := bs_get z j _ (List.getElem?_eq_getElem hj)
        rw [← hz, List.getElem?_take, if_pos hj, List.getElem?_drop] at this
        exact this
      have hlt := (List.getElem?_eq_some_iff.1 hd).1
      have hvj : vs[off + j]? = some (vs[off + j]'(by rw [hr.1]; exact hlt)) := Array.getElem?_eq_getElem _
      have hq := hr.2 _ _ _ hd hvj
      rw [hvj]
      generalize vs[off + j]'(by rw [hr.1]; exact hlt) = u at hq
      cases hq; rfl
    have hrun := run_convert_bytes_back (P := P) w S T E ⟨G.g l, off, none⟩ cap z ha.sl hE hT hc
    simp only [execOp, ho, hev, Sem.run_bind, hrun, Result.andThen_ok, Sem.run_pure]

/-- copy, where the source's first bytes are known -/
theorem copy_core {dT sT E : TypeId} {ty : Ty} [ha : HasSl P dT E] [ht : HasTy P E ty] {x y : Operand} {l off n k : Nat} {T' : TypeId} {cs cs' : List D} {z : List UInt8} (hsz : ty.size = 1) (ho : o.op = .call { callee := .builtin .copy, args := #[x, y], argTypes := #[dT, sT] }) (hx : oev ρ x = some (.ms l off n)) (hm : mget m l = some (.var T' cs)) (hz : z.length = k) (hsp : splice off (bs z) cs = some cs')
    (hsrc : ∀ (G : Gh) (w : World) (a : Act), (∀ x ∈ o.op.operands, ∀ d, oev ρ x = some d → Rep G w d (a.eval x)) → ∃ sl, (Builtin.lenOf (a.eval y)).run P w = .ok sl w ∧ Nat.min sl n = k ∧ (Builtin.firstCells 1 k (a.eval y)).run P w = .ok ((z.map fun b => Value.int .u8 b.toNat).toArray) w) : OpSound P o ⟨.int .i64 k, [], [(l, some (.var T' cs'))], []⟩ ρ m := by
  intro B G a w m' K Q hs h hag hn hK
  have hml : mget m' l = some (.var T' cs) := (hag l (by unfold Eff.touch Eff.writes; simp)).trans hm
  obtain ⟨vs, hv, hr, h1'⟩ := hs.at_ hml
  have hp := h x (by simp [ho, Op.operands, Call.operands]) _ hx
  generalize hev : a.eval x = vx at hp
  cases hp with
  | ms _ _ _ cap hk hn' =>
    obtain ⟨sl, e1, e2, e3⟩ := hsrc G w a h
    have hc1 : Reps G w (bs z) (z.map fun b => Value.int .u8 b.toNat).toArray := by
      refine ⟨by simp [bs_len], fun i d v hd hv => ?_⟩
      unfold bs at hd
      rw [List.getElem?_map] at hd
      obtain ⟨b, hb, rfl⟩ := Option.map_eq_some_iff.1 hd
      simp [hb] at hv
      subst hv
      exact .int _ _
    have hc2 : ∀ d ∈ bs z, d.one = true := fun d hd => by
      obtain ⟨b, _, rfl⟩ := List.mem_map.1 hd; rfl
    obtain ⟨hle, hr', h1''⟩ := hr.splice hc1 h1' hc2 hsp
    obtain ⟨i, hi, hsi⟩ := Option.map_eq_some_iff.1 ht.size
    rw [hsz] at hsi
    have hone : ∀ v ∈ (z.map fun b => Value.int .u8 b.toNat), v.oneCell' = true := fun v hv => by
      obtain ⟨b, _, rfl⟩ := List.mem_map.1 hv; rfl
    have hst := run_storeCells_at (P := P) (G.g l) off T' (z.map fun b => Value.int .u8 b.toNat) 0 vs w hv (by simp at hle; simp; omega) hone
    simp only [Nat.add_zero, List.length_map] at hst
    have hrun : (execOp a.eval o).run P w = .ok (.value (.int .i64 k)) (w.setRow (G.g l) (vs.toList.take off ++ (z.map fun b => Value.int .u8 b.toNat) ++ vs.toList.drop (off + z.length)).toArray) := by
      unfold execOp
      simp only [ho, resolve, invoke, builtin, Sem.run_bind, Sem.run_pure, Result.andThen_ok, List.map_toArray, List.map_cons, List.map_nil, hev]
      simp [Builtin.copy_, Sem.run_bind, run_underlying ha.sl, e1, e2, sizeOf, typeInfo, hi, hsi, e3, hst, goInt, Result.andThen]
    unfold Oper.wp
    rw [hrun, Oper.upon_value]
    have hg : w.grownBy (w.setRow (G.g l) (vs.toList.take off ++ (z.map fun b => Value.int .u8 b.toNat) ++ vs.toList.drop (off + z.length)).toArray) (some (G.g l)) := by
      refine ⟨rfl, rfl, rfl, by simp [World.setRow], fun i hi hne => ?_⟩
      have : ¬ G.g l = i := fun h => hne (by rw [h])
      simp [World.setRow, Array.getElem?_modify, this]
    have hr2 : Reps G w cs' (vs.toList.take off ++ (z.map fun b => Value.int .u8 b.toNat) ++ vs.toList.drop (off + z.length)).toArray := by
      have := hr'; simpa using this
    obtain ⟨hx', hs'⟩ := hs.write hml hg (setRow_heap w _ vs _ T' (0, 0) hv) hr2 h1''
    exact hK _ _ G hx' hs' (.int _ _) fun l hl => .inl hl
theorem r_copys {dT sT E : TypeId} {ty : Ty} [HasSl P dT E] [HasTy P E ty] {x y : Operand} {l off n k : Nat} {T' : TypeId} {cs cs' : List D} {s : ByteArray} {z : List UInt8} (hsz : ty.size = 1) (ho : o.op = .call { callee := .builtin .copy, args := #[x, y], argTypes := #[dT, sT] }) (hx : oev ρ x = some (.ms l off n)) (hy : oev ρ y = some (.str s)) (hm : mget m l = some (.var T' cs)) (hk : Nat.min s.size n = k) (hz : s.data.toList.take k = z) (hsp : splice off (bs z) cs = some cs') : OpSound P o ⟨.int .i64 k, [], [(l, some (.var T' cs'))], []⟩ ρ m := by
  have hsl : s.data.toList.length = s.size := by rw [Array.length_toList]; rfl
  have hzl : z.length = k := by
    have : k ≤ s.size := by rw [← hk]; exact Nat.min_le_left _ _
    rw [← hz, List.length_take]; omega
  refine copy_core hsz ho hx hm hzl hsp fun G w a h => ?_
  have hq := h y (by simp [ho, Op.operands, Call.operands]) _ hy
  generalize a.eval y = vy at hq
  cases hq
  refine ⟨s.size, rfl, hk, ?_⟩
  simp only [Builtin.firstCells, Sem.run_pure]
  congr 1
  apply Array.ext'
  rw [Array.toList_map, ByteArray.data_extract, Array.toList_extract]
  simp only [List.extract_eq_take_drop, List.drop_zero, Nat.sub_zero]
  show List.map _ (s.data.toList.take k) = _
  rw [hz]
end
section
variable {P : Program} {ρ : Slots} {m : Mem} {nx : Nat} {ops : Array Oper} {os : List Oper} {K : List Eff → Slots → Mem → Nat → Prop}
theorem k_b2sm {t : Tmp} {S T E : TypeId} [HasSl P S E] {x : Operand} {l off n : Nat} {T' : TypeId} {cs : List D} {z : List UInt8} {V : TypeId} {pos : String} {af : Array Edge} {gd : Option (Nat × Bool)} (hg : gok ops ρ ⟨some t, .convert S T x, V, pos, af, gd⟩ = some true) (hT : P.underlying T = some .string) (hE : P.underlying E = some (.int .u8)) (hx : oev ρ x = some (.ms l off n)) (hm : mget m l = some (.var T' cs)) (hz : (cs.drop off).take n = bs z) (hn : z.length = n)
    (hh : R P ops os (fun Es => K (⟨.str ⟨z.toArray⟩, [l], [], []⟩ :: Es)) ((t, .str ⟨z.toArray⟩) :: ρ) m nx) : R P ops (⟨some t, .convert S T x, V, pos, af, gd⟩ :: os) K ρ m nx := R_cons hg (r_b2sm hT hE rfl hx hm hz hn) rfl hh
theorem k_copys {t : Tmp} {dT sT E : TypeId} {ty : Ty} [HasSl P dT E] [HasTy P E ty] {x y : Operand} {l off n k : Nat} {T' : TypeId} {cs cs' : List D} {s : ByteArray} {z : List UInt8} {V : TypeId} {pos : String} {af : Array Edge} {gd : Option (Nat × Bool)} (hg : gok ops ρ ⟨some t, .call { callee := .builtin .copy, args := #[x, y], argTypes := #[dT, sT] }, V, pos, af, gd⟩ = some true) (hsz : ty.size = 1) (hx : oev ρ x = some (.ms l off n)) (hy : oev ρ y = some (.str s)) (hm : mget m l = some (.var T' cs)) (hk : Nat.min s.size n = k) (hz : s.data.toList.take k = z) (hsp : splice off (bs z) cs = some cs')
    (hh : R P ops os (fun Es => K (⟨.int .i64 k, [], [(l, some (.var T' cs'))], []⟩ :: Es)) ((t, .int .i64 k) :: ρ) ((l, some (.var T' cs')) :: m) nx) : R P ops (⟨some t, .call { callee := .builtin .copy, args := #[x, y], argTypes := #[dT, sT] }, V, pos, af, gd⟩ :: os) K ρ m nx := R_cons hg (r_copys hsz rfl hx hy hm hk hz hsp) rfl hh
end
end Go.Proofs.Ytpdhbddkcnffbaa

namespace Go.Proofs.Ytpdhbddkcnffbaa
open Go.RowKit Go.Lib
set_option linter.unusedVariables false

theorem b_len {z : List UInt8} (h : z.length = 32) : (D.agg (bs z)).cells.length = 32 := by show (bs z).length = 32; rw [bs_len, h]
theorem b_fits (z : List UInt8) : (D.agg (bs z)).fits = true := rfl
theorem b_put {z : List UInt8} (h : z.length = 32) (cs : List D) (hc : cs.length = 32) : splice 0 (bs z) cs = some (bs z) := by
  unfold splice
  rw [Nat.ble_eq_true_of_le (by rw [bs_len, h, hc]; exact Nat.le_refl _), cond_true, Nat.zero_add, List.drop_of_length_le (by rw [bs_len, h, hc]; exact Nat.le_refl _)]
  simp
theorem b_cut {z : List UInt8} (h : z.length = 32) (ze : List D) : cut ⟨true, 32, ze⟩ 0 (bs z) = some (.agg (bs z)) := by
  unfold cut
  simp only [cond_true, Nat.zero_add, List.drop_zero]
  rw [Nat.ble_eq_true_of_le (by rw [bs_len, h]; exact Nat.le_refl _), cond_true, List.take_of_length_le (by rw [bs_len, h]; exact Nat.le_refl _)]
theorem bs_fzs : ∀ (l : List UInt8), D.fzs (bs l) = bs l
  | [] => rfl
  | a :: l => by
    show (D.int .u8 (a.toNat : Int)).fz :: D.fzs (bs l) = _
    rw [bs_fzs l]; rfl
theorem b_fz (z : List UInt8) : (D.agg (bs z)).fz = .agg (bs z) := by
  show D.agg (D.fzs (bs z)) = _
  rw [bs_fzs]
theorem b_fz1 (z : List UInt8) : D.fzs [D.agg (bs z)] = [D.agg (bs z)] := by
  show [(D.agg (bs z)).fz] = _
  rw [b_fz]
theorem b_cl1 (z : List UInt8) : D.cls [D.agg (bs z)] = true := by
  show (D.cls (bs z) && true) = true
  rw [bs_cl]; rfl
theorem b_eq (x : List UInt8) : deqs (bs x) (bs x) = true := by
  induction x with
  | nil => rfl
  | cons a x ih =>
    show (deq1 (.int .u8 (a.toNat : Int)) (.int .u8 (a.toNat : Int)) && deqs (bs x) (bs x)) = true
    rw [ih]; simp [deq1]
theorem b_ms {z : List UInt8} (h : z.length = 32) (off n : Nat) (ho : off = 0) (hn : n = 32) : ((bs z).drop off).take n = bs z := by
  subst ho; subst hn
  exact List.take_of_length_le (by rw [List.drop_zero, bs_len, h]; exact Nat.le_refl _)
end Go.Proofs.Ytpdhbddkcnffbaa

namespace Go.Proofs.Ytpdhbddkcnffbaa
open Go.RowKit Go.Lib Go.IntWalk
set_option linter.unusedVariables false
set_option maxRecDepth 100000

/-- the array when k bytes are laid -/
def ar (n k : Nat) : List D := (List.range 32).map fun j => D.int .u8 (if 32 ≤ j + k then xb n (31 - j) else 0)
theorem ar_end (n : Nat) : ar n 32 = bs (b32 n) := by
  rw [b32_bs]; unfold ar
  refine List.map_congr_left fun j _ => ?_
  rw [if_pos (by omega)]
theorem ar_len (n k : Nat) : (ar n k).length = 32 := by simp [ar]
theorem ar_get (n k j : Nat) (h : j < 32) : (ar n k)[j]? = some (D.int .u8 (if 32 ≤ j + k then xb n (31 - j) else 0)) := by
  unfold ar; rw [List.getElem?_map, List.getElem?_range h]; first | done | rfl
theorem ar_put (n k : Nat) (hk : k < 32) : splice (31 - k) [D.int .u8 (xb n k)] (ar n k) = some (ar n (k + 1)) := by
  have hl := ar_len n k
  unfold splice
  rw [Nat.ble_eq_true_of_le (by rw [hl]; show 31 - k + 1 ≤ 32; omega), cond_true]
  congr 1
  apply List.ext_getElem?
  intro j
  rcases Nat.lt_or_ge j 32 with hj | hj
  · rw [ar_get n (k + 1) j hj, List.append_assoc, List.getElem?_append]
    have htl : ((ar n k).take (31 - k)).length = 31 - k := by rw [List.length_take, hl]; omega
    rw [htl]
    by_cases h1 : j < 31 - k
    · rw [if_pos h1, List.getElem?_take, if_pos h1, ar_get n k j hj, if_neg (by omega), if_neg (by omega)]
    · rw [if_neg h1]
      by_cases h2 : j = 31 - k
      · subst h2
        rw [Nat.sub_self, if_pos (by omega), show 31 - (31 - k) = k from by omega]; rfl
      · rw [List.getElem?_append_right (by simp; omega), List.getElem?_drop, if_pos (by omega)]
        simp only [List.length_cons, List.length_nil]
        rw [show 31 - k + (0 + 1) + (j - (31 - k) - (0 + 1)) = j from by omega, ar_get n k j hj, if_pos (by omega)]
  · rw [List.getElem?_eq_none (by simp [hl]; omega), List.getElem?_eq_none (by rw [ar_len]; exact hj)]
theorem ud_cut (n q : Nat) (h : q < 4) : cut ⟨false, 1, [.int .u64 0]⟩ (0 + ((q : Nat) : Int).toNat * 1) (ud n) = some (.int .u64 (lim n q)) := by
  obtain rfl | rfl | rfl | rfl : q = 0 ∨ q = 1 ∨ q = 2 ∨ q = 3 := by omega
  all_goals rfl
theorem quo8 (k : Nat) (hk : k < 32) : IntKind.i64.wrap ((k : Int).tdiv 8) = ((k / 8 : Nat) : Int) := by
  rw [Int.tdiv_eq_ediv_of_nonneg (by omega), i64_in _ (by omega)]; omega
theorem rem8 (k : Nat) : (k : Int).tmod 8 = ((k % 8 : Nat) : Int) := by
  rw [Int.tmod_eq_emod_of_nonneg (by omega)]; omega
theorem mul8 (r : Nat) (hr : r < 8) : IntKind.i64.wrap (8 * ((r : Nat) : Int)) = ((8 * r : Nat) : Int) := by
  rw [i64_in _ (by omega)]; omega
end Go.Proofs.Ytpdhbddkcnffbaa

namespace Go.Proofs.Ytpdhbddkcnffbaa
open Go.RowKit Go.Lib Go.IntWalk
set_option linter.unusedVariables false
set_option maxRecDepth 100000

theorem lim_256 (x j : Nat) : lim x j = ((x / 256 ^ (8 * j) % 256 ^ 8 : Nat) : Int) := by
  unfold lim
  have p1 : (18446744073709551616 : Nat) = 256 ^ 8 := by decide
  rw [p1, ← Nat.pow_mul]
theorem part_eq (A r : Nat) (hr : r < 8) : A * 256 ^ (r + 1) % 256 ^ 8 = A % 256 ^ (7 - r) * 256 ^ (r + 1) := by
  have e : (256 : Nat) ^ 8 = 256 ^ (7 - r) * 256 ^ (r + 1) := by rw [← Nat.pow_add]; congr 1; omega
  rw [e, Nat.mul_mod_mul_right]
theorem part_or (A c r : Nat) (hr : r < 8) (hc : c < 256) : (A * 256 ^ (r + 1) % 256 ^ 8) ||| (c * 256 ^ r) = (A * 256 + c) * 256 ^ r % 256 ^ 8 := by
  have hz : 0 < 256 ^ r := Nat.pow_pos (by decide)
  have hs : (256 : Nat) ^ (r + 1) = 256 ^ r * 256 := Nat.pow_succ _ _
  have hy : c * 256 ^ r < 256 ^ (r + 1) := by
    rw [hs, Nat.mul_comm (256 ^ r)]; exact Nat.mul_lt_mul_of_pos_right hc hz
  have hp : (256 : Nat) ^ (r + 1) = 2 ^ (8 * (r + 1)) := by rw [Nat.pow_mul]
  have hor : A % 256 ^ (7 - r) * 256 ^ (r + 1) ||| c * 256 ^ r = A % 256 ^ (7 - r) * 256 ^ (r + 1) + c * 256 ^ r := by
    have := Nat.shiftLeft_add_eq_or_of_lt (i := 8 * (r + 1)) (b := c * 256 ^ r) (by rw [← hp]; exact hy) (A % 256 ^ (7 - r))
    rw [Nat.shiftLeft_eq, ← hp] at this
    exact this.symm
  have hsum : (A * 256 + c) * 256 ^ r = A * 256 ^ (r + 1) + c * 256 ^ r := by rw [Nat.add_mul, Nat.mul_assoc, hs, Nat.mul_comm 256]
  have hB : A % 256 ^ (7 - r) < 256 ^ (7 - r) := Nat.mod_lt _ (Nat.pow_pos (by decide))
  have e : (256 : Nat) ^ 8 = 256 ^ (7 - r) * 256 ^ (r + 1) := by rw [← Nat.pow_add]; congr 1; omega
  have hle : (A % 256 ^ (7 - r) + 1) * 256 ^ (r + 1) ≤ 256 ^ (7 - r) * 256 ^ (r + 1) := Nat.mul_le_mul_right _ hB
  rw [Nat.succ_mul, ← e] at hle
  have h8 : (256 : Nat) ^ (r + 1) ≤ 256 ^ 8 := Nat.pow_le_pow_right (by decide) (by omega)
  rw [part_eq A r hr, hor, hsum, Nat.add_mod, part_eq A r hr]
  generalize A % 256 ^ (7 - r) * 256 ^ (r + 1) = X at *
  generalize (256 : Nat) ^ (r + 1) = Z at *
  generalize (256 : Nat) ^ 8 = W at *
  rw [Nat.mod_eq_of_lt (a := c * 256 ^ r) (by omega), Nat.mod_eq_of_lt (by omega)]
/-- the number when k bytes are laid -/
def fm (l : List UInt8) (k : Nat) : Nat := nm (l.take k) * 256 ^ (32 - k)
theorem nm_take (l : List UInt8) (k : Nat) (c : UInt8) (h : l[k]? = some c) : nm (l.take (k + 1)) = nm (l.take k) * 256 + c.toNat := by
  rw [List.take_add_one, h]
  exact nm_snoc _ _
theorem fm_other (l : List UInt8) (k : Nat) (c : UInt8) (h : l[k]? = some c) (hk : k < 32) (q r : Nat) (hp : 31 - k = 8 * q + r) (hr : r < 8) (j : Nat) (hj : j ≠ q) : lim (fm l (k + 1)) j = lim (fm l k) j := by
  rw [lim_256, lim_256]
  unfold fm
  rw [nm_take l k c h, show 32 - (k + 1) = 8 * q + r from by omega, show 32 - k = 8 * q + r + 1 from by omega]
  have hc := c.toNat_lt
  generalize nm (l.take k) = N
  generalize c.toNat = c at *
  congr 1
  rcases Nat.lt_or_ge q j with h1 | h1
  · have e1 : (256 : Nat) ^ (8 * j) = 256 ^ (8 * q + r) * 256 ^ (8 * j - (8 * q + r)) := by rw [← Nat.pow_add]; congr 1; omega
    have e2 : (256 : Nat) ^ (8 * j - (8 * q + r)) = 256 * 256 ^ (8 * j - (8 * q + r) - 1) := by rw [← Nat.pow_succ']; congr 1; omega
    have z : 0 < 256 ^ (8 * q + r) := Nat.pow_pos (by decide)
    have a1 : N * 256 ^ (8 * q + r + 1) = 256 ^ (8 * q + r) * (N * 256) := by rw [Nat.pow_succ, Nat.mul_left_comm]
    congr 1
    rw [a1, e1, Nat.mul_comm (N * 256 + c), Nat.mul_div_mul_left _ _ z, Nat.mul_div_mul_left _ _ z, e2, ← Nat.div_div_eq_div_mul, ← Nat.div_div_eq_div_mul]
    congr 1
    omega
  · have hlt : 8 * j + 8 ≤ 8 * q + r := by omega
    have key : ∀ X : Nat, X * 256 ^ (8 * q + r) / 256 ^ (8 * j) % 256 ^ 8 = 0 := fun X => by
      have e1 : (256 : Nat) ^ (8 * q + r) = 256 ^ (8 * q + r - (8 * j + 8)) * 256 ^ 8 * 256 ^ (8 * j) := by
        rw [← Nat.pow_add, ← Nat.pow_add]; congr 1; omega
      rw [e1, ← Nat.mul_assoc, Nat.mul_div_cancel _ (Nat.pow_pos (by decide)), ← Nat.mul_assoc, Nat.mul_mod_left]
    have a1 : N * 256 ^ (8 * q + r + 1) = N * 256 * 256 ^ (8 * q + r) := by rw [Nat.pow_succ, Nat.mul_assoc, Nat.mul_comm 256]
    rw [a1, key, key]
theorem fm_here (l : List UInt8) (k : Nat) (c : UInt8) (h : l[k]? = some c) (hk : k < 32) (q r : Nat) (hp : 31 - k = 8 * q + r) (hr : r < 8) : bitw .or .u64 (lim (fm l k) q) (((c.toNat * 256 ^ r : Nat)) : Int) = lim (fm l (k + 1)) q := by
  rw [lim_256, lim_256]
  unfold fm
  rw [nm_take l k c h, show 32 - (k + 1) = 8 * q + r from by omega, show 32 - k = 8 * q + r + 1 from by omega]
  have hc := c.toNat_lt
  generalize nm (l.take k) = N
  generalize c.toNat = c at *
  have z : 0 < 256 ^ (8 * q) := Nat.pow_pos (by decide)
  have e1 : N * 256 ^ (8 * q + r + 1) / 256 ^ (8 * q) = N * 256 ^ (r + 1) := by
    rw [show 8 * q + r + 1 = (r + 1) + 8 * q from by omega, Nat.pow_add, ← Nat.mul_assoc, Nat.mul_div_cancel _ z]
  have e2 : (N * 256 + c) * 256 ^ (8 * q + r) / 256 ^ (8 * q) = (N * 256 + c) * 256 ^ r := by
    rw [show 8 * q + r = r + 8 * q from by omega, Nat.pow_add, ← Nat.mul_assoc, Nat.mul_div_cancel _ z]
  rw [e1, e2, ← part_or N c r hr (by omega)]
  have b1 : N * 256 ^ (r + 1) % 256 ^ 8 < 256 ^ 8 := Nat.mod_lt _ (by decide)
  have b2 : c * 256 ^ r < 256 ^ 8 := by
    have h1 : c * 256 ^ r < 256 * 256 ^ r := Nat.mul_lt_mul_of_pos_right (by omega) (Nat.pow_pos (by decide))
    have h2 : 256 * 256 ^ r ≤ 256 ^ 8 := by
      rw [← Nat.pow_succ']; exact Nat.pow_le_pow_right (by decide) (by omega)
    omega
  generalize N * 256 ^ (r + 1) % 256 ^ 8 = x at *
  generalize c * 256 ^ r = y at *
  have p1 : (256 : Nat) ^ 8 = 18446744073709551616 := by decide
  rw [p1] at b1 b2
  have f1 : (BitVec.ofInt 64 (x : Int)).toNat = x := by rw [BitVec.toNat_ofInt]; omega
  have f2 : (BitVec.ofInt 64 (y : Int)).toNat = y := by rw [BitVec.toNat_ofInt]; omega
  have f3 : x ||| y < 2 ^ 64 := Nat.or_lt_two_pow (by omega) (by omega)
  show IntKind.u64.wrap (((BitVec.ofInt 64 (x : Int) ||| BitVec.ofInt 64 (y : Int)).toNat : Nat) : Int) = _
  rw [BitVec.toNat_or, f1, f2, u64_in _ (by omega)]
theorem ud_put (x y q : Nat) (hq : q < 4) (h : ∀ j, j ≠ q → lim y j = lim x j) : splice (0 + ((q : Nat) : Int).toNat * 1) [D.int .u64 (lim y q)] (ud x) = some (ud y) := by
  obtain rfl | rfl | rfl | rfl : q = 0 ∨ q = 1 ∨ q = 2 ∨ q = 3 := by omega
  · show some [D.int .u64 (lim y 0), D.int .u64 (lim x 1), D.int .u64 (lim x 2), D.int .u64 (lim x 3)] = some (ud y)
    rw [← h 1 (by decide), ← h 2 (by decide), ← h 3 (by decide)]; rfl
  · show some [D.int .u64 (lim x 0), D.int .u64 (lim y 1), D.int .u64 (lim x 2), D.int .u64 (lim x 3)] = some (ud y)
    rw [← h 0 (by decide), ← h 2 (by decide), ← h 3 (by decide)]; rfl
  · show some [D.int .u64 (lim x 0), D.int .u64 (lim x 1), D.int .u64 (lim y 2), D.int .u64 (lim x 3)] = some (ud y)
    rw [← h 0 (by decide), ← h 1 (by decide), ← h 3 (by decide)]; rfl
  · show some [D.int .u64 (lim x 0), D.int .u64 (lim x 1), D.int .u64 (lim x 2), D.int .u64 (lim y 3)] = some (ud y)
    rw [← h 0 (by decide), ← h 1 (by decide), ← h 2 (by decide)]; rfl
theorem bs_bels (n : Nat) (l : List UInt8) : D.bels n (bs l) = true := by
  induction l with
  | nil => rfl
  | cons a l ih => exact ih
theorem bs_bel (n : Nat) (l : List UInt8) : D.bel n (.agg (bs l)) = true := bs_bels n l
theorem bs_idx (l : List UInt8) (k : Nat) (c : UInt8) (h : l[k]? = some c) : cut ⟨false, 1, [.int .u8 0]⟩ (((k : Nat) : Int).toNat * 1) (bs l) = some (.int .u8 (c.toNat : Int)) := by
  rw [Int.toNat_natCast, Nat.mul_one]
  unfold cut
  simp only [cond_false]
  rw [bs_get l k c h]
set_option maxHeartbeats 16000000 in
theorem From_ok (l : List UInt8) (hl : l.length = 32) : Pur Try.prog 20 [.agg (bs l)] (U (nm l)) := by
  have hall : ∀ z, cut ⟨true, 32, z⟩ 0 (bs l) = some (.agg (bs l)) := fun z => by
    unfold cut
    simp only [cond_true, Nat.zero_add, List.drop_zero]
    rw [Nat.ble_eq_true_of_le (by rw [bs_len, hl]; exact Nat.le_refl _), cond_true, List.take_of_length_le (by rw [bs_len, hl]; exact Nat.le_refl _)]
  refine pur_intro Try.func20 rfl Try.ntmps20 rfl (by first | rfl | assumption | exact bs_cl _) fun B => ?_
  repeat (first | with_reducible refine W_seq ?_ | with_reducible refine q_then ?_ | with_reducible refine q_thenr ?_ | with_reducible refine q_thenx ?_ | with_reducible refine W_block ?_ | with_reducible refine q_block ?_ | with_reducible refine q_blockr ?_ | with_reducible refine q_blockx ?_ | with_reducible refine W_ret ?_ | with_reducible refine W_skip ?_ | with_reducible refine W_label ?_ | with_reducible refine W_exit ?_ | with_reducible refine W_scope ?_ | with_reducible refine q_scope ?_ | with_reducible refine q_scoper ?_ | with_reducible refine q_scopex ?_ | (with_reducible refine R_nil ?_; try dsimp only [slots0, slots_ud, cells_U, agg_ud, drop0, dropS, takeS, take0, ud_nil, take_ud, take_ud0, drop_ud, drop_ud0, take_udk, D.cells, D.fz, D.fzs, List.take_succ_cons, List.take_zero, List.drop_succ_cons, List.drop_zero, List.cons_append, List.nil_append, List.append_eq, List.length_cons, List.length_nil, Nat.reduceAdd, Nat.reduceMul, Nat.reduceSub, Int.reduceAdd, Int.reduceSub, Int.reduceToNat, Int.reduceNeg, Int.reduceMul]) | refine q_blocky rfl ?_ | refine W_plain rfl ?_ | refine W_drawn mixed rfl ?_ | refine and_chk (by kernel_rfl) ?_ | refine k_move rfl rfl ?_ | refine k_assign rfl rfl ?_ | refine k_load rfl rfl rfl rfl ?_ | refine k_alloc rfl ?_ | refine k_box rfl rfl rfl ?_ | refine k_store rfl rfl rfl rfl rfl rfl rfl ?_ | refine k_extract rfl rfl rfl ?_ | refine k_fieldAddr rfl rfl rfl ?_ | refine k_field rfl rfl rfl ?_ | refine k_build rfl rfl rfl ?_ | refine k_load rfl rfl rfl (by exact hall _) ?_ | refine k_buildSlice (cs := []) rfl rfl rfl rfl rfl rfl rfl ?_ | refine k_buildSlice rfl rfl rfl rfl rfl rfl rfl ?_ | refine k_indexAddr rfl rfl rfl ⟨by omega, by omega⟩ ?_ | refine k_indexAddrs rfl rfl rfl ⟨by omega, by omega⟩ rfl ?_ | refine k_index rfl rfl rfl ⟨by omega, by omega⟩ rfl ?_ | refine k_loade rfl rfl rfl ?_ | refine k_fieldAddre rfl rfl rfl rfl ?_ | refine k_len rfl rfl ?_ | refine k_nilCheck rfl rfl rfl ?_ | refine k_pickT rfl rfl rfl ?_ | refine k_pickF rfl rfl rfl ?_ | refine k_addi rfl rfl rfl (by omega) ?_ | refine k_subi rfl rfl rfl (by omega) ?_ | refine k_negi rfl rfl (by omega) ?_ | refine k_not rfl rfl rfl ?_ | refine k_lssT rfl rfl rfl (by omega) ?_ | refine k_lssF rfl rfl rfl (by omega) ?_ | refine k_leqT rfl rfl rfl (by omega) ?_ | refine k_leqF rfl rfl rfl (by omega) ?_ | refine k_gtrT rfl rfl rfl (by omega) ?_ | refine k_gtrF rfl rfl rfl (by omega) ?_ | refine k_geqT rfl rfl rfl (by omega) ?_ | refine k_geqF rfl rfl rfl (by omega) ?_ | refine k_eqlT rfl rfl rfl (by omega) ?_ | refine k_eqlF rfl rfl rfl (by omega) ?_ | refine k_neqT rfl rfl rfl (by omega) ?_ | refine k_neqF rfl rfl rfl (by omega) ?_ | refine k_eqa rfl rfl rfl rfl rfl rfl ?_ | refine k_nea rfl rfl rfl rfl rfl rfl ?_ | refine k_makeFunc rfl rfl rfl ?_ | refine k_skip rfl ?_ | refine k_skip0 rfl ?_ | refine k_pick rfl rfl rfl rfl rfl ?_ | refine W_yes rfl ?_ | refine W_no rfl ?_)
  refine W_loop (fun n' ρ m nx => ∃ k x : Nat, k ≤ 32 ∧ x = fm l k ∧ n' = 32 - k ∧ ρ = [(8, .int .i64 (k : Int)), (7, .agg (bs l)), (3, .ptr 2 0), (2, .ptr 1 0)] ∧ m = [(2, some (.var 26 (ud x))), (1, some (.var 26 (ud 0)))] ∧ nx = 3)
    ⟨_, _, _, _, (by repeat (first | exact trivial | refine ⟨⟨rfl, rfl⟩, ?_⟩ | refine ⟨⟨rfl, bs_bel _ _⟩, ?_⟩ | refine ⟨⟨rfl, arr_bels _ _ _⟩, ?_⟩)), (by repeat (first | exact trivial | refine ⟨⟨rfl, rfl, rfl⟩, ?_⟩ | refine ⟨⟨rfl, rfl, bs_bels _ _⟩, ?_⟩ | refine ⟨⟨rfl, rfl, arr_bels _ _ _⟩, ?_⟩)), 0, 0, by decide, by unfold fm; simp [nm], rfl, rfl, rfl, rfl⟩ ?_
  rintro n' ρ m nx ⟨k, x, hk, hx, rfl, rfl, rfl, rfl⟩
  by_cases hlt : k < 32
  · obtain ⟨c, hc⟩ : ∃ c, l[k]? = some c := ⟨_, List.getElem?_eq_getElem (by omega)⟩
    have hix := bs_idx l k c hc
    have e31 : (31 : Int) - (k : Int) = ((31 - k : Nat) : Int) := by omega
    have hq := quo8 (31 - k) (by omega)
    have hr := rem8 (31 - k)
    have hm := mul8 ((31 - k) % 8) (by omega)
    rw [← e31] at hq hr
    have hcut := ud_cut (fm l k) ((31 - k) / 8) (by omega)
    have hfo := fm_other l k c hc hlt ((31 - k) / 8) ((31 - k) % 8) (by omega) (by omega)
    have hfh := fm_here l k c hc hlt ((31 - k) / 8) ((31 - k) % 8) (by omega) (by omega)
    have hput := ud_put (fm l k) (fm l (k + 1)) ((31 - k) / 8) (by omega) hfo
    have hcl := c.toNat_lt
    have hcv : IntKind.u64.wrap (c.toNat : Int) = (c.toNat : Int) := u64_in _ (by omega)
    have hsh : IntKind.u64.wrap ((c.toNat : Int) * 2 ^ (min ((8 * ((31 - k) % 8) : Nat) : Int).toNat IntKind.u64.bits)) = ((c.toNat * 256 ^ ((31 - k) % 8) : Nat) : Int) := by
      have hr8 : (31 - k) % 8 < 8 := by omega
      generalize (31 - k) % 8 = r at *
      rw [Int.toNat_natCast]
      have : min (8 * r) IntKind.u64.bits = 8 * r := Nat.min_eq_left (by show _ ≤ 64; omega)
      rw [this]
      have e1 : ((c.toNat : Int) * 2 ^ (8 * r)) = ((c.toNat * 256 ^ r : Nat) : Int) := by
        rw [Int.natCast_mul, Int.natCast_pow, Int.pow_mul]; rfl
      rw [e1]
      have h1 : c.toNat * 256 ^ r < 256 * 256 ^ r := Nat.mul_lt_mul_of_pos_right (by omega) (Nat.pow_pos (by decide))
      have h2 : 256 * 256 ^ r ≤ 256 ^ 8 := by
        rw [← Nat.pow_succ']; exact Nat.pow_le_pow_right (by decide) (by omega)
      have p1 : (256 : Nat) ^ 8 = 18446744073709551616 := by decide
      exact u64_in _ (by omega)
    have hqb : (31 - k) / 8 < 4 := by omega
    rw [← hx] at hcut hfh hput
    generalize (31 - k) / 8 = q at *
    generalize c.toNat * 256 ^ ((31 - k) % 8) = V at *
    generalize (31 - k) % 8 = r at *
    repeat (first | with_reducible refine W_seq ?_ | with_reducible refine q_then ?_ | with_reducible refine q_thenr ?_ | with_reducible refine q_thenx ?_ | with_reducible refine W_block ?_ | with_reducible refine q_block ?_ | with_reducible refine q_blockr ?_ | with_reducible refine q_blockx ?_ | with_reducible refine W_ret ?_ | with_reducible refine W_skip ?_ | with_reducible refine W_label ?_ | with_reducible refine W_exit ?_ | with_reducible refine W_scope ?_ | with_reducible refine q_scope ?_ | with_reducible refine q_scoper ?_ | with_reducible refine q_scopex ?_ | (with_reducible refine R_nil ?_; try dsimp only [slots0, slots_ud, cells_U, agg_ud, drop0, dropS, takeS, take0, ud_nil, take_ud, take_ud0, drop_ud, drop_ud0, take_udk, D.cells, D.fz, D.fzs, List.take_succ_cons, List.take_zero, List.drop_succ_cons, List.drop_zero, List.cons_append, List.nil_append, List.append_eq, List.length_cons, List.length_nil, Nat.reduceAdd, Nat.reduceMul, Nat.reduceSub, Int.reduceAdd, Int.reduceSub, Int.reduceToNat, Int.reduceNeg, Int.reduceMul]) | refine q_blocky rfl ?_ | refine W_plain rfl ?_ | refine W_drawn mixed rfl ?_ | refine and_chk (by kernel_rfl) ?_ | refine k_move rfl rfl ?_ | refine k_assign rfl rfl ?_ | refine k_load rfl rfl rfl rfl ?_ | refine k_alloc rfl ?_ | refine k_box rfl rfl rfl ?_ | refine k_store rfl rfl rfl rfl rfl rfl rfl ?_ | refine k_extract rfl rfl rfl ?_ | refine k_fieldAddr rfl rfl rfl ?_ | refine k_field rfl rfl rfl ?_ | refine k_build rfl rfl rfl ?_ | refine k_index rfl rfl rfl ⟨by omega, by omega⟩ (by exact hix) ?_ | refine k_quo rfl rfl rfl (by decide) hq ?_ | refine k_rem rfl rfl rfl (by decide) hr ?_ | refine k_mul rfl rfl rfl hm ?_ | refine k_load rfl rfl rfl (by exact hcut) ?_ | refine k_conv rfl rfl hcv ?_ | refine k_shl rfl rfl rfl (by omega) hsh ?_ | refine k_bits rfl rfl rfl rfl hfh ?_ | refine k_store rfl rfl rfl rfl rfl rfl (by exact hput) ?_ | refine W_unroll (WL_round ?_) | refine WL_round ?_ | refine k_append rfl rfl rfl (by first | rfl | exact trivial | (show 0 < _; omega)) (by first | rfl | (simp <;> omega)) (by first | rfl | (simp <;> omega)) rfl (by omega) rfl rfl rfl ?_ | refine k_slice rfl rfl rfl rfl ⟨by omega, by omega, by omega⟩ rfl rfl rfl ?_ | refine k_slice3 rfl rfl rfl rfl rfl ⟨by omega, by omega, by omega⟩ rfl rfl rfl ?_ | refine k_sliceA rfl rfl rfl rfl ⟨by omega, by omega, by omega, by omega⟩ rfl rfl ?_ | refine k_sliceE rfl rfl rfl rfl ⟨by omega, by omega, by omega, by omega⟩ rfl rfl rfl rfl ?_ | refine k_buildSlice (cs := []) rfl rfl rfl rfl rfl rfl rfl ?_ | refine k_buildSlice rfl rfl rfl rfl rfl rfl rfl ?_ | refine k_indexAddr rfl rfl rfl ⟨by omega, by omega⟩ ?_ | refine k_indexAddrs rfl rfl rfl ⟨by omega, by omega⟩ rfl ?_ | refine k_index rfl rfl rfl ⟨by omega, by omega⟩ rfl ?_ | refine k_loade rfl rfl rfl ?_ | refine k_fieldAddre rfl rfl rfl rfl ?_ | refine k_len rfl rfl ?_ | refine k_nilCheck rfl rfl rfl ?_ | refine k_pickT rfl rfl rfl ?_ | refine k_pickF rfl rfl rfl ?_ | refine k_addi rfl rfl rfl (by omega) ?_ | refine k_subi rfl rfl rfl (by omega) ?_ | refine k_negi rfl rfl (by omega) ?_ | refine k_not rfl rfl rfl ?_ | refine k_lssT rfl rfl rfl (by omega) ?_ | refine k_lssF rfl rfl rfl (by omega) ?_ | refine k_leqT rfl rfl rfl (by omega) ?_ | refine k_leqF rfl rfl rfl (by omega) ?_ | refine k_gtrT rfl rfl rfl (by omega) ?_ | refine k_gtrF rfl rfl rfl (by omega) ?_ | refine k_geqT rfl rfl rfl (by omega) ?_ | refine k_geqF rfl rfl rfl (by omega) ?_ | refine k_eqlT rfl rfl rfl (by omega) ?_ | refine k_eqlF rfl rfl rfl (by omega) ?_ | refine k_neqT rfl rfl rfl (by omega) ?_ | refine k_neqF rfl rfl rfl (by omega) ?_ | refine k_eqa rfl rfl rfl rfl rfl rfl ?_ | refine k_nea rfl rfl rfl rfl rfl rfl ?_ | refine k_makeFunc rfl rfl rfl ?_ | refine k_skip rfl ?_ | refine k_skip0 rfl ?_ | refine k_pick rfl rfl rfl rfl rfl ?_ | refine W_yes rfl ?_ | refine W_no rfl ?_)
    exact ⟨32 - (k + 1), _, _, _, (by repeat (first | exact trivial | refine ⟨⟨rfl, rfl⟩, ?_⟩ | refine ⟨⟨rfl, bs_bel _ _⟩, ?_⟩ | refine ⟨⟨rfl, arr_bels _ _ _⟩, ?_⟩)), (by repeat (first | exact trivial | refine ⟨⟨rfl, rfl, rfl⟩, ?_⟩ | refine ⟨⟨rfl, rfl, bs_bels _ _⟩, ?_⟩ | refine ⟨⟨rfl, rfl, arr_bels _ _ _⟩, ?_⟩)), by omega, k + 1, _, by omega, rfl, rfl, rfl, rfl, rfl⟩
  · have ek : k = 32 := by omega
    subst ek
    have e : fm l 32 = nm l := by
      unfold fm
      rw [List.take_of_length_le (by omega), Nat.sub_self, Nat.pow_zero, Nat.mul_one]
    rw [e] at hx
    subst hx
    repeat (first | with_reducible refine W_seq ?_ | with_reducible refine q_then ?_ | with_reducible refine q_thenr ?_ | with_reducible refine q_thenx ?_ | with_reducible refine W_block ?_ | with_reducible refine q_block ?_ | with_reducible refine q_blockr ?_ | with_reducible refine q_blockx ?_ | with_reducible refine W_ret ?_ | with_reducible refine W_skip ?_ | with_reducible refine W_label ?_ | with_reducible refine W_exit ?_ | with_reducible refine W_scope ?_ | with_reducible refine q_scope ?_ | with_reducible refine q_scoper ?_ | with_reducible refine q_scopex ?_ | (with_reducible refine R_nil ?_; try dsimp only [slots0, slots_ud, cells_U, agg_ud, drop0, dropS, takeS, take0, ud_nil, take_ud, take_ud0, drop_ud, drop_ud0, take_udk, D.cells, D.fz, D.fzs, List.take_succ_cons, List.take_zero, List.drop_succ_cons, List.drop_zero, List.cons_append, List.nil_append, List.append_eq, List.length_cons, List.length_nil, Nat.reduceAdd, Nat.reduceMul, Nat.reduceSub, Int.reduceAdd, Int.reduceSub, Int.reduceToNat, Int.reduceNeg, Int.reduceMul]) | refine q_blocky rfl ?_ | refine W_plain rfl ?_ | refine W_drawn mixed rfl ?_ | refine and_chk (by kernel_rfl) ?_ | refine k_move rfl rfl ?_ | refine k_assign rfl rfl ?_ | refine k_load rfl rfl rfl rfl ?_ | refine k_alloc rfl ?_ | refine k_box rfl rfl rfl ?_ | refine k_store rfl rfl rfl rfl rfl rfl rfl ?_ | refine k_extract rfl rfl rfl ?_ | refine k_fieldAddr rfl rfl rfl ?_ | refine k_field rfl rfl rfl ?_ | refine k_build rfl rfl rfl ?_ | refine W_unroll (WL_round ?_) | refine WL_round ?_ | refine k_append rfl rfl rfl (by first | rfl | exact trivial | (show 0 < _; omega)) (by first | rfl | (simp <;> omega)) (by first | rfl | (simp <;> omega)) rfl (by omega) rfl rfl rfl ?_ | refine k_slice rfl rfl rfl rfl ⟨by omega, by omega, by omega⟩ rfl rfl rfl ?_ | refine k_slice3 rfl rfl rfl rfl rfl ⟨by omega, by omega, by omega⟩ rfl rfl rfl ?_ | refine k_sliceA rfl rfl rfl rfl ⟨by omega, by omega, by omega, by omega⟩ rfl rfl ?_ | refine k_sliceE rfl rfl rfl rfl ⟨by omega, by omega, by omega, by omega⟩ rfl rfl rfl rfl ?_ | refine k_buildSlice (cs := []) rfl rfl rfl rfl rfl rfl rfl ?_ | refine k_buildSlice rfl rfl rfl rfl rfl rfl rfl ?_ | refine k_indexAddr rfl rfl rfl ⟨by omega, by omega⟩ ?_ | refine k_indexAddrs rfl rfl rfl ⟨by omega, by omega⟩ rfl ?_ | refine k_index rfl rfl rfl ⟨by omega, by omega⟩ rfl ?_ | refine k_loade rfl rfl rfl ?_ | refine k_fieldAddre rfl rfl rfl rfl ?_ | refine k_len rfl rfl ?_ | refine k_nilCheck rfl rfl rfl ?_ | refine k_pickT rfl rfl rfl ?_ | refine k_pickF rfl rfl rfl ?_ | refine k_addi rfl rfl rfl (by omega) ?_ | refine k_subi rfl rfl rfl (by omega) ?_ | refine k_negi rfl rfl (by omega) ?_ | refine k_not rfl rfl rfl ?_ | refine k_lssT rfl rfl rfl (by omega) ?_ | refine k_lssF rfl rfl rfl (by omega) ?_ | refine k_leqT rfl rfl rfl (by omega) ?_ | refine k_leqF rfl rfl rfl (by omega) ?_ | refine k_gtrT rfl rfl rfl (by omega) ?_ | refine k_gtrF rfl rfl rfl (by omega) ?_ | refine k_geqT rfl rfl rfl (by omega) ?_ | refine k_geqF rfl rfl rfl (by omega) ?_ | refine k_eqlT rfl rfl rfl (by omega) ?_ | refine k_eqlF rfl rfl rfl (by omega) ?_ | refine k_neqT rfl rfl rfl (by omega) ?_ | refine k_neqF rfl rfl rfl (by omega) ?_ | refine k_eqa rfl rfl rfl rfl rfl rfl ?_ | refine k_nea rfl rfl rfl rfl rfl rfl ?_ | refine k_makeFunc rfl rfl rfl ?_ | refine k_skip rfl ?_ | refine k_skip0 rfl ?_ | refine k_pick rfl rfl rfl rfl rfl ?_ | refine W_yes rfl ?_ | refine W_no rfl ?_)
    (first | with_reducible refine q_endr ?_ | with_reducible refine q_endn ?_); refine rets1 Try.results20 (by first | exact RetV.tmp _ _ rfl | exact RetV.cell _ _ _ _ _ _ _ _ inferInstance rfl rfl rfl) ?_
    rfl
end Go.Proofs.Ytpdhbddkcnffbaa

namespace Go.Proofs.Ytpdhbddkcnffbaa
open Go.RowKit Go.Lib Go.IntWalk
set_option linter.unusedVariables false
set_option maxRecDepth 100000

theorem u8_of (x : Int) : ∃ c : UInt8, IntKind.u8.wrap x = ((c.toNat : Nat) : Int) := by
  have h : 0 ≤ IntKind.u8.wrap x ∧ IntKind.u8.wrap x < 256 := by rw [IntKind.wrap_u8]; omega
  refine ⟨UInt8.ofNat (IntKind.u8.wrap x).toNat, ?_⟩
  rw [UInt8.toNat_ofNat']; omega
/-- 32 bytes, one by one -/
theorem list32 (l : List UInt8) (h : l.length = 32) : ∃ (i : List UInt8) (a b : UInt8), i.length = 30 ∧ l = i ++ [a, b] := by
  refine ⟨l.take 30, l[30], l[31], by rw [List.length_take]; omega, ?_⟩
  conv => lhs; rw [← List.take_append_drop 30 l]
  congr 1
  rw [List.drop_eq_getElem_cons (by omega), List.drop_eq_getElem_cons (by omega), List.drop_of_length_le (by omega)]
theorem z32 : (List.replicate 32 (D.int .u8 0)) = bs (List.replicate 32 0) := rfl
set_option maxHeartbeats 8000000 in
theorem word_ok (k a b : Int) (s : ByteArray) : ∃ z : List UInt8, z.length = 32 ∧ Pur Try.prog 23 [.agg [.int .i64 k, .int .i64 a, .int .i64 b, .str s]] (.agg (bs z)) := by
  obtain ⟨c, hc⟩ := u8_of a
  obtain ⟨d, hd⟩ := u8_of b
  have hsl : s.data.toList.length = s.size := by rw [Array.length_toList]; rfl
  obtain ⟨q, hq⟩ : ∃ q, Nat.min s.size 32 = q := ⟨_, rfl⟩
  have hq32 : q ≤ 32 := by rw [← hq]; exact Nat.min_le_right _ _
  obtain ⟨t, ht⟩ : ∃ t, s.data.toList.take q = t := ⟨_, rfl⟩
  have htl : t.length = q := by
    have : q ≤ s.size := by rw [← hq]; exact Nat.min_le_left _ _
    rw [← ht, List.length_take]; omega
  obtain ⟨i, x, y, hi, hz⟩ := list32 (t ++ (List.replicate 32 0).drop q) (by simp [htl]; omega)
  have hil : (bs i).length = 30 := by rw [bs_len, hi]
  have hsp : splice 0 (bs t) (bs (List.replicate 32 0)) = some (bs i ++ [.int .u8 (x.toNat : Int), .int .u8 (y.toNat : Int)]) := by
    unfold splice
    rw [Nat.ble_eq_true_of_le (by rw [bs_len, bs_len, htl, List.length_replicate]; omega), cond_true]
    congr 1
    have e : (bs (List.replicate 32 0)).drop (0 + (bs t).length) = bs ((List.replicate 32 0).drop q) := by
      rw [Nat.zero_add, bs_len, htl]; simp [bs, List.map_drop]
    rw [e, List.take_zero, List.nil_append]
    have e2 : bs t ++ bs ((List.replicate 32 0).drop q) = bs (t ++ (List.replicate 32 0).drop q) := by simp [bs]
    rw [e2, hz]; simp [bs]
  have hp1 : splice 30 [D.int .u8 (c.toNat : Int)] (bs i ++ [.int .u8 (x.toNat : Int), .int .u8 (y.toNat : Int)]) = some (bs i ++ [.int .u8 (c.toNat : Int), .int .u8 (y.toNat : Int)]) := by
    unfold splice
    rw [Nat.ble_eq_true_of_le (by simp [hil]), cond_true, ← hil, List.take_left, List.drop_append, List.drop_of_length_le (by simp)]
    simp
  have hp2 : splice 31 [D.int .u8 (d.toNat : Int)] (bs i ++ [.int .u8 (c.toNat : Int), .int .u8 (y.toNat : Int)]) = some (bs i ++ [.int .u8 (c.toNat : Int), .int .u8 (d.toNat : Int)]) := by
    unfold splice
    have e31 : 31 = (bs i).length + 1 := by omega
    rw [Nat.ble_eq_true_of_le (by simp [hil]), cond_true, e31, List.take_append, List.take_of_length_le (by omega), List.drop_append, List.drop_of_length_le (by simp; omega)]
    simp [Nat.add_sub_cancel_left]
    omega
  refine ⟨i ++ [c, d], by simp [hi], ?_⟩
  have hres : bs i ++ [.int .u8 (c.toNat : Int), .int .u8 (d.toNat : Int)] = bs (i ++ [c, d]) := by simp [bs]
  rw [hres] at hp2
  have hZ : (i ++ [c, d]).length = 32 := by simp [hi]
  generalize i ++ [c, d] = Z at *
  refine pur_intro Try.func23 rfl Try.ntmps23 rfl (by first | rfl | assumption | exact bs_cl _) fun B => ?_
  repeat (first | with_reducible refine W_seq ?_ | with_reducible refine q_then ?_ | with_reducible refine q_thenr ?_ | with_reducible refine q_thenx ?_ | with_reducible refine W_block ?_ | with_reducible refine q_block ?_ | with_reducible refine q_blockr ?_ | with_reducible refine q_blockx ?_ | with_reducible refine W_ret ?_ | with_reducible refine W_skip ?_ | with_reducible refine W_label ?_ | with_reducible refine W_exit ?_ | with_reducible refine W_scope ?_ | with_reducible refine q_scope ?_ | with_reducible refine q_scoper ?_ | with_reducible refine q_scopex ?_ | (with_reducible refine R_nil ?_; try dsimp only [slots0, slots_ud, cells_U, agg_ud, drop0, dropS, takeS, take0, ud_nil, take_ud, take_ud0, drop_ud, drop_ud0, take_udk, D.cells, D.fz, D.fzs, List.take_succ_cons, List.take_zero, List.drop_succ_cons, List.drop_zero, List.cons_append, List.nil_append, List.append_eq, List.length_cons, List.length_nil, Nat.reduceAdd, Nat.reduceMul, Nat.reduceSub, Int.reduceAdd, Int.reduceSub, Int.reduceToNat, Int.reduceNeg, Int.reduceMul]) | refine q_blocky rfl ?_ | refine W_plain rfl ?_ | refine W_drawn mixed rfl ?_ | refine and_chk (by kernel_rfl) ?_ | refine k_move rfl rfl ?_ | refine k_assign rfl rfl ?_ | refine k_load rfl rfl rfl rfl ?_ | refine k_alloc rfl ?_ | refine k_box rfl rfl rfl ?_ | refine k_store rfl rfl rfl rfl rfl rfl rfl ?_ | refine k_extract rfl rfl rfl ?_ | refine k_fieldAddr rfl rfl rfl ?_ | refine k_field rfl rfl rfl ?_ | refine k_build rfl rfl rfl ?_ | refine k_copys rfl rfl rfl rfl rfl hq ht (by exact hsp) ?_ | refine k_conv rfl rfl hc ?_ | refine k_conv rfl rfl hd ?_ | refine k_store rfl rfl rfl rfl rfl rfl (by exact hp1) ?_ | refine k_store rfl rfl rfl rfl rfl rfl (by exact hp2) ?_ | refine k_load rfl rfl rfl (by exact b_cut hZ _) ?_ | refine k_store rfl rfl rfl rfl (b_len hZ) (b_fits _) (b_put hZ _ rfl) ?_ | refine W_unroll (WL_round ?_) | refine WL_round ?_ | refine k_append rfl rfl rfl (by first | rfl | exact trivial | (show 0 < _; omega)) (by first | rfl | (simp <;> omega)) (by first | rfl | (simp <;> omega)) rfl (by omega) rfl rfl rfl ?_ | refine k_slice rfl rfl rfl rfl ⟨by omega, by omega, by omega⟩ rfl rfl rfl ?_ | refine k_slice3 rfl rfl rfl rfl rfl ⟨by omega, by omega, by omega⟩ rfl rfl rfl ?_ | refine k_sliceA rfl rfl rfl rfl ⟨by omega, by omega, by omega, by omega⟩ rfl rfl ?_ | refine k_sliceE rfl rfl rfl rfl ⟨by omega, by omega, by omega, by omega⟩ rfl rfl rfl rfl ?_ | refine k_buildSlice (cs := []) rfl rfl rfl rfl rfl rfl rfl ?_ | refine k_buildSlice rfl rfl rfl rfl rfl rfl rfl ?_ | refine k_indexAddr rfl rfl rfl ⟨by omega, by omega⟩ ?_ | refine k_indexAddrs rfl rfl rfl ⟨by omega, by omega⟩ rfl ?_ | refine k_index rfl rfl rfl ⟨by omega, by omega⟩ rfl ?_ | refine k_loade rfl rfl rfl ?_ | refine k_fieldAddre rfl rfl rfl rfl ?_ | refine k_len rfl rfl ?_ | refine k_nilCheck rfl rfl rfl ?_ | refine k_pickT rfl rfl rfl ?_ | refine k_pickF rfl rfl rfl ?_ | refine k_addi rfl rfl rfl (by omega) ?_ | refine k_subi rfl rfl rfl (by omega) ?_ | refine k_negi rfl rfl (by omega) ?_ | refine k_not rfl rfl rfl ?_ | refine k_lssT rfl rfl rfl (by omega) ?_ | refine k_lssF rfl rfl rfl (by omega) ?_ | refine k_leqT rfl rfl rfl (by omega) ?_ | refine k_leqF rfl rfl rfl (by omega) ?_ | refine k_gtrT rfl rfl rfl (by omega) ?_ | refine k_gtrF rfl rfl rfl (by omega) ?_ | refine k_geqT rfl rfl rfl (by omega) ?_ | refine k_geqF rfl rfl rfl (by omega) ?_ | refine k_eqlT rfl rfl rfl (by omega) ?_ | refine k_eqlF rfl rfl rfl (by omega) ?_ | refine k_neqT rfl rfl rfl (by omega) ?_ | refine k_neqF rfl rfl rfl (by omega) ?_ | refine k_eqa rfl rfl rfl rfl rfl rfl ?_ | refine k_nea rfl rfl rfl rfl rfl rfl ?_ | refine k_makeFunc rfl rfl rfl ?_ | refine k_skip rfl ?_ | refine k_skip0 rfl ?_ | refine k_pick rfl rfl rfl rfl rfl ?_ | refine W_yes rfl ?_ | refine W_no rfl ?_)
  (first | with_reducible refine q_endr ?_ | with_reducible refine q_endn ?_); refine rets1 Try.results23 (RetV.cell _ _ _ _ _ _ _ _ inferInstance rfl rfl (by exact b_cut hZ _)) ?_
  exact b_fz _


theorem u8_xor (x y : Int) : ∃ c : UInt8, bitw .xor .u8 x y = ((c.toNat : Nat) : Int) := u8_of _
theorem bs_put (l : List UInt8) (k : Nat) (c : UInt8) (h : k < l.length) : splice (0 + ((k : Nat) : Int).toNat * 1) [D.int .u8 (c.toNat : Int)] (bs l) = some (bs (l.set k c)) := by
  unfold splice
  rw [Nat.ble_eq_true_of_le (by rw [bs_len]; simp; omega), cond_true]
  congr 1
  rw [Int.toNat_natCast, Nat.zero_add, Nat.mul_one]
  unfold bs
  rw [← List.map_take, ← List.map_drop, List.set_eq_take_append_cons_drop, if_pos h]
  simp
theorem bs_ix (l : List UInt8) (k : Nat) (h : k < l.length) : cut ⟨false, 1, [.int .u8 0]⟩ (0 + ((k : Nat) : Int).toNat * 1) (bs l) = some (.int .u8 ((l.getD k 0).toNat : Int)) := by
  unfold cut
  rw [Int.toNat_natCast, Nat.zero_add, Nat.mul_one, cond_false]
  refine bs_get l k _ ?_
  rw [List.getD_eq_getElem?_getD, List.getElem?_eq_getElem h]; rfl
/-- the byte that sum lays in place i -/
noncomputable def sumC (a b : Int) (i : Nat) (c : UInt8) : UInt8 := Classical.choose (u8_xor (c.toNat : Int) (IntKind.u8.wrap (IntKind.u8.wrap (a.fdiv (2 ^ (min ((i % 7 * 8 : Nat) : Int).toNat IntKind.i64.bits))) + IntKind.u8.wrap (IntKind.i64.wrap ((i : Int) * b)))))
theorem sumC_eq (a b : Int) (i : Nat) (c : UInt8) : bitw .xor .u8 (c.toNat : Int) (IntKind.u8.wrap (IntKind.u8.wrap (a.fdiv (2 ^ (min ((i % 7 * 8 : Nat) : Int).toNat IntKind.i64.bits))) + IntKind.u8.wrap (IntKind.i64.wrap ((i : Int) * b)))) = (((sumC a b i c).toNat : Nat) : Int) := Classical.choose_spec (u8_xor _ _)
noncomputable def sumI (a b : Int) (z : List UInt8) : Nat → List UInt8
  | 0 => z
  | i + 1 => (sumI a b z i).set i (sumC a b i ((sumI a b z i).getD i 0))
theorem sumI_len (a b : Int) (z : List UInt8) : ∀ i, (sumI a b z i).length = z.length
  | 0 => rfl
  | i + 1 => by rw [sumI, List.length_set, sumI_len a b z i]
set_option maxHeartbeats 8000000 in
theorem sum_ok (k a b : Int) (s : ByteArray) : ∃ z : List UInt8, z.length = 32 ∧ Pur Try.prog 8 [.agg [.int .i64 k, .int .i64 a, .int .i64 b, .str s]] (.agg (bs z)) := by
  obtain ⟨z0, hz0, hw⟩ := word_ok k a b s
  have hL : ∀ i, (sumI a b z0 i).length = 32 := fun i => by rw [sumI_len, hz0]
  have hZl := hL 32
  obtain ⟨Z, hZ⟩ : ∃ Z, sumI a b z0 32 = Z := ⟨_, rfl⟩
  rw [hZ] at hZl
  refine ⟨Z, hZl, ?_⟩
  have hcl : D.cl (.agg (bs Z)) = true := bs_cl _
  refine pur_intro Try.func8 rfl Try.ntmps8 rfl (by first | rfl | assumption | exact bs_cl _) fun B => ?_
  repeat (first | with_reducible refine W_seq ?_ | with_reducible refine q_then ?_ | with_reducible refine q_thenr ?_ | with_reducible refine q_thenx ?_ | with_reducible refine W_block ?_ | with_reducible refine q_block ?_ | with_reducible refine q_blockr ?_ | with_reducible refine q_blockx ?_ | with_reducible refine W_ret ?_ | with_reducible refine W_skip ?_ | with_reducible refine W_label ?_ | with_reducible refine W_exit ?_ | with_reducible refine W_scope ?_ | with_reducible refine q_scope ?_ | with_reducible refine q_scoper ?_ | with_reducible refine q_scopex ?_ | (with_reducible refine R_nil ?_; try dsimp only [slots0, slots_ud, cells_U, agg_ud, drop0, dropS, takeS, take0, ud_nil, take_ud, take_ud0, drop_ud, drop_ud0, take_udk, D.cells, D.fz, D.fzs, List.take_succ_cons, List.take_zero, List.drop_succ_cons, List.drop_zero, List.cons_append, List.nil_append, List.append_eq, List.length_cons, List.length_nil, Nat.reduceAdd, Nat.reduceMul, Nat.reduceSub, Int.reduceAdd, Int.reduceSub, Int.reduceToNat, Int.reduceNeg, Int.reduceMul]) | refine q_blocky rfl ?_ | refine W_plain rfl ?_ | refine W_drawn mixed rfl ?_ | refine and_chk (by kernel_rfl) ?_ | refine k_move rfl rfl ?_ | refine k_assign rfl rfl ?_ | refine k_load rfl rfl rfl rfl ?_ | refine k_alloc rfl ?_ | refine k_box rfl rfl rfl ?_ | refine k_store rfl rfl rfl rfl rfl rfl rfl ?_ | refine k_extract rfl rfl rfl ?_ | refine k_fieldAddr rfl rfl rfl ?_ | refine k_field rfl rfl rfl ?_ | refine k_build rfl rfl rfl ?_ | refine k_call rfl hw rfl rfl rfl (bs_cl _) ?_ | refine k_store rfl rfl rfl rfl (b_len hz0) (b_fits _) (b_put hz0 _ rfl) ?_ | refine k_append rfl rfl rfl (by first | rfl | exact trivial | (show 0 < _; omega)) (by first | rfl | (simp <;> omega)) (by first | rfl | (simp <;> omega)) rfl (by omega) rfl rfl rfl ?_ | refine k_slice rfl rfl rfl rfl ⟨by omega, by omega, by omega⟩ rfl rfl rfl ?_ | refine k_slice3 rfl rfl rfl rfl rfl ⟨by omega, by omega, by omega⟩ rfl rfl rfl ?_ | refine k_sliceA rfl rfl rfl rfl ⟨by omega, by omega, by omega, by omega⟩ rfl rfl ?_ | refine k_sliceE rfl rfl rfl rfl ⟨by omega, by omega, by omega, by omega⟩ rfl rfl rfl rfl ?_ | refine k_buildSlice (cs := []) rfl rfl rfl rfl rfl rfl rfl ?_ | refine k_buildSlice rfl rfl rfl rfl rfl rfl rfl ?_ | refine k_indexAddr rfl rfl rfl ⟨by omega, by omega⟩ ?_ | refine k_indexAddrs rfl rfl rfl ⟨by omega, by omega⟩ rfl ?_ | refine k_index rfl rfl rfl ⟨by omega, by omega⟩ rfl ?_ | refine k_loade rfl rfl rfl ?_ | refine k_fieldAddre rfl rfl rfl rfl ?_ | refine k_len rfl rfl ?_ | refine k_nilCheck rfl rfl rfl ?_ | refine k_pickT rfl rfl rfl ?_ | refine k_pickF rfl rfl rfl ?_ | refine k_addi rfl rfl rfl (by omega) ?_ | refine k_subi rfl rfl rfl (by omega) ?_ | refine k_negi rfl rfl (by omega) ?_ | refine k_not rfl rfl rfl ?_ | refine k_lssT rfl rfl rfl (by omega) ?_ | refine k_lssF rfl rfl rfl (by omega) ?_ | refine k_leqT rfl rfl rfl (by omega) ?_ | refine k_leqF rfl rfl rfl (by omega) ?_ | refine k_gtrT rfl rfl rfl (by omega) ?_ | refine k_gtrF rfl rfl rfl (by omega) ?_ | refine k_geqT rfl rfl rfl (by omega) ?_ | refine k_geqF rfl rfl rfl (by omega) ?_ | refine k_eqlT rfl rfl rfl (by omega) ?_ | refine k_eqlF rfl rfl rfl (by omega) ?_ | refine k_neqT rfl rfl rfl (by omega) ?_ | refine k_neqF rfl rfl rfl (by omega) ?_ | refine k_eqa rfl rfl rfl rfl rfl rfl ?_ | refine k_nea rfl rfl rfl rfl rfl rfl ?_ | refine k_makeFunc rfl rfl rfl ?_ | refine k_skip rfl ?_ | refine k_skip0 rfl ?_ | refine k_pick rfl rfl rfl rfl rfl ?_ | refine W_yes rfl ?_ | refine W_no rfl ?_)
  refine W_loop (fun n' ρ m nx => ∃ i : Nat, i ≤ 32 ∧ n' = 32 - i ∧ ρ = [(7, .int .i64 (i : Int)), (3, .ptr 2 0), (2, .ptr 1 0), (1, .ptr 0 0)] ∧ m = [(2, some (.var 39 (bs (sumI a b z0 i)))), (1, some (.var 39 (bs (List.replicate 32 0)))), (0, some (.var 23 [.int .i64 k, .int .i64 a, .int .i64 b, .str s]))] ∧ nx = 3)
    ⟨_, _, _, _, (by repeat (first | exact trivial | refine ⟨⟨rfl, rfl⟩, ?_⟩ | refine ⟨⟨rfl, bs_bel _ _⟩, ?_⟩ | refine ⟨⟨rfl, arr_bels _ _ _⟩, ?_⟩)), (by repeat (first | exact trivial | refine ⟨⟨rfl, rfl, rfl⟩, ?_⟩ | refine ⟨⟨rfl, rfl, bs_bels _ _⟩, ?_⟩ | refine ⟨⟨rfl, rfl, arr_bels _ _ _⟩, ?_⟩)), 0, by decide, rfl, rfl, rfl, rfl⟩ ?_
  rintro n' ρ m nx ⟨i, hi, rfl, rfl, rfl, rfl⟩
  by_cases hlt : i < 32
  · have hl := hL i
    have hr : (i : Int).tmod 7 = ((i % 7 : Nat) : Int) := by rw [Int.tmod_eq_emod_of_nonneg (by omega)]; omega
    have hm : IntKind.i64.wrap (((i % 7 : Nat) : Int) * 8) = ((i % 7 * 8 : Nat) : Int) := by rw [i64_in _ (by omega)]; omega
    have hcut := bs_ix (sumI a b z0 i) i (by omega)
    have hx := sumC_eq a b i ((sumI a b z0 i).getD i 0)
    have hp := bs_put (sumI a b z0 i) i (sumC a b i ((sumI a b z0 i).getD i 0)) (by omega)
    have hn : (sumI a b z0 i).set i (sumC a b i ((sumI a b z0 i).getD i 0)) = sumI a b z0 (i + 1) := rfl
    rw [hn] at hp
    clear hn
    have h7 : i % 7 * 8 < 64 := by omega
    generalize (sumI a b z0 i).getD i 0 = c at *
    generalize sumC a b i c = v at *
    generalize h1 : sumI a b z0 (i + 1) = l1 at *
    generalize sumI a b z0 i = l0 at *
    generalize i % 7 = q at *
    repeat (first | with_reducible refine W_seq ?_ | with_reducible refine q_then ?_ | with_reducible refine q_thenr ?_ | with_reducible refine q_thenx ?_ | with_reducible refine W_block ?_ | with_reducible refine q_block ?_ | with_reducible refine q_blockr ?_ | with_reducible refine q_blockx ?_ | with_reducible refine W_ret ?_ | with_reducible refine W_skip ?_ | with_reducible refine W_label ?_ | with_reducible refine W_exit ?_ | with_reducible refine W_scope ?_ | with_reducible refine q_scope ?_ | with_reducible refine q_scoper ?_ | with_reducible refine q_scopex ?_ | (with_reducible refine R_nil ?_; try dsimp only [slots0, slots_ud, cells_U, agg_ud, drop0, dropS, takeS, take0, ud_nil, take_ud, take_ud0, drop_ud, drop_ud0, take_udk, D.cells, D.fz, D.fzs, List.take_succ_cons, List.take_zero, List.drop_succ_cons, List.drop_zero, List.cons_append, List.nil_append, List.append_eq, List.length_cons, List.length_nil, Nat.reduceAdd, Nat.reduceMul, Nat.reduceSub, Int.reduceAdd, Int.reduceSub, Int.reduceToNat, Int.reduceNeg, Int.reduceMul]) | refine q_blocky rfl ?_ | refine W_plain rfl ?_ | refine W_drawn mixed rfl ?_ | refine and_chk (by kernel_rfl) ?_ | refine k_move rfl rfl ?_ | refine k_assign rfl rfl ?_ | refine k_load rfl rfl rfl rfl ?_ | refine k_alloc rfl ?_ | refine k_box rfl rfl rfl ?_ | refine k_store rfl rfl rfl rfl rfl rfl rfl ?_ | refine k_extract rfl rfl rfl ?_ | refine k_fieldAddr rfl rfl rfl ?_ | refine k_field rfl rfl rfl ?_ | refine k_build rfl rfl rfl ?_ | refine k_rem rfl rfl rfl (by decide) hr ?_ | refine k_mul rfl rfl rfl hm ?_ | refine k_load rfl rfl rfl (by exact hcut) ?_ | refine k_shr rfl rfl rfl (by omega) rfl ?_ | refine k_conv rfl rfl rfl ?_ | refine k_mul rfl rfl rfl rfl ?_ | refine k_add (k := .u8) rfl rfl rfl rfl ?_ | refine k_bits rfl rfl rfl rfl hx ?_ | refine k_store rfl rfl rfl rfl rfl rfl (by exact hp) ?_ | refine k_append rfl rfl rfl (by first | rfl | exact trivial | (show 0 < _; omega)) (by first | rfl | (simp <;> omega)) (by first | rfl | (simp <;> omega)) rfl (by omega) rfl rfl rfl ?_ | refine k_slice rfl rfl rfl rfl ⟨by omega, by omega, by omega⟩ rfl rfl rfl ?_ | refine k_slice3 rfl rfl rfl rfl rfl ⟨by omega, by omega, by omega⟩ rfl rfl rfl ?_ | refine k_sliceA rfl rfl rfl rfl ⟨by omega, by omega, by omega, by omega⟩ rfl rfl ?_ | refine k_sliceE rfl rfl rfl rfl ⟨by omega, by omega, by omega, by omega⟩ rfl rfl rfl rfl ?_ | refine k_buildSlice (cs := []) rfl rfl rfl rfl rfl rfl rfl ?_ | refine k_buildSlice rfl rfl rfl rfl rfl rfl rfl ?_ | refine k_indexAddr rfl rfl rfl ⟨by omega, by omega⟩ ?_ | refine k_indexAddrs rfl rfl rfl ⟨by omega, by omega⟩ rfl ?_ | refine k_index rfl rfl rfl ⟨by omega, by omega⟩ rfl ?_ | refine k_loade rfl rfl rfl ?_ | refine k_fieldAddre rfl rfl rfl rfl ?_ | refine k_len rfl rfl ?_ | refine k_nilCheck rfl rfl rfl ?_ | refine k_pickT rfl rfl rfl ?_ | refine k_pickF rfl rfl rfl ?_ | refine k_addi rfl rfl rfl (by omega) ?_ | refine k_subi rfl rfl rfl (by omega) ?_ | refine k_negi rfl rfl (by omega) ?_ | refine k_not rfl rfl rfl ?_ | refine k_lssT rfl rfl rfl (by omega) ?_ | refine k_lssF rfl rfl rfl (by omega) ?_ | refine k_leqT rfl rfl rfl (by omega) ?_ | refine k_leqF rfl rfl rfl (by omega) ?_ | refine k_gtrT rfl rfl rfl (by omega) ?_ | refine k_gtrF rfl rfl rfl (by omega) ?_ | refine k_geqT rfl rfl rfl (by omega) ?_ | refine k_geqF rfl rfl rfl (by omega) ?_ | refine k_eqlT rfl rfl rfl (by omega) ?_ | refine k_eqlF rfl rfl rfl (by omega) ?_ | refine k_neqT rfl rfl rfl (by omega) ?_ | refine k_neqF rfl rfl rfl (by omega) ?_ | refine k_eqa rfl rfl rfl rfl rfl rfl ?_ | refine k_nea rfl rfl rfl rfl rfl rfl ?_ | refine k_makeFunc rfl rfl rfl ?_ | refine k_skip rfl ?_ | refine k_skip0 rfl ?_ | refine k_pick rfl rfl rfl rfl rfl ?_ | refine W_yes rfl ?_ | refine W_no rfl ?_)
    subst h1
    exact ⟨32 - (i + 1), _, _, _, (by repeat (first | exact trivial | refine ⟨⟨rfl, rfl⟩, ?_⟩ | refine ⟨⟨rfl, bs_bel _ _⟩, ?_⟩ | refine ⟨⟨rfl, arr_bels _ _ _⟩, ?_⟩)), (by repeat (first | exact trivial | refine ⟨⟨rfl, rfl, rfl⟩, ?_⟩ | refine ⟨⟨rfl, rfl, bs_bels _ _⟩, ?_⟩ | refine ⟨⟨rfl, rfl, arr_bels _ _ _⟩, ?_⟩)), by omega, i + 1, by omega, rfl, rfl, rfl, rfl⟩
  · have ei : i = 32 := by omega
    subst ei
    rw [hZ]
    have hb := b_cut hZl
    repeat (first | with_reducible refine W_seq ?_ | with_reducible refine q_then ?_ | with_reducible refine q_thenr ?_ | with_reducible refine q_thenx ?_ | with_reducible refine W_block ?_ | with_reducible refine q_block ?_ | with_reducible refine q_blockr ?_ | with_reducible refine q_blockx ?_ | with_reducible refine W_ret ?_ | with_reducible refine W_skip ?_ | with_reducible refine W_label ?_ | with_reducible refine W_exit ?_ | with_reducible refine W_scope ?_ | with_reducible refine q_scope ?_ | with_reducible refine q_scoper ?_ | with_reducible refine q_scopex ?_ | (with_reducible refine R_nil ?_; try dsimp only [slots0, slots_ud, cells_U, agg_ud, drop0, dropS, takeS, take0, ud_nil, take_ud, take_ud0, drop_ud, drop_ud0, take_udk, D.cells, D.fz, D.fzs, List.take_succ_cons, List.take_zero, List.drop_succ_cons, List.drop_zero, List.cons_append, List.nil_append, List.append_eq, List.length_cons, List.length_nil, Nat.reduceAdd, Nat.reduceMul, Nat.reduceSub, Int.reduceAdd, Int.reduceSub, Int.reduceToNat, Int.reduceNeg, Int.reduceMul]) | refine q_blocky rfl ?_ | refine W_plain rfl ?_ | refine W_drawn mixed rfl ?_ | refine and_chk (by kernel_rfl) ?_ | refine k_move rfl rfl ?_ | refine k_assign rfl rfl ?_ | refine k_load rfl rfl rfl rfl ?_ | refine k_alloc rfl ?_ | refine k_box rfl rfl rfl ?_ | refine k_store rfl rfl rfl rfl rfl rfl rfl ?_ | refine k_extract rfl rfl rfl ?_ | refine k_fieldAddr rfl rfl rfl ?_ | refine k_field rfl rfl rfl ?_ | refine k_build rfl rfl rfl ?_ | refine k_load rfl rfl rfl (by exact hb _) ?_ | refine k_store rfl rfl rfl rfl (b_len hZl) (b_fits _) (b_put hZl _ rfl) ?_ | refine k_append rfl rfl rfl (by first | rfl | exact trivial | (show 0 < _; omega)) (by first | rfl | (simp <;> omega)) (by first | rfl | (simp <;> omega)) rfl (by omega) rfl rfl rfl ?_ | refine k_slice rfl rfl rfl rfl ⟨by omega, by omega, by omega⟩ rfl rfl rfl ?_ | refine k_slice3 rfl rfl rfl rfl rfl ⟨by omega, by omega, by omega⟩ rfl rfl rfl ?_ | refine k_sliceA rfl rfl rfl rfl ⟨by omega, by omega, by omega, by omega⟩ rfl rfl ?_ | refine k_sliceE rfl rfl rfl rfl ⟨by omega, by omega, by omega, by omega⟩ rfl rfl rfl rfl ?_ | refine k_buildSlice (cs := []) rfl rfl rfl rfl rfl rfl rfl ?_ | refine k_buildSlice rfl rfl rfl rfl rfl rfl rfl ?_ | refine k_indexAddr rfl rfl rfl ⟨by omega, by omega⟩ ?_ | refine k_indexAddrs rfl rfl rfl ⟨by omega, by omega⟩ rfl ?_ | refine k_index rfl rfl rfl ⟨by omega, by omega⟩ rfl ?_ | refine k_loade rfl rfl rfl ?_ | refine k_fieldAddre rfl rfl rfl rfl ?_ | refine k_len rfl rfl ?_ | refine k_nilCheck rfl rfl rfl ?_ | refine k_pickT rfl rfl rfl ?_ | refine k_pickF rfl rfl rfl ?_ | refine k_addi rfl rfl rfl (by omega) ?_ | refine k_subi rfl rfl rfl (by omega) ?_ | refine k_negi rfl rfl (by omega) ?_ | refine k_not rfl rfl rfl ?_ | refine k_lssT rfl rfl rfl (by omega) ?_ | refine k_lssF rfl rfl rfl (by omega) ?_ | refine k_leqT rfl rfl rfl (by omega) ?_ | refine k_leqF rfl rfl rfl (by omega) ?_ | refine k_gtrT rfl rfl rfl (by omega) ?_ | refine k_gtrF rfl rfl rfl (by omega) ?_ | refine k_geqT rfl rfl rfl (by omega) ?_ | refine k_geqF rfl rfl rfl (by omega) ?_ | refine k_eqlT rfl rfl rfl (by omega) ?_ | refine k_eqlF rfl rfl rfl (by omega) ?_ | refine k_neqT rfl rfl rfl (by omega) ?_ | refine k_neqF rfl rfl rfl (by omega) ?_ | refine k_eqa rfl rfl rfl rfl rfl rfl ?_ | refine k_nea rfl rfl rfl rfl rfl rfl ?_ | refine k_makeFunc rfl rfl rfl ?_ | refine k_skip rfl ?_ | refine k_skip0 rfl ?_ | refine k_pick rfl rfl rfl rfl rfl ?_ | refine W_yes rfl ?_ | refine W_no rfl ?_)
    (first | with_reducible refine q_endr ?_ | with_reducible refine q_endn ?_); refine rets1 Try.results8 (RetV.cell _ _ _ _ _ _ _ _ inferInstance rfl rfl (by exact hb _)) ?_
    exact b_fz _
end Go.Proofs.Ytpdhbddkcnffbaa

namespace Go.Proofs.Ytpdhbddkcnffbaa
open Go.RowKit
set_option linter.unusedVariables false
set_option maxRecDepth 100000
--nrm pt_all pt_x pt_y cv_all cv_p cv_a cv_b cv_n cv_g cv_gx pt_len cv_len rg_len ren_rl rl_all rl_m rl_len rl_nil pt_nil ptD_all ptD_nil ptD_len sg_all sg_r sg_s sg_len

/-- a signature -/
def sg (r s : Nat) (o : Int) : List D := ud r ++ (ud s ++ [.int .i64 o])
theorem sg_all (r s : Nat) (o : Int) : List.take 9 (sg r s o) = sg r s o := rfl
theorem sg_r (r s : Nat) (o : Int) : List.take 4 (sg r s o) = ud r := rfl
theorem sg_s (r s : Nat) (o : Int) : List.take 4 (List.drop 4 (sg r s o)) = ud s := rfl
theorem sg_len (r s : Nat) (o : Int) : (sg r s o).length = 9 := rfl

theorem rest_ok (a m r : Nat) (ha : a < M256) (hm : m < M256) (h0 : 0 < m) (hr : a % m = r) : Pur Try.prog 19 [U a, U m] (U r) := by
  refine pur_intro Try.func19 rfl Try.ntmps19 rfl (by first | rfl | assumption | exact bs_cl _) fun B => ?_
  repeat (first | with_reducible refine W_seq ?_ | with_reducible refine q_then ?_ | with_reducible refine q_thenr ?_ | with_reducible refine q_thenx ?_ | with_reducible refine W_block ?_ | with_reducible refine q_block ?_ | with_reducible refine q_blockr ?_ | with_reducible refine q_blockx ?_ | with_reducible refine W_ret ?_ | with_reducible refine W_skip ?_ | with_reducible refine W_label ?_ | with_reducible refine W_exit ?_ | with_reducible refine W_scope ?_ | with_reducible refine q_scope ?_ | with_reducible refine q_scoper ?_ | with_reducible refine q_scopex ?_ | (with_reducible refine R_nil ?_; try dsimp only [slots0, slots_ud, pt_all, pt_x, pt_y, cv_all, cv_p, cv_a, cv_b, cv_n, cv_g, cv_gx, pt_len, cv_len, rg_len, ren_rl, rl_all, rl_m, rl_len, rl_nil, pt_nil, ptD_all, ptD_nil, ptD_len, sg_all, sg_r, sg_s, sg_len, cells_U, agg_ud, drop0, dropS, takeS, take0, ud_nil, take_ud, take_ud0, drop_ud, drop_ud0, take_udk, D.cells, D.fz, D.fzs, List.take_succ_cons, List.take_zero, List.drop_succ_cons, List.drop_zero, List.cons_append, List.nil_append, List.append_eq, List.length_cons, List.length_nil, Nat.reduceAdd, Nat.reduceMul, Nat.reduceSub, Int.reduceAdd, Int.reduceSub, Int.reduceToNat, Int.reduceNeg, Int.reduceMul]) | refine q_blocky rfl ?_ | refine W_plain rfl ?_ | refine W_drawn mixed rfl ?_ | refine and_chk (by kernel_rfl) ?_ | refine k_move rfl rfl ?_ | refine k_assign rfl rfl ?_ | refine k_load rfl rfl rfl rfl ?_ | refine k_alloc rfl ?_ | refine k_box rfl rfl rfl ?_ | refine k_store rfl rfl rfl rfl rfl rfl rfl ?_ | refine k_extract rfl rfl rfl ?_ | refine k_fieldAddr rfl rfl rfl ?_ | refine k_field rfl rfl rfl ?_ | refine k_build rfl rfl rfl ?_ | refine k_call rfl (p_div a m _ r ha hm h0 rfl hr) rfl rfl rfl rfl ?_ | refine k_buildSlice (cs := []) rfl rfl rfl rfl rfl rfl rfl ?_ | refine k_buildSlice rfl rfl rfl rfl rfl rfl rfl ?_ | refine k_indexAddr rfl rfl rfl ⟨by omega, by omega⟩ ?_ | refine k_indexAddrs rfl rfl rfl ⟨by omega, by omega⟩ rfl ?_ | refine k_index rfl rfl rfl ⟨by omega, by omega⟩ rfl ?_ | refine k_loade rfl rfl rfl ?_ | refine k_fieldAddre rfl rfl rfl rfl ?_ | refine k_len rfl rfl ?_ | refine k_nilCheck rfl rfl rfl ?_ | refine k_pickT rfl rfl rfl ?_ | refine k_pickF rfl rfl rfl ?_ | refine k_addi rfl rfl rfl (by omega) ?_ | refine k_subi rfl rfl rfl (by omega) ?_ | refine k_negi rfl rfl (by omega) ?_ | refine k_not rfl rfl rfl ?_ | refine k_lssT rfl rfl rfl (by omega) ?_ | refine k_lssF rfl rfl rfl (by omega) ?_ | refine k_leqT rfl rfl rfl (by omega) ?_ | refine k_leqF rfl rfl rfl (by omega) ?_ | refine k_gtrT rfl rfl rfl (by omega) ?_ | refine k_gtrF rfl rfl rfl (by omega) ?_ | refine k_geqT rfl rfl rfl (by omega) ?_ | refine k_geqF rfl rfl rfl (by omega) ?_ | refine k_eqlT rfl rfl rfl (by omega) ?_ | refine k_eqlF rfl rfl rfl (by omega) ?_ | refine k_neqT rfl rfl rfl (by omega) ?_ | refine k_neqF rfl rfl rfl (by omega) ?_ | refine k_eqa rfl rfl rfl rfl rfl rfl ?_ | refine k_nea rfl rfl rfl rfl rfl rfl ?_ | refine k_makeFunc rfl rfl rfl ?_ | refine k_skip rfl ?_ | refine k_skip0 rfl ?_ | refine k_pick rfl rfl rfl rfl rfl ?_ | refine W_yes rfl ?_ | refine W_no rfl ?_)
  (first | with_reducible refine q_endr ?_ | with_reducible refine q_endn ?_); refine rets1 Try.results19 (by first | exact RetV.tmp _ _ rfl | exact RetV.cell _ _ _ _ _ _ _ _ inferInstance rfl rfl rfl) ?_
  rfl
theorem low_ok (p a b n gx gy s : Nat) (f r : Bool) (hn : n < M256) (hs : s < M256) (hr : decide (s ≤ n / 2) = r) : Pur Try.prog 32 [.agg (cv p a b n gx gy f), U s] (.bool r) := by
  have hh : n / 2 < M256 := by omega
  have hc : ∃ c, cmpI s (n / 2) = c ∧ decide (c ≤ 0) = r := by
    rcases Nat.lt_trichotomy s (n / 2) with h | h | h
    · exact ⟨-1, cmp_m1 h, by rw [← hr]; simp; omega⟩
    · exact ⟨0, cmp_00 h, by rw [← hr]; simp; omega⟩
    · exact ⟨1, cmp_p1 h, by rw [← hr]; simp; omega⟩
  obtain ⟨c, hc, hc0⟩ := hc
  refine pur_intro Try.func32 rfl Try.ntmps32 rfl (by first | rfl | assumption | exact bs_cl _) fun B => ?_
  repeat (first | with_reducible refine W_seq ?_ | with_reducible refine q_then ?_ | with_reducible refine q_thenr ?_ | with_reducible refine q_thenx ?_ | with_reducible refine W_block ?_ | with_reducible refine q_block ?_ | with_reducible refine q_blockr ?_ | with_reducible refine q_blockx ?_ | with_reducible refine W_ret ?_ | with_reducible refine W_skip ?_ | with_reducible refine W_label ?_ | with_reducible refine W_exit ?_ | with_reducible refine W_scope ?_ | with_reducible refine q_scope ?_ | with_reducible refine q_scoper ?_ | with_reducible refine q_scopex ?_ | (with_reducible refine R_nil ?_; try dsimp only [slots0, slots_ud, pt_all, pt_x, pt_y, cv_all, cv_p, cv_a, cv_b, cv_n, cv_g, cv_gx, pt_len, cv_len, rg_len, ren_rl, rl_all, rl_m, rl_len, rl_nil, pt_nil, ptD_all, ptD_nil, ptD_len, sg_all, sg_r, sg_s, sg_len, cells_U, agg_ud, drop0, dropS, takeS, take0, ud_nil, take_ud, take_ud0, drop_ud, drop_ud0, take_udk, D.cells, D.fz, D.fzs, List.take_succ_cons, List.take_zero, List.drop_succ_cons, List.drop_zero, List.cons_append, List.nil_append, List.append_eq, List.length_cons, List.length_nil, Nat.reduceAdd, Nat.reduceMul, Nat.reduceSub, Int.reduceAdd, Int.reduceSub, Int.reduceToNat, Int.reduceNeg, Int.reduceMul]) | refine q_blocky rfl ?_ | refine W_plain rfl ?_ | refine W_drawn mixed rfl ?_ | refine and_chk (by kernel_rfl) ?_ | refine k_move rfl rfl ?_ | refine k_assign rfl rfl ?_ | refine k_load rfl rfl rfl rfl ?_ | refine k_alloc rfl ?_ | refine k_box rfl rfl rfl ?_ | refine k_store rfl rfl rfl rfl rfl rfl rfl ?_ | refine k_extract rfl rfl rfl ?_ | refine k_fieldAddr rfl rfl rfl ?_ | refine k_field rfl rfl rfl ?_ | refine k_build rfl rfl rfl ?_ | refine k_call rfl (p_div n 2 (n / 2) _ hn (by decide) (by decide) rfl rfl) rfl rfl rfl rfl ?_ | refine k_call rfl (p_cmp s (n / 2) c hs hh hc) rfl rfl rfl rfl ?_ | refine k_leq rfl rfl rfl hc0 ?_ | refine k_buildSlice (cs := []) rfl rfl rfl rfl rfl rfl rfl ?_ | refine k_buildSlice rfl rfl rfl rfl rfl rfl rfl ?_ | refine k_indexAddr rfl rfl rfl ⟨by omega, by omega⟩ ?_ | refine k_indexAddrs rfl rfl rfl ⟨by omega, by omega⟩ rfl ?_ | refine k_index rfl rfl rfl ⟨by omega, by omega⟩ rfl ?_ | refine k_loade rfl rfl rfl ?_ | refine k_fieldAddre rfl rfl rfl rfl ?_ | refine k_len rfl rfl ?_ | refine k_nilCheck rfl rfl rfl ?_ | refine k_pickT rfl rfl rfl ?_ | refine k_pickF rfl rfl rfl ?_ | refine k_addi rfl rfl rfl (by omega) ?_ | refine k_subi rfl rfl rfl (by omega) ?_ | refine k_negi rfl rfl (by omega) ?_ | refine k_not rfl rfl rfl ?_ | refine k_lssT rfl rfl rfl (by omega) ?_ | refine k_lssF rfl rfl rfl (by omega) ?_ | refine k_leqT rfl rfl rfl (by omega) ?_ | refine k_leqF rfl rfl rfl (by omega) ?_ | refine k_gtrT rfl rfl rfl (by omega) ?_ | refine k_gtrF rfl rfl rfl (by omega) ?_ | refine k_geqT rfl rfl rfl (by omega) ?_ | refine k_geqF rfl rfl rfl (by omega) ?_ | refine k_eqlT rfl rfl rfl (by omega) ?_ | refine k_eqlF rfl rfl rfl (by omega) ?_ | refine k_neqT rfl rfl rfl (by omega) ?_ | refine k_neqF rfl rfl rfl (by omega) ?_ | refine k_eqa rfl rfl rfl rfl rfl rfl ?_ | refine k_nea rfl rfl rfl rfl rfl rfl ?_ | refine k_makeFunc rfl rfl rfl ?_ | refine k_skip rfl ?_ | refine k_skip0 rfl ?_ | refine k_pick rfl rfl rfl rfl rfl ?_ | refine W_yes rfl ?_ | refine W_no rfl ?_)
  (first | with_reducible refine q_endr ?_ | with_reducible refine q_endn ?_); refine rets1 Try.results32 (by first | exact RetV.tmp _ _ rfl | exact RetV.cell _ _ _ _ _ _ _ _ inferInstance rfl rfl rfl) ?_
  rfl
theorem secret_ok (p a b n gx gy d : Nat) (f r : Bool) (hn : n < M256) (hd : d < M256) (hr : decide (d ≠ 0 ∧ d < n) = r) : Pur Try.prog 31 [.agg (cv p a b n gx gy f), U d] (.bool r) := by
  have hz := deqs_ud d 0 hd (by decide)
  by_cases h0 : d = 0
  · subst h0
    have : r = false := by rw [← hr]; simp
    subst this
    have hz' : (!deqs (ud 0) (ud 0)) = false := rfl
    refine pur_intro Try.func31 rfl Try.ntmps31 rfl (by first | rfl | assumption | exact bs_cl _) fun B => ?_
    repeat (first | with_reducible refine W_seq ?_ | with_reducible refine q_then ?_ | with_reducible refine q_thenr ?_ | with_reducible refine q_thenx ?_ | with_reducible refine W_block ?_ | with_reducible refine q_block ?_ | with_reducible refine q_blockr ?_ | with_reducible refine q_blockx ?_ | with_reducible refine W_ret ?_ | with_reducible refine W_skip ?_ | with_reducible refine W_label ?_ | with_reducible refine W_exit ?_ | with_reducible refine W_scope ?_ | with_reducible refine q_scope ?_ | with_reducible refine q_scoper ?_ | with_reducible refine q_scopex ?_ | (with_reducible refine R_nil ?_; try dsimp only [slots0, slots_ud, pt_all, pt_x, pt_y, cv_all, cv_p, cv_a, cv_b, cv_n, cv_g, cv_gx, pt_len, cv_len, rg_len, ren_rl, rl_all, rl_m, rl_len, rl_nil, pt_nil, ptD_all, ptD_nil, ptD_len, sg_all, sg_r, sg_s, sg_len, cells_U, agg_ud, drop0, dropS, takeS, take0, ud_nil, take_ud, take_ud0, drop_ud, drop_ud0, take_udk, D.cells, D.fz, D.fzs, List.take_succ_cons, List.take_zero, List.drop_succ_cons, List.drop_zero, List.cons_append, List.nil_append, List.append_eq, List.length_cons, List.length_nil, Nat.reduceAdd, Nat.reduceMul, Nat.reduceSub, Int.reduceAdd, Int.reduceSub, Int.reduceToNat, Int.reduceNeg, Int.reduceMul]) | refine q_blocky rfl ?_ | refine W_plain rfl ?_ | refine W_drawn mixed rfl ?_ | refine and_chk (by kernel_rfl) ?_ | refine k_move rfl rfl ?_ | refine k_assign rfl rfl ?_ | refine k_load rfl rfl rfl rfl ?_ | refine k_alloc rfl ?_ | refine k_box rfl rfl rfl ?_ | refine k_store rfl rfl rfl rfl rfl rfl rfl ?_ | refine k_extract rfl rfl rfl ?_ | refine k_fieldAddr rfl rfl rfl ?_ | refine k_field rfl rfl rfl ?_ | refine k_build rfl rfl rfl ?_ | refine k_nea rfl rfl rfl rfl rfl hz' ?_ | refine k_buildSlice (cs := []) rfl rfl rfl rfl rfl rfl rfl ?_ | refine k_buildSlice rfl rfl rfl rfl rfl rfl rfl ?_ | refine k_indexAddr rfl rfl rfl ⟨by omega, by omega⟩ ?_ | refine k_indexAddrs rfl rfl rfl ⟨by omega, by omega⟩ rfl ?_ | refine k_index rfl rfl rfl ⟨by omega, by omega⟩ rfl ?_ | refine k_loade rfl rfl rfl ?_ | refine k_fieldAddre rfl rfl rfl rfl ?_ | refine k_len rfl rfl ?_ | refine k_nilCheck rfl rfl rfl ?_ | refine k_pickT rfl rfl rfl ?_ | refine k_pickF rfl rfl rfl ?_ | refine k_addi rfl rfl rfl (by omega) ?_ | refine k_subi rfl rfl rfl (by omega) ?_ | refine k_negi rfl rfl (by omega) ?_ | refine k_not rfl rfl rfl ?_ | refine k_lssT rfl rfl rfl (by omega) ?_ | refine k_lssF rfl rfl rfl (by omega) ?_ | refine k_leqT rfl rfl rfl (by omega) ?_ | refine k_leqF rfl rfl rfl (by omega) ?_ | refine k_gtrT rfl rfl rfl (by omega) ?_ | refine k_gtrF rfl rfl rfl (by omega) ?_ | refine k_geqT rfl rfl rfl (by omega) ?_ | refine k_geqF rfl rfl rfl (by omega) ?_ | refine k_eqlT rfl rfl rfl (by omega) ?_ | refine k_eqlF rfl rfl rfl (by omega) ?_ | refine k_neqT rfl rfl rfl (by omega) ?_ | refine k_neqF rfl rfl rfl (by omega) ?_ | refine k_eqa rfl rfl rfl rfl rfl rfl ?_ | refine k_nea rfl rfl rfl rfl rfl rfl ?_ | refine k_makeFunc rfl rfl rfl ?_ | refine k_skip rfl ?_ | refine k_skip0 rfl ?_ | refine k_pick rfl rfl rfl rfl rfl ?_ | refine W_yes rfl ?_ | refine W_no rfl ?_)
    (first | with_reducible refine q_endr ?_ | with_reducible refine q_endn ?_); refine rets1 Try.results31 (by first | exact RetV.tmp _ _ rfl | exact RetV.cell _ _ _ _ _ _ _ _ inferInstance rfl rfl rfl) ?_
    rfl
  · have hz' : (!deqs (ud d) (ud 0)) = true := by rw [hz]; simpa using h0
    have hc : ∃ c, cmpI d n = c ∧ decide (c < 0) = r := by
      rcases Nat.lt_trichotomy d n with h | h | h
      · exact ⟨-1, cmp_m1 h, by rw [← hr]; simp; omega⟩
      · exact ⟨0, cmp_00 h, by rw [← hr]; simp; omega⟩
      · exact ⟨1, cmp_p1 h, by rw [← hr]; simp; omega⟩
    obtain ⟨c, hc, hc0⟩ := hc
    refine pur_intro Try.func31 rfl Try.ntmps31 rfl (by first | rfl | assumption | exact bs_cl _) fun B => ?_
    repeat (first | with_reducible refine W_seq ?_ | with_reducible refine q_then ?_ | with_reducible refine q_thenr ?_ | with_reducible refine q_thenx ?_ | with_reducible refine W_block ?_ | with_reducible refine q_block ?_ | with_reducible refine q_blockr ?_ | with_reducible refine q_blockx ?_ | with_reducible refine W_ret ?_ | with_reducible refine W_skip ?_ | with_reducible refine W_label ?_ | with_reducible refine W_exit ?_ | with_reducible refine W_scope ?_ | with_reducible refine q_scope ?_ | with_reducible refine q_scoper ?_ | with_reducible refine q_scopex ?_ | (with_reducible refine R_nil ?_; try dsimp only [slots0, slots_ud, pt_all, pt_x, pt_y, cv_all, cv_p, cv_a, cv_b, cv_n, cv_g, cv_gx, pt_len, cv_len, rg_len, ren_rl, rl_all, rl_m, rl_len, rl_nil, pt_nil, ptD_all, ptD_nil, ptD_len, sg_all, sg_r, sg_s, sg_len, cells_U, agg_ud, drop0, dropS, takeS, take0, ud_nil, take_ud, take_ud0, drop_ud, drop_ud0, take_udk, D.cells, D.fz, D.fzs, List.take_succ_cons, List.take_zero, List.drop_succ_cons, List.drop_zero, List.cons_append, List.nil_append, List.append_eq, List.length_cons, List.length_nil, Nat.reduceAdd, Nat.reduceMul, Nat.reduceSub, Int.reduceAdd, Int.reduceSub, Int.reduceToNat, Int.reduceNeg, Int.reduceMul]) | refine q_blocky rfl ?_ | refine W_plain rfl ?_ | refine W_drawn mixed rfl ?_ | refine and_chk (by kernel_rfl) ?_ | refine k_move rfl rfl ?_ | refine k_assign rfl rfl ?_ | refine k_load rfl rfl rfl rfl ?_ | refine k_alloc rfl ?_ | refine k_box rfl rfl rfl ?_ | refine k_store rfl rfl rfl rfl rfl rfl rfl ?_ | refine k_extract rfl rfl rfl ?_ | refine k_fieldAddr rfl rfl rfl ?_ | refine k_field rfl rfl rfl ?_ | refine k_build rfl rfl rfl ?_ | refine k_nea rfl rfl rfl rfl rfl hz' ?_ | refine k_call rfl (p_cmp d n c hd hn hc) rfl rfl rfl rfl ?_ | refine k_lss rfl rfl rfl hc0 ?_ | refine k_buildSlice (cs := []) rfl rfl rfl rfl rfl rfl rfl ?_ | refine k_buildSlice rfl rfl rfl rfl rfl rfl rfl ?_ | refine k_indexAddr rfl rfl rfl ⟨by omega, by omega⟩ ?_ | refine k_indexAddrs rfl rfl rfl ⟨by omega, by omega⟩ rfl ?_ | refine k_index rfl rfl rfl ⟨by omega, by omega⟩ rfl ?_ | refine k_loade rfl rfl rfl ?_ | refine k_fieldAddre rfl rfl rfl rfl ?_ | refine k_len rfl rfl ?_ | refine k_nilCheck rfl rfl rfl ?_ | refine k_pickT rfl rfl rfl ?_ | refine k_pickF rfl rfl rfl ?_ | refine k_addi rfl rfl rfl (by omega) ?_ | refine k_subi rfl rfl rfl (by omega) ?_ | refine k_negi rfl rfl (by omega) ?_ | refine k_not rfl rfl rfl ?_ | refine k_lssT rfl rfl rfl (by omega) ?_ | refine k_lssF rfl rfl rfl (by omega) ?_ | refine k_leqT rfl rfl rfl (by omega) ?_ | refine k_leqF rfl rfl rfl (by omega) ?_ | refine k_gtrT rfl rfl rfl (by omega) ?_ | refine k_gtrF rfl rfl rfl (by omega) ?_ | refine k_geqT rfl rfl rfl (by omega) ?_ | refine k_geqF rfl rfl rfl (by omega) ?_ | refine k_eqlT rfl rfl rfl (by omega) ?_ | refine k_eqlF rfl rfl rfl (by omega) ?_ | refine k_neqT rfl rfl rfl (by omega) ?_ | refine k_neqF rfl rfl rfl (by omega) ?_ | refine k_eqa rfl rfl rfl rfl rfl rfl ?_ | refine k_nea rfl rfl rfl rfl rfl rfl ?_ | refine k_makeFunc rfl rfl rfl ?_ | refine k_skip rfl ?_ | refine k_skip0 rfl ?_ | refine k_pick rfl rfl rfl rfl rfl ?_ | refine W_yes rfl ?_ | refine W_no rfl ?_)
    (first | with_reducible refine q_endr ?_ | with_reducible refine q_endn ?_); refine rets1 Try.results31 (by first | exact RetV.tmp _ _ rfl | exact RetV.cell _ _ _ _ _ _ _ _ inferInstance rfl rfl rfl) ?_
    rfl
/-- a signature that is formed, but for its mark -/
theorem formed_ok (p a b n gx gy s t : Nat) (f : Bool) (o : Int) (hn : n < M256) (hs0 : s ≠ 0) (hs : s < n) (ht0 : t ≠ 0) (ht : t ≤ n / 2) (ho : 0 ≤ o) (v : Bool) (hv : decide (o ≤ 3) = v) : Pur Try.prog 13 [.agg (cv p a b n gx gy f), .agg (sg s t o)] (.bool v) := by
  have h1 := secret_ok p a b n gx gy s f true hn (by omega) (by simp; omega)
  have h2 := secret_ok p a b n gx gy t f true hn (by omega) (by simp; omega)
  have h3 := low_ok p a b n gx gy t f true hn (by omega) (by simp; omega)
  have h4 : decide (o ≥ 0) = true := by simp; omega
  refine pur_intro Try.func13 rfl Try.ntmps13 rfl (by first | rfl | assumption | exact bs_cl _) fun B => ?_
  repeat (first | with_reducible refine W_seq ?_ | with_reducible refine q_then ?_ | with_reducible refine q_thenr ?_ | with_reducible refine q_thenx ?_ | with_reducible refine W_block ?_ | with_reducible refine q_block ?_ | with_reducible refine q_blockr ?_ | with_reducible refine q_blockx ?_ | with_reducible refine W_ret ?_ | with_reducible refine W_skip ?_ | with_reducible refine W_label ?_ | with_reducible refine W_exit ?_ | with_reducible refine W_scope ?_ | with_reducible refine q_scope ?_ | with_reducible refine q_scoper ?_ | with_reducible refine q_scopex ?_ | (with_reducible refine R_nil ?_; try dsimp only [slots0, slots_ud, pt_all, pt_x, pt_y, cv_all, cv_p, cv_a, cv_b, cv_n, cv_g, cv_gx, pt_len, cv_len, rg_len, ren_rl, rl_all, rl_m, rl_len, rl_nil, pt_nil, ptD_all, ptD_nil, ptD_len, sg_all, sg_r, sg_s, sg_len, cells_U, agg_ud, drop0, dropS, takeS, take0, ud_nil, take_ud, take_ud0, drop_ud, drop_ud0, take_udk, D.cells, D.fz, D.fzs, List.take_succ_cons, List.take_zero, List.drop_succ_cons, List.drop_zero, List.cons_append, List.nil_append, List.append_eq, List.length_cons, List.length_nil, Nat.reduceAdd, Nat.reduceMul, Nat.reduceSub, Int.reduceAdd, Int.reduceSub, Int.reduceToNat, Int.reduceNeg, Int.reduceMul]) | refine q_blocky rfl ?_ | refine W_plain rfl ?_ | refine W_drawn mixed rfl ?_ | refine and_chk (by kernel_rfl) ?_ | refine k_move rfl rfl ?_ | refine k_assign rfl rfl ?_ | refine k_load rfl rfl rfl rfl ?_ | refine k_alloc rfl ?_ | refine k_box rfl rfl rfl ?_ | refine k_store rfl rfl rfl rfl rfl rfl rfl ?_ | refine k_extract rfl rfl rfl ?_ | refine k_fieldAddr rfl rfl rfl ?_ | refine k_field rfl rfl rfl ?_ | refine k_build rfl rfl rfl ?_ | refine k_call rfl h1 rfl rfl rfl rfl ?_ | refine k_call rfl h2 rfl rfl rfl rfl ?_ | refine k_call rfl h3 rfl rfl rfl rfl ?_ | refine k_leq rfl rfl rfl hv ?_ | refine k_buildSlice (cs := []) rfl rfl rfl rfl rfl rfl rfl ?_ | refine k_buildSlice rfl rfl rfl rfl rfl rfl rfl ?_ | refine k_indexAddr rfl rfl rfl ⟨by omega, by omega⟩ ?_ | refine k_indexAddrs rfl rfl rfl ⟨by omega, by omega⟩ rfl ?_ | refine k_index rfl rfl rfl ⟨by omega, by omega⟩ rfl ?_ | refine k_loade rfl rfl rfl ?_ | refine k_fieldAddre rfl rfl rfl rfl ?_ | refine k_len rfl rfl ?_ | refine k_nilCheck rfl rfl rfl ?_ | refine k_pickT rfl rfl rfl ?_ | refine k_pickF rfl rfl rfl ?_ | refine k_addi rfl rfl rfl (by omega) ?_ | refine k_subi rfl rfl rfl (by omega) ?_ | refine k_negi rfl rfl (by omega) ?_ | refine k_not rfl rfl rfl ?_ | refine k_lssT rfl rfl rfl (by omega) ?_ | refine k_lssF rfl rfl rfl (by omega) ?_ | refine k_leqT rfl rfl rfl (by omega) ?_ | refine k_leqF rfl rfl rfl (by omega) ?_ | refine k_gtrT rfl rfl rfl (by omega) ?_ | refine k_gtrF rfl rfl rfl (by omega) ?_ | refine k_geqT rfl rfl rfl (by omega) ?_ | refine k_geqF rfl rfl rfl (by omega) ?_ | refine k_eqlT rfl rfl rfl (by omega) ?_ | refine k_eqlF rfl rfl rfl (by omega) ?_ | refine k_neqT rfl rfl rfl (by omega) ?_ | refine k_neqF rfl rfl rfl (by omega) ?_ | refine k_eqa rfl rfl rfl rfl rfl rfl ?_ | refine k_nea rfl rfl rfl rfl rfl rfl ?_ | refine k_makeFunc rfl rfl rfl ?_ | refine k_skip rfl ?_ | refine k_skip0 rfl ?_ | refine k_pick rfl rfl rfl rfl rfl ?_ | refine W_yes rfl ?_ | refine W_no rfl ?_)
  (first | with_reducible refine q_endr ?_ | with_reducible refine q_endn ?_); refine rets1 Try.results13 (by first | exact RetV.tmp _ _ rfl | exact RetV.cell _ _ _ _ _ _ _ _ inferInstance rfl rfl rfl) ?_
  rfl
section
variable {p b n gx gy : Nat} {T : Nat → P3}
theorem sum2_ok (G : Grp p b n gx gy T) (u v i j s : Nat) (hu : u < M256) (hv : v < M256) (hs : T (u * i + v * j) = T s) : Pur Try.prog 22 [.agg (cv p 0 b n gx gy false), U u, .agg (ptD (T i)), U v, .agg (ptD (T j))] (.tup [.agg (ptD (T s)), .int .i64 0]) := by
  refine pur_intro Try.func22 rfl Try.ntmps22 rfl (by first | rfl | assumption | exact bs_cl _) fun B => ?_
  repeat (first | with_reducible refine W_seq ?_ | with_reducible refine q_then ?_ | with_reducible refine q_thenr ?_ | with_reducible refine q_thenx ?_ | with_reducible refine W_block ?_ | with_reducible refine q_block ?_ | with_reducible refine q_blockr ?_ | with_reducible refine q_blockx ?_ | with_reducible refine W_ret ?_ | with_reducible refine W_skip ?_ | with_reducible refine W_label ?_ | with_reducible refine W_exit ?_ | with_reducible refine W_scope ?_ | with_reducible refine q_scope ?_ | with_reducible refine q_scoper ?_ | with_reducible refine q_scopex ?_ | (with_reducible refine R_nil ?_; try dsimp only [slots0, slots_ud, pt_all, pt_x, pt_y, cv_all, cv_p, cv_a, cv_b, cv_n, cv_g, cv_gx, pt_len, cv_len, rg_len, ren_rl, rl_all, rl_m, rl_len, rl_nil, pt_nil, ptD_all, ptD_nil, ptD_len, sg_all, sg_r, sg_s, sg_len, cells_U, agg_ud, drop0, dropS, takeS, take0, ud_nil, take_ud, take_ud0, drop_ud, drop_ud0, take_udk, D.cells, D.fz, D.fzs, List.take_succ_cons, List.take_zero, List.drop_succ_cons, List.drop_zero, List.cons_append, List.nil_append, List.append_eq, List.length_cons, List.length_nil, Nat.reduceAdd, Nat.reduceMul, Nat.reduceSub, Int.reduceAdd, Int.reduceSub, Int.reduceToNat, Int.reduceNeg, Int.reduceMul]) | refine q_blocky rfl ?_ | refine W_plain rfl ?_ | refine W_drawn mixed rfl ?_ | refine and_chk (by kernel_rfl) ?_ | refine k_move rfl rfl ?_ | refine k_assign rfl rfl ?_ | refine k_load rfl rfl rfl rfl ?_ | refine k_alloc rfl ?_ | refine k_box rfl rfl rfl ?_ | refine k_store rfl rfl rfl rfl rfl rfl rfl ?_ | refine k_extract rfl rfl rfl ?_ | refine k_fieldAddr rfl rfl rfl ?_ | refine k_field rfl rfl rfl ?_ | refine k_build rfl rfl rfl ?_ | refine k_call rfl (Mult_T G u i _ hu rfl) rfl rfl rfl rfl ?_ | refine k_call rfl (Mult_T G v j _ hv rfl) rfl rfl rfl rfl ?_ | refine k_call rfl (Add_T G _ _ s hs) rfl rfl rfl rfl ?_ | refine k_buildSlice (cs := []) rfl rfl rfl rfl rfl rfl rfl ?_ | refine k_buildSlice rfl rfl rfl rfl rfl rfl rfl ?_ | refine k_indexAddr rfl rfl rfl ⟨by omega, by omega⟩ ?_ | refine k_indexAddrs rfl rfl rfl ⟨by omega, by omega⟩ rfl ?_ | refine k_index rfl rfl rfl ⟨by omega, by omega⟩ rfl ?_ | refine k_loade rfl rfl rfl ?_ | refine k_fieldAddre rfl rfl rfl rfl ?_ | refine k_len rfl rfl ?_ | refine k_nilCheck rfl rfl rfl ?_ | refine k_pickT rfl rfl rfl ?_ | refine k_pickF rfl rfl rfl ?_ | refine k_addi rfl rfl rfl (by omega) ?_ | refine k_subi rfl rfl rfl (by omega) ?_ | refine k_negi rfl rfl (by omega) ?_ | refine k_not rfl rfl rfl ?_ | refine k_lssT rfl rfl rfl (by omega) ?_ | refine k_lssF rfl rfl rfl (by omega) ?_ | refine k_leqT rfl rfl rfl (by omega) ?_ | refine k_leqF rfl rfl rfl (by omega) ?_ | refine k_gtrT rfl rfl rfl (by omega) ?_ | refine k_gtrF rfl rfl rfl (by omega) ?_ | refine k_geqT rfl rfl rfl (by omega) ?_ | refine k_geqF rfl rfl rfl (by omega) ?_ | refine k_eqlT rfl rfl rfl (by omega) ?_ | refine k_eqlF rfl rfl rfl (by omega) ?_ | refine k_neqT rfl rfl rfl (by omega) ?_ | refine k_neqF rfl rfl rfl (by omega) ?_ | refine k_eqa rfl rfl rfl rfl rfl rfl ?_ | refine k_nea rfl rfl rfl rfl rfl rfl ?_ | refine k_makeFunc rfl rfl rfl ?_ | refine k_skip rfl ?_ | refine k_skip0 rfl ?_ | refine k_pick rfl rfl rfl rfl rfl ?_ | refine W_yes rfl ?_ | refine W_no rfl ?_)
  (first | with_reducible refine q_endr ?_ | with_reducible refine q_endn ?_); refine rets2 Try.results22 (by first | exact RetV.tmp _ _ rfl | exact RetV.cell _ _ _ _ _ _ _ _ inferInstance rfl rfl rfl) (by first | exact RetV.tmp _ _ rfl | exact RetV.cell _ _ _ _ _ _ _ _ inferInstance rfl rfl rfl) ?_ ?_
  · rfl
  · rfl
theorem Point_ok (G : Grp p b n gx gy T) (d : Nat) (hd0 : d ≠ 0) (hd : d < n) (hn : n < 1000) : Pur Try.prog 24 [.agg (cv p 0 b n gx gy false), U d] (.tup [.agg (ptD (T d)), .int .i64 0]) := by
  have hM := G.good.hp
  have h1 := secret_ok p 0 b n gx gy d false true (by unfold M256; omega) (by unfold M256; omega) (by simp; omega)
  have hm := Mult_T G d 1 d (by unfold M256; omega) (by rw [Nat.mul_one])
  rw [G.t1] at hm
  refine pur_intro Try.func24 rfl Try.ntmps24 rfl (by first | rfl | assumption | exact bs_cl _) fun B => ?_
  repeat (first | with_reducible refine W_seq ?_ | with_reducible refine q_then ?_ | with_reducible refine q_thenr ?_ | with_reducible refine q_thenx ?_ | with_reducible refine W_block ?_ | with_reducible refine q_block ?_ | with_reducible refine q_blockr ?_ | with_reducible refine q_blockx ?_ | with_reducible refine W_ret ?_ | with_reducible refine W_skip ?_ | with_reducible refine W_label ?_ | with_reducible refine W_exit ?_ | with_reducible refine W_scope ?_ | with_reducible refine q_scope ?_ | with_reducible refine q_scoper ?_ | with_reducible refine q_scopex ?_ | (with_reducible refine R_nil ?_; try dsimp only [slots0, slots_ud, pt_all, pt_x, pt_y, cv_all, cv_p, cv_a, cv_b, cv_n, cv_g, cv_gx, pt_len, cv_len, rg_len, ren_rl, rl_all, rl_m, rl_len, rl_nil, pt_nil, ptD_all, ptD_nil, ptD_len, sg_all, sg_r, sg_s, sg_len, cells_U, agg_ud, drop0, dropS, takeS, take0, ud_nil, take_ud, take_ud0, drop_ud, drop_ud0, take_udk, D.cells, D.fz, D.fzs, List.take_succ_cons, List.take_zero, List.drop_succ_cons, List.drop_zero, List.cons_append, List.nil_append, List.append_eq, List.length_cons, List.length_nil, Nat.reduceAdd, Nat.reduceMul, Nat.reduceSub, Int.reduceAdd, Int.reduceSub, Int.reduceToNat, Int.reduceNeg, Int.reduceMul]) | refine q_blocky rfl ?_ | refine W_plain rfl ?_ | refine W_drawn mixed rfl ?_ | refine and_chk (by kernel_rfl) ?_ | refine k_move rfl rfl ?_ | refine k_assign rfl rfl ?_ | refine k_load rfl rfl rfl rfl ?_ | refine k_alloc rfl ?_ | refine k_box rfl rfl rfl ?_ | refine k_store rfl rfl rfl rfl rfl rfl rfl ?_ | refine k_extract rfl rfl rfl ?_ | refine k_fieldAddr rfl rfl rfl ?_ | refine k_field rfl rfl rfl ?_ | refine k_build rfl rfl rfl ?_ | refine k_call rfl (Check_ok G.good) rfl rfl rfl rfl ?_ | refine k_call rfl h1 rfl rfl rfl rfl ?_ | refine k_call rfl hm rfl rfl rfl rfl ?_ | refine k_buildSlice (cs := []) rfl rfl rfl rfl rfl rfl rfl ?_ | refine k_buildSlice rfl rfl rfl rfl rfl rfl rfl ?_ | refine k_indexAddr rfl rfl rfl ⟨by omega, by omega⟩ ?_ | refine k_indexAddrs rfl rfl rfl ⟨by omega, by omega⟩ rfl ?_ | refine k_index rfl rfl rfl ⟨by omega, by omega⟩ rfl ?_ | refine k_loade rfl rfl rfl ?_ | refine k_fieldAddre rfl rfl rfl rfl ?_ | refine k_len rfl rfl ?_ | refine k_nilCheck rfl rfl rfl ?_ | refine k_pickT rfl rfl rfl ?_ | refine k_pickF rfl rfl rfl ?_ | refine k_addi rfl rfl rfl (by omega) ?_ | refine k_subi rfl rfl rfl (by omega) ?_ | refine k_negi rfl rfl (by omega) ?_ | refine k_not rfl rfl rfl ?_ | refine k_lssT rfl rfl rfl (by omega) ?_ | refine k_lssF rfl rfl rfl (by omega) ?_ | refine k_leqT rfl rfl rfl (by omega) ?_ | refine k_leqF rfl rfl rfl (by omega) ?_ | refine k_gtrT rfl rfl rfl (by omega) ?_ | refine k_gtrF rfl rfl rfl (by omega) ?_ | refine k_geqT rfl rfl rfl (by omega) ?_ | refine k_geqF rfl rfl rfl (by omega) ?_ | refine k_eqlT rfl rfl rfl (by omega) ?_ | refine k_eqlF rfl rfl rfl (by omega) ?_ | refine k_neqT rfl rfl rfl (by omega) ?_ | refine k_neqF rfl rfl rfl (by omega) ?_ | refine k_eqa rfl rfl rfl rfl rfl rfl ?_ | refine k_nea rfl rfl rfl rfl rfl rfl ?_ | refine k_makeFunc rfl rfl rfl ?_ | refine k_skip rfl ?_ | refine k_skip0 rfl ?_ | refine k_pick rfl rfl rfl rfl rfl ?_ | refine W_yes rfl ?_ | refine W_no rfl ?_)
  (first | with_reducible refine q_endr ?_ | with_reducible refine q_endn ?_); refine rets2 Try.results24 (by first | exact RetV.tmp _ _ rfl | exact RetV.cell _ _ _ _ _ _ _ _ inferInstance rfl rfl rfl) (by first | exact RetV.tmp _ _ rfl | exact RetV.cell _ _ _ _ _ _ _ _ inferInstance rfl rfl rfl) ?_ ?_
  · rfl
  · rfl
end
set_option maxHeartbeats 4000000 in
theorem s_tells : Pur Try.prog 9 [] (.bool true) := by
  have gd : Good 43 0 7 31 2 12 := good_of (by decide) (by decide) (by decide) (by decide) (by decide) (by decide) (by decide) (by decide) (by decide) (by decide)
  have G := grp_of gd GM.chk0 GM.rows0 (by decide)
  have hc := Curve_ok 0 0 43 7 31 2 12 rfl rfl
  have hp := Point_ok G 1 (by decide) (by decide) (by decide)
  rw [G.t1] at hp
  have hq : deqs (ptD (2, 12, false)) (pt 2 12 false) = true := rfl
  refine pur_intro Try.func9 rfl Try.ntmps9 rfl (by first | rfl | assumption | exact bs_cl _) fun B => ?_
  repeat (first | with_reducible refine W_seq ?_ | with_reducible refine q_then ?_ | with_reducible refine q_thenr ?_ | with_reducible refine q_thenx ?_ | with_reducible refine W_block ?_ | with_reducible refine q_block ?_ | with_reducible refine q_blockr ?_ | with_reducible refine q_blockx ?_ | with_reducible refine W_ret ?_ | with_reducible refine W_skip ?_ | with_reducible refine W_label ?_ | with_reducible refine W_exit ?_ | with_reducible refine W_scope ?_ | with_reducible refine q_scope ?_ | with_reducible refine q_scoper ?_ | with_reducible refine q_scopex ?_ | (with_reducible refine R_nil ?_; try dsimp only [slots0, slots_ud, pt_all, pt_x, pt_y, cv_all, cv_p, cv_a, cv_b, cv_n, cv_g, cv_gx, pt_len, cv_len, rg_len, ren_rl, rl_all, rl_m, rl_len, rl_nil, pt_nil, ptD_all, ptD_nil, ptD_len, sg_all, sg_r, sg_s, sg_len, cells_U, agg_ud, drop0, dropS, takeS, take0, ud_nil, take_ud, take_ud0, drop_ud, drop_ud0, take_udk, D.cells, D.fz, D.fzs, List.take_succ_cons, List.take_zero, List.drop_succ_cons, List.drop_zero, List.cons_append, List.nil_append, List.append_eq, List.length_cons, List.length_nil, Nat.reduceAdd, Nat.reduceMul, Nat.reduceSub, Int.reduceAdd, Int.reduceSub, Int.reduceToNat, Int.reduceNeg, Int.reduceMul]) | refine q_blocky rfl ?_ | refine W_plain rfl ?_ | refine W_drawn mixed rfl ?_ | refine and_chk (by kernel_rfl) ?_ | refine k_move rfl rfl ?_ | refine k_assign rfl rfl ?_ | refine k_load rfl rfl rfl rfl ?_ | refine k_alloc rfl ?_ | refine k_box rfl rfl rfl ?_ | refine k_store rfl rfl rfl rfl rfl rfl rfl ?_ | refine k_extract rfl rfl rfl ?_ | refine k_fieldAddr rfl rfl rfl ?_ | refine k_field rfl rfl rfl ?_ | refine k_build rfl rfl rfl ?_ | refine k_call rfl hc rfl rfl rfl rfl ?_ | refine k_call rfl hp rfl rfl rfl rfl ?_ | refine k_eqa rfl rfl rfl rfl rfl hq ?_ | refine k_buildSlice (cs := []) rfl rfl rfl rfl rfl rfl rfl ?_ | refine k_buildSlice rfl rfl rfl rfl rfl rfl rfl ?_ | refine k_indexAddr rfl rfl rfl ⟨by omega, by omega⟩ ?_ | refine k_indexAddrs rfl rfl rfl ⟨by omega, by omega⟩ rfl ?_ | refine k_index rfl rfl rfl ⟨by omega, by omega⟩ rfl ?_ | refine k_loade rfl rfl rfl ?_ | refine k_fieldAddre rfl rfl rfl rfl ?_ | refine k_len rfl rfl ?_ | refine k_nilCheck rfl rfl rfl ?_ | refine k_pickT rfl rfl rfl ?_ | refine k_pickF rfl rfl rfl ?_ | refine k_addi rfl rfl rfl (by omega) ?_ | refine k_subi rfl rfl rfl (by omega) ?_ | refine k_negi rfl rfl (by omega) ?_ | refine k_not rfl rfl rfl ?_ | refine k_lssT rfl rfl rfl (by omega) ?_ | refine k_lssF rfl rfl rfl (by omega) ?_ | refine k_leqT rfl rfl rfl (by omega) ?_ | refine k_leqF rfl rfl rfl (by omega) ?_ | refine k_gtrT rfl rfl rfl (by omega) ?_ | refine k_gtrF rfl rfl rfl (by omega) ?_ | refine k_geqT rfl rfl rfl (by omega) ?_ | refine k_geqF rfl rfl rfl (by omega) ?_ | refine k_eqlT rfl rfl rfl (by omega) ?_ | refine k_eqlF rfl rfl rfl (by omega) ?_ | refine k_neqT rfl rfl rfl (by omega) ?_ | refine k_neqF rfl rfl rfl (by omega) ?_ | refine k_eqa rfl rfl rfl rfl rfl rfl ?_ | refine k_nea rfl rfl rfl rfl rfl rfl ?_ | refine k_makeFunc rfl rfl rfl ?_ | refine k_skip rfl ?_ | refine k_skip0 rfl ?_ | refine k_pick rfl rfl rfl rfl rfl ?_ | refine W_yes rfl ?_ | refine W_no rfl ?_)
  (first | with_reducible refine q_endr ?_ | with_reducible refine q_endn ?_); refine rets1 Try.results9 (by first | exact RetV.tmp _ _ rfl | exact RetV.cell _ _ _ _ _ _ _ _ inferInstance rfl rfl rfl) ?_
  rfl
end Go.Proofs.Ytpdhbddkcnffbaa

namespace Go.Proofs.Ytpdhbddkcnffbaa
open Go.RowKit
set_option linter.unusedVariables false
set_option maxRecDepth 100000
--nrm pt_all pt_x pt_y cv_all cv_p cv_a cv_b cv_n cv_g cv_gx pt_len cv_len rg_len ren_rl rl_all rl_m rl_len rl_nil pt_nil ptD_all ptD_nil ptD_len sg_all sg_r sg_s sg_len

theorem T_eqm {p b n gx gy : Nat} {T : Nat → P3} (G : Grp p b n gx gy T) {i j : Nat} (h : GM.Eqm n i j) : T i = T j := by
  rw [← G.per i, ← G.per j, GM.Eqm.to_mod (by have := G.good.h1; omega) h]
theorem base_D {p b n gx gy : Nat} {T : Nat → P3} (G : Grp p b n gx gy T) : pt gx gy false = ptD (T 1) := by rw [G.t1]; rfl
/-- the check's sum is the point of the nonce -/
theorem check_eq {n z r s i iv jv u v u' v' : Nat} (hi : GM.Eqm n ((iv : Int) * r) 1) (hj : GM.Eqm n ((jv : Int) * s) 1) (hu : GM.Eqm n u ((s : Int) * iv)) (hv : GM.Eqm n v (0 - (z : Int) * iv)) (hu' : GM.Eqm n u' ((z : Int) * jv)) (hv' : GM.Eqm n v' ((r : Int) * jv)) :
    GM.Eqm n ((u' * 1 + v' * (u * i + v * 1) : Nat) : Int) i := by
  have e1 := (hu.mul (GM.Eqm.refl (i : Int))).add hv
  have e2 := hu'.add (hv'.mul e1)
  have e3 := (hi.mul hj).mul (GM.Eqm.refl (i : Int))
  have e4 := (hi.mul (GM.Eqm.refl ((z : Int) * jv)))
  have e5 := (e2.add (e4.sub (GM.Eqm.refl _ : GM.Eqm n ((z : Int) * jv) ((z : Int) * jv))))
  refine GM.Eqm.trans (b := (z : Int) * jv + (r : Int) * jv * ((s : Int) * iv * i + (0 - (z : Int) * iv)) ) ?_ ?_
  · rw [show ((u' * 1 + v' * (u * i + v * 1) : Nat) : Int) = (u' : Int) + (v' : Int) * ((u : Int) * i + v) from by push_cast; grind]
    exact e2
  · have e6 := e3.sub (e4.sub (GM.Eqm.refl ((z : Int) * jv)))
    refine GM.Eqm.trans (b := (iv : Int) * r * ((jv : Int) * s) * i - ((iv : Int) * r * ((z : Int) * jv) - (z : Int) * jv)) ?_ ?_
    · exact ⟨0, by grind⟩
    · exact e6.trans ⟨0, by grind⟩

section
variable {p b n gx gy : Nat} {T : Nat → P3}

theorem rec_form (G : Grp p b n gx gy T) (l : List UInt8) (r s : Nat) (o : Int) (hf : Pur Try.prog 13 [.agg (cv p 0 b n gx gy false), .agg (sg r s o)] (.bool false)) : Pur Try.prog 7 [.agg (cv p 0 b n gx gy false), .agg (bs l), .agg (sg r s o)] (.tup [.agg (pt 0 0 false), .int .i64 10]) := by
  refine pur_intro Try.func7 rfl Try.ntmps7 rfl (by first | rfl | assumption | exact bs_cl _) fun B => ?_
  repeat (first | with_reducible refine W_seq ?_ | with_reducible refine q_then ?_ | with_reducible refine q_thenr ?_ | with_reducible refine q_thenx ?_ | with_reducible refine W_block ?_ | with_reducible refine q_block ?_ | with_reducible refine q_blockr ?_ | with_reducible refine q_blockx ?_ | with_reducible refine W_ret ?_ | with_reducible refine W_skip ?_ | with_reducible refine W_label ?_ | with_reducible refine W_exit ?_ | with_reducible refine W_scope ?_ | with_reducible refine q_scope ?_ | with_reducible refine q_scoper ?_ | with_reducible refine q_scopex ?_ | (with_reducible refine R_nil ?_; try dsimp only [slots0, slots_ud, pt_all, pt_x, pt_y, cv_all, cv_p, cv_a, cv_b, cv_n, cv_g, cv_gx, pt_len, cv_len, rg_len, ren_rl, rl_all, rl_m, rl_len, rl_nil, pt_nil, ptD_all, ptD_nil, ptD_len, sg_all, sg_r, sg_s, sg_len, pt_all, pt_x, pt_y, cv_all, cv_p, cv_a, cv_b, cv_n, cv_g, cv_gx, pt_len, cv_len, rg_len, ren_rl, rl_all, rl_m, rl_len, rl_nil, pt_nil, ptD_all, ptD_nil, ptD_len, sg_all, sg_r, sg_s, sg_len, cells_U, agg_ud, drop0, dropS, takeS, take0, ud_nil, take_ud, take_ud0, drop_ud, drop_ud0, take_udk, D.cells, D.fz, D.fzs, List.take_succ_cons, List.take_zero, List.drop_succ_cons, List.drop_zero, List.cons_append, List.nil_append, List.append_eq, List.length_cons, List.length_nil, Nat.reduceAdd, Nat.reduceMul, Nat.reduceSub, Int.reduceAdd, Int.reduceSub, Int.reduceToNat, Int.reduceNeg, Int.reduceMul]) | refine q_blocky rfl ?_ | refine W_plain rfl ?_ | refine W_drawn mixed rfl ?_ | refine and_chk (by kernel_rfl) ?_ | refine k_move rfl rfl ?_ | refine k_assign rfl rfl ?_ | refine k_load rfl rfl rfl rfl ?_ | refine k_alloc rfl ?_ | refine k_box rfl rfl rfl ?_ | refine k_store rfl rfl rfl rfl rfl rfl rfl ?_ | refine k_extract rfl rfl rfl ?_ | refine k_fieldAddr rfl rfl rfl ?_ | refine k_field rfl rfl rfl ?_ | refine k_build rfl rfl rfl ?_ | refine k_call rfl (Check_ok G.good) rfl rfl rfl rfl ?_ | refine k_call rfl hf rfl rfl rfl rfl ?_ | refine k_buildSlice (cs := []) rfl rfl rfl rfl rfl rfl rfl ?_ | refine k_buildSlice rfl rfl rfl rfl rfl rfl rfl ?_ | refine k_indexAddr rfl rfl rfl ⟨by omega, by omega⟩ ?_ | refine k_indexAddrs rfl rfl rfl ⟨by omega, by omega⟩ rfl ?_ | refine k_index rfl rfl rfl ⟨by omega, by omega⟩ rfl ?_ | refine k_loade rfl rfl rfl ?_ | refine k_fieldAddre rfl rfl rfl rfl ?_ | refine k_len rfl rfl ?_ | refine k_nilCheck rfl rfl rfl ?_ | refine k_pickT rfl rfl rfl ?_ | refine k_pickF rfl rfl rfl ?_ | refine k_addi rfl rfl rfl (by omega) ?_ | refine k_subi rfl rfl rfl (by omega) ?_ | refine k_negi rfl rfl (by omega) ?_ | refine k_not rfl rfl rfl ?_ | refine k_lssT rfl rfl rfl (by omega) ?_ | refine k_lssF rfl rfl rfl (by omega) ?_ | refine k_leqT rfl rfl rfl (by omega) ?_ | refine k_leqF rfl rfl rfl (by omega) ?_ | refine k_gtrT rfl rfl rfl (by omega) ?_ | refine k_gtrF rfl rfl rfl (by omega) ?_ | refine k_geqT rfl rfl rfl (by omega) ?_ | refine k_geqF rfl rfl rfl (by omega) ?_ | refine k_eqlT rfl rfl rfl (by omega) ?_ | refine k_eqlF rfl rfl rfl (by omega) ?_ | refine k_neqT rfl rfl rfl (by omega) ?_ | refine k_neqF rfl rfl rfl (by omega) ?_ | refine k_eqa rfl rfl rfl rfl rfl rfl ?_ | refine k_nea rfl rfl rfl rfl rfl rfl ?_ | refine k_makeFunc rfl rfl rfl ?_ | refine k_skip rfl ?_ | refine k_skip0 rfl ?_ | refine k_pick rfl rfl rfl rfl rfl ?_ | refine W_yes rfl ?_ | refine W_no rfl ?_)
  (first | with_reducible refine q_endr ?_ | with_reducible refine q_endn ?_); refine rets2 Try.results7 (by first | exact RetV.tmp _ _ rfl | exact RetV.cell _ _ _ _ _ _ _ _ inferInstance rfl rfl rfl) (by first | exact RetV.tmp _ _ rfl | exact RetV.cell _ _ _ _ _ _ _ _ inferInstance rfl rfl rfl) ?_ ?_
  · rfl
  · rfl
set_option maxHeartbeats 4000000 in
theorem rec_big (G : Grp p b n gx gy T) (hn : n < 1000) (l : List UInt8) (r s x : Nat) (hr : r < n) (o : Int) (ov : Bool) (hov : decide (o ≥ 2) = ov) (hx : cond ov (r + n) r = x) (hxp : p ≤ x) (hp : p < 1000) (hf : Pur Try.prog 13 [.agg (cv p 0 b n gx gy false), .agg (sg r s o)] (.bool true)) : Pur Try.prog 7 [.agg (cv p 0 b n gx gy false), .agg (bs l), .agg (sg r s o)] (.tup [.agg (pt 0 0 false), .int .i64 10]) := by
  have hM : 2000 < M256 := by decide
  have hc : ∃ c, cmpI x p = c ∧ decide (c ≥ 0) = true := by
    rcases Nat.lt_or_ge p x with h | h
    · exact ⟨1, cmp_p1 h, by decide⟩
    · exact ⟨0, cmp_00 (by omega), by decide⟩
  obtain ⟨c, hc, hc0⟩ := hc
  have hxM : x < M256 := by revert hx; cases ov <;> simp <;> omega
  have wc := p_cmp x p c hxM (by omega) hc
  have wa := p_wadd r n (r + n) false (by omega) (by omega) (Nat.mod_eq_of_lt (by omega)) (by simp; omega)
  cases ov
  all_goals
    simp only [cond_false, cond_true] at hx
    subst hx
    refine pur_intro Try.func7 rfl Try.ntmps7 rfl (by first | rfl | assumption | exact bs_cl _) fun B => ?_
    repeat (first | with_reducible refine W_seq ?_ | with_reducible refine q_then ?_ | with_reducible refine q_thenr ?_ | with_reducible refine q_thenx ?_ | with_reducible refine W_block ?_ | with_reducible refine q_block ?_ | with_reducible refine q_blockr ?_ | with_reducible refine q_blockx ?_ | with_reducible refine W_ret ?_ | with_reducible refine W_skip ?_ | with_reducible refine W_label ?_ | with_reducible refine W_exit ?_ | with_reducible refine W_scope ?_ | with_reducible refine q_scope ?_ | with_reducible refine q_scoper ?_ | with_reducible refine q_scopex ?_ | (with_reducible refine R_nil ?_; try dsimp only [slots0, slots_ud, pt_all, pt_x, pt_y, cv_all, cv_p, cv_a, cv_b, cv_n, cv_g, cv_gx, pt_len, cv_len, rg_len, ren_rl, rl_all, rl_m, rl_len, rl_nil, pt_nil, ptD_all, ptD_nil, ptD_len, sg_all, sg_r, sg_s, sg_len, pt_all, pt_x, pt_y, cv_all, cv_p, cv_a, cv_b, cv_n, cv_g, cv_gx, pt_len, cv_len, rg_len, ren_rl, rl_all, rl_m, rl_len, rl_nil, pt_nil, ptD_all, ptD_nil, ptD_len, sg_all, sg_r, sg_s, sg_len, cells_U, agg_ud, drop0, dropS, takeS, take0, ud_nil, take_ud, take_ud0, drop_ud, drop_ud0, take_udk, D.cells, D.fz, D.fzs, List.take_succ_cons, List.take_zero, List.drop_succ_cons, List.drop_zero, List.cons_append, List.nil_append, List.append_eq, List.length_cons, List.length_nil, Nat.reduceAdd, Nat.reduceMul, Nat.reduceSub, Int.reduceAdd, Int.reduceSub, Int.reduceToNat, Int.reduceNeg, Int.reduceMul]) | refine q_blocky rfl ?_ | refine W_plain rfl ?_ | refine W_drawn mixed rfl ?_ | refine and_chk (by kernel_rfl) ?_ | refine k_move rfl rfl ?_ | refine k_assign rfl rfl ?_ | refine k_load rfl rfl rfl rfl ?_ | refine k_alloc rfl ?_ | refine k_box rfl rfl rfl ?_ | refine k_store rfl rfl rfl rfl rfl rfl rfl ?_ | refine k_extract rfl rfl rfl ?_ | refine k_fieldAddr rfl rfl rfl ?_ | refine k_field rfl rfl rfl ?_ | refine k_build rfl rfl rfl ?_ | refine k_call rfl (Check_ok G.good) rfl rfl rfl rfl ?_ | refine k_call rfl hf rfl rfl rfl rfl ?_ | refine k_geq rfl rfl rfl hov ?_ | refine k_call rfl wa rfl rfl rfl rfl ?_ | refine k_call rfl wc rfl rfl rfl rfl ?_ | refine k_geq rfl rfl rfl hc0 ?_ | refine k_buildSlice (cs := []) rfl rfl rfl rfl rfl rfl rfl ?_ | refine k_buildSlice rfl rfl rfl rfl rfl rfl rfl ?_ | refine k_indexAddr rfl rfl rfl ⟨by omega, by omega⟩ ?_ | refine k_indexAddrs rfl rfl rfl ⟨by omega, by omega⟩ rfl ?_ | refine k_index rfl rfl rfl ⟨by omega, by omega⟩ rfl ?_ | refine k_loade rfl rfl rfl ?_ | refine k_fieldAddre rfl rfl rfl rfl ?_ | refine k_len rfl rfl ?_ | refine k_nilCheck rfl rfl rfl ?_ | refine k_pickT rfl rfl rfl ?_ | refine k_pickF rfl rfl rfl ?_ | refine k_addi rfl rfl rfl (by omega) ?_ | refine k_subi rfl rfl rfl (by omega) ?_ | refine k_negi rfl rfl (by omega) ?_ | refine k_not rfl rfl rfl ?_ | refine k_lssT rfl rfl rfl (by omega) ?_ | refine k_lssF rfl rfl rfl (by omega) ?_ | refine k_leqT rfl rfl rfl (by omega) ?_ | refine k_leqF rfl rfl rfl (by omega) ?_ | refine k_gtrT rfl rfl rfl (by omega) ?_ | refine k_gtrF rfl rfl rfl (by omega) ?_ | refine k_geqT rfl rfl rfl (by omega) ?_ | refine k_geqF rfl rfl rfl (by omega) ?_ | refine k_eqlT rfl rfl rfl (by omega) ?_ | refine k_eqlF rfl rfl rfl (by omega) ?_ | refine k_neqT rfl rfl rfl (by omega) ?_ | refine k_neqF rfl rfl rfl (by omega) ?_ | refine k_eqa rfl rfl rfl rfl rfl rfl ?_ | refine k_nea rfl rfl rfl rfl rfl rfl ?_ | refine k_makeFunc rfl rfl rfl ?_ | refine k_skip rfl ?_ | refine k_skip0 rfl ?_ | refine k_pick rfl rfl rfl rfl rfl ?_ | refine W_yes rfl ?_ | refine W_no rfl ?_)
    (first | with_reducible refine q_endr ?_ | with_reducible refine q_endn ?_); refine rets2 Try.results7 (by first | exact RetV.tmp _ _ rfl | exact RetV.cell _ _ _ _ _ _ _ _ inferInstance rfl rfl rfl) (by first | exact RetV.tmp _ _ rfl | exact RetV.cell _ _ _ _ _ _ _ _ inferInstance rfl rfl rfl) ?_ ?_
    · rfl
    · rfl
set_option maxHeartbeats 4000000 in
theorem rec_lift (G : Grp p b n gx gy T) (hn : n < 1000) (l : List UInt8) (r s x : Nat) (hr : r < n) (o e : Int) (ov odd : Bool) (hov : decide (o ≥ 2) = ov) (hx : cond ov (r + n) r = x) (hxp : x < p) (hp : p < 1000) (he : o.tmod 2 = e) (hod : decide (e = 1) = odd) (hf : Pur Try.prog 13 [.agg (cv p 0 b n gx gy false), .agg (sg r s o)] (.bool true))
    (hl : Pur Try.prog 16 [.agg (cv p 0 b n gx gy false), U x, .bool odd] (.tup [.agg (pt 0 0 false), .int .i64 16])) : Pur Try.prog 7 [.agg (cv p 0 b n gx gy false), .agg (bs l), .agg (sg r s o)] (.tup [.agg (pt 0 0 false), .int .i64 10]) := by
  have hM : 2000 < M256 := by decide
  have wc := p_cmp x p (-1) (by omega) (by omega) (cmp_m1 hxp)
  have wa := p_wadd r n (r + n) false (by omega) (by omega) (Nat.mod_eq_of_lt (by omega)) (by simp; omega)
  cases ov
  all_goals
    simp only [cond_false, cond_true] at hx
    subst hx
    refine pur_intro Try.func7 rfl Try.ntmps7 rfl (by first | rfl | assumption | exact bs_cl _) fun B => ?_
    repeat (first | with_reducible refine W_seq ?_ | with_reducible refine q_then ?_ | with_reducible refine q_thenr ?_ | with_reducible refine q_thenx ?_ | with_reducible refine W_block ?_ | with_reducible refine q_block ?_ | with_reducible refine q_blockr ?_ | with_reducible refine q_blockx ?_ | with_reducible refine W_ret ?_ | with_reducible refine W_skip ?_ | with_reducible refine W_label ?_ | with_reducible refine W_exit ?_ | with_reducible refine W_scope ?_ | with_reducible refine q_scope ?_ | with_reducible refine q_scoper ?_ | with_reducible refine q_scopex ?_ | (with_reducible refine R_nil ?_; try dsimp only [slots0, slots_ud, pt_all, pt_x, pt_y, cv_all, cv_p, cv_a, cv_b, cv_n, cv_g, cv_gx, pt_len, cv_len, rg_len, ren_rl, rl_all, rl_m, rl_len, rl_nil, pt_nil, ptD_all, ptD_nil, ptD_len, sg_all, sg_r, sg_s, sg_len, pt_all, pt_x, pt_y, cv_all, cv_p, cv_a, cv_b, cv_n, cv_g, cv_gx, pt_len, cv_len, rg_len, ren_rl, rl_all, rl_m, rl_len, rl_nil, pt_nil, ptD_all, ptD_nil, ptD_len, sg_all, sg_r, sg_s, sg_len, cells_U, agg_ud, drop0, dropS, takeS, take0, ud_nil, take_ud, take_ud0, drop_ud, drop_ud0, take_udk, D.cells, D.fz, D.fzs, List.take_succ_cons, List.take_zero, List.drop_succ_cons, List.drop_zero, List.cons_append, List.nil_append, List.append_eq, List.length_cons, List.length_nil, Nat.reduceAdd, Nat.reduceMul, Nat.reduceSub, Int.reduceAdd, Int.reduceSub, Int.reduceToNat, Int.reduceNeg, Int.reduceMul]) | refine q_blocky rfl ?_ | refine W_plain rfl ?_ | refine W_drawn mixed rfl ?_ | refine and_chk (by kernel_rfl) ?_ | refine k_move rfl rfl ?_ | refine k_assign rfl rfl ?_ | refine k_load rfl rfl rfl rfl ?_ | refine k_alloc rfl ?_ | refine k_box rfl rfl rfl ?_ | refine k_store rfl rfl rfl rfl rfl rfl rfl ?_ | refine k_extract rfl rfl rfl ?_ | refine k_fieldAddr rfl rfl rfl ?_ | refine k_field rfl rfl rfl ?_ | refine k_build rfl rfl rfl ?_ | refine k_call rfl (Check_ok G.good) rfl rfl rfl rfl ?_ | refine k_call rfl hf rfl rfl rfl rfl ?_ | refine k_geq rfl rfl rfl hov ?_ | refine k_call rfl wa rfl rfl rfl rfl ?_ | refine k_call rfl wc rfl rfl rfl rfl ?_ | refine k_rem rfl rfl rfl (by decide) he ?_ | refine k_eql rfl rfl rfl hod ?_ | refine k_call rfl hl rfl rfl rfl rfl ?_ | refine k_buildSlice (cs := []) rfl rfl rfl rfl rfl rfl rfl ?_ | refine k_buildSlice rfl rfl rfl rfl rfl rfl rfl ?_ | refine k_indexAddr rfl rfl rfl ⟨by omega, by omega⟩ ?_ | refine k_indexAddrs rfl rfl rfl ⟨by omega, by omega⟩ rfl ?_ | refine k_index rfl rfl rfl ⟨by omega, by omega⟩ rfl ?_ | refine k_loade rfl rfl rfl ?_ | refine k_fieldAddre rfl rfl rfl rfl ?_ | refine k_len rfl rfl ?_ | refine k_nilCheck rfl rfl rfl ?_ | refine k_pickT rfl rfl rfl ?_ | refine k_pickF rfl rfl rfl ?_ | refine k_addi rfl rfl rfl (by omega) ?_ | refine k_subi rfl rfl rfl (by omega) ?_ | refine k_negi rfl rfl (by omega) ?_ | refine k_not rfl rfl rfl ?_ | refine k_lssT rfl rfl rfl (by omega) ?_ | refine k_lssF rfl rfl rfl (by omega) ?_ | refine k_leqT rfl rfl rfl (by omega) ?_ | refine k_leqF rfl rfl rfl (by omega) ?_ | refine k_gtrT rfl rfl rfl (by omega) ?_ | refine k_gtrF rfl rfl rfl (by omega) ?_ | refine k_geqT rfl rfl rfl (by omega) ?_ | refine k_geqF rfl rfl rfl (by omega) ?_ | refine k_eqlT rfl rfl rfl (by omega) ?_ | refine k_eqlF rfl rfl rfl (by omega) ?_ | refine k_neqT rfl rfl rfl (by omega) ?_ | refine k_neqF rfl rfl rfl (by omega) ?_ | refine k_eqa rfl rfl rfl rfl rfl rfl ?_ | refine k_nea rfl rfl rfl rfl rfl rfl ?_ | refine k_makeFunc rfl rfl rfl ?_ | refine k_skip rfl ?_ | refine k_skip0 rfl ?_ | refine k_pick rfl rfl rfl rfl rfl ?_ | refine W_yes rfl ?_ | refine W_no rfl ?_)
    (first | with_reducible refine q_endr ?_ | with_reducible refine q_endn ?_); refine rets2 Try.results7 (by first | exact RetV.tmp _ _ rfl | exact RetV.cell _ _ _ _ _ _ _ _ inferInstance rfl rfl rfl) (by first | exact RetV.tmp _ _ rfl | exact RetV.cell _ _ _ _ _ _ _ _ inferInstance rfl rfl rfl) ?_ ?_
    · rfl
    · rfl
set_option maxHeartbeats 8000000 in
theorem rec_at (G : Grp p b n gx gy T) (hn : n < 1000) (l : List UInt8) (hll : l.length = 32) (r s x i m : Nat) (iv u v z w : Nat) (q : List D) (hr : r < n) (hs : s < n) (o e : Int) (ov odd far : Bool) (hov : decide (o ≥ 2) = ov) (hx : cond ov (r + n) r = x) (hxp : x < p) (hp : p < 1000) (he : o.tmod 2 = e) (hod : decide (e = 1) = odd) (hf : Pur Try.prog 13 [.agg (cv p 0 b n gx gy false), .agg (sg r s o)] (.bool true))
    (hl : Pur Try.prog 16 [.agg (cv p 0 b n gx gy false), U x, .bool odd] (.tup [.agg (ptD (T i)), .int .i64 0]))
    (hiv : iv < n) (hi1 : iv * r % n = 1) (hig : Nat.gcd n r = 1) (hu : s * iv % n = u) (hz : nm l % n = z) (hw : z * iv % n = w) (hv : (0 + n - w) % n = v) (hm : T (u * i + v * 1) = T m) (a c : Nat) (hT : T m = (a, c, far)) (hq : cond far (.tup [.agg (pt 0 0 false), .int .i64 10]) (.tup [.agg (pt a c far), .int .i64 0]) = D.tup q) : Pur Try.prog 7 [.agg (cv p 0 b n gx gy false), .agg (bs l), .agg (sg r s o)] (.tup q) := by
  have hM : 2000 < M256 := by decide
  have h1 := G.good.h1
  have h0 : 0 < n := by omega
  have hun : u < n := by rw [← hu]; exact Nat.mod_lt _ h0
  have hzn : z < n := by rw [← hz]; exact Nat.mod_lt _ h0
  have hwn : w < n := by rw [← hw]; exact Nat.mod_lt _ h0
  have hvn : v < n := by rw [← hv]; exact Nat.mod_lt _ h0
  have wc := p_cmp x p (-1) (by omega) (by omega) (cmp_m1 hxp)
  have wa := p_wadd r n (r + n) false (by omega) (by omega) (Nat.mod_eq_of_lt (by omega)) (by simp; omega)
  have wi := p_finv r n iv (by omega) hr hiv (by rw [hi1, Nat.mod_eq_of_lt h1]) hig
  have mu := p_fmul s iv n u (by omega) hs hiv hu
  have fr := From_ok l hll
  have re := rest_ok (nm l) n z (nm_lt32 l hll) (by omega) h0 hz
  have mw := p_fmul z iv n w (by omega) hzn hiv hw
  have ms := p_fsub 0 w n v (by omega) h0 hwn hv
  have su := sum2_ok G u v i 1 m (by omega) (by omega) hm
  rw [← base_D G, hT] at su
  rw [U_zero] at ms
  cases ov <;> cases far
  all_goals
    simp only [cond_false, cond_true] at hx hq
    injection hq with hq
    subst hx
    subst hq
    refine pur_intro Try.func7 rfl Try.ntmps7 rfl (by first | rfl | assumption | exact bs_cl _) fun B => ?_
    repeat (first | with_reducible refine W_seq ?_ | with_reducible refine q_then ?_ | with_reducible refine q_thenr ?_ | with_reducible refine q_thenx ?_ | with_reducible refine W_block ?_ | with_reducible refine q_block ?_ | with_reducible refine q_blockr ?_ | with_reducible refine q_blockx ?_ | with_reducible refine W_ret ?_ | with_reducible refine W_skip ?_ | with_reducible refine W_label ?_ | with_reducible refine W_exit ?_ | with_reducible refine W_scope ?_ | with_reducible refine q_scope ?_ | with_reducible refine q_scoper ?_ | with_reducible refine q_scopex ?_ | (with_reducible refine R_nil ?_; try dsimp only [slots0, slots_ud, pt_all, pt_x, pt_y, cv_all, cv_p, cv_a, cv_b, cv_n, cv_g, cv_gx, pt_len, cv_len, rg_len, ren_rl, rl_all, rl_m, rl_len, rl_nil, pt_nil, ptD_all, ptD_nil, ptD_len, sg_all, sg_r, sg_s, sg_len, pt_all, pt_x, pt_y, cv_all, cv_p, cv_a, cv_b, cv_n, cv_g, cv_gx, pt_len, cv_len, rg_len, ren_rl, rl_all, rl_m, rl_len, rl_nil, pt_nil, ptD_all, ptD_nil, ptD_len, sg_all, sg_r, sg_s, sg_len, cells_U, agg_ud, drop0, dropS, takeS, take0, ud_nil, take_ud, take_ud0, drop_ud, drop_ud0, take_udk, D.cells, D.fz, D.fzs, List.take_succ_cons, List.take_zero, List.drop_succ_cons, List.drop_zero, List.cons_append, List.nil_append, List.append_eq, List.length_cons, List.length_nil, Nat.reduceAdd, Nat.reduceMul, Nat.reduceSub, Int.reduceAdd, Int.reduceSub, Int.reduceToNat, Int.reduceNeg, Int.reduceMul]) | refine q_blocky rfl ?_ | refine W_plain rfl ?_ | refine W_drawn mixed rfl ?_ | refine and_chk (by kernel_rfl) ?_ | refine k_move rfl rfl ?_ | refine k_assign rfl rfl ?_ | refine k_load rfl rfl rfl rfl ?_ | refine k_alloc rfl ?_ | refine k_box rfl rfl rfl ?_ | refine k_store rfl rfl rfl rfl rfl rfl rfl ?_ | refine k_extract rfl rfl rfl ?_ | refine k_fieldAddr rfl rfl rfl ?_ | refine k_field rfl rfl rfl ?_ | refine k_build rfl rfl rfl ?_ | refine k_call rfl (Check_ok G.good) rfl rfl rfl rfl ?_ | refine k_call rfl hf rfl rfl rfl rfl ?_ | refine k_geq rfl rfl rfl hov ?_ | refine k_call rfl wa rfl rfl rfl rfl ?_ | refine k_call rfl wc rfl rfl rfl rfl ?_ | refine k_rem rfl rfl rfl (by decide) he ?_ | refine k_eql rfl rfl rfl hod ?_ | refine k_call rfl hl rfl rfl rfl rfl ?_ | refine k_call rfl wi rfl rfl rfl rfl ?_ | refine k_call rfl mu rfl rfl rfl rfl ?_ | refine k_load rfl rfl rfl (by exact b_cut hll _) ?_ | refine k_call rfl fr rfl (b_fz1 _) (b_cl1 _) rfl ?_ | refine k_call rfl re rfl rfl rfl rfl ?_ | refine k_call rfl mw rfl rfl rfl rfl ?_ | refine k_call rfl ms rfl rfl rfl rfl ?_ | refine k_call rfl su rfl rfl rfl rfl ?_ | refine k_buildSlice (cs := []) rfl rfl rfl rfl rfl rfl rfl ?_ | refine k_buildSlice rfl rfl rfl rfl rfl rfl rfl ?_ | refine k_indexAddr rfl rfl rfl ⟨by omega, by omega⟩ ?_ | refine k_indexAddrs rfl rfl rfl ⟨by omega, by omega⟩ rfl ?_ | refine k_index rfl rfl rfl ⟨by omega, by omega⟩ rfl ?_ | refine k_loade rfl rfl rfl ?_ | refine k_fieldAddre rfl rfl rfl rfl ?_ | refine k_len rfl rfl ?_ | refine k_nilCheck rfl rfl rfl ?_ | refine k_pickT rfl rfl rfl ?_ | refine k_pickF rfl rfl rfl ?_ | refine k_addi rfl rfl rfl (by omega) ?_ | refine k_subi rfl rfl rfl (by omega) ?_ | refine k_negi rfl rfl (by omega) ?_ | refine k_not rfl rfl rfl ?_ | refine k_lssT rfl rfl rfl (by omega) ?_ | refine k_lssF rfl rfl rfl (by omega) ?_ | refine k_leqT rfl rfl rfl (by omega) ?_ | refine k_leqF rfl rfl rfl (by omega) ?_ | refine k_gtrT rfl rfl rfl (by omega) ?_ | refine k_gtrF rfl rfl rfl (by omega) ?_ | refine k_geqT rfl rfl rfl (by omega) ?_ | refine k_geqF rfl rfl rfl (by omega) ?_ | refine k_eqlT rfl rfl rfl (by omega) ?_ | refine k_eqlF rfl rfl rfl (by omega) ?_ | refine k_neqT rfl rfl rfl (by omega) ?_ | refine k_neqF rfl rfl rfl (by omega) ?_ | refine k_eqa rfl rfl rfl rfl rfl rfl ?_ | refine k_nea rfl rfl rfl rfl rfl rfl ?_ | refine k_makeFunc rfl rfl rfl ?_ | refine k_skip rfl ?_ | refine k_skip0 rfl ?_ | refine k_pick rfl rfl rfl rfl rfl ?_ | refine W_yes rfl ?_ | refine W_no rfl ?_)
    (first | with_reducible refine q_endr ?_ | with_reducible refine q_endn ?_); refine rets2 Try.results7 (by first | exact RetV.tmp _ _ rfl | exact RetV.cell _ _ _ _ _ _ _ _ inferInstance rfl rfl rfl) (by first | exact RetV.tmp _ _ rfl | exact RetV.cell _ _ _ _ _ _ _ _ inferInstance rfl rfl rfl) ?_ ?_
    · rfl
    · rfl
set_option maxHeartbeats 8000000 in
theorem check_at (G : Grp p b n gx gy T) (hn : n < 1000) (l : List UInt8) (hll : l.length = 32) (r s x y i m : Nat) (jv u v z : Nat) (hr : r < n) (hs : s < n) (o : Int) (hxp : x < 2000) (hxr : x % n = r) (hf : Pur Try.prog 13 [.agg (cv p 0 b n gx gy false), .agg (sg r s o)] (.bool true))
    (hT : T i = (x, y, false)) (hjv : jv < n) (hj1 : jv * s % n = 1) (hjg : Nat.gcd n s = 1) (hz : nm l % n = z) (hu : z * jv % n = u) (hv : r * jv % n = v) (hm : T (u * 1 + v * m) = T i) (hfar : (T m).2.2 = false) : Pur Try.prog 10 [.agg (cv p 0 b n gx gy false), .agg (ptD (T m)), .agg (bs l), .agg (sg r s o)] (.int .i64 0) := by
  have hM : 2000 < M256 := by decide
  have h1 := G.good.h1
  have h0 : 0 < n := by omega
  have hun : u < n := by rw [← hu]; exact Nat.mod_lt _ h0
  have hzn : z < n := by rw [← hz]; exact Nat.mod_lt _ h0
  have hvn : v < n := by rw [← hv]; exact Nat.mod_lt _ h0
  have wi := p_finv s n jv (by omega) hs hjv (by rw [hj1, Nat.mod_eq_of_lt h1]) hjg
  have fr := From_ok l hll
  have re := rest_ok (nm l) n z (nm_lt32 l hll) (by omega) h0 hz
  have mu := p_fmul z jv n u (by omega) hzn hjv hu
  have mv := p_fmul r jv n v (by omega) hr hjv hv
  have su := sum2_ok G u v 1 m i (by omega) (by omega) hm
  have rx := rest_ok x n r (by omega) (by omega) h0 hxr
  have on := On_T G m
  rw [← base_D G, hT] at su
  have hne : (!deqs (ud r) (ud r)) = false := by rw [deqs_ud _ _ (by omega) (by omega)]; simp
  generalize T m = t at *
  obtain ⟨tx, ty, tf⟩ := t
  simp only at hfar
  subst hfar
  refine pur_intro Try.func10 rfl Try.ntmps10 rfl (by first | rfl | assumption | exact bs_cl _) fun B => ?_
  repeat (first | with_reducible refine W_seq ?_ | with_reducible refine q_then ?_ | with_reducible refine q_thenr ?_ | with_reducible refine q_thenx ?_ | with_reducible refine W_block ?_ | with_reducible refine q_block ?_ | with_reducible refine q_blockr ?_ | with_reducible refine q_blockx ?_ | with_reducible refine W_ret ?_ | with_reducible refine W_skip ?_ | with_reducible refine W_label ?_ | with_reducible refine W_exit ?_ | with_reducible refine W_scope ?_ | with_reducible refine q_scope ?_ | with_reducible refine q_scoper ?_ | with_reducible refine q_scopex ?_ | (with_reducible refine R_nil ?_; try dsimp only [slots0, slots_ud, pt_all, pt_x, pt_y, cv_all, cv_p, cv_a, cv_b, cv_n, cv_g, cv_gx, pt_len, cv_len, rg_len, ren_rl, rl_all, rl_m, rl_len, rl_nil, pt_nil, ptD_all, ptD_nil, ptD_len, sg_all, sg_r, sg_s, sg_len, pt_all, pt_x, pt_y, cv_all, cv_p, cv_a, cv_b, cv_n, cv_g, cv_gx, pt_len, cv_len, rg_len, ren_rl, rl_all, rl_m, rl_len, rl_nil, pt_nil, ptD_all, ptD_nil, ptD_len, sg_all, sg_r, sg_s, sg_len, cells_U, agg_ud, drop0, dropS, takeS, take0, ud_nil, take_ud, take_ud0, drop_ud, drop_ud0, take_udk, D.cells, D.fz, D.fzs, List.take_succ_cons, List.take_zero, List.drop_succ_cons, List.drop_zero, List.cons_append, List.nil_append, List.append_eq, List.length_cons, List.length_nil, Nat.reduceAdd, Nat.reduceMul, Nat.reduceSub, Int.reduceAdd, Int.reduceSub, Int.reduceToNat, Int.reduceNeg, Int.reduceMul]) | refine q_blocky rfl ?_ | refine W_plain rfl ?_ | refine W_drawn mixed rfl ?_ | refine and_chk (by kernel_rfl) ?_ | refine k_move rfl rfl ?_ | refine k_assign rfl rfl ?_ | refine k_load rfl rfl rfl rfl ?_ | refine k_alloc rfl ?_ | refine k_box rfl rfl rfl ?_ | refine k_store rfl rfl rfl rfl rfl rfl rfl ?_ | refine k_extract rfl rfl rfl ?_ | refine k_fieldAddr rfl rfl rfl ?_ | refine k_field rfl rfl rfl ?_ | refine k_build rfl rfl rfl ?_ | refine k_call rfl on rfl rfl rfl rfl ?_ | refine k_call rfl hf rfl rfl rfl rfl ?_ | refine k_call rfl wi rfl rfl rfl rfl ?_ | refine k_load rfl rfl rfl (by exact b_cut hll _) ?_ | refine k_call rfl fr rfl (b_fz1 _) (b_cl1 _) rfl ?_ | refine k_call rfl re rfl rfl rfl rfl ?_ | refine k_call rfl mu rfl rfl rfl rfl ?_ | refine k_call rfl mv rfl rfl rfl rfl ?_ | refine k_call rfl su rfl rfl rfl rfl ?_ | refine k_call rfl rx rfl rfl rfl rfl ?_ | refine k_nea rfl rfl rfl rfl rfl hne ?_ | refine k_buildSlice (cs := []) rfl rfl rfl rfl rfl rfl rfl ?_ | refine k_buildSlice rfl rfl rfl rfl rfl rfl rfl ?_ | refine k_indexAddr rfl rfl rfl ⟨by omega, by omega⟩ ?_ | refine k_indexAddrs rfl rfl rfl ⟨by omega, by omega⟩ rfl ?_ | refine k_index rfl rfl rfl ⟨by omega, by omega⟩ rfl ?_ | refine k_loade rfl rfl rfl ?_ | refine k_fieldAddre rfl rfl rfl rfl ?_ | refine k_len rfl rfl ?_ | refine k_nilCheck rfl rfl rfl ?_ | refine k_pickT rfl rfl rfl ?_ | refine k_pickF rfl rfl rfl ?_ | refine k_addi rfl rfl rfl (by omega) ?_ | refine k_subi rfl rfl rfl (by omega) ?_ | refine k_negi rfl rfl (by omega) ?_ | refine k_not rfl rfl rfl ?_ | refine k_lssT rfl rfl rfl (by omega) ?_ | refine k_lssF rfl rfl rfl (by omega) ?_ | refine k_leqT rfl rfl rfl (by omega) ?_ | refine k_leqF rfl rfl rfl (by omega) ?_ | refine k_gtrT rfl rfl rfl (by omega) ?_ | refine k_gtrF rfl rfl rfl (by omega) ?_ | refine k_geqT rfl rfl rfl (by omega) ?_ | refine k_geqF rfl rfl rfl (by omega) ?_ | refine k_eqlT rfl rfl rfl (by omega) ?_ | refine k_eqlF rfl rfl rfl (by omega) ?_ | refine k_neqT rfl rfl rfl (by omega) ?_ | refine k_neqF rfl rfl rfl (by omega) ?_ | refine k_eqa rfl rfl rfl rfl rfl rfl ?_ | refine k_nea rfl rfl rfl rfl rfl rfl ?_ | refine k_makeFunc rfl rfl rfl ?_ | refine k_skip rfl ?_ | refine k_skip0 rfl ?_ | refine k_pick rfl rfl rfl rfl rfl ?_ | refine W_yes rfl ?_ | refine W_no rfl ?_)
  (first | with_reducible refine q_endr ?_ | with_reducible refine q_endn ?_); refine rets1 Try.results10 (by first | exact RetV.tmp _ _ rfl | exact RetV.cell _ _ _ _ _ _ _ _ inferInstance rfl rfl rfl) ?_
  rfl

theorem Recover_any (G : Grp p b n gx gy T) (E : Extra p b n T) (C : Cover p b n T) (hn : n < 1000) (h2 : 2 < n) (hp : p < 1000) (l : List UInt8) (hll : l.length = 32) (r s : Nat) (hr0 : r ≠ 0) (hr : r < n) (hs0 : s ≠ 0) (hs : s ≤ n / 2) (o : Int) (ho : 0 ≤ o) :
    Pur Try.prog 7 [.agg (cv p 0 b n gx gy false), .agg (bs l), .agg (sg r s o)] (.tup [.agg (pt 0 0 false), .int .i64 10]) ∨
    ∃ q, Pur Try.prog 7 [.agg (cv p 0 b n gx gy false), .agg (bs l), .agg (sg r s o)] (.tup [.agg (ptD q), .int .i64 0]) ∧ Pur Try.prog 10 [.agg (cv p 0 b n gx gy false), .agg (ptD q), .agg (bs l), .agg (sg r s o)] (.int .i64 0) := by
  have hM : 2000 < M256 := by decide
  have hf := formed_ok p 0 b n gx gy r s false o (by omega) hr0 hr hs0 hs ho _ rfl
  rcases Bool.eq_false_or_eq_true (decide (o ≤ 3)) with h3 | h3
  · rw [h3] at hf
    obtain ⟨x, hx⟩ : ∃ x, cond (decide (o ≥ 2)) (r + n) r = x := ⟨_, rfl⟩
    have hx2 : x < 2000 ∧ x % n = r := by
      rw [← hx]
      cases decide (o ≥ 2)
      · exact ⟨by simp; omega, by simp [Nat.mod_eq_of_lt hr]⟩
      · exact ⟨by simp; omega, by simp [Nat.mod_eq_of_lt hr]⟩
    rcases Nat.lt_or_ge x p with hxp | hxp
    · rcases lift_any G E C x hxp (decide (o.tmod 2 = 1)) with hl | ⟨i, y, hi, hT, hl⟩
      · exact .inl (rec_lift G hn l r s x hr o _ _ _ rfl hx hxp hp rfl rfl hf hl)
      · obtain ⟨iv, hiv, hi1, hig⟩ := E.inv r hr hr0
        obtain ⟨jv, hjv, hj1, hjg⟩ := E.inv s (by omega) hs0
        obtain ⟨z, hz⟩ : ∃ z, nm l % n = z := ⟨_, rfl⟩
        obtain ⟨u, hu⟩ : ∃ u, s * iv % n = u := ⟨_, rfl⟩
        obtain ⟨w, hw⟩ : ∃ w, z * iv % n = w := ⟨_, rfl⟩
        obtain ⟨v, hv⟩ : ∃ v, (0 + n - w) % n = v := ⟨_, rfl⟩
        obtain ⟨u', hu'⟩ : ∃ u', z * jv % n = u' := ⟨_, rfl⟩
        obtain ⟨v', hv'⟩ : ∃ v', r * jv % n = v' := ⟨_, rfl⟩
        obtain ⟨m, hm⟩ : ∃ m, u * i + v * 1 = m := ⟨_, rfl⟩
        have hwn : w < n := by rw [← hw]; exact Nat.mod_lt _ (by omega)
        have hl' : Pur Try.prog 16 [.agg (cv p 0 b n gx gy false), U x, .bool (decide (o.tmod 2 = 1))] (.tup [.agg (ptD (T i)), .int .i64 0]) := by rw [hT]; exact hl
        by_cases hm0 : m % n = 0
        · have hTm : T m = (0, 0, true) := by rw [← G.per m, hm0, G.t0]
          exact .inl (rec_at G hn l hll r s x i m iv u v z w _ hr (by omega) o _ _ _ true rfl hx hxp hp rfl rfl hf hl' hiv hi1 hig hu hz hw hv (by rw [hm]) 0 0 hTm rfl)
        · have hfar := G.fin m hm0
          refine .inr ⟨T m, ?_, ?_⟩
          · exact rec_at G hn l hll r s x i m iv u v z w _ hr (by omega) o _ _ _ false rfl hx hxp hp rfl rfl hf hl' hiv hi1 hig hu hz hw hv (by rw [hm]) (T m).1 (T m).2.1 (by rw [← hfar]) (by show D.tup [D.agg (pt (T m).1 (T m).2.1 false), _] = D.tup [D.agg (pt (T m).1 (T m).2.1 (T m).2.2), _]; rw [hfar])
          · have c1 : GM.Eqm n ((iv : Int) * r) 1 := by have := GM.Eqm.mod (p := n) (iv * r); rw [hi1] at this; exact this.symm.trans ⟨0, by push_cast; omega⟩
            have c2 : GM.Eqm n ((jv : Int) * s) 1 := by have := GM.Eqm.mod (p := n) (jv * s); rw [hj1] at this; exact this.symm.trans ⟨0, by push_cast; omega⟩
            have c3 : GM.Eqm n u ((s : Int) * iv) := by rw [← hu]; exact GM.Eqm.mod _
            have c4 : GM.Eqm n w ((z : Int) * iv) := by rw [← hw]; exact GM.Eqm.mod _
            have c5 : GM.Eqm n v (0 - (z : Int) * iv) := by
              have := GM.Eqm.sb (p := n) (a := 0) (b := w) (by omega)
              rw [hv] at this
              exact this.trans ((GM.Eqm.refl _).sub c4)
            have c6 : GM.Eqm n u' ((z : Int) * jv) := by rw [← hu']; exact GM.Eqm.mod _
            have c7 : GM.Eqm n v' ((r : Int) * jv) := by rw [← hv']; exact GM.Eqm.mod _
            have ce := check_eq (i := i) c1 c2 c3 c5 c6 c7
            rw [hm] at ce
            exact check_at G hn l hll r s x y i m jv u' v' z hr (by omega) o hx2.1 hx2.2 hf hT hjv hj1 hjg hz hu' hv' (T_eqm G ce) hfar
    · exact .inl (rec_big G hn l r s x hr o _ rfl hx hxp hp hf)
  · rw [h3] at hf
    exact .inl (rec_form G l r s o hf)
end
end Go.Proofs.Ytpdhbddkcnffbaa

namespace Go.Proofs.Ytpdhbddkcnffbaa.recoverRight
open Go.ChangeShapes Go.WideShapes Go.RowKit Go.Joins Go.Lib
set_option linter.unusedVariables false
open Go.Proofs.Ytpdhbddkcnffbaa
set_option linter.unusedVariables false
set_option maxRecDepth 100000
--nrm pt_all pt_x pt_y cv_all cv_p cv_a cv_b cv_n cv_g cv_gx pt_len cv_len rg_len ren_rl rl_all rl_m rl_len rl_nil pt_nil ptD_all ptD_nil ptD_len sg_all sg_r sg_s sg_len

set_option maxHeartbeats 8000000 in
theorem pur (zn k a' b' : Int) (sx : ByteArray) (a b odd : Int) : Pur Try.prog 3 [.int .i64 zn, .agg [.int .i64 k, .int .i64 a', .int .i64 b', .str sx], .int .i64 a, .int .i64 b, .int .i64 odd] (.bool true) := by
  obtain ⟨kk, p, cb, n, gx, gy, T, hz, hk, G, hn, h1, hp, E, C, _⟩ := grps3 zn
  have hc := Curve_ok zn kk p cb n gx gy hz hk
  have hl := (lim0_small n (by omega)).2.1
  have q0 := Int.emod_nonneg a (show (n : Int) - 1 ≠ 0 by omega)
  have q1 := Int.emod_lt_of_pos a (show (0 : Int) < n - 1 by omega)
  obtain ⟨d, ed⟩ : ∃ d : Nat, a % ((n : Int) - 1) + 1 = d := ⟨_, (Int.toNat_of_nonneg (by omega)).symm⟩
  have hd0 : d ≠ 0 := by omega
  have hdn : d < n := by omega
  have se := Secret_ok G hn h1 a d ed
  have hdiv : (IntKind.i64.wrap ((n : Int).tdiv 2)) = ((n / 2 : Nat) : Int) := by
    rw [Int.tdiv_eq_ediv_of_nonneg (by omega)]
    rw [show (n : Int) / 2 = ((n / 2 : Nat) : Int) from by omega]
    exact Go.IntWalk.i64_in _ (by omega)
  have b0 := Int.emod_nonneg b (show ((n / 2 : Nat) : Int) ≠ 0 by omega)
  have b1 := Int.emod_lt_of_pos b (show (0 : Int) < ((n / 2 : Nat) : Int) by omega)
  obtain ⟨bq, eb⟩ : ∃ bq : Nat, b % ((n / 2 : Nat) : Int) = bq := ⟨_, (Int.toNat_of_nonneg b0).symm⟩
  have pb := p_picked b ((n / 2 : Nat) : Int) bq (by omega) (by omega) eb
  obtain ⟨o, eo⟩ : ∃ o : Int, odd % 5 = o := ⟨_, rfl⟩
  have po := p_picked odd 5 o (by omega) (by omega) eo
  have o0 : 0 ≤ o := by omega
  obtain ⟨z, hzl, su⟩ := sum_ok k a' b' sx
  obtain ⟨s, hs⟩ : ∃ s, bq + 1 = s := ⟨_, rfl⟩
  have R := Recover_any G E C hn h1 hp z hzl d s hd0 hdn (by omega) (by omega) o o0
  have hcv : IntKind.u64.wrap (bq : Int) = (bq : Int) := Go.IntWalk.u64_in _ (by omega)
  have st := s_tells
  have hbu : (some [D.int .u64 (s : Int), D.int .u64 0, D.int .u64 0, D.int .u64 0] : Option (List D)) = some (ud s) := by
    have := U_lit s (by omega)
    injection this with e
    rw [e]
  have hbs : dfill [(0, 4), (4, 4), (8, 1)] [.int .u64 0, .int .u64 0, .int .u64 0, .int .u64 0, .int .u64 0, .int .u64 0, .int .u64 0, .int .u64 0, .int .i64 0] [(0, U d), (1, U s), (2, .int .i64 o)] = some (sg d s o) := rfl
  have hadd : IntKind.u64.wrap (1 + (bq : Int)) = (s : Int) := by rw [Go.IntWalk.u64_in _ (by omega)]; omega
  have hfz3 : D.fzs [D.agg (cv p 0 cb n gx gy false), D.agg (bs z), D.agg (sg d s o)] = [D.agg (cv p 0 cb n gx gy false), D.agg (bs z), D.agg (sg d s o)] := by
    show D.agg (cv p 0 cb n gx gy false) :: D.agg (D.fzs (bs z)) :: _ = _
    rw [bs_fzs]; rfl
  have hcl3 : D.cls [D.agg (cv p 0 cb n gx gy false), D.agg (bs z), D.agg (sg d s o)] = true := by
    show (true && (D.cls (bs z) && true)) = true
    rw [bs_cl]; rfl
  rcases R with R | ⟨q, R, K⟩
  · refine pur_intro Try.func3 rfl Try.ntmps3 rfl (by first | rfl | assumption | exact bs_cl _) fun B => ?_
    repeat (first | with_reducible refine W_seq ?_ | with_reducible refine q_then ?_ | with_reducible refine q_thenr ?_ | with_reducible refine q_thenx ?_ | with_reducible refine W_block ?_ | with_reducible refine q_block ?_ | with_reducible refine q_blockr ?_ | with_reducible refine q_blockx ?_ | with_reducible refine W_ret ?_ | with_reducible refine W_skip ?_ | with_reducible refine W_label ?_ | with_reducible refine W_exit ?_ | with_reducible refine W_scope ?_ | with_reducible refine q_scope ?_ | with_reducible refine q_scoper ?_ | with_reducible refine q_scopex ?_ | (with_reducible refine R_nil ?_; try dsimp only [slots0, slots_ud, pt_all, pt_x, pt_y, cv_all, cv_p, cv_a, cv_b, cv_n, cv_g, cv_gx, pt_len, cv_len, rg_len, ren_rl, rl_all, rl_m, rl_len, rl_nil, pt_nil, ptD_all, ptD_nil, ptD_len, sg_all, sg_r, sg_s, sg_len, pt_all, pt_x, pt_y, cv_all, cv_p, cv_a, cv_b, cv_n, cv_g, cv_gx, pt_len, cv_len, rg_len, ren_rl, rl_all, rl_m, rl_len, rl_nil, pt_nil, ptD_all, ptD_nil, ptD_len, sg_all, sg_r, sg_s, sg_len, pt_all, pt_x, pt_y, cv_all, cv_p, cv_a, cv_b, cv_n, cv_g, cv_gx, pt_len, cv_len, rg_len, ren_rl, rl_all, rl_m, rl_len, rl_nil, pt_nil, ptD_all, ptD_nil, ptD_len, sg_all, sg_r, sg_s, sg_len, cells_U, agg_ud, drop0, dropS, takeS, take0, ud_nil, take_ud, take_ud0, drop_ud, drop_ud0, take_udk, D.cells, D.fz, D.fzs, List.take_succ_cons, List.take_zero, List.drop_succ_cons, List.drop_zero, List.cons_append, List.nil_append, List.append_eq, List.length_cons, List.length_nil, Nat.reduceAdd, Nat.reduceMul, Nat.reduceSub, Int.reduceAdd, Int.reduceSub, Int.reduceToNat, Int.reduceNeg, Int.reduceMul]) | refine q_blocky rfl ?_ | refine W_plain rfl ?_ | refine W_drawn mixed rfl ?_ | refine and_chk (by kernel_rfl) ?_ | refine k_build rfl rfl (by exact hbs) ?_ | refine k_build rfl rfl (by exact hbu) ?_ | refine k_move rfl rfl ?_ | refine k_assign rfl rfl ?_ | refine k_load rfl rfl rfl rfl ?_ | refine k_alloc rfl ?_ | refine k_box rfl rfl rfl ?_ | refine k_store rfl rfl rfl rfl rfl rfl rfl ?_ | refine k_extract rfl rfl rfl ?_ | refine k_fieldAddr rfl rfl rfl ?_ | refine k_field rfl rfl rfl ?_ | refine k_build rfl rfl rfl ?_ | refine k_call rfl hc rfl rfl rfl rfl ?_ | refine k_conv rfl rfl hl ?_ | refine k_call rfl se rfl rfl rfl rfl ?_ | refine k_quo rfl rfl rfl (by decide) hdiv ?_ | refine k_call rfl pb rfl rfl rfl rfl ?_ | refine k_call rfl po rfl rfl rfl rfl ?_ | refine k_conv rfl rfl hcv ?_ | refine k_add (k := .u64) rfl rfl rfl hadd ?_ | refine k_call rfl su rfl rfl rfl (bs_cl _) ?_ | refine k_call rfl st rfl rfl rfl rfl ?_ | refine k_call rfl R rfl hfz3 hcl3 rfl ?_ | refine k_buildSlice (cs := []) rfl rfl rfl rfl rfl rfl rfl ?_ | refine k_buildSlice rfl rfl rfl rfl rfl rfl rfl ?_ | refine k_indexAddr rfl rfl rfl ⟨by omega, by omega⟩ ?_ | refine k_indexAddrs rfl rfl rfl ⟨by omega, by omega⟩ rfl ?_ | refine k_index rfl rfl rfl ⟨by omega, by omega⟩ rfl ?_ | refine k_loade rfl rfl rfl ?_ | refine k_fieldAddre rfl rfl rfl rfl ?_ | refine k_len rfl rfl ?_ | refine k_nilCheck rfl rfl rfl ?_ | refine k_pickT rfl rfl rfl ?_ | refine k_pickF rfl rfl rfl ?_ | refine k_addi rfl rfl rfl (by omega) ?_ | refine k_subi rfl rfl rfl (by omega) ?_ | refine k_negi rfl rfl (by omega) ?_ | refine k_not rfl rfl rfl ?_ | refine k_lssT rfl rfl rfl (by omega) ?_ | refine k_lssF rfl rfl rfl (by omega) ?_ | refine k_leqT rfl rfl rfl (by omega) ?_ | refine k_leqF rfl rfl rfl (by omega) ?_ | refine k_gtrT rfl rfl rfl (by omega) ?_ | refine k_gtrF rfl rfl rfl (by omega) ?_ | refine k_geqT rfl rfl rfl (by omega) ?_ | refine k_geqF rfl rfl rfl (by omega) ?_ | refine k_eqlT rfl rfl rfl (by omega) ?_ | refine k_eqlF rfl rfl rfl (by omega) ?_ | refine k_neqT rfl rfl rfl (by omega) ?_ | refine k_neqF rfl rfl rfl (by omega) ?_ | refine k_eqa rfl rfl rfl rfl rfl rfl ?_ | refine k_nea rfl rfl rfl rfl rfl rfl ?_ | refine k_makeFunc rfl rfl rfl ?_ | refine k_skip rfl ?_ | refine k_skip0 rfl ?_ | refine k_pick rfl rfl rfl rfl rfl ?_ | refine W_yes rfl ?_ | refine W_no rfl ?_)
    (first | with_reducible refine q_endr ?_ | with_reducible refine q_endn ?_); refine rets1 Try.results3 (by first | exact RetV.tmp _ _ rfl | exact RetV.cell _ _ _ _ _ _ _ _ inferInstance rfl rfl rfl) ?_
    rfl
  · have hfz4 : D.fzs [D.agg (cv p 0 cb n gx gy false), D.agg (ptD q), D.agg (bs z), D.agg (sg d s o)] = [D.agg (cv p 0 cb n gx gy false), D.agg (ptD q), D.agg (bs z), D.agg (sg d s o)] := by
      show D.agg (cv p 0 cb n gx gy false) :: D.agg (ptD q) :: D.agg (D.fzs (bs z)) :: _ = _
      rw [bs_fzs]; rfl
    have hcl4 : D.cls [D.agg (cv p 0 cb n gx gy false), D.agg (ptD q), D.agg (bs z), D.agg (sg d s o)] = true := by
      show (true && (true && (D.cls (bs z) && true))) = true
      rw [bs_cl]; rfl
    refine pur_intro Try.func3 rfl Try.ntmps3 rfl (by first | rfl | assumption | exact bs_cl _) fun B => ?_
    repeat (first | with_reducible refine W_seq ?_ | with_reducible refine q_then ?_ | with_reducible refine q_thenr ?_ | with_reducible refine q_thenx ?_ | with_reducible refine W_block ?_ | with_reducible refine q_block ?_ | with_reducible refine q_blockr ?_ | with_reducible refine q_blockx ?_ | with_reducible refine W_ret ?_ | with_reducible refine W_skip ?_ | with_reducible refine W_label ?_ | with_reducible refine W_exit ?_ | with_reducible refine W_scope ?_ | with_reducible refine q_scope ?_ | with_reducible refine q_scoper ?_ | with_reducible refine q_scopex ?_ | (with_reducible refine R_nil ?_; try dsimp only [slots0, slots_ud, pt_all, pt_x, pt_y, cv_all, cv_p, cv_a, cv_b, cv_n, cv_g, cv_gx, pt_len, cv_len, rg_len, ren_rl, rl_all, rl_m, rl_len, rl_nil, pt_nil, ptD_all, ptD_nil, ptD_len, sg_all, sg_r, sg_s, sg_len, pt_all, pt_x, pt_y, cv_all, cv_p, cv_a, cv_b, cv_n, cv_g, cv_gx, pt_len, cv_len, rg_len, ren_rl, rl_all, rl_m, rl_len, rl_nil, pt_nil, ptD_all, ptD_nil, ptD_len, sg_all, sg_r, sg_s, sg_len, pt_all, pt_x, pt_y, cv_all, cv_p, cv_a, cv_b, cv_n, cv_g, cv_gx, pt_len, cv_len, rg_len, ren_rl, rl_all, rl_m, rl_len, rl_nil, pt_nil, ptD_all, ptD_nil, ptD_len, sg_all, sg_r, sg_s, sg_len, cells_U, agg_ud, drop0, dropS, takeS, take0, ud_nil, take_ud, take_ud0, drop_ud, drop_ud0, take_udk, D.cells, D.fz, D.fzs, List.take_succ_cons, List.take_zero, List.drop_succ_cons, List.drop_zero, List.cons_append, List.nil_append, List.append_eq, List.length_cons, List.length_nil, Nat.reduceAdd, Nat.reduceMul, Nat.reduceSub, Int.reduceAdd, Int.reduceSub, Int.reduceToNat, Int.reduceNeg, Int.reduceMul]) | refine q_blocky rfl ?_ | refine W_plain rfl ?_ | refine W_drawn mixed rfl ?_ | refine and_chk (by kernel_rfl) ?_ | refine k_build rfl rfl (by exact hbs) ?_ | refine k_build rfl rfl (by exact hbu) ?_ | refine k_move rfl rfl ?_ | refine k_assign rfl rfl ?_ | refine k_load rfl rfl rfl rfl ?_ | refine k_alloc rfl ?_ | refine k_box rfl rfl rfl ?_ | refine k_store rfl rfl rfl rfl rfl rfl rfl ?_ | refine k_extract rfl rfl rfl ?_ | refine k_fieldAddr rfl rfl rfl ?_ | refine k_field rfl rfl rfl ?_ | refine k_build rfl rfl rfl ?_ | refine k_call rfl hc rfl rfl rfl rfl ?_ | refine k_conv rfl rfl hl ?_ | refine k_call rfl se rfl rfl rfl rfl ?_ | refine k_quo rfl rfl rfl (by decide) hdiv ?_ | refine k_call rfl pb rfl rfl rfl rfl ?_ | refine k_call rfl po rfl rfl rfl rfl ?_ | refine k_conv rfl rfl hcv ?_ | refine k_add (k := .u64) rfl rfl rfl hadd ?_ | refine k_call rfl su rfl rfl rfl (bs_cl _) ?_ | refine k_call rfl st rfl rfl rfl rfl ?_ | refine k_call rfl R rfl hfz3 hcl3 rfl ?_ | refine k_call rfl K rfl hfz4 hcl4 rfl ?_ | refine k_buildSlice (cs := []) rfl rfl rfl rfl rfl rfl rfl ?_ | refine k_buildSlice rfl rfl rfl rfl rfl rfl rfl ?_ | refine k_indexAddr rfl rfl rfl ⟨by omega, by omega⟩ ?_ | refine k_indexAddrs rfl rfl rfl ⟨by omega, by omega⟩ rfl ?_ | refine k_index rfl rfl rfl ⟨by omega, by omega⟩ rfl ?_ | refine k_loade rfl rfl rfl ?_ | refine k_fieldAddre rfl rfl rfl rfl ?_ | refine k_len rfl rfl ?_ | refine k_nilCheck rfl rfl rfl ?_ | refine k_pickT rfl rfl rfl ?_ | refine k_pickF rfl rfl rfl ?_ | refine k_addi rfl rfl rfl (by omega) ?_ | refine k_subi rfl rfl rfl (by omega) ?_ | refine k_negi rfl rfl (by omega) ?_ | refine k_not rfl rfl rfl ?_ | refine k_lssT rfl rfl rfl (by omega) ?_ | refine k_lssF rfl rfl rfl (by omega) ?_ | refine k_leqT rfl rfl rfl (by omega) ?_ | refine k_leqF rfl rfl rfl (by omega) ?_ | refine k_gtrT rfl rfl rfl (by omega) ?_ | refine k_gtrF rfl rfl rfl (by omega) ?_ | refine k_geqT rfl rfl rfl (by omega) ?_ | refine k_geqF rfl rfl rfl (by omega) ?_ | refine k_eqlT rfl rfl rfl (by omega) ?_ | refine k_eqlF rfl rfl rfl (by omega) ?_ | refine k_neqT rfl rfl rfl (by omega) ?_ | refine k_neqF rfl rfl rfl (by omega) ?_ | refine k_eqa rfl rfl rfl rfl rfl rfl ?_ | refine k_nea rfl rfl rfl rfl rfl rfl ?_ | refine k_makeFunc rfl rfl rfl ?_ | refine k_skip rfl ?_ | refine k_skip0 rfl ?_ | refine k_pick rfl rfl rfl rfl rfl ?_ | refine W_yes rfl ?_ | refine W_no rfl ?_)
    (first | with_reducible refine q_endr ?_ | with_reducible refine q_endn ?_); refine rets1 Try.results3 (by first | exact RetV.tmp _ _ rfl | exact RetV.cell _ _ _ _ _ _ _ _ inferInstance rfl rfl rfl) ?_
    rfl

theorem walk (zn k a' b' : Int) (sx : ByteArray) (a b odd : Int) (w : World) : Calls Try.prog 3 #[.int .i64 zn, .agg #[.int .i64 k, .int .i64 a', .int .i64 b', .string sx], .int .i64 a, .int .i64 b, .int .i64 odd] w fun e w' => e = .returned (.bool true) ∧ New w w' :=
  calls_of_pur (vs := [.int .i64 zn, .agg #[.int .i64 k, .int .i64 a', .int .i64 b', .string sx], .int .i64 a, .int .i64 b, .int .i64 odd]) rfl rfl rfl (pur zn k a' b' sx a b odd) w

set_option maxRecDepth 100000 in
theorem lifted (os : Os) (started : os.Started) (H : Type) (enc : TypeId × Value → H) :
    ReturnsInHanded {} Try.checked os 3 .any (Rows.recoverRightSpec.pre6 enc Try.prog Try.f3 Rows.recoverRightRow.domain false) (Rows.recoverRightSpec.post enc Try.prog Try.f3 false true false false) := by
  refine returnsInHanded_of_change (C := Try.checked) own started (by kernel_rfl) Try.func3
    (ChangeSpec.witness6 (enc := enc) (C := Try.checked) false ⟨#[], #[.int .i64 0, .agg #[.int .i64 0, .int .i64 0, .int .i64 0, .string ⟨#[]⟩], .int .i64 0, .int .i64 0, .int .i64 0], []⟩ 8 (by kernel_rfl) (by kernel_rfl) (by kernel_rfl) (by kernel_rfl)) ?_
  intro W base args ds gs before hval0 hW hcnd _
  have hval : ∀ (j : Nat) t v, Try.f3.params[j]? = some t → args[j]? = some v → Value.okWide Try.prog W .any base t v := hval0
  have hW' := hW
  obtain ⟨p, q, hA0, hV, rfl, hfz, hnd⟩ := hW
  have hA : DataW.TrodAll enc Try.prog W 0 (fun _ => true) true Try.f3.params.toList args.toList ds p := hA0
  rw [Try.params3] at hA hval
  obtain ⟨v0, vs0, d0, ds0, p0, q0, hargs, rfl, rfl, h0, r0⟩ := trodAll_cons hA
  obtain ⟨v1, vs1, d1, ds1, p1, q1, rfl, rfl, rfl, h1, r1⟩ := trodAll_cons r0
  obtain ⟨v2, vs2, d2, ds2, p2, q2, rfl, rfl, rfl, h2, r2⟩ := trodAll_cons r1
  obtain ⟨v3, vs3, d3, ds3, p3, q3, rfl, rfl, rfl, h3, r3⟩ := trodAll_cons r2
  obtain ⟨v4, vs4, d4, ds4, p4, q4, rfl, rfl, rfl, h4, r4⟩ := trodAll_cons r3
  obtain ⟨rfl, rfl, rfl⟩ := trodAll_nil r4
  obtain rfl : args = #[v0, v1, v2, v3, v4] := by cases args; simp_all
  obtain ⟨rfl, rfl⟩ := trodVars_none hV
  obtain ⟨n1, rfl, rfl, rfl, wn1⟩ := open_int Try.underlying3 (hval 0 3 v0 rfl rfl) h0
  obtain ⟨k2, a2, b2, s2, rfl, wk2, wa2, wb2, ws2⟩ := open_raw (hval 1 23 v1 rfl rfl) h1
  obtain ⟨n3, rfl, rfl, rfl, wn3⟩ := open_int Try.underlying3 (hval 2 3 v2 rfl rfl) h2
  obtain ⟨n4, rfl, rfl, rfl, wn4⟩ := open_int Try.underlying3 (hval 3 3 v3 rfl rfl) h3
  obtain ⟨n5, rfl, rfl, rfl, wn5⟩ := open_int Try.underlying3 (hval 4 3 v4 rfl rfl) h4
  refine (walk n1 k2 a2 b2 s2 n3 n4 n5 W).mono fun e W' ⟨he, hN⟩ => ?_
  subst he
  exact ⟨_, rfl, law_post laidOut (by kernel_rfl) (by kernel_rfl) Try.underlying4 rfl hW' rfl hN⟩

theorem holds : Rows.RecoverRightSaid :=
  OpenClaim.holds_of_wide 3 Try.f3 rfl rfl rfl rfl rfl rfl rfl ⟨rfl, rfl, rfl, rfl, rfl⟩ rfl rfl rfl rfl rfl (by kernel_rfl) Try.func3 (by kernel_rfl)
    (of_decide_eq_true (by kernel_rfl)) (by unfold Func.isWrapper; first | (rw [if_pos (by decide +kernel)]; kernel_rfl) | (rw [if_neg (by decide +kernel)]; exact ⟨rfl, rfl⟩))
    (fun os started H enc _ => lifted os started H enc)

#print axioms holds
end Go.Proofs.Ytpdhbddkcnffbaa.recoverRight
