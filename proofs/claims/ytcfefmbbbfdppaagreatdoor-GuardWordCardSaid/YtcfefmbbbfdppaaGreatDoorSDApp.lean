/- Slices that grow, and parts of slices. Of any program. No conditions. -/
import Derived.Test.YtcfefmbbbfdppaaGreatDoorSDSl
import Derived.Test.YtcfefmbbbfdppaaGreatDoorSDFun
import Derived.Deep.Upon
namespace Go.Proofs.YtcfefmbbbfdppaaGreatDoor
open Go.RowKit
set_option linter.unusedVariables false
set_option linter.unusedSimpArgs false
section
variable {P : Program} {o : Oper} {ρ : Slots} {m : Mem}
def Tok.ends : Tok → Mem
  | .own k => [(k, none)]
  | _ => []
def Tok.may (m : Mem) (E : TypeId) (s n : Nat) : Tok → Prop
  | .own k => mget m k = some (.tok E s)
  | .nil => True
  | .tight => True
  | .frozen => False
theorem Tok.ends_none (tk : Tok) : ∀ x, (tk.ends.any fun y => Nat.beq y.1 x) = true → mget tk.ends x = none := by
  intro x h
  cases tk with
  | own k =>
    simp only [Tok.ends, List.any_cons, List.any_nil, Bool.or_false] at h
    simp [Tok.ends, mget, h]
  | _ => simp [Tok.ends] at h
theorem Reps.append {G : Gh} {w : World} {cs cs2 : List D} {vs : Array Value} {news : List Value} (h : Reps G w cs vs) (h2 : Reps G w cs2 news.toArray) : Reps G w (cs ++ cs2) (vs.toList ++ news).toArray := by
  have e1 := h.1
  have e2 := h2.1
  simp only [List.size_toArray] at e2
  refine ⟨by simp; omega, fun i d v hd hv => ?_⟩
  simp only [List.getElem?_toArray] at hv
  rw [List.getElem?_append] at hd hv
  simp only [Array.length_toList] at hv
  rw [e1] at hv
  by_cases c : i < cs.length
  · rw [if_pos c] at hd hv; exact h.2 i d v hd (by simpa using hv)
  · rw [if_neg c] at hd hv; exact h2.2 _ d v hd (by simpa using hv)
theorem Sim.append_ {B : Base} {G : Gh} {m' : Mem} {w : World} (hs : Sim B G m' w) {t tx T E : TypeId} {ty : Ty} {by_ : Nat} (ha : HasSl P t E) (ht : HasTy P E ty) (hb : HasBy P E by_) {tk : Tok} {n mm : Nat} {cs cs2 : List D} {vx vy : Value} {news : List Value}
    (hbase : Rep G w (.slice tk n cs) vx) (hmay : tk.may m' E ty.size mm) (hn1 : n * ty.size = cs.length) (hzl : ty.zero.length = ty.size) (hsrc : Src P ty.size tx vy mm news w) (hnr : Reps G w cs2 news.toArray) (h2 : ∀ d ∈ cs2, d.one = true ∧ d.cl = true) (hsm : n + mm ≤ 140737488355328) (hsz : (n + mm) * by_ ≤ 140737488355328) {l : Nat} (hl : G.kn l = false) :
    ∃ v w' G', (Builtin.append_ #[t, tx] T #[vx, vy]).run P w = .ok v w' ∧ Ext G w G' w' ∧ Sim B G' ((l, some (.tok E ty.size)) :: (tk.ends ++ m')) w' ∧ (∀ l', G'.kn l' = true → G.kn l' = true ∨ l' = l) ∧ Rep G' w' (.slice (.own l) (n + mm) (cs ++ cs2)) v := by
  obtain ⟨z, hz, hzr, hz1⟩ := ht.zero_
  obtain ⟨i, hi, hiz⟩ := Option.bind_eq_some_iff.1 hz
  obtain ⟨j, hj, hjs⟩ := Option.map_eq_some_iff.1 ht.size
  rw [hi] at hj; cases hj
  obtain ⟨j, hj, hjb⟩ := Option.map_eq_some_iff.1 hb.bytes
  rw [hi] at hj; cases hj
  have hzs : z.cells.size = ty.size := by rw [(hzr G w).1, hzl]
  have hsrc' : Src P i.size tx vy mm news w := by rw [hjs]; exact hsrc
  have hnl := hsrc.newsLen
  have hcl2 : cs2.length = mm * ty.size := by have := hnr.1; simp only [List.size_toArray] at this; omega
  have hfit : ∀ old, old < n + mm → Builtin.nextslicecap (n + mm) old * i.bytes ≤ 281474976710656 := fun old ho => growslice_fits ho (by
    rw [hjb]
    exact hsz)
  have grow : ∀ (base : Option Addr) (cap : Nat) (olds : List Value), Reps G w cs olds.toArray → (∀ d ∈ cs, d.one = true ∧ d.cl = true) → (Builtin.firstCells i.size n (.slice base n cap)).run P w.drew = .ok olds.toArray w.drew → cap < n + mm → vx = .slice base n cap →
      ∃ v w' G', (Builtin.append_ #[t, tx] T #[vx, vy]).run P w = .ok v w' ∧ Ext G w G' w' ∧ Sim B G' ((l, some (.tok E ty.size)) :: (tk.ends ++ m')) w' ∧ (∀ l', G'.kn l' = true → G.kn l' = true ∨ l' = l) ∧ Rep G' w' (.slice (.own l) (n + mm) (cs ++ cs2)) v := by
    rintro base cap olds hor h1 hold hg rfl
    have hrun := run_append_grow_src (P := P) w t tx T E i z ha.sl hi hiz base n cap olds hold vy mm news hsrc' hg (by omega) (hfit _ hg)
    have hge := grownCap_ge w (n + mm) cap E
    have hcm := grownCap_le_maxLen w (n + mm) cap E (by simp only [maxLen]; omega)
    have hol : olds.length = cs.length := by have := hor.1; simpa using this
    have hrr : Reps G w (cs ++ cs2) (olds ++ news).toArray := by have := hor.append hnr; simpa using this
    have hsz : ((olds ++ news).toArray ++ Builtin.zeroCells z.cells (grownCap w (n + mm) cap E - (n + mm))).size = grownCap w (n + mm) cap E * ty.size := by
      simp only [Array.size_append, List.size_toArray, List.length_append, size_zeroCells, hzs]
      rw [hol, ← hn1, hnl, ← Nat.add_mul, ← Nat.add_mul]
      congr 1; omega
    obtain ⟨G', g1, g2, g3, g4⟩ := hs.row_ (new_alloc (new_drew (new_refl w)) (.cells ((olds ++ news).toArray ++ Builtin.zeroCells z.cells (grownCap w (n + mm) cap E - (n + mm))) E)) hl (by have := heap_alloc_new w.drew (.cells ((olds ++ news).toArray ++ Builtin.zeroCells z.cells (grownCap w (n + mm) cap E - (n + mm))) E); simpa using this) tk.ends tk.ends_none hrr (fun d hd => by
      rcases List.mem_append.1 hd with h | h
      · exact h1 d h
      · exact h2 d h) (by simp) (fun k hk => by
      rw [Array.getElem?_append_left (by simpa using hk)]) hsz hcm
    exact ⟨_, _, G', hrun, g1, g2, g3, g4 _ hge⟩
  cases hbase with
  | nil tk =>
    have hc0 : Reps G w [] (([] : List Value).toArray) := Reps.nil
    rcases Nat.eq_zero_or_pos mm with h0 | h0
    · subst h0
      have hn0 : news = [] := List.eq_nil_of_length_eq_zero (by simpa using hnl)
      subst hn0
      have hc20 : cs2 = [] := List.eq_nil_of_length_eq_zero (by simpa using hcl2)
      subst hc20
      obtain ⟨G', g1, g2, g3, _⟩ := hs.virt_ hl E ty.size tk.ends tk.ends_none
      exact ⟨_, w, G', run_append_nothing (P := P) w t tx T E i ha.sl hi none 0 0 (Nat.le_refl _) vy hsrc', g1, g2, g3, .nil _⟩
    · exact grow none 0 [] hc0 (fun d hd => by simp at hd) (run_firstCells_none w.drew i.size 0 0 0) (by omega) rfl
  | slice tk n cs b o' cap vs hl' h1 hh hhw hc hb' hn ht' =>
    have hcell : ∀ j u, vs.toList[j]? = some u → w.cell? ((⟨b, o', none⟩ : Addr).add j) = some u := fun j u hj => by
      rw [add_off]
      have hj' : vs[j]? = some u := by simpa using hj
      rw [hc j (by rw [← hl']; exact (Array.getElem?_eq_some_iff.1 hj').1)]; exact hj'
    have hold : (Builtin.firstCells i.size n (.slice (some ⟨b, o', none⟩) n cap)).run P w.drew = .ok vs.toList.toArray w.drew :=
      run_firstCells_some (P := P) w.drew i.size n ⟨b, o', none⟩ n cap vs.toList (by simp [hl', ← hn1, hjs]) (by simpa using hcell)
    have hvr : Reps G w cs vs.toList.toArray := by rw [Array.toArray_toList]; exact ⟨hl', hh⟩
    cases tk with
    | frozen => exact hmay.elim
    | nil => exact ht'.elim
    | tight =>
      have e : cap = n := ht'
      rcases Nat.eq_zero_or_pos mm with h0 | h0
      · subst h0
        have hn0 : news = [] := List.eq_nil_of_length_eq_zero (by simpa using hnl)
        subst hn0
        have hc20 : cs2 = [] := List.eq_nil_of_length_eq_zero (by simpa using hcl2)
        subst hc20
        obtain ⟨G', g1, g2, g3, g4, g5⟩ := hs.virt_ hl E ty.size (Tok.ends .tight) (Tok.ends_none .tight)
        refine ⟨_, w, G', run_append_nothing (P := P) w t tx T E i ha.sl hi (some ⟨b, o', none⟩) n cap hn vy hsrc', g1, g2, g3, ?_⟩
        rw [List.append_nil]
        exact .slice (.own l) n cs b o' cap vs hl' h1 (fun i d v a c => (hh i d v a c).mono g1) (Nat.le_trans hhw (g1.hw b)) hc hb' hn ⟨g4, fun _ => ⟨fun _ => e, fun h => by rw [g5] at h; cases h⟩⟩
      · exact grow _ cap vs.toList hvr h1 hold (by omega) rfl
    | own k =>
      have hmk : mget m' k = some (.tok E ty.size) := hmay
      by_cases hroom : n + mm ≤ cap
      · obtain ⟨k1, k2, k3⟩ := hs.tok k _ _ hmk
        cases e1 : G.nl k with
        | true =>
          have e := (ht'.2 k2).1 e1
          have h0 : mm = 0 := by omega
          subst h0
          have hn0 : news = [] := List.eq_nil_of_length_eq_zero (by simpa using hnl)
          subst hn0
          have hc20 : cs2 = [] := List.eq_nil_of_length_eq_zero (by simpa using hcl2)
          subst hc20
          obtain ⟨G', g1, g2, g3, g4, g5⟩ := hs.virt_ hl E ty.size (Tok.ends (.own k)) (Tok.ends_none (.own k))
          refine ⟨_, w, G', run_append_nothing (P := P) w t tx T E i ha.sl hi (some ⟨b, o', none⟩) n cap hn vy hsrc', g1, g2, g3, ?_⟩
          rw [List.append_nil]
          exact .slice (.own l) n cs b o' cap vs hl' h1 (fun i d v a c => (hh i d v a c).mono g1) (Nat.le_trans hhw (g1.hw b)) hc hb' hn ⟨g4, fun _ => ⟨fun _ => e, fun h => by rw [g5] at h; cases h⟩⟩
        | false =>
        obtain ⟨e2, e3, e4, e5⟩ := (ht'.2 k2).2 e1
        obtain ⟨k4, k5, cur, k6, k7, k8⟩ := k3 e1
        subst e2; subst e3; subst e5
        rw [Nat.zero_add] at e4
        have hfit' : n * i.size + news.length ≤ cur.size := by rw [hnl, hjs, k8, ← Nat.add_mul]; exact Nat.mul_le_mul_right _ hroom
        have hst := run_storeCells_at (P := P) (G.g k) (n * i.size) E news 0 cur w k6 (by omega) hsrc.one
        simp only [Nat.add_zero] at hst
        have hrun : (Builtin.append_ #[t, tx] T #[.slice (some ⟨G.g k, 0, none⟩) n (G.cp k), vy]).run P w = .ok (.slice (some ⟨G.g k, 0, none⟩) (n + mm) (G.cp k)) (w.setRow (G.g k) (cur.toList.take (n * i.size) ++ news ++ cur.toList.drop (n * i.size + news.length)).toArray) := by
          rcases hsrc.kind with ⟨e', hk⟩ | hk <;> simp [Builtin.append_, run_underlying ha.sl, run_underlying hk, sizeOf, typeInfo, hi, hsrc'.len, hroom, hsrc'.cells, Addr.add_lit, hst]
        have htake : cur.toList.take (n * i.size) = vs.toList := by
          apply List.ext_getElem?
          intro j
          rw [List.getElem?_take]
          by_cases c : j < n * i.size
          · rw [if_pos c]
            have := hc j (by rw [← hn1, ← hjs]; exact c)
            rw [Nat.zero_add, cell_of_row w _ _ cur E (0, 0) k6] at this
            simpa using this
          · rw [if_neg c, List.getElem?_eq_none (by simp [hl', ← hn1, ← hjs]; omega)]
        have hrr : Reps G w (cs ++ cs2) (vs.toList ++ news).toArray := Reps.append ⟨hl', hh⟩ hnr
        have hvl : vs.toList.length = n * i.size := by simp [hl', ← hn1, hjs]
        have hcells := setRow_heap w (G.g k) cur (cur.toList.take (n * i.size) ++ news ++ cur.toList.drop (n * i.size + news.length)).toArray E (0, 0) k6
        have hsz : (cur.toList.take (n * i.size) ++ news ++ cur.toList.drop (n * i.size + news.length)).toArray.size = cur.size := by simp; omega
        have hpre : ∀ j, j < (vs.toList ++ news).toArray.size → (cur.toList.take (n * i.size) ++ news ++ cur.toList.drop (n * i.size + news.length)).toArray[j]? = (vs.toList ++ news).toArray[j]? := fun j hj => by
          rw [htake]
          simp only [List.getElem?_toArray]
          rw [List.getElem?_append_left (by simpa using hj)]
        obtain ⟨G', g1, g2, g3, g4⟩ := hs.inplace_ (w' := w.setRow (G.g k) (cur.toList.take (n * i.size) ++ news ++ cur.toList.drop (n * i.size + news.length)).toArray) hmk e1 hl ⟨rfl, rfl, rfl, by simp, fun b _ hb => setRow_other w _ b _ (fun e => hb (by rw [e]))⟩ hcells (by rw [hsz]; exact k8) hrr (fun d hd => by
            rcases List.mem_append.1 hd with h | h
            · exact h1 d h
            · exact h2 d h) (by rw [← e4]; simp; omega) (by rw [hsz]; simp [hvl]; omega) hpre (fun j hj => by
            rw [cell_of_row _ _ _ _ E (0, 0) hcells, cell_of_row w _ _ cur E (0, 0) k6]
            rw [htake]
            simp only [List.getElem?_toArray]
            rw [← e4] at hj
            rw [List.getElem?_append_left (by simp; omega), List.getElem?_append_left (by simp; omega), ← htake, List.getElem?_take, if_pos (by rw [← hvl]; simp; omega)]
            simp)
        exact ⟨_, _, G', hrun, g1, g2, g3, g4 _ hroom⟩
      · exact grow _ cap vs.toList hvr h1 hold (by omega) rfl
theorem r_appendB {t tx E E2 : TypeId} {ty : Ty} {by_ : Nat} [ha : HasSl P t E] [hax : HasSl P tx E2] [ht : HasTy P E ty] [hb : HasBy P E by_] {x y : Operand} {tk tk2 : Tok} {n mm nm : Nat} {cs cs2 cs3 : List D} (l : Nat) (ho : o.op = .call { callee := .builtin .append, args := #[x, y], argTypes := #[t, tx] }) (hx : oev ρ x = some (.slice tk n cs)) (hy : oev ρ y = some (.slice tk2 mm cs2))
    (hmay : tk.may m E ty.size mm) (hn1 : n * ty.size = cs.length) (hn2 : mm * ty.size = cs2.length) (hzl : ty.zero.length = ty.size) (hsm : n + mm ≤ 140737488355328) (hsz : (n + mm) * by_ ≤ 140737488355328) (hnm : n + mm = nm) (hcs : cs ++ cs2 = cs3) :
    OpSound P o ⟨.slice (.own l) nm cs3, [], (l, some (.tok E ty.size)) :: tk.ends, [l]⟩ ρ m := by
  subst hnm; subst hcs
  intro B G a w m' K Q hs h hag hn hK
  have hpx := h x (by simp [ho, Op.operands, Call.operands]) _ hx
  have hpy := h y (by simp [ho, Op.operands, Call.operands]) _ hy
  have hmay' : tk.may m' E ty.size mm := by
    cases tk with
    | own k => exact (hag k (by unfold Eff.touch Eff.writes; simp [Tok.ends])).trans hmay
    | _ => exact hmay
  have hsrc : ∃ news, Src P ty.size tx (a.eval y) mm news w ∧ Reps G w cs2 news.toArray ∧ ∀ d ∈ cs2, d.one = true ∧ d.cl = true := by
    generalize a.eval y = vy at hpy
    cases hpy with
    | nil tk => exact ⟨[], Src.ofNil w hax.sl 0, Reps.nil, fun d hd => by simp at hd⟩
    | slice tk n cs b o' cap vs hl' h1 hh hhw hc hb' hn ht' =>
      refine ⟨vs.toList, Src.ofSlice w hax.sl ⟨b, o', none⟩ mm cap vs.toList (by rw [Array.length_toList, hl']; exact hn2.symm) (fun j u hj => ?_) (fun u hu => ?_), by rw [Array.toArray_toList]; exact ⟨hl', hh⟩, h1⟩
      · rw [add_off]
        have hj' : vs[j]? = some u := by simpa using hj
        rw [hc j (by rw [← hl']; exact (Array.getElem?_eq_some_iff.1 hj').1)]; exact hj'
      · obtain ⟨j, hj⟩ := List.getElem?_of_mem hu
        have hj' : vs[j]? = some u := by simpa using hj
        have hlt : j < cs2.length := by rw [← hl']; exact (Array.getElem?_eq_some_iff.1 hj').1
        have hd : cs2[j]? = some cs2[j] := List.getElem?_eq_getElem hlt
        exact ((hh j _ u hd hj').one (h1 _ (List.mem_of_getElem? hd)).1).1
  obtain ⟨news, hS, hnr, h2⟩ := hsrc
  obtain ⟨v, w', G', hrun, g1, g2, g3, g4⟩ := hs.append_ (T := o.type) ha ht hb hpx hmay' hn1 hzl hS hnr h2 hsm hsz (hn l (by simp))
  have hex : (execOp a.eval o).run P w = .ok (.value v) w' := by
    unfold execOp
    simp only [ho, resolve, invoke, builtin, Sem.run_bind, Sem.run_pure, Result.andThen_ok, List.map_toArray, List.map_cons, List.map_nil, hrun]
  unfold Oper.wp
  rw [hex, Oper.upon_value]
  exact hK v w' G' g1 g2 g4 fun l' hl => (g3 l' hl).imp id fun h => by simp [h]
theorem r_append {t tx E E2 : TypeId} {ty : Ty} {by_ : Nat} [ha : HasSl P t E] [hax : HasSl P tx E2] [ht : HasTy P E ty] [hb : HasBy P E by_] {x y : Operand} {tk tk2 : Tok} {n mm nm : Nat} {cs cs2 cs3 : List D} (l : Nat) (ho : o.op = .call { callee := .builtin .append, args := #[x, y], argTypes := #[t, tx] }) (hx : oev ρ x = some (.slice tk n cs)) (hy : oev ρ y = some (.slice tk2 mm cs2))
    (hmay : tk.may m E ty.size mm) (hn1 : n * ty.size = cs.length) (hn2 : mm * ty.size = cs2.length) (hzl : ty.zero.length = ty.size) (hsm : n + mm ≤ 16777216) (hby : Nat.ble by_ 1048576 = true) (hnm : n + mm = nm) (hcs : cs ++ cs2 = cs3) :
    OpSound P o ⟨.slice (.own l) nm cs3, [], (l, some (.tok E ty.size)) :: tk.ends, [l]⟩ ρ m :=
  r_appendB l ho hx hy hmay hn1 hn2 hzl (by omega) (Nat.le_trans (Nat.mul_le_mul hsm (Nat.le_of_ble_eq_true hby)) (by decide)) hnm hcs
end
section
variable {P : Program} {ρ : Slots} {m : Mem} {nx : Nat} {ops : Array Oper} {os : List Oper} {K : List Eff → Slots → Mem → Nat → Prop}
theorem k_append {t : Tmp} {tt tx E E2 : TypeId} {ty : Ty} {by_ : Nat} [HasSl P tt E] [HasSl P tx E2] [HasTy P E ty] [HasBy P E by_] {x y : Operand} {tk tk2 : Tok} {n mm nm : Nat} {cs cs2 cs3 : List D} {V : TypeId} {pos : String} {af : Array Edge} {gd : Option (Nat × Bool)} (hg : gok ops ρ ⟨some t, .call { callee := .builtin .append, args := #[x, y], argTypes := #[tt, tx] }, V, pos, af, gd⟩ = some true)
    (hx : oev ρ x = some (.slice tk n cs)) (hy : oev ρ y = some (.slice tk2 mm cs2)) (hmay : tk.may m E ty.size mm) (hn1 : n * ty.size = cs.length) (hn2 : mm * ty.size = cs2.length) (hzl : ty.zero.length = ty.size) (hsm : n + mm ≤ 16777216) (hby : Nat.ble by_ 1048576 = true) (hnm : n + mm = nm) (hcs : cs ++ cs2 = cs3)
    (hh : R P ops os (fun Es => K (⟨.slice (.own nx) nm cs3, [], (nx, some (.tok E ty.size)) :: tk.ends, [nx]⟩ :: Es)) ((t, .slice (.own nx) nm cs3) :: ρ) ((nx, some (.tok E ty.size)) :: (tk.ends ++ m)) (nx + 1)) : R P ops (⟨some t, .call { callee := .builtin .append, args := #[x, y], argTypes := #[tt, tx] }, V, pos, af, gd⟩ :: os) K ρ m nx :=
  R_new hg (r_append nx rfl hx hy hmay hn1 hn2 hzl hsm hby hnm hcs) rfl hh
theorem k_appendB {t : Tmp} {tt tx E E2 : TypeId} {ty : Ty} {by_ : Nat} [HasSl P tt E] [HasSl P tx E2] [HasTy P E ty] [HasBy P E by_] {x y : Operand} {tk tk2 : Tok} {n mm nm : Nat} {cs cs2 cs3 : List D} {V : TypeId} {pos : String} {af : Array Edge} {gd : Option (Nat × Bool)} (hg : gok ops ρ ⟨some t, .call { callee := .builtin .append, args := #[x, y], argTypes := #[tt, tx] }, V, pos, af, gd⟩ = some true)
    (hx : oev ρ x = some (.slice tk n cs)) (hy : oev ρ y = some (.slice tk2 mm cs2)) (hmay : tk.may m E ty.size mm) (hn1 : n * ty.size = cs.length) (hn2 : mm * ty.size = cs2.length) (hzl : ty.zero.length = ty.size) (hsm : n + mm ≤ 140737488355328) (hsz : (n + mm) * by_ ≤ 140737488355328) (hnm : n + mm = nm) (hcs : cs ++ cs2 = cs3)
    (hh : R P ops os (fun Es => K (⟨.slice (.own nx) nm cs3, [], (nx, some (.tok E ty.size)) :: tk.ends, [nx]⟩ :: Es)) ((t, .slice (.own nx) nm cs3) :: ρ) ((nx, some (.tok E ty.size)) :: (tk.ends ++ m)) (nx + 1)) : R P ops (⟨some t, .call { callee := .builtin .append, args := #[x, y], argTypes := #[tt, tx] }, V, pos, af, gd⟩ :: os) K ρ m nx :=
  R_new hg (r_appendB nx rfl hx hy hmay hn1 hn2 hzl hsm hsz hnm hcs) rfl hh
end
end Go.Proofs.YtcfefmbbbfdppaaGreatDoor
