/- The laws' opened gate: what came, what was let go; plain, and as data. No conditions. -/
import Derived.Test.YtnlacdclnhoghaaGateP
import Derived.Test.YtnlacdclnhoghaaDMap
namespace Go.Proofs.Ytnlacdclnhoghaa
open Go.RowKit
set_option linter.unusedVariables false
set_option maxRecDepth 100000

/-- what passed, or was let go -/
structure PT where
  id : Nat
  val : Nat
  ch : Nat
  at_ : Nat
  held : Bool
def PT.cells (p : PT) : List D := [.int .i64 p.id, .int .i64 p.val, .int .i64 p.ch, .int .i64 p.at_, .bool p.held]
def psC (l : List PT) : List D := l.flatMap PT.cells
theorem ps_len (l : List PT) : (psC l).length = l.length * 5 := fl_len (f := PT.cells) (s := 5) (fun _ => rfl) l
theorem ps_app (a b : List PT) : psC (a ++ b) = psC a ++ psC b := List.flatMap_append
theorem ps_one (q : PT) : psC [q] = q.cells := by simp [psC]
theorem ps_cut (l : List PT) (j : Nat) (q : PT) (h : l[j]? = some q) (ze : List D) : cut ⟨true, 5, ze⟩ 0 ((psC l).drop ((j : Int).toNat * 5)) = some (.agg [.int .i64 q.id, .int .i64 q.val, .int .i64 q.ch, .int .i64 q.at_, .bool q.held]) := by
  have hl := ps_len l
  have hlt := (List.getElem?_eq_some_iff.1 h).1
  unfold cut
  simp only [cond_true, Int.toNat_natCast, Nat.zero_add, List.length_drop, hl, List.drop_zero]
  rw [Nat.ble_eq_true_of_le (by omega), cond_true]
  unfold psC
  rw [fl_at (f := PT.cells) (s := 5) (fun _ => rfl) l j q h]
  rfl
/-- the map of what came: its keys, its values -/
def mKs (l : List PT) : List Int := l.map fun p => (p.id : Int)
def mCs (l : List PT) : List D := l.map fun p => .agg p.cells
theorem kix_map : ∀ (l : List PT) (id : Nat), (∃ p ∈ l, p.id = id) → ∃ i p, kix (mKs l) (id : Int) = some i ∧ l[i]? = some p ∧ p.id = id ∧ l.find? (fun p => p.id == id) = some p
  | [], _, ⟨p, hp, _⟩ => absurd hp List.not_mem_nil
  | a :: l, id, ⟨p, hp, e⟩ => by
    by_cases ha : a.id = id
    · refine ⟨0, a, ?_, rfl, ha, by simp [ha]⟩
      show (bif ((a.id : Int) == (id : Int)) then some 0 else _) = _
      have : ((a.id : Int) == (id : Int)) = true := by simp [ha]
      rw [this, cond_true]
    · obtain ⟨i, q, h1, h2, h3, h4⟩ := kix_map l id ⟨p, (List.mem_cons.1 hp).resolve_left (fun h => ha (h ▸ e)), e⟩
      refine ⟨i + 1, q, ?_, by simpa using h2, h3, by rw [List.find?_cons, show (a.id == id) = false from by simpa using ha]; exact h4⟩
      show (bif ((a.id : Int) == (id : Int)) then some 0 else (kix (mKs l) id).map (· + 1)) = _
      have : ((a.id : Int) == (id : Int)) = false := by simp; omega
      rw [this, cond_false, h1]; rfl
theorem kix_none : ∀ (l : List PT) (id : Nat), (∀ p ∈ l, p.id ≠ id) → kix (mKs l) (id : Int) = none
  | [], _, _ => rfl
  | a :: l, id, h => by
    show (bif ((a.id : Int) == (id : Int)) then some 0 else (kix (mKs l) id).map (· + 1)) = _
    have h1 := h a (List.mem_cons.2 (.inl rfl))
    have : ((a.id : Int) == (id : Int)) = false := by simp; omega
    rw [this, cond_false, kix_none l id fun p hp => h p (List.mem_cons.2 (.inr hp))]; rfl

/-- the gate, what came, what was let go -/
structure OS where
  g : GT
  ps : List PT
  out : List PT
def letgo (ps : List PT) (now : Nat) (id : Nat) : PT :=
  match ps.find? (fun p => p.id == id) with
  | some p => ⟨p.id, p.val, p.ch, now, decide (24 ≤ now - p.at_)⟩
  | none => ⟨id, 0, 0, now, false⟩
def rH (r : RawT) : Nat := 1 + (r.a % 9).toNat
def rV (r : RawT) : Nat := (r.a % 70).toNat
def rC (r : RawT) : Nat := (r.b % 3).toNat
def openStep (s : OS) (i : Nat) (r : RawT) : OS :=
  if r.k % 3 = 0 then ⟨(tick s.g (rH r)).1, s.ps, s.out ++ (tick s.g (rH r)).2.map (letgo s.ps (s.g.now + rH r))⟩
  else if s.g.fits ⟨i, rV r, rC r, s.g.now⟩ = true then ⟨s.g.pass ⟨i, rV r, rC r, s.g.now⟩, s.ps ++ [⟨i, rV r, rC r, s.g.now, false⟩], s.out ++ [⟨i, rV r, rC r, s.g.now, false⟩]⟩
  else ⟨s.g.hold ⟨i, rV r, rC r, s.g.now⟩, s.ps ++ [⟨i, rV r, rC r, s.g.now, false⟩], s.out⟩
def opn (g : GT) (l : List RawT) : Nat → OS
  | 0 => ⟨g, [], []⟩
  | j + 1 => match l[j]? with
    | some r => openStep (opn g l j) j r
    | none => opn g l j
theorem opn_step (g : GT) (l : List RawT) (j : Nat) (r : RawT) (h : l[j]? = some r) : opn g l (j + 1) = openStep (opn g l j) j r := by
  show (match l[j]? with | some r => openStep (opn g l j) j r | none => opn g l j) = _
  rw [h]
/-- an opened gate at its start -/
structure Start (g : GT) : Prop where
  past : g.past = []
  queue : g.queue = []
  now : g.now < 50
  lims : ∀ x ∈ [g.l0, g.l1, g.l2, g.b0, g.b1, g.b2], x < 150
theorem Start.ok {g : GT} (h : Start g) : g.ok :=
  ⟨fun x hx => by have := h.lims x hx; omega, by have := h.now; omega, by rw [h.past]; exact Nat.zero_le _, by rw [h.queue]; exact Nat.zero_le _, by rw [h.past, h.queue]; exact fun x hx => absurd hx List.not_mem_nil, by rw [h.past, h.queue]; exact List.nodup_nil⟩
/-- what holds of the state -/
structure OInv (g0 : GT) (j : Nat) (s : OS) : Prop where
  ok : s.g.ok
  same : Same g0 s.g s.g.now
  now : s.g.now ≤ 50 + 9 * j
  qps : ∀ q ∈ s.g.queue, ∃ p ∈ s.ps, p.id = q.id ∧ p.val = q.val ∧ p.ch = q.ch ∧ p.at_ = q.at_
  idlt : ∀ q ∈ s.g.past ++ s.g.queue, q.id < j
  psid : ∀ p ∈ s.ps, p.id < j
  pnd : (s.ps.map PT.id).Nodup
  len : s.g.queue.length ≤ j
  olen : s.out.length + s.g.queue.length ≤ j
  ond : (s.out.map PT.id ++ s.g.queue.map QT.id).Nodup
  oid : ∀ p ∈ s.out, p.id < j
  big : ∀ p ∈ s.out, p.held = false → p.val < g0.big p.ch
  och : ∀ p ∈ s.out, p.ch < 3
  pat : ∀ p ∈ s.ps, p.at_ ≤ s.g.now
theorem letgo_of {ps : List PT} {p : PT} (hp : p ∈ ps) (now : Nat) (hnd : (ps.map PT.id).Nodup) : letgo ps now p.id = ⟨p.id, p.val, p.ch, now, decide (24 ≤ now - p.at_)⟩ := by
  obtain ⟨i, q, _, h2, h3, h4⟩ := kix_map ps p.id ⟨p, hp, rfl⟩
  unfold letgo
  rw [h4]
  have : q = p := by
    obtain ⟨k, hk⟩ := List.getElem?_of_mem hp
    have e1 : (ps.map PT.id)[i]? = some p.id := by rw [List.getElem?_map, h2]; simp [h3]
    have e2 : (ps.map PT.id)[k]? = some p.id := by rw [List.getElem?_map, hk]; rfl
    obtain ⟨l1, l1'⟩ := List.getElem?_eq_some_iff.1 e1
    obtain ⟨l2, l2'⟩ := List.getElem?_eq_some_iff.1 e2
    rcases Nat.lt_trichotomy i k with h | h | h
    · exact absurd (l1'.trans l2'.symm) (List.pairwise_iff_getElem.1 hnd i k l1 l2 h)
    · rw [h, hk] at h2; exact (Option.some.inj h2).symm
    · exact absurd (l2'.trans l1'.symm) (List.pairwise_iff_getElem.1 hnd k i l2 l1 h)
  rw [this]
/-- what is let go, seen one by one -/
structure Gone (g : GT) (h : Nat) (id : Nat) : Prop where
  ex : ∃ q ∈ g.queue, q.id = id ∧ (24 ≤ g.now + h - q.at_ ∨ q.val < g.big q.ch)
theorem tick_gone (g : GT) (h : Nat) : ∀ id ∈ (tick g h).2, Gone g h id :=
  (tick_fold g h (fun _ s => Same g s.1 (g.now + h) ∧ ∀ id ∈ s.2, Gone g h id) ⟨⟨rfl, rfl, rfl, rfl, rfl, rfl, rfl⟩, fun id hid => absurd hid List.not_mem_nil⟩ fun j s x hx hs => ⟨hs.1.step x, fun id hid => by
    rcases tick_out s x with ⟨e, h2⟩ | ⟨e, _, h2⟩ | ⟨e, _⟩ <;> rw [e] at hid
    · rcases List.mem_append.1 hid with hid | hid
      · exact hs.2 id hid
      · rw [List.mem_singleton.1 hid]
        exact ⟨x, List.mem_of_getElem? hx, rfl, .inl (by rw [hs.1.now] at h2; exact h2)⟩
    · rcases List.mem_append.1 hid with hid | hid
      · exact hs.2 id hid
      · rw [List.mem_singleton.1 hid]
        unfold GT.fits at h2
        simp only [Bool.and_eq_true, decide_eq_true_eq] at h2
        exact ⟨x, List.mem_of_getElem? hx, rfl, .inr (by rw [← hs.1.big]; exact h2.1)⟩
    · exact hs.2 id hid⟩).2
theorem fits_big {g : GT} {x : QT} (h : g.fits x = true) : x.val < g.big x.ch ∧ used x.ch g.now g.past + x.val ≤ g.lim x.ch ∧ g.past.length < 40 := by
  unfold GT.fits at h
  simpa only [Bool.and_eq_true, decide_eq_true_eq] using h
theorem rC_lt (r : RawT) : rC r < 3 := by unfold rC; omega
theorem rV_lt (r : RawT) : rV r < 70 := by unfold rV; omega
theorem rH_le (r : RawT) : rH r ≤ 9 := by unfold rH; omega
theorem pass_ok {g : GT} (hg : g.ok) {x : QT} (hx : x.val ≤ 1073741824 ∧ x.ch < 3 ∧ x.at_ ≤ g.now ∧ x.id < 1099511627776) (hn : ∀ q ∈ g.past ++ g.queue, q.id ≠ x.id) (hl : g.past.length < 40) : (g.pass x).ok := by
  refine ⟨hg.lims, hg.now, by show (g.past ++ [x]).length ≤ 40; rw [List.length_append]; simp; omega, hg.qlen, fun y hy => ?_, ?_⟩
  · have hy : y ∈ (g.past ++ [x]) ++ g.queue := hy
    rcases List.mem_append.1 hy with hy | hy
    · rcases List.mem_append.1 hy with hy | hy
      · exact hg.each y (List.mem_append.2 (.inl hy))
      · rw [List.mem_singleton.1 hy]; exact hx
    · exact hg.each y (List.mem_append.2 (.inr hy))
  · show (((g.past ++ [x]) ++ g.queue).map QT.id).Nodup
    have : (x.id :: (g.past ++ g.queue).map QT.id).Nodup := List.nodup_cons.2 ⟨fun hm => by
      obtain ⟨q, hq, e⟩ := List.mem_map.1 hm
      exact hn q hq e, hg.ids⟩
    refine (List.Perm.nodup_iff ?_).1 this
    simp only [List.map_append, List.map_cons, List.append_assoc, List.singleton_append]
    exact List.perm_middle.symm
theorem hold_ok {g : GT} (hg : g.ok) {x : QT} (hx : x.val ≤ 1073741824 ∧ x.ch < 3 ∧ x.at_ ≤ g.now ∧ x.id < 1099511627776) (hn : ∀ q ∈ g.past ++ g.queue, q.id ≠ x.id) (hl : g.queue.length < 40) : (g.hold x).ok := by
  refine ⟨hg.lims, hg.now, hg.plen, by show (g.queue ++ [x]).length ≤ 40; rw [List.length_append]; simp; omega, fun y hy => ?_, ?_⟩
  · have hy : y ∈ g.past ++ (g.queue ++ [x]) := hy
    rw [← List.append_assoc] at hy
    rcases List.mem_append.1 hy with hy | hy
    · exact hg.each y hy
    · rw [List.mem_singleton.1 hy]; exact hx
  · show ((g.past ++ (g.queue ++ [x])).map QT.id).Nodup
    have : (x.id :: (g.past ++ g.queue).map QT.id).Nodup := List.nodup_cons.2 ⟨fun hm => by
      obtain ⟨q, hq, e⟩ := List.mem_map.1 hm
      exact hn q hq e, hg.ids⟩
    refine (List.Perm.nodup_iff ?_).1 this
    rw [← List.append_assoc, List.map_append (l₁ := g.past ++ g.queue)]
    exact (List.perm_append_singleton _ _).symm
theorem nodup_app_snoc {a b : List Nat} {x : Nat} (h : (a ++ b).Nodup) (hx : ∀ y ∈ a ++ b, y ≠ x) : (a ++ [x] ++ b).Nodup ∧ (a ++ (b ++ [x])).Nodup := by
  have h1 : (x :: (a ++ b)).Nodup := List.nodup_cons.2 ⟨fun hm => hx x hm rfl, h⟩
  constructor
  · refine (List.Perm.nodup_iff ?_).1 h1
    simp only [List.append_assoc, List.singleton_append]
    exact List.perm_middle.symm
  · refine (List.Perm.nodup_iff ?_).1 h1
    rw [← List.append_assoc]
    exact (List.perm_append_singleton _ _).symm
theorem opn_inv (g0 : GT) (hg : Start g0) (l : List RawT) : ∀ j, j ≤ l.length → j ≤ 40 → OInv g0 j (opn g0 l j)
  | 0, _, _ => ⟨hg.ok, ⟨rfl, rfl, rfl, rfl, rfl, rfl, rfl⟩, by have := hg.now; show g0.now ≤ _; omega, by show ∀ q ∈ g0.queue, _; rw [hg.queue]; exact fun q hq => absurd hq List.not_mem_nil, by show ∀ q ∈ g0.past ++ g0.queue, _; rw [hg.past, hg.queue]; exact fun q hq => absurd hq List.not_mem_nil, fun p hp => absurd hp List.not_mem_nil, List.nodup_nil, by show g0.queue.length ≤ _; rw [hg.queue]; exact Nat.zero_le _, by show 0 + g0.queue.length ≤ _; rw [hg.queue]; exact Nat.zero_le _, by show ([] ++ g0.queue.map QT.id).Nodup; rw [hg.queue]; exact List.nodup_nil, fun p hp => absurd hp List.not_mem_nil, fun p hp => absurd hp List.not_mem_nil, fun p hp => absurd hp List.not_mem_nil, fun p hp => absurd hp List.not_mem_nil⟩
  | j + 1, hj, h40 => by
    obtain ⟨r, hr⟩ : ∃ r, l[j]? = some r := ⟨_, List.getElem?_eq_getElem (by omega)⟩
    have ih := opn_inv g0 hg l j (by omega) (by omega)
    rw [opn_step g0 l j r hr]
    generalize opn g0 l j = s at *
    have hc := rC_lt r
    have hv := rV_lt r
    have hh := rH_le r
    have hnow := ih.now
    unfold openStep
    by_cases hk : r.k % 3 = 0
    · rw [if_pos hk]
      have hok := tick_ok s.g ih.ok (rH r) (by omega)
      have hsm := tick_same s.g (rH r)
      have hpm := tick_perm s.g (rH r)
      have hq := tick_queue s.g (rH r)
      have hp := tick_past s.g (rH r)
      have hgo := tick_gone s.g (rH r)
      have hlg : ∀ id ∈ (tick s.g (rH r)).2, ∃ q ∈ s.g.queue, ∃ p ∈ s.ps, q.id = id ∧ p.id = id ∧ letgo s.ps (s.g.now + rH r) id = ⟨p.id, p.val, p.ch, s.g.now + rH r, decide (24 ≤ s.g.now + rH r - p.at_)⟩ ∧ p.val = q.val ∧ p.ch = q.ch ∧ p.at_ = q.at_ ∧ (24 ≤ s.g.now + rH r - q.at_ ∨ q.val < s.g.big q.ch) := fun id hid => by
        obtain ⟨q, hq1, hq2, hq3⟩ := (hgo id hid).ex
        obtain ⟨p, hp1, e1, e2, e3, e4⟩ := ih.qps q hq1
        refine ⟨q, hq1, p, hp1, hq2, e1.trans hq2, ?_, e2, e3, e4, hq3⟩
        have := letgo_of hp1 (s.g.now + rH r) ih.pnd
        rw [e1, hq2] at this
        rw [this, e1, hq2]
      have hids : ((tick s.g (rH r)).2.map (letgo s.ps (s.g.now + rH r))).map PT.id = (tick s.g (rH r)).2 := by
        rw [List.map_map]
        conv => rhs; rw [← List.map_id (tick s.g (rH r)).2]
        apply List.map_congr_left
        intro id hid
        obtain ⟨q, _, p, _, _, e2, e3, _⟩ := hlg id hid
        show (letgo s.ps (s.g.now + rH r) id).id = id
        rw [e3]; exact e2
      have hplen : (tick s.g (rH r)).2.length + (tick s.g (rH r)).1.queue.length = s.g.queue.length := by
        have := hpm.length_eq
        rw [List.length_append, List.length_map, List.length_map] at this; exact this
      refine ⟨hok, ⟨by rw [hsm.l0]; exact ih.same.l0, by rw [hsm.l1]; exact ih.same.l1, by rw [hsm.l2]; exact ih.same.l2, by rw [hsm.b0]; exact ih.same.b0, by rw [hsm.b1]; exact ih.same.b1, by rw [hsm.b2]; exact ih.same.b2, rfl⟩, by show (tick s.g (rH r)).1.now ≤ _; rw [hsm.now]; omega, fun q hq' => ih.qps q (hq q hq'), fun q hq' => ?_, fun p hp' => by have := ih.psid p hp'; omega, ih.pnd, by have := ih.len; show (tick s.g (rH r)).1.queue.length ≤ _; omega, ?_, ?_, fun p hp' => ?_, fun p hp' hh' => ?_, fun p hp' => ?_, fun p hp' => by have := ih.pat p hp'; show p.at_ ≤ (tick s.g (rH r)).1.now; rw [hsm.now]; omega⟩
      · rcases List.mem_append.1 hq' with hq' | hq'
        · obtain ⟨y, hy, e, _⟩ := hp q hq'
          have := ih.idlt y hy
          show q.id < _; omega
        · have := ih.idlt q (List.mem_append.2 (.inr (hq q hq'))); omega
      · show (s.out ++ _).length + _ ≤ _
        have := ih.olen
        rw [List.length_append, List.length_map]; show _ + _ + (tick s.g (rH r)).1.queue.length ≤ _; omega
      · show ((s.out ++ _).map PT.id ++ (tick s.g (rH r)).1.queue.map QT.id).Nodup
        rw [List.map_append, hids, List.append_assoc]
        exact (List.Perm.nodup_iff (List.Perm.append_left _ hpm.symm)).1 ih.ond
      · rcases List.mem_append.1 hp' with hp' | hp'
        · have := ih.oid p hp'; omega
        · obtain ⟨id, hid, rfl⟩ := List.mem_map.1 hp'
          obtain ⟨q, _, p, hpp, _, e2, e3, _⟩ := hlg id hid
          rw [e3]; have := ih.psid p hpp; show p.id < _; omega
      · rcases List.mem_append.1 hp' with hp' | hp'
        · exact ih.big p hp' hh'
        · obtain ⟨id, hid, rfl⟩ := List.mem_map.1 hp'
          obtain ⟨q, _, p, hpp, _, e2, e3, e4, e5, e6, e7⟩ := hlg id hid
          rw [e3] at hh' ⊢
          have hh' : decide (24 ≤ s.g.now + rH r - p.at_) = false := hh'
          have := of_decide_eq_false hh'
          show p.val < g0.big p.ch
          rw [e4, e5]
          rcases e7 with e7 | e7
          · rw [e6] at this; omega
          · rw [ih.same.big] at e7; exact e7
      · rcases List.mem_append.1 hp' with hp' | hp'
        · exact ih.och p hp'
        · obtain ⟨id, hid, rfl⟩ := List.mem_map.1 hp'
          obtain ⟨q, hqq, p, hpp, _, e2, e3, e4, e5, _⟩ := hlg id hid
          rw [e3]; show p.ch < 3; rw [e5]; exact (ih.ok.each q (List.mem_append.2 (.inr hqq))).2.1
    · rw [if_neg hk]
      have hx : (⟨j, rV r, rC r, s.g.now⟩ : QT).val ≤ 1073741824 ∧ (⟨j, rV r, rC r, s.g.now⟩ : QT).ch < 3 ∧ (⟨j, rV r, rC r, s.g.now⟩ : QT).at_ ≤ s.g.now ∧ (⟨j, rV r, rC r, s.g.now⟩ : QT).id < 1099511627776 := ⟨by show rV r ≤ _; omega, hc, Nat.le_refl _, by show j < _; omega⟩
      have hn : ∀ q ∈ s.g.past ++ s.g.queue, q.id ≠ (⟨j, rV r, rC r, s.g.now⟩ : QT).id := fun q hq => by have := ih.idlt q hq; show q.id ≠ j; omega
      have hndp : ((s.ps ++ [(⟨j, rV r, rC r, s.g.now, false⟩ : PT)]).map PT.id).Nodup := by
        have := (nodup_app_snoc (a := s.ps.map PT.id) (b := []) (x := j) (by rw [List.append_nil]; exact ih.pnd) (fun y hy => by
          rw [List.append_nil] at hy
          obtain ⟨p, hp, rfl⟩ := List.mem_map.1 hy
          have := ih.psid p hp; omega)).1
        rw [List.append_nil] at this
        rw [List.map_append]; exact this
      have hoq : ∀ y ∈ s.out.map PT.id ++ s.g.queue.map QT.id, y ≠ j := fun y hy => by
        rcases List.mem_append.1 hy with hy | hy
        · obtain ⟨p, hp, rfl⟩ := List.mem_map.1 hy
          have := ih.oid p hp; omega
        · obtain ⟨p, hp, rfl⟩ := List.mem_map.1 hy
          have := ih.idlt p (List.mem_append.2 (.inr hp)); omega
      have hno := nodup_app_snoc ih.ond hoq
      have hpsid : ∀ p ∈ s.ps ++ [(⟨j, rV r, rC r, s.g.now, false⟩ : PT)], p.id < j + 1 := fun p hp => by
        rcases List.mem_append.1 hp with hp | hp
        · have := ih.psid p hp; omega
        · rw [List.mem_singleton.1 hp]; exact Nat.lt_succ_self _
      have hpat : ∀ p ∈ s.ps ++ [(⟨j, rV r, rC r, s.g.now, false⟩ : PT)], p.at_ ≤ s.g.now := fun p hp => by
        rcases List.mem_append.1 hp with hp | hp
        · exact ih.pat p hp
        · rw [List.mem_singleton.1 hp]; exact Nat.le_refl _
      have hln := ih.len
      have hol := ih.olen
      by_cases hf : s.g.fits ⟨j, rV r, rC r, s.g.now⟩ = true
      · rw [if_pos hf]
        obtain ⟨f1, f2, f3⟩ := fits_big hf
        refine ⟨pass_ok ih.ok hx hn f3, ⟨ih.same.l0, ih.same.l1, ih.same.l2, ih.same.b0, ih.same.b1, ih.same.b2, rfl⟩, by show s.g.now ≤ _; omega, fun q hq => ?_, fun q hq => ?_, hpsid, hndp, by show s.g.queue.length ≤ _; omega, by show (s.out ++ [_]).length + s.g.queue.length ≤ _; rw [List.length_append]; simp; omega, by show ((s.out ++ [_]).map PT.id ++ s.g.queue.map QT.id).Nodup; rw [List.map_append]; exact hno.1, fun p hp => ?_, fun p hp hh' => ?_, fun p hp => ?_, hpat⟩
        · obtain ⟨p, hp, e⟩ := ih.qps q hq
          exact ⟨p, List.mem_append.2 (.inl hp), e⟩
        · have hq : q ∈ (s.g.past ++ [_]) ++ s.g.queue := hq
          rcases List.mem_append.1 hq with hq | hq
          · rcases List.mem_append.1 hq with hq | hq
            · have := ih.idlt q (List.mem_append.2 (.inl hq)); omega
            · rw [List.mem_singleton.1 hq]; exact Nat.lt_succ_self _
          · have := ih.idlt q (List.mem_append.2 (.inr hq)); omega
        · rcases List.mem_append.1 hp with hp | hp
          · have := ih.oid p hp; omega
          · rw [List.mem_singleton.1 hp]; exact Nat.lt_succ_self _
        · rcases List.mem_append.1 hp with hp | hp
          · exact ih.big p hp hh'
          · rw [List.mem_singleton.1 hp]
            show rV r < g0.big (rC r)
            rw [← ih.same.big]; exact f1
        · rcases List.mem_append.1 hp with hp | hp
          · exact ih.och p hp
          · rw [List.mem_singleton.1 hp]; exact hc
      · rw [if_neg hf]
        refine ⟨hold_ok ih.ok hx hn (by omega), ⟨ih.same.l0, ih.same.l1, ih.same.l2, ih.same.b0, ih.same.b1, ih.same.b2, rfl⟩, by show s.g.now ≤ _; omega, fun q hq => ?_, fun q hq => ?_, hpsid, hndp, by show (s.g.queue ++ [_]).length ≤ _; rw [List.length_append]; simp; omega, by show s.out.length + (s.g.queue ++ [_]).length ≤ _; rw [List.length_append]; simp; omega, by show (s.out.map PT.id ++ (s.g.queue ++ [_]).map QT.id).Nodup; rw [List.map_append]; exact hno.2, fun p hp => by have := ih.oid p hp; omega, ih.big, ih.och, hpat⟩
        · have hq : q ∈ s.g.queue ++ [_] := hq
          rcases List.mem_append.1 hq with hq | hq
          · obtain ⟨p, hp, e⟩ := ih.qps q hq
            exact ⟨p, List.mem_append.2 (.inl hp), e⟩
          · exact ⟨⟨j, rV r, rC r, s.g.now, false⟩, List.mem_append.2 (.inr (List.mem_singleton.2 rfl)), by rw [List.mem_singleton.1 hq]; exact ⟨rfl, rfl, rfl, rfl⟩⟩
        · have hq : q ∈ s.g.past ++ (s.g.queue ++ [_]) := hq
          rw [← List.append_assoc] at hq
          rcases List.mem_append.1 hq with hq | hq
          · have := ih.idlt q hq; omega
          · rw [List.mem_singleton.1 hq]; exact Nat.lt_succ_self _
end Go.Proofs.Ytnlacdclnhoghaa
