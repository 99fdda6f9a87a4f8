/- guard: what its log says; plain. No conditions. -/
import Derived.Test.YtcfefmbbbfdppaaSGu11
import Derived.Test.YtcfefmbbbfdppaaSGl
namespace Go.Proofs.Ytcfefmbbbfdppaa
open Go.RowKit Go.Lib Go.IntWalk
set_option linter.unusedVariables false
set_option maxRecDepth 100000
def GuT.bare (x : GuT) : GuT := ⟨x.f, x.g, [], [], x.hd, x.dn⟩
inductive Stp where
  | w (n : Nat)
  | m (b : BodyT) (am : Nat)
def Stp.log : Stp → List UInt8
  | .w n => hrs n
  | .m b _ => 1 :: b.out
def Stp.go (x : GuT) : Stp → GuT
  | .w n => x.gone n
  | .m b am => x.take b am
def Stp.can (x : GuT) : Stp → Prop
  | .w n => 1 ≤ n ∧ n ≤ 1000 ∧ x.g.now + n ≤ 1099511627776 ∧ RInv (x.hd, x.dn) (tick x.g n).2 (x.hd.length + x.dn.length) ∧ (x.gone n).ok
  | .m b am => b.ok ∧ b.c < 3 ∧ b.u < 256 ∧ Wor b am ∧ (∀ q ∈ x.g.past ++ x.g.queue, q.id ≠ b.id) ∧ knowsB b.id (x.dn ++ x.hd) = false ∧ x.g.queue.length < 40 ∧ x.hd.length < 200 ∧ x.dn.length < 200 ∧ b.out.length ≤ 199 ∧ (x.take b am).ok
def ran (g : GT) (st : List Stp) : GuT := st.foldl Stp.go (g0T g)
theorem ran_snoc (g : GT) (st : List Stp) (s : Stp) : ran g (st ++ [s]) = s.go (ran g st) := by unfold ran; rw [List.foldl_append]; rfl
def recs (st : List Stp) : List (List UInt8) := st.map Stp.log
def Cans (g : GT) (st : List Stp) : Prop := ∀ j s, st[j]? = some s → s.can (ran g (st.take j)) ∧ (ran g (st.take j)).ok
theorem Cans.snoc {g : GT} {st : List Stp} (h : Cans g st) {s : Stp} (hs : s.can (ran g st)) (ho : (ran g st).ok) : Cans g (st ++ [s]) := by
  intro j t ht
  by_cases hj : j < st.length
  · rw [List.getElem?_append_left hj] at ht
    rw [List.take_append_of_le_length (by omega)]
    exact h j t ht
  · rw [List.getElem?_append_right (by omega)] at ht
    have hj2 : j - st.length = 0 := by
      have := (List.getElem?_eq_some_iff.1 ht).1
      simp at this; omega
    rw [hj2] at ht
    simp at ht
    subst ht
    have : j = st.length := by omega
    subst this
    rw [List.take_left]
    exact ⟨hs, ho⟩
theorem Stp.log_len {x : GuT} {s : Stp} (h : s.can x) : s.log.length ≤ 200 := by
  cases s with
  | w n => show 3 ≤ 200; decide
  | m b am => obtain ⟨_, _, _, _, _, _, _, _, _, h, _⟩ := h; show b.out.length + 1 ≤ 200; omega
theorem Cans.small {g : GT} {st : List Stp} (h : Cans g st) : ∀ r ∈ recs st, r.length ≤ 200 := by
  intro r hr
  obtain ⟨s, hs, rfl⟩ := List.mem_map.1 hr
  obtain ⟨j, hj⟩ := List.getElem?_of_mem hs
  exact Stp.log_len (h j s hj).1
theorem cat8_one (r : List UInt8) : cat8 [r] = rec8 r := by simp [cat8]
theorem opn_nil : opn [] = ([], 0) := opn_stop [] (.inl (by decide))
theorem opn_all (l : List (List UInt8)) (h : ∀ r ∈ l, r.length ≤ 200) : opn (cat8 l) = (l, (cat8 l).length) := by
  have := opn_cat l [] h
  rw [List.append_nil, opn_nil, List.append_nil] at this
  exact this
theorem opn_fall (l : List (List UInt8)) (h : ∀ r ∈ l, r.length ≤ 200) (r : List UInt8) (hr : r.length ≤ 200) (k : Nat) (hk : k < (rec8 r).length) : opn (cat8 l ++ (rec8 r).take k) = (l, (cat8 l).length) := by
  have := opn_cat l ((rec8 r).take k) h
  rw [opn_part r hr k hk, List.append_nil] at this
  exact this
def stp (i : Nat) (r : RawT) : Stp := if r.k % 4 = 0 then .w (1 + (r.a % 9).toNat) else .m (msgB i r) (msgA r)
def stl (l : List RawT) : Nat → List Stp
  | 0 => []
  | j + 1 => match l[j]? with
    | some r => stl l j ++ [stp j r]
    | none => stl l j
theorem stl_step (l : List RawT) (j : Nat) (r : RawT) (h : l[j]? = some r) : stl l (j + 1) = stl l j ++ [stp j r] := by
  show (match l[j]? with | some r => _ | none => _) = _
  rw [h]
theorem bare_step (x : GuT) (i : Nat) (r : RawT) : (lvS x i r).bare = (stp i r).go x.bare := by
  unfold lvS stp
  split
  · rfl
  · show _ = x.bare.take _ _
    unfold GuT.meet GuT.take
    by_cases h : x.g.fits (qOf x (msgB i r) (msgA r)) = true
    · have h' : x.bare.g.fits (qOf x.bare (msgB i r) (msgA r)) = true := h
      rw [if_pos h, if_pos h']; rfl
    · have h' : ¬ x.bare.g.fits (qOf x.bare (msgB i r) (msgA r)) = true := h
      rw [if_neg h, if_neg h']; rfl
theorem step_log (x : GuT) (i : Nat) (r : RawT) : (lvS x i r).la = x.la ++ rec8 (stp i r).log := by
  unfold lvS stp
  split
  · rfl
  · unfold GuT.meet GuT.take
    split <;> rfl
theorem LInv.bare {g0 : GT} {j n : Nat} {x : GuT} (h : LInv g0 j n x) : LInv g0 j n x.bare :=
  ⟨⟨h.ok.f, h.ok.g, Nat.zero_le _, h.ok.hd, h.ok.dn⟩, h.f, rfl, Nat.zero_le _, h.now, h.qid, h.bid, h.perm, h.cnt, h.n⟩
theorem LInv.up {g0 : GT} {j n : Nat} {x : GuT} (h : LInv g0 j n x) (i : Nat) (hi : j ≤ i) : LInv g0 i n x :=
  ⟨h.ok, h.f, h.si, by have := h.la; omega, by have := h.now; omega, fun q hq => Nat.lt_of_lt_of_le (h.qid q hq) hi, fun b hb => Nat.lt_of_lt_of_le (h.bid b hb) hi, h.perm, h.cnt, by have := h.n; omega⟩
theorem LInv.canm {g0 : GT} {j n : Nat} {x : GuT} (h : LInv g0 j n x) (hj : j ≤ 20) (r : RawT) : (Stp.m (msgB j r) (msgA r)).can x := by
  obtain ⟨a1, a2, a3, a4, a5⟩ := h.new r hj
  have hm := msg_ok j (by omega) r
  have hc3 : (msgB j r).c < 3 := by show (r.k % 3).toNat < 3; omega
  exact ⟨hm, hc3, by show j < 256; omega, msg_wor j r, a1, a2, a3, a4, a5, by rw [msg_outlen r j (by omega)]; decide, gtake_ok x h.ok (msgB j r) hm hc3 (by show j < 256; omega) (msgA r) (msg_wor j r) a1 a3 a4 a5⟩
theorem LInv.can {g0 : GT} {j n : Nat} {x : GuT} (h : LInv g0 j n x) (hj : j ≤ 20) (r : RawT) : (stp j r).can x := by
  unfold stp
  split
  · have hw := h.now
    have h9 : (r.a % 9).toNat < 9 := by omega
    exact ⟨by omega, by omega, by omega, h.rinv _, (h.gone _ (by omega) (by omega)).1⟩
  · exact h.canm hj r
theorem lv_ran (g : GT) (hg : Start g) (l : List RawT) : ∀ j, j ≤ l.length → j ≤ 20 → (lv g l j).bare = ran g (stl l j) ∧ (lv g l j).la = cat8 (recs (stl l j)) ∧ Cans g (stl l j)
  | 0, _, _ => ⟨rfl, rfl, fun j s h => by simp [stl] at h⟩
  | j + 1, hj, hj2 => by
    obtain ⟨i1, i2, i3⟩ := lv_ran g hg l j (by omega) (by omega)
    have hr : l[j]? = some (l[j]'(by omega)) := List.getElem?_eq_getElem (by omega)
    have hi := (lv_inv g hg l j (by omega) (by omega)).bare
    rw [i1] at hi
    rw [lv_step g l j _ hr, stl_step l j _ hr, bare_step, ran_snoc, i1, step_log, i2]
    refine ⟨rfl, ?_, i3.snoc (hi.can (by omega) _) hi.ok⟩
    unfold recs
    rw [List.map_append, cat8_app, List.map_cons, List.map_nil, cat8_one]
end Go.Proofs.Ytcfefmbbbfdppaa
