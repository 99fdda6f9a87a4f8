/- guard: what lives; plain. No conditions. -/
import Derived.Test.YtcfefmbbbfdppaaSGu8
import Derived.Test.YtcfefmbbbfdppaaSGateR
namespace Go.Proofs.Ytcfefmbbbfdppaa
open Go.RowKit Go.Lib Go.IntWalk
set_option linter.unusedVariables false
set_option maxRecDepth 100000
theorem rel_fst : ∀ (ids : List Nat) (s : List BodyT × List BodyT), (rel s ids).1 = s.1.filter (fun b => decide (b.id ∉ ids))
  | [], s => by
    show s.1 = _
    exact (List.filter_eq_self.2 fun b _ => by simp).symm
  | i :: ids, s => by
    show (rel (rel1 s i) ids).1 = _
    rw [rel_fst ids (rel1 s i)]
    show (s.1.filter _).filter _ = _
    rw [List.filter_filter]
    congr 1
    funext b
    by_cases h : b.id = i <;> simp [h]
theorem rel_mem : ∀ (ids : List Nat) (s : List BodyT × List BodyT) (b : BodyT), b ∈ (rel s ids).1 ∨ b ∈ (rel s ids).2 → b ∈ s.1 ∨ b ∈ s.2
  | [], s, b, h => h
  | i :: ids, s, b, h => by
    rcases rel_mem ids (rel1 s i) b h with h | h
    · exact .inl (List.mem_filter.1 h).1
    · rcases List.mem_append.1 h with h | h
      · exact .inr h
      · exact .inl (List.mem_filter.1 h).1
structure LInv (g0 : GT) (j n : Nat) (x : GuT) : Prop where
  ok : x.ok
  f : x.f = g0
  si : x.si = []
  la : x.la.length ≤ 192 * j
  now : x.g.now ≤ 50 + 9 * j
  qid : ∀ q ∈ x.g.past ++ x.g.queue, q.id % 256 < j
  bid : ∀ b ∈ x.dn ++ x.hd, b.u < j
  perm : (x.hd.map BodyT.id).Perm (x.g.queue.map QT.id)
  cnt : x.hd.length + x.dn.length = n
  n : n ≤ j
theorem nodup_queue {g : GT} (hg : g.ok) : (g.queue.map QT.id).Nodup := by
  have := hg.ids
  rw [List.map_append] at this
  exact (List.nodup_append.1 this).2.1
theorem LInv.rinv {g0 : GT} {j n : Nat} {x : GuT} (h : LInv g0 j n x) (k : Nat) : RInv (x.hd, x.dn) (tick x.g k).2 (x.hd.length + x.dn.length) := by
  have hp := tick_perm x.g k
  have hn : ((tick x.g k).2 ++ (tick x.g k).1.queue.map QT.id).Nodup := hp.nodup_iff.2 (nodup_queue h.ok.g)
  refine ⟨h.perm.nodup_iff.2 (nodup_queue h.ok.g), fun id hid => ?_, (List.nodup_append.1 hn).1, h.ok.hd.ok, h.ok.dn.ok, rfl⟩
  have : id ∈ x.hd.map BodyT.id := h.perm.mem_iff.2 (hp.mem_iff.1 (List.mem_append.2 (.inl hid)))
  obtain ⟨b, hb, e⟩ := List.mem_map.1 this
  exact ⟨b, hb, e⟩
theorem LInv.gone {g0 : GT} {j n : Nat} {x : GuT} (h : LInv g0 j n x) (k : Nat) (hk : x.g.now + k ≤ 1099511627776) (hj : j ≤ 30) : (x.gone k).ok ∧ ((x.gone k).hd.map BodyT.id).Perm ((x.gone k).g.queue.map QT.id) ∧ (x.gone k).hd.length + (x.gone k).dn.length = n ∧ (∀ b ∈ (x.gone k).dn ++ (x.gone k).hd, b.u < j) ∧ ∀ q ∈ (x.gone k).g.past ++ (x.gone k).g.queue, q.id % 256 < j := by
  have hr := h.rinv k
  have he := hr.at_ _ (Nat.le_refl _)
  rw [List.take_length, List.drop_length] at he
  have hlen := he.len
  have hc := h.cnt
  have hn := h.n
  refine ⟨⟨h.ok.f, tick_ok x.g h.ok.g k hk, h.ok.log, ⟨he.h, ?_⟩, ⟨he.d, ?_⟩⟩, ?_, ?_, ?_, ?_⟩
  · show (rel (x.hd, x.dn) (tick x.g k).2).1.length ≤ 200; omega
  · show (rel (x.hd, x.dn) (tick x.g k).2).2.length ≤ 200; omega
  · show ((rel (x.hd, x.dn) (tick x.g k).2).1.map BodyT.id).Perm ((tick x.g k).1.queue.map QT.id)
    rw [rel_fst]
    have e1 : (x.hd.filter (fun b => decide (b.id ∉ (tick x.g k).2))).map BodyT.id = (x.hd.map BodyT.id).filter (fun i => decide (i ∉ (tick x.g k).2)) := by rw [List.filter_map]; rfl
    have hp := tick_perm x.g k
    have hnd : ((tick x.g k).2 ++ (tick x.g k).1.queue.map QT.id).Nodup := hp.nodup_iff.2 (nodup_queue h.ok.g)
    show ((x.hd.filter _).map BodyT.id).Perm _
    rw [e1]
    refine (h.perm.filter _).trans ((hp.symm.filter _).trans ?_)
    rw [List.filter_append, List.filter_eq_nil_iff.2 (fun i hi => by simpa using hi), List.filter_eq_self.2 (fun i hi => by
      refine decide_eq_true fun hm => ?_
      exact (List.nodup_append.1 hnd).2.2 i hm i hi rfl)]
    exact List.Perm.refl _
  · show (rel (x.hd, x.dn) (tick x.g k).2).1.length + (rel (x.hd, x.dn) (tick x.g k).2).2.length = n
    omega
  · intro b hb
    refine h.bid b ?_
    rcases rel_mem (tick x.g k).2 (x.hd, x.dn) b ((List.mem_append.1 hb).symm) with h | h
    · exact List.mem_append.2 (.inr h)
    · exact List.mem_append.2 (.inl h)
  · intro q hq
    rcases List.mem_append.1 hq with hq | hq
    · obtain ⟨y, hy, e, _⟩ := tick_past x.g k q hq
      rw [← e]; exact h.qid y hy
    · exact h.qid q (List.mem_append.2 (.inr (tick_queue x.g k q hq)))
theorem LInv.wait {g0 : GT} {j n : Nat} {x : GuT} (h : LInv g0 j n x) (k : Nat) (hk : k ≤ 9) (hj : j ≤ 20) : LInv g0 (j + 1) n (x.wait k) := by
  have hw := h.now
  obtain ⟨h1, h2, h3, h4, h5⟩ := h.gone k (by omega) (by omega)
  have hl := h.la
  have hrl := rec8_len (hrs k)
  have hrl3 : (hrs k).length = 3 := rfl
  have hla : (x.wait k).la.length = x.la.length + (rec8 (hrs k)).length := List.length_append
  refine ⟨⟨h1.f, h1.g, ?_, h1.hd, h1.dn⟩, h.f, rfl, ?_, ?_, fun q hq => Nat.lt_succ_of_lt (h5 q hq), fun b hb => Nat.lt_succ_of_lt (h4 b hb), h2, h3, by have := h.n; omega⟩
  · show (x.wait k).la.length + 0 ≤ 9000; omega
  · omega
  · show (tick x.g k).1.now ≤ _
    rw [(tick_same x.g k).now]; omega
theorem msg_id (j : Nat) (r : RawT) : (msgB j r).id = (r.k % 3).toNat * 256 + j := rfl
theorem msg_outlen (r : RawT) (i : Nat) (hi : i < 256) : (msgB i r).out.length = 188 := by
  rw [(msgB i r).out_len (msg_ok i hi r)]
  show 55 + (trO _ _ _).length = _
  rw [trO_len _ _ _ rfl rfl]
section
variable {g0 : GT} {j n : Nat} {x : GuT} (h : LInv g0 j n x) (r : RawT) (hj : j ≤ 20)
include h hj
theorem LInv.new : (∀ q ∈ x.g.past ++ x.g.queue, q.id ≠ (msgB j r).id) ∧ knowsB (msgB j r).id (x.dn ++ x.hd) = false ∧ x.g.queue.length < 40 ∧ x.hd.length < 200 ∧ x.dn.length < 200 := by
  have hq : x.g.queue.length = x.hd.length := by have := h.perm.length_eq; simpa using this.symm
  have hc := h.cnt
  have hn := h.n
  refine ⟨fun q hq e => ?_, ?_, by omega, by omega, by omega⟩
  · have := h.qid q hq
    rw [e, msg_id] at this
    omega
  · unfold knowsB
    rw [List.any_eq_false]
    intro b hb
    have hb2 := h.bid b hb
    rw [msg_id]
    unfold BodyT.id
    simp only [decide_eq_true_eq]
    omega
theorem LInv.meet : LInv g0 (j + 1) (n + 1) (x.meet (msgB j r) (msgA r)) := by
  obtain ⟨a1, a2, a3, a4, a5⟩ := h.new r hj
  have hm := msg_ok j (by omega) r
  have hc3 : (msgB j r).c < 3 := by show (r.k % 3).toNat < 3; omega
  have hok := gtake_ok x h.ok (msgB j r) hm hc3 (by show j < 256; omega) (msgA r) (msg_wor j r) a1 a3 a4 a5
  have hol := msg_outlen r j (by omega)
  have hla := h.la
  have hrl := rec8_len (1 :: (msgB j r).out)
  have hc := h.cnt
  have hsi := h.si
  have hlog : (x.take (msgB j r) (msgA r)).la = x.la := by unfold GuT.take; split <;> rfl
  have hl2 : (x.meet (msgB j r) (msgA r)).la.length = x.la.length + (rec8 (1 :: (msgB j r).out)).length := by
    show ((x.take (msgB j r) (msgA r)).la ++ _).length = _
    rw [hlog, List.length_append]
  rw [List.length_cons, hol] at hrl
  have hidm : (msgB j r).id % 256 = j := by rw [msg_id]; omega
  refine ⟨⟨hok.f, hok.g, ?_, hok.hd, hok.dn⟩, ?_, rfl, ?_, ?_, ?_, ?_, ?_, ?_, by have := h.n; omega⟩
  · show (x.meet (msgB j r) (msgA r)).la.length + 0 ≤ 9000; omega
  · show (x.take (msgB j r) (msgA r)).f = g0
    rw [← h.f]; unfold GuT.take; split <;> rfl
  · omega
  · have : (x.take (msgB j r) (msgA r)).g.now = x.g.now := by unfold GuT.take; split <;> rfl
    show (x.take (msgB j r) (msgA r)).g.now ≤ _
    have := h.now; omega
  · intro q hq
    have hq : q ∈ (x.take (msgB j r) (msgA r)).g.past ++ (x.take (msgB j r) (msgA r)).g.queue := hq
    have hor : q ∈ x.g.past ++ x.g.queue ∨ q = qOf x (msgB j r) (msgA r) := by
      unfold GuT.take at hq
      split at hq
      · rcases List.mem_append.1 hq with hq | hq
        · rcases List.mem_append.1 hq with hq | hq
          · exact .inl (List.mem_append.2 (.inl hq))
          · exact .inr (List.mem_singleton.1 hq)
        · exact .inl (List.mem_append.2 (.inr hq))
      · rcases List.mem_append.1 hq with hq | hq
        · exact .inl (List.mem_append.2 (.inl hq))
        · rcases List.mem_append.1 hq with hq | hq
          · exact .inl (List.mem_append.2 (.inr hq))
          · exact .inr (List.mem_singleton.1 hq)
    rcases hor with hq | rfl
    · exact Nat.lt_succ_of_lt (h.qid q hq)
    · show (msgB j r).id % 256 < j + 1; omega
  · intro b hb
    have hb : b ∈ (x.take (msgB j r) (msgA r)).dn ++ (x.take (msgB j r) (msgA r)).hd := hb
    have hor : b ∈ x.dn ++ x.hd ∨ b = msgB j r := by
      unfold GuT.take at hb
      split at hb
      · rcases List.mem_append.1 hb with hb | hb
        · rcases List.mem_append.1 hb with hb | hb
          · exact .inl (List.mem_append.2 (.inl hb))
          · exact .inr (List.mem_singleton.1 hb)
        · exact .inl (List.mem_append.2 (.inr hb))
      · rcases List.mem_append.1 hb with hb | hb
        · exact .inl (List.mem_append.2 (.inl hb))
        · rcases List.mem_append.1 hb with hb | hb
          · exact .inl (List.mem_append.2 (.inr hb))
          · exact .inr (List.mem_singleton.1 hb)
    rcases hor with hb | rfl
    · exact Nat.lt_succ_of_lt (h.bid b hb)
    · show j < j + 1; omega
  · show ((x.take (msgB j r) (msgA r)).hd.map BodyT.id).Perm ((x.take (msgB j r) (msgA r)).g.queue.map QT.id)
    unfold GuT.take
    split
    · exact h.perm
    · show ((x.hd ++ [msgB j r]).map BodyT.id).Perm ((x.g.queue ++ [qOf x (msgB j r) (msgA r)]).map QT.id)
      rw [List.map_append, List.map_append]
      exact h.perm.append_right _
  · show (x.take (msgB j r) (msgA r)).hd.length + (x.take (msgB j r) (msgA r)).dn.length = n + 1
    unfold GuT.take
    split
    · show x.hd.length + (x.dn ++ [msgB j r]).length = n + 1
      rw [List.length_append]; simp; omega
    · show (x.hd ++ [msgB j r]).length + x.dn.length = n + 1
      rw [List.length_append]; simp; omega
omit h hj in
theorem LInv.knows : knowsB (msgB j r).id ((x.meet (msgB j r) (msgA r)).dn ++ (x.meet (msgB j r) (msgA r)).hd) = true := by
  have hm : msgB j r ∈ (x.take (msgB j r) (msgA r)).dn ++ (x.take (msgB j r) (msgA r)).hd := by
    unfold GuT.take
    split
    · exact List.mem_append.2 (.inl (List.mem_append.2 (.inr (List.mem_singleton.2 rfl))))
    · exact List.mem_append.2 (.inr (List.mem_append.2 (.inr (List.mem_singleton.2 rfl))))
  unfold knowsB
  exact List.any_eq_true.2 ⟨_, hm, by simp⟩
theorem LInv.see2 : Pur Try.prog 15 [.agg x.cells, .slice .frozen 2 (bdC [msgB j r, msgB j r])] (.tup [.agg (x.meet (msgB j r) (msgA r)).cells, .int .i64 1]) := by
  obtain ⟨a1, a2, a3, a4, a5⟩ := h.new r hj
  have hm := msg_ok j (by omega) r
  have hc3 : (msgB j r).c < 3 := by show (r.k % 3).toNat < 3; omega
  have hu : (msgB j r).u < 256 := by show j < 256; omega
  have hol := msg_outlen r j (by omega)
  have hla := h.la
  have h1 := meet_new x h.ok (msgB j r) hm hc3 hu (msgA r) (msg_wor j r) a1 a3 a4 a5 h.si a2 188 hol (by decide) (by omega)
  have hy := h.meet r hj
  have h2 := meet_known _ hy.ok (msgB j r) hm hc3 hu (LInv.knows (j := j) (x := x) r) 188 hol (by decide)
  have := See_ok x h.ok [msgB j r, msgB j r] (fun b hb => by simp at hb; rw [hb]; exact hm) 2 rfl (by decide) (fun k => if k = 0 then (x, 0) else (x.meet (msgB j r) (msgA r), 1)) rfl (fun k b hb => by
    match k, hb with
    | 0, hb =>
      obtain rfl : msgB j r = b := by simpa using hb
      exact ⟨true, h1, fun _ => rfl, fun h => by cases h⟩
    | 1, hb =>
      obtain rfl : msgB j r = b := by simpa using hb
      exact ⟨false, h2, fun h => (by cases h), fun _ => rfl⟩
    | k + 2, hb => simp at hb)
  exact this
end
end Go.Proofs.Ytcfefmbbbfdppaa
