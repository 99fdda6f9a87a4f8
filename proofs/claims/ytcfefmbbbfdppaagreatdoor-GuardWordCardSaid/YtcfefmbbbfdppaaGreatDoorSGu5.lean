/- guard: passed. Conditions: as said. -/
import Derived.Test.YtcfefmbbbfdppaaGreatDoorSBytes
import Derived.Test.YtcfefmbbbfdppaaGreatDoorSGu4
import Derived.Test.YtcfefmbbbfdppaaGreatDoorSRow
import Derived.Test.YtcfefmbbbfdppaaGreatDoorSDApp
import Derived.Test.YtcfefmbbbfdppaaGreatDoorSDMore
namespace Go.Proofs.YtcfefmbbbfdppaaGreatDoor
open Go.RowKit Go.Lib Go.IntWalk
set_option linter.unusedVariables false
set_option maxRecDepth 100000
theorem pick_at : ∀ (l : List BodyT) (i : Nat) (b : BodyT), (l.map BodyT.id).Nodup → l[i]? = some b → l.filter (fun c => decide (c.id ≠ b.id)) = l.take i ++ l.drop (i + 1) ∧ l.filter (fun c => decide (c.id = b.id)) = [b]
  | [], i, b, _, h => by simp at h
  | a :: l, 0, b, hn, h => by
    obtain rfl : a = b := by simpa using h
    rw [List.map_cons, List.nodup_cons] at hn
    have hne : ∀ c ∈ l, c.id ≠ a.id := fun c hc he => hn.1 (List.mem_map.2 ⟨c, hc, he⟩)
    have h1 : l.filter (fun c => decide (c.id ≠ a.id)) = l := List.filter_eq_self.2 fun c hc => decide_eq_true (hne c hc)
    have h2 : l.filter (fun c => decide (c.id = a.id)) = [] := List.filter_eq_nil_iff.2 fun c hc h => hne c hc (of_decide_eq_true h)
    refine ⟨?_, ?_⟩
    · rw [List.filter_cons_of_neg (by simp), h1]; rfl
    · rw [List.filter_cons_of_pos (by simp), h2]
  | a :: l, i + 1, b, hn, h => by
    rw [List.map_cons, List.nodup_cons] at hn
    have h' : l[i]? = some b := by simpa using h
    have hne : a.id ≠ b.id := fun he => hn.1 (List.mem_map.2 ⟨b, List.mem_of_getElem? h', he.symm⟩)
    obtain ⟨i1, i2⟩ := pick_at l i b hn.2 h'
    refine ⟨?_, ?_⟩
    · rw [List.filter_cons, if_pos (by simpa using hne), i1]; rfl
    · rw [List.filter_cons_of_neg (by simp [hne]), i2]
def rel1 (s : List BodyT × List BodyT) (id : Nat) : List BodyT × List BodyT := (s.1.filter (fun c => decide (c.id ≠ id)), s.2 ++ s.1.filter (fun c => decide (c.id = id)))
def rel (s : List BodyT × List BodyT) (ids : List Nat) : List BodyT × List BodyT := ids.foldl rel1 s
structure RInv (s : List BodyT × List BodyT) (todo : List Nat) (n : Nat) : Prop where
  nd : (s.1.map BodyT.id).Nodup
  has : ∀ id ∈ todo, ∃ b ∈ s.1, b.id = id
  tn : todo.Nodup
  h : ∀ b ∈ s.1, b.ok
  d : ∀ b ∈ s.2, b.ok
  len : s.1.length + s.2.length = n
theorem RInv.step {s : List BodyT × List BodyT} {id : Nat} {todo : List Nat} {n : Nat} (h : RInv s (id :: todo) n) : RInv (rel1 s id) todo n ∧ ∃ i b, s.1[i]? = some b ∧ b.id = id ∧ (∀ k c, k < i → s.1[k]? = some c → c.id ≠ id) ∧ rel1 s id = (s.1.take i ++ s.1.drop (i + 1), s.2 ++ [b]) := by
  obtain ⟨b, hb, hid⟩ := h.has id (List.mem_cons_self ..)
  obtain ⟨i, hi⟩ := List.getElem?_of_mem hb
  obtain ⟨p1, p2⟩ := pick_at s.1 i b h.nd hi
  have hil : i < s.1.length := (List.getElem?_eq_some_iff.1 hi).1
  rw [hid] at p1 p2
  have he : rel1 s id = (s.1.take i ++ s.1.drop (i + 1), s.2 ++ [b]) := by unfold rel1; rw [p1, p2]
  refine ⟨⟨?_, ?_, (List.nodup_cons.1 h.tn).2, ?_, ?_, ?_⟩, i, b, hi, hid, ?_, he⟩
  · exact List.Nodup.sublist (List.Sublist.map _ (List.filter_sublist ..)) h.nd
  · intro j hj
    obtain ⟨c, hc, hcj⟩ := h.has j (List.mem_cons_of_mem _ hj)
    refine ⟨c, List.mem_filter.2 ⟨hc, decide_eq_true fun e => ?_⟩, hcj⟩
    exact (List.nodup_cons.1 h.tn).1 (by rw [← e, hcj]; exact hj)
  · intro c hc; exact h.h c (List.mem_filter.1 hc).1
  · intro c hc
    rcases List.mem_append.1 hc with hc | hc
    · exact h.d c hc
    · exact h.h c (List.mem_filter.1 hc).1
  · rw [he, ← h.len]
    simp only [List.length_append, List.length_take, List.length_drop, List.length_cons, List.length_nil]
    omega
  · intro k c hk hc e
    have hkl : k < s.1.length := by omega
    have hn := h.nd
    rw [List.nodup_iff_pairwise_ne, List.pairwise_iff_getElem] at hn
    have := hn k i (by simp; omega) (by simp; omega) hk
    simp only [List.getElem_map] at this
    rw [(List.getElem?_eq_some_iff.1 hc).2, (List.getElem?_eq_some_iff.1 hi).2, e, hid] at this
    exact this rfl
theorem RInv.at_ {s : List BodyT × List BodyT} {ids : List Nat} {n : Nat} (h : RInv s ids n) : ∀ j, j ≤ ids.length → RInv (rel s (ids.take j)) (ids.drop j) n
  | 0, _ => by simpa [rel] using h
  | j + 1, hj => by
    have ih := h.at_ j (by omega)
    have hx : ids[j]? = some (ids[j]'(by omega)) := List.getElem?_eq_getElem (by omega)
    have he := foldl_snoc rel1 s ids j _ hx
    rw [List.drop_eq_getElem_cons (by omega)] at ih
    unfold rel
    rw [he]
    exact ih.step.1
theorem id_at' (l : List Nat) (j : Nat) (x : Nat) (h : l[j]? = some x) (ze : List D) : cut ⟨false, 1, ze⟩ 0 ((idC l).drop ((j : Int).toNat * 1)) = some (.int .i64 (x : Int)) := by
  unfold cut idC
  simp only [cond_false, Int.toNat_natCast, Nat.mul_one, List.getElem?_drop, Nat.add_zero]
  rw [List.getElem?_map, h]; rfl
def GuT.gone (x : GuT) (n : Nat) : GuT := { x with g := (tick x.g n).1, hd := (rel (x.hd, x.dn) (tick x.g n).2).1, dn := (rel (x.hd, x.dn) (tick x.g n).2).2 }
section
variable (x : GuT) (h : x.ok) (n : Nat) (h1 : 1 ≤ n) (h2 : n ≤ 1000) (h3 : x.g.now + n ≤ 1099511627776)
include h h1 h2 h3
set_option maxHeartbeats 16000000 in
theorem Passed_own (hR : RInv (x.hd, x.dn) (tick x.g n).2 (x.hd.length + x.dn.length)) (u v : Nat) (huv : ((tick x.g n).2.length = 0 ∧ u = 0 ∧ v = 1) ∨ (0 < (tick x.g n).2.length ∧ u = 2 ∧ v = 3)) : Fn Tryz.prog 39 2 [.agg (guO x 0 1), .int .i64 (n : Int)] [(0, some (.tok 50 38)), (1, some (.tok 50 38))] (.tup [.agg (guO (x.gone n) u v), .int .i64 0]) [(u, some (.tok 50 38)), (v, some (.tok 50 38))] := by
  have ht := Tick_ok x.g h.g n h1 h2 h3
  have gcut : ∀ (l0 l1 l2 b0 b1 b2 now : D) (p q : D) ze, cut ⟨true, 9, ze⟩ 0 [l0, l1, l2, b0, b1, b2, now, p, q] = some (.agg [l0, l1, l2, b0, b1, b2, now, p, q]) := fun _ _ _ _ _ _ _ _ _ _ => rfl
  have hlen : x.hd.length + x.dn.length ≤ 400 := by have := h.hd.len; have := h.dn.len; omega
  have hN40 : (tick x.g n).2.length ≤ 40 := by
    have := (tick_inv x.g h.g n x.g.queue.length (Nat.le_refl _)).olen
    rw [List.take_length] at this
    have := h.g.qlen
    unfold tick; omega
  have hat := hR.at_
  have hsn := foldl_snoc rel1 (x.hd, x.dn) (tick x.g n).2
  have hfull : ((tick x.g n).2.take (tick x.g n).2.length) = (tick x.g n).2 := List.take_length
  have hid := id_at' (tick x.g n).2
  have hil := idC_len (tick x.g n).2
  unfold GuT.gone
  unfold guO
  dsimp only
  unfold guC bD
  unfold GT.cells gC qD at ht
  have hT : D.cl (.tup [.agg [.int .i64 (tick x.g n).1.l0, .int .i64 (tick x.g n).1.l1, .int .i64 (tick x.g n).1.l2, .int .i64 (tick x.g n).1.b0, .int .i64 (tick x.g n).1.b1, .int .i64 (tick x.g n).1.b2, .int .i64 (tick x.g n).1.now, .slice .frozen (tick x.g n).1.past.length (qsC (tick x.g n).1.past), .slice .frozen (tick x.g n).1.queue.length (qsC (tick x.g n).1.queue)], .slice .frozen (tick x.g n).2.length (idC (tick x.g n).2), .int .i64 0]) = true := rfl
  generalize (tick x.g n).1 = g2 at *
  generalize (tick x.g n).2 = ids at *
  generalize hN : ids.length = N at *
  generalize idC ids = zi at *
  have hz1 : N * 1 = zi.length := by omega
  obtain ⟨hd0, hhd⟩ : ∃ z, bdC x.hd = z := ⟨_, rfl⟩
  obtain ⟨dn0, hdn⟩ : ∃ z, bdC x.dn = z := ⟨_, rfl⟩
  rw [hhd, hdn]
  replace ht : Pur Tryz.prog 76 [_, _] (.tup [.agg [.int .i64 g2.l0, .int .i64 g2.l1, .int .i64 g2.l2, .int .i64 g2.b0, .int .i64 g2.b1, .int .i64 g2.b2, .int .i64 g2.now, .slice .frozen g2.past.length (qsC g2.past), .slice .frozen g2.queue.length (qsC g2.queue)], .slice .frozen N zi, .int .i64 0]) := ht
  generalize bs x.la = y3 at *
  generalize bs x.si = y4 at *
  generalize qsC x.f.past = z1 at *
  generalize qsC x.f.queue = z2 at *
  generalize qsC x.g.past = z3 at *
  generalize qsC x.g.queue = z4 at *
  generalize qsC g2.past = z5 at *
  generalize qsC g2.queue = z6 at *
  refine fn_intro Tryz.func39 rfl Tryz.ntmps39 rfl fun B => ?_
  repeat (first | refine zC ?_ | refine k_load rfl rfl rfl (gcut _ _ _ _ _ _ _ _ _ _) ?_ | refine zA ?_ | refine k_call rfl ht rfl rfl rfl hT ?_ | refine zB ?_)
  refine W_loopW (fun n' ρ m nx => ∃ (j kz ky : Nat) (z y : List D), j ≤ N ∧ kz = (rel (x.hd, x.dn) (ids.take j)).1.length ∧ z = bdC (rel (x.hd, x.dn) (ids.take j)).1 ∧ ky = (rel (x.hd, x.dn) (ids.take j)).2.length ∧ y = bdC (rel (x.hd, x.dn) (ids.take j)).2 ∧ n' = N - j ∧ ρ = [(29, .int .i64 (j : Int)), (28, .int .i64 (N : Int)), (27, .slice .frozen N zi), (5, .int .i64 0), (4, .ptr 3 0), (2, .ptr 2 0)] ∧ ((j = 0 ∧ m = [(0, some (.tok 50 38)), (1, some (.tok 50 38)), (3, some (.var 37 [.int .u64 0, .int .u64 0, .int .u64 0, .int .u64 0, .int .i64 0, .int .i64 0, .int .i64 0, .int .i64 0, .int .i64 0, .int .i64 0, .int .i64 0, .slice .nil 0 [], .slice .nil 0 [], .int .i64 0, .int .i64 0, .int .i64 0, .int .i64 0, .int .i64 0, .int .i64 0, .int .i64 0, .slice .nil 0 [], .slice .nil 0 [], .slice .nil 0 [], .slice .nil 0 [], .slice .nil 0 [], .slice .nil 0 []])), (2, some (.var 37 [.int .u64 5, .int .u64 0, .int .u64 0, .int .u64 0, .int .i64 x.f.l0, .int .i64 x.f.l1, .int .i64 x.f.l2, .int .i64 x.f.b0, .int .i64 x.f.b1, .int .i64 x.f.b2, .int .i64 x.f.now, .slice .frozen x.f.past.length z1, .slice .frozen x.f.queue.length z2, .int .i64 g2.l0, .int .i64 g2.l1, .int .i64 g2.l2, .int .i64 g2.b0, .int .i64 g2.b1, .int .i64 g2.b2, .int .i64 g2.now, .slice .frozen g2.past.length z5, .slice .frozen g2.queue.length z6, .slice .frozen x.la.length y3, .slice .frozen x.si.length y4, .slice (.own 0) kz z, .slice (.own 1) ky y]))] ∧ nx = 4) ∨ (0 < j ∧ m = [(4, some (.tok 50 38)), (5, some (.tok 50 38)), (3, some (.var 37 [.int .u64 0, .int .u64 0, .int .u64 0, .int .u64 0, .int .i64 0, .int .i64 0, .int .i64 0, .int .i64 0, .int .i64 0, .int .i64 0, .int .i64 0, .slice .nil 0 [], .slice .nil 0 [], .int .i64 0, .int .i64 0, .int .i64 0, .int .i64 0, .int .i64 0, .int .i64 0, .int .i64 0, .slice .nil 0 [], .slice .nil 0 [], .slice .nil 0 [], .slice .nil 0 [], .slice .nil 0 [], .slice .nil 0 []])), (2, some (.var 37 [.int .u64 5, .int .u64 0, .int .u64 0, .int .u64 0, .int .i64 x.f.l0, .int .i64 x.f.l1, .int .i64 x.f.l2, .int .i64 x.f.b0, .int .i64 x.f.b1, .int .i64 x.f.b2, .int .i64 x.f.now, .slice .frozen x.f.past.length z1, .slice .frozen x.f.queue.length z2, .int .i64 g2.l0, .int .i64 g2.l1, .int .i64 g2.l2, .int .i64 g2.b0, .int .i64 g2.b1, .int .i64 g2.b2, .int .i64 g2.now, .slice .frozen g2.past.length z5, .slice .frozen g2.queue.length z6, .slice .frozen x.la.length y3, .slice .frozen x.si.length y4, .slice (.own 4) kz z, .slice (.own 5) ky y]))] ∧ nx = 6)))
    ⟨_, _, _, _, (by exact zK (fun l => l)), 0, _, _, _, _, Nat.zero_le _, rfl, hhd.symm, rfl, hdn.symm, rfl, rfl, .inl ⟨rfl, rfl, rfl⟩⟩ ?_
  rintro n' ρ m nx ⟨j, kz, ky, z, y, hj, hkz, hz, hky, hy, rfl, rfl, hm⟩
  have hin := hat j (by omega)
  have hzz : kz * 38 = z.length := by rw [hz, hkz]; exact (bdC_len _ fun b hb => (hin.h b hb).e).symm
  have hyy : ky * 38 = y.length := by rw [hy, hky]; exact (bdC_len _ fun b hb => (hin.d b hb).e).symm
  have hkl : kz + ky ≤ 400 := by have := hin.len; omega
  by_cases hlt : j < N
  · obtain ⟨id, hjd⟩ : ∃ id, ids[j]? = some id := ⟨_, List.getElem?_eq_getElem (by omega)⟩
    have hic := hid j id hjd
    rw [List.drop_eq_getElem_cons (by omega), show ids[j]'(by omega) = id from (List.getElem?_eq_some_iff.1 hjd).2] at hin
    obtain ⟨_, i, b, hib, hbid, hbef, hrel⟩ := hin.step
    have hsj : rel (x.hd, x.dn) (ids.take (j + 1)) = _ := (hsn j id hjd).trans hrel
    have hcut := bdC_cut _ fun b hb => (hin.h b hb).e
    have hok := hin.h
    have hdr := bdC_drop _ fun b hb => (hin.h b hb).e
    have htk := bdC_take _ fun b hb => (hin.h b hb).e
    have hme := List.mem_of_getElem? hib
    have hil2 : i < kz := by rw [hkz]; exact (List.getElem?_eq_some_iff.1 hib).1
    generalize hse : rel (x.hd, x.dn) (ids.take (j + 1)) = s2 at *
    generalize rel (x.hd, x.dn) (ids.take j) = s1 at *
    have r1 : (kz - 1 : Nat) = s2.1.length := by rw [hsj, hkz]; simp only [List.length_append, List.length_take, List.length_drop]; omega
    have r2 : ky + 1 = s2.2.length := by rw [hsj, hky, List.length_append]; rfl
    have r3 : y ++ b.cells = bdC s2.2 := by rw [hsj, hy, bdC_app, bdC_one]
    have r4 : ((z.drop ((0 : Int).toNat * 38)).take (i * 38)) ++ ((z.drop (((i : Int) + 1).toNat * 38)).take ((kz - (i + 1)) * 38)) = bdC s2.1 := by
      have e1 : (z.drop ((0 : Int).toNat * 38)).take (i * 38) = bdC (s1.1.take i) := by rw [show (0 : Int).toNat * 38 = 0 from rfl, List.drop_zero, hz]; exact htk i (by omega)
      have e2 : (z.drop (((i : Int) + 1).toNat * 38)).take ((kz - (i + 1)) * 38) = bdC (s1.1.drop (i + 1)) := by
        rw [show ((i : Int) + 1).toNat = i + 1 by omega, List.take_of_length_le (by rw [List.length_drop, ← hzz]; omega), hz]; exact hdr (i + 1) (by omega)
      rw [e1, e2, hsj, bdC_app]
    rw [← hz] at hcut
    clear hrel hsj hdr htk hin hjd
    rcases hm with ⟨hj0, rfl, rfl⟩ | ⟨hj0, rfl, rfl⟩
    · repeat (first | refine zC ?_ | (refine k_indexAddrs rfl rfl rfl ⟨?_, ?_⟩ hz1 ?_; (omega); (omega)) | refine k_loade rfl rfl (hic _) ?_ | refine zAB ?_)
      refine W_loopW (fun n' ρ m nx => ∃ k : Nat, k ≤ i ∧ n' = i - k ∧ ρ = [(36, .int .i64 (k : Int)), (35, .int .i64 (kz : Int)), (34, .slice .frozen kz z), (10, .int .i64 (id : Int)), (29, .int .i64 (j : Int)), (28, .int .i64 (N : Int)), (27, .slice .frozen N zi), (5, .int .i64 0), (4, .ptr 3 0), (2, .ptr 2 0)] ∧ m = [(0, some (.tok 50 38)), (1, some (.tok 50 38)), (3, some (.var 37 [.int .u64 0, .int .u64 0, .int .u64 0, .int .u64 0, .int .i64 0, .int .i64 0, .int .i64 0, .int .i64 0, .int .i64 0, .int .i64 0, .int .i64 0, .slice .nil 0 [], .slice .nil 0 [], .int .i64 0, .int .i64 0, .int .i64 0, .int .i64 0, .int .i64 0, .int .i64 0, .int .i64 0, .slice .nil 0 [], .slice .nil 0 [], .slice .nil 0 [], .slice .nil 0 [], .slice .nil 0 [], .slice .nil 0 []])), (2, some (.var 37 [.int .u64 5, .int .u64 0, .int .u64 0, .int .u64 0, .int .i64 x.f.l0, .int .i64 x.f.l1, .int .i64 x.f.l2, .int .i64 x.f.b0, .int .i64 x.f.b1, .int .i64 x.f.b2, .int .i64 x.f.now, .slice .frozen x.f.past.length z1, .slice .frozen x.f.queue.length z2, .int .i64 g2.l0, .int .i64 g2.l1, .int .i64 g2.l2, .int .i64 g2.b0, .int .i64 g2.b1, .int .i64 g2.b2, .int .i64 g2.now, .slice .frozen g2.past.length z5, .slice .frozen g2.queue.length z6, .slice .frozen x.la.length y3, .slice .frozen x.si.length y4, .slice (.own 0) kz z, .slice (.own 1) ky y]))] ∧ nx = 4)
        ⟨_, _, _, _, (by exact zK (fun l => l)), 0, Nat.zero_le _, rfl, rfl, rfl, rfl⟩ ?_
      rintro n' ρ m nx ⟨k, hk, rfl, rfl, rfl, rfl⟩
      obtain ⟨c, hc⟩ : ∃ c, s1.1[k]? = some c := ⟨_, List.getElem?_eq_getElem (by omega)⟩
      have hcb := hcut k c hc
      have hcm := hok c (List.mem_of_getElem? hc)
      have hci := Id_ok c hcm
      have heb := hcm.e
      have hbl := bd_len heb
      have hball := bd_all heb
      have hbput := bd_put heb
      have hbfz := bd_fz c
      have hbcl := bd_cl c
      have hbc := bd_cls c
      have hbs := one_fill c heb
      have h1c : 1 * 38 = c.cells.length := by omega
      have hbfz1 : D.fzs c.cells = c.cells := by have := hbfz; simpa [D.fzs, D.fz] using this
      have hb38 : (D.agg c.cells).cells.length = 38 := hbl
      by_cases hki : k = i
      · subst hki
        rw [hib] at hc
        injection hc with hc
        subst hc
        rw [hbid] at hci
        have s1' : ky + 1 ≤ 16777216 := by omega
        have s2' : k + (kz - (k + 1)) ≤ 16777216 := by omega
        have n1 : ((k : Int) - 0).toNat = k := by omega
        have n2 : ((kz : Int) - ((k : Int) + 1)).toNat = kz - (k + 1) := by omega
        have n3 : k + (kz - (k + 1)) = kz - 1 := by omega
        have l1 : k * 38 = ((z.drop ((0 : Int).toNat * 38)).take (k * 38)).length := by rw [List.length_take, List.length_drop]; omega
        have l2 : (kz - (k + 1)) * 38 = ((z.drop (((k : Int) + 1).toNat * 38)).take ((kz - (k + 1)) * 38)).length := by rw [List.length_take, List.length_drop, show ((k : Int) + 1).toNat = k + 1 by omega]; omega
        obtain ⟨zt, hzt⟩ : ∃ q, (z.drop ((0 : Int).toNat * 38)).take (k * 38) = q := ⟨_, rfl⟩
        obtain ⟨zd, hzd⟩ : ∃ q, (z.drop (((k : Int) + 1).toNat * 38)).take ((kz - (k + 1)) * 38) = q := ⟨_, rfl⟩
        rw [hzt] at l1 r4
        rw [hzd] at l2 r4
        obtain ⟨yn, hyn⟩ : ∃ q, bdC s2.2 = q := ⟨_, rfl⟩
        obtain ⟨zn, hzn⟩ : ∃ q, bdC s2.1 = q := ⟨_, rfl⟩
        rw [hyn] at r3
        rw [hzn] at r4
        generalize hcc : b.cells = bc at *
        repeat (first | refine zC ?_ | (refine k_indexAddrs rfl rfl rfl ⟨?_, ?_⟩ hzz ?_; (omega); (omega)) | refine k_loade rfl rfl (hcb _) ?_ | refine k_store rfl rfl rfl rfl (by exact hb38) rfl (by exact hbput _ rfl) ?_ | refine k_load rfl rfl rfl (hball _) ?_ | refine k_buildSlice rfl rfl hbs hbfz1 hbc rfl rfl ?_ | (refine k_append rfl rfl rfl ?_ hyy h1c rfl s1' rfl rfl (by exact r3) ?_; (rfl)) | refine k_append rfl rfl rfl (by exact trivial) l1 l2 rfl s2' rfl n3 (by exact r4) ?_ | (refine k_slice3 rfl rfl rfl rfl rfl ⟨?_, ?_, ?_⟩ hzz n1 hzt ?_; (omega); (omega); (omega)) | (refine k_slice rfl rfl rfl rfl ⟨?_, ?_, ?_⟩ hzz n2 hzd ?_; (omega); (omega); (omega)) | refine zA ?_ | refine k_call rfl hci rfl hbfz hbcl rfl ?_ | refine zB ?_)
        exact ⟨N - (j + 1), _, _, _, (by exact zK (fun l => if l = 4 then 7 else if l = 5 then 6 else l)), by omega, j + 1, kz - 1, ky + 1, zn, yn, by omega, by rw [hse]; exact r1, by rw [hse]; exact hzn.symm, by rw [hse]; exact r2, by rw [hse]; exact hyn.symm, rfl, rfl, .inr ⟨by omega, rfl, rfl⟩⟩
      · have hne := hbef k c (by omega) hc
        generalize hcc : c.cells = bc at *
        generalize hcd : c.id = ci at *
        repeat (first | refine zC ?_ | (refine k_indexAddrs rfl rfl rfl ⟨?_, ?_⟩ hzz ?_; (omega); (omega)) | refine k_loade rfl rfl (hcb _) ?_ | refine k_store rfl rfl rfl rfl (by exact hb38) rfl (by exact hbput _ rfl) ?_ | refine k_load rfl rfl rfl (hball _) ?_ | refine zA ?_ | refine k_call rfl hci rfl hbfz hbcl rfl ?_ | refine zB ?_)
        exact ⟨i - (k + 1), _, _, _, (by exact zK (fun l => l)), by omega, k + 1, by omega, rfl, rfl, rfl, rfl⟩
    · repeat (first | refine zC ?_ | (refine k_indexAddrs rfl rfl rfl ⟨?_, ?_⟩ hz1 ?_; (omega); (omega)) | refine k_loade rfl rfl (hic _) ?_ | refine zAB ?_)
      refine W_loopW (fun n' ρ m nx => ∃ k : Nat, k ≤ i ∧ n' = i - k ∧ ρ = [(36, .int .i64 (k : Int)), (35, .int .i64 (kz : Int)), (34, .slice .frozen kz z), (10, .int .i64 (id : Int)), (29, .int .i64 (j : Int)), (28, .int .i64 (N : Int)), (27, .slice .frozen N zi), (5, .int .i64 0), (4, .ptr 3 0), (2, .ptr 2 0)] ∧ m = [(4, some (.tok 50 38)), (5, some (.tok 50 38)), (3, some (.var 37 [.int .u64 0, .int .u64 0, .int .u64 0, .int .u64 0, .int .i64 0, .int .i64 0, .int .i64 0, .int .i64 0, .int .i64 0, .int .i64 0, .int .i64 0, .slice .nil 0 [], .slice .nil 0 [], .int .i64 0, .int .i64 0, .int .i64 0, .int .i64 0, .int .i64 0, .int .i64 0, .int .i64 0, .slice .nil 0 [], .slice .nil 0 [], .slice .nil 0 [], .slice .nil 0 [], .slice .nil 0 [], .slice .nil 0 []])), (2, some (.var 37 [.int .u64 5, .int .u64 0, .int .u64 0, .int .u64 0, .int .i64 x.f.l0, .int .i64 x.f.l1, .int .i64 x.f.l2, .int .i64 x.f.b0, .int .i64 x.f.b1, .int .i64 x.f.b2, .int .i64 x.f.now, .slice .frozen x.f.past.length z1, .slice .frozen x.f.queue.length z2, .int .i64 g2.l0, .int .i64 g2.l1, .int .i64 g2.l2, .int .i64 g2.b0, .int .i64 g2.b1, .int .i64 g2.b2, .int .i64 g2.now, .slice .frozen g2.past.length z5, .slice .frozen g2.queue.length z6, .slice .frozen x.la.length y3, .slice .frozen x.si.length y4, .slice (.own 4) kz z, .slice (.own 5) ky y]))] ∧ nx = 6)
        ⟨_, _, _, _, (by exact zK (fun l => l)), 0, Nat.zero_le _, rfl, rfl, rfl, rfl⟩ ?_
      rintro n' ρ m nx ⟨k, hk, rfl, rfl, rfl, rfl⟩
      obtain ⟨c, hc⟩ : ∃ c, s1.1[k]? = some c := ⟨_, List.getElem?_eq_getElem (by omega)⟩
      have hcb := hcut k c hc
      have hcm := hok c (List.mem_of_getElem? hc)
      have hci := Id_ok c hcm
      have heb := hcm.e
      have hbl := bd_len heb
      have hball := bd_all heb
      have hbput := bd_put heb
      have hbfz := bd_fz c
      have hbcl := bd_cl c
      have hbc := bd_cls c
      have hbs := one_fill c heb
      have h1c : 1 * 38 = c.cells.length := by omega
      have hbfz1 : D.fzs c.cells = c.cells := by have := hbfz; simpa [D.fzs, D.fz] using this
      have hb38 : (D.agg c.cells).cells.length = 38 := hbl
      by_cases hki : k = i
      · subst hki
        rw [hib] at hc
        injection hc with hc
        subst hc
        rw [hbid] at hci
        have s1' : ky + 1 ≤ 16777216 := by omega
        have s2' : k + (kz - (k + 1)) ≤ 16777216 := by omega
        have n1 : ((k : Int) - 0).toNat = k := by omega
        have n2 : ((kz : Int) - ((k : Int) + 1)).toNat = kz - (k + 1) := by omega
        have n3 : k + (kz - (k + 1)) = kz - 1 := by omega
        have l1 : k * 38 = ((z.drop ((0 : Int).toNat * 38)).take (k * 38)).length := by rw [List.length_take, List.length_drop]; omega
        have l2 : (kz - (k + 1)) * 38 = ((z.drop (((k : Int) + 1).toNat * 38)).take ((kz - (k + 1)) * 38)).length := by rw [List.length_take, List.length_drop, show ((k : Int) + 1).toNat = k + 1 by omega]; omega
        obtain ⟨zt, hzt⟩ : ∃ q, (z.drop ((0 : Int).toNat * 38)).take (k * 38) = q := ⟨_, rfl⟩
        obtain ⟨zd, hzd⟩ : ∃ q, (z.drop (((k : Int) + 1).toNat * 38)).take ((kz - (k + 1)) * 38) = q := ⟨_, rfl⟩
        rw [hzt] at l1 r4
        rw [hzd] at l2 r4
        obtain ⟨yn, hyn⟩ : ∃ q, bdC s2.2 = q := ⟨_, rfl⟩
        obtain ⟨zn, hzn⟩ : ∃ q, bdC s2.1 = q := ⟨_, rfl⟩
        rw [hyn] at r3
        rw [hzn] at r4
        generalize hcc : b.cells = bc at *
        repeat (first | refine zC ?_ | (refine k_indexAddrs rfl rfl rfl ⟨?_, ?_⟩ hzz ?_; (omega); (omega)) | refine k_loade rfl rfl (hcb _) ?_ | refine k_store rfl rfl rfl rfl (by exact hb38) rfl (by exact hbput _ rfl) ?_ | refine k_load rfl rfl rfl (hball _) ?_ | refine k_buildSlice rfl rfl hbs hbfz1 hbc rfl rfl ?_ | (refine k_append rfl rfl rfl ?_ hyy h1c rfl s1' rfl rfl (by exact r3) ?_; (rfl)) | refine k_append rfl rfl rfl (by exact trivial) l1 l2 rfl s2' rfl n3 (by exact r4) ?_ | (refine k_slice3 rfl rfl rfl rfl rfl ⟨?_, ?_, ?_⟩ hzz n1 hzt ?_; (omega); (omega); (omega)) | (refine k_slice rfl rfl rfl rfl ⟨?_, ?_, ?_⟩ hzz n2 hzd ?_; (omega); (omega); (omega)) | refine zA ?_ | refine k_call rfl hci rfl hbfz hbcl rfl ?_ | refine zB ?_)
        exact ⟨N - (j + 1), _, _, _, (by exact zK (fun l => if l = 4 then 9 else if l = 5 then 8 else l)), by omega, j + 1, kz - 1, ky + 1, zn, yn, by omega, by rw [hse]; exact r1, by rw [hse]; exact hzn.symm, by rw [hse]; exact r2, by rw [hse]; exact hyn.symm, rfl, rfl, .inr ⟨by omega, rfl, rfl⟩⟩
      · have hne := hbef k c (by omega) hc
        generalize hcc : c.cells = bc at *
        generalize hcd : c.id = ci at *
        repeat (first | refine zC ?_ | (refine k_indexAddrs rfl rfl rfl ⟨?_, ?_⟩ hzz ?_; (omega); (omega)) | refine k_loade rfl rfl (hcb _) ?_ | refine k_store rfl rfl rfl rfl (by exact hb38) rfl (by exact hbput _ rfl) ?_ | refine k_load rfl rfl rfl (hball _) ?_ | refine zA ?_ | refine k_call rfl hci rfl hbfz hbcl rfl ?_ | refine zB ?_)
        exact ⟨i - (k + 1), _, _, _, (by exact zK (fun l => l)), by omega, k + 1, by omega, rfl, rfl, rfl, rfl⟩
  · have ej : j = N := by omega
    subst ej
    rw [hfull] at hz hy hkz hky
    rw [← hz, ← hy, ← hkz, ← hky]
    rcases hm with ⟨hj0, rfl, rfl⟩ | ⟨hj0, rfl, rfl⟩
    · obtain ⟨rfl, rfl⟩ : u = 0 ∧ v = 1 := huv.elim (fun h => h.2) (fun h => absurd h.1 (by omega))
      refine zR ?_
      first | exact (q_endf (fun l => l) 2 (RetsF.r2 (by exact zv) (by exact zu) (by exact zv) (by exact zu)) rfl (by repeat (first | exact trivial | refine ⟨⟨rfl, _, rfl, Ups.refl _, rfl⟩, ?_⟩ | refine ⟨⟨rfl, rfl⟩, ?_⟩)) rfl rfl rfl).2 | exact (q_endf (fun l => l) 2 (RetsF.r2 (by exact zv) (by exact zu) (by exact zv) (by exact zu)) rfl (by repeat (first | exact trivial | refine ⟨⟨rfl, _, rfl, Ups.refl _, rfl⟩, ?_⟩ | refine ⟨⟨rfl, rfl⟩, ?_⟩)) rfl rfl rfl).1
    · obtain ⟨rfl, rfl⟩ : u = 2 ∧ v = 3 := huv.elim (fun h => absurd h.1 (by omega)) (fun h => h.2)
      refine zR ?_
      first | exact (q_endf (fun l => if l = 2 then 4 else if l = 3 then 5 else l) 4 (RetsF.r2 (by exact zv) (by exact zu) (by exact zv) (by exact zu)) rfl (by repeat (first | exact trivial | refine ⟨⟨rfl, _, rfl, Ups.refl _, rfl⟩, ?_⟩ | refine ⟨⟨rfl, rfl⟩, ?_⟩)) rfl rfl rfl).2 | exact (q_endf (fun l => if l = 2 then 4 else if l = 3 then 5 else l) 4 (RetsF.r2 (by exact zv) (by exact zu) (by exact zv) (by exact zu)) rfl (by repeat (first | exact trivial | refine ⟨⟨rfl, _, rfl, Ups.refl _, rfl⟩, ?_⟩ | refine ⟨⟨rfl, rfl⟩, ?_⟩)) rfl rfl rfl).1
end
end Go.Proofs.YtcfefmbbbfdppaaGreatDoor
