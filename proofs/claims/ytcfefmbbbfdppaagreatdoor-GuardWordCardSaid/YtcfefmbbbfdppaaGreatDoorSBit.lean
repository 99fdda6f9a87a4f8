/- wide.bit: bit number i of a number. -/
import Derived.Test.YtcfefmbbbfdppaaGreatDoorSBytes
import Derived.Test.YtcfefmbbbfdppaaGreatDoorSGu9
import Derived.Test.YtcfefmbbbfdppaaGreatDoorSUpl
import Derived.Test.YtcfefmbbbfdppaaGreatDoorSBx
import Derived.Test.YtcfefmbbbfdppaaGreatDoorSDMore
import Derived.Test.YtcfefmbbbfdppaaGreatDoorSLoad5
import Derived.WalkSmall
namespace Go.Proofs.YtcfefmbbbfdppaaGreatDoor
open Go.RowKit Go.Lib Go.IntWalk
set_option linter.unusedVariables false
set_option maxRecDepth 100000
def g0T (g : GT) : GuT := ⟨g, g, [], [], [], []⟩
def lvS (x : GuT) (i : Nat) (r : RawT) : GuT := if r.k % 4 = 0 then x.wait (1 + (r.a % 9).toNat) else x.meet (msgB i r) (msgA r)
def lv (g : GT) (l : List RawT) : Nat → GuT
  | 0 => g0T g
  | j + 1 => match l[j]? with
    | some r => lvS (lv g l j) j r
    | none => lv g l j
def cnt (l : List RawT) : Nat := (l.filter fun r => decide (r.k % 4 ≠ 0)).length
theorem bdC_fzs : ∀ (l : List BodyT), D.fzs (bdC l) = bdC l
  | [] => rfl
  | b :: l => by
    have h1 : D.fzs b.cells = b.cells := by have := bd_fz b; simpa [D.fzs, D.fz] using this
    have happ : ∀ (a c : List D), D.fzs (a ++ c) = D.fzs a ++ D.fzs c := fun a => by
      induction a with
      | nil => intro c; rfl
      | cons d a ih => intro c; show d.fz :: D.fzs (a ++ c) = _; rw [ih]; rfl
    show D.fzs (b.cells ++ bdC l) = b.cells ++ bdC l
    rw [happ, h1, bdC_fzs l]
theorem two_fill (b : BodyT) (h : b.e.length = 32) : dfill (bpl 2 38) (zeros 2 (bx 0 0 0 (List.replicate 32 0) [.int .i64 0, .int .i64 0, .slice .nil 0 []])) [(0, .agg b.cells), (1, .agg b.cells)] = some (bdC [b, b]) := by
  have hz : (zeros 2 (bx 0 0 0 (List.replicate 32 0) [.int .i64 0, .int .i64 0, .slice .nil 0 []])).length = 76 := rfl
  have hl := bd_len h
  have hbd : bdC [b, b] = b.cells ++ b.cells := by rw [show [b, b] = [b] ++ [b] from rfl, bdC_app, bdC_one]
  rw [hbd]
  generalize b.cells = bc at *
  generalize zeros 2 (bx 0 0 0 (List.replicate 32 0) [.int .i64 0, .int .i64 0, .slice .nil 0 []]) = zz at *
  have s1 : splice 0 bc zz = some (bc ++ zz.drop 38) := by
    unfold splice
    rw [Nat.ble_eq_true_of_le (by omega), cond_true, hl]; rfl
  have s2 : splice 38 bc (bc ++ zz.drop 38) = some (bc ++ bc) := by
    unfold splice
    rw [Nat.ble_eq_true_of_le (by rw [List.length_append, List.length_drop]; omega), cond_true]
    congr 1
    rw [show List.take 38 (bc ++ zz.drop 38) = bc by rw [← hl, List.take_left], List.drop_of_length_le (by rw [List.length_append, List.length_drop]; omega), List.append_nil]
  show cond (Nat.beq bc.length 38 && true) (match splice 0 bc zz with | some cs' => (cond (Nat.beq bc.length 38 && true) (match splice 38 bc cs' with | some cs'' => some cs'' | none => none) none) | none => none) none = _
  rw [hl, s1]
  show cond true (match splice 38 bc (bc ++ zz.drop 38) with | some cs'' => some cs'' | none => none) none = _
  rw [s2]; rfl
theorem lv_step (g : GT) (l : List RawT) (j : Nat) (r : RawT) (h : l[j]? = some r) : lv g l (j + 1) = lvS (lv g l j) j r := by
  show (match l[j]? with | some r => _ | none => _) = _
  rw [h]
theorem cnt_step (l : List RawT) (j : Nat) (r : RawT) (h : l[j]? = some r) : cnt (l.take (j + 1)) = cnt (l.take j) + (if r.k % 4 = 0 then 0 else 1) := by
  unfold cnt
  rw [List.take_add_one, h, Option.toList_some, List.filter_append, List.length_append]
  by_cases hk : r.k % 4 = 0 <;> simp [hk]
theorem lv_inv (g : GT) (hg : Start g) (l : List RawT) : ∀ j, j ≤ l.length → j ≤ 20 → LInv g j (cnt (l.take j)) (lv g l j)
  | 0, _, _ => by
    have h0 : Ml [] := ⟨fun b h => absurd h List.not_mem_nil, Nat.zero_le _⟩
    refine ⟨⟨hg.ok, hg.ok, Nat.zero_le _, h0, h0⟩, rfl, rfl, Nat.zero_le _, by show g.now ≤ _; have := hg.now; omega, ?_, fun b hb => absurd hb List.not_mem_nil, ?_, rfl, Nat.le_refl _⟩
    · show ∀ q ∈ g.past ++ g.queue, _
      rw [hg.past, hg.queue]; exact fun q hq => absurd hq List.not_mem_nil
    · show ([] : List Nat).Perm (g.queue.map QT.id)
      rw [hg.queue]; exact List.Perm.refl _
  | j + 1, hj, hj2 => by
    have ih := lv_inv g hg l j (by omega) (by omega)
    have hr : l[j]? = some (l[j]'(by omega)) := List.getElem?_eq_getElem (by omega)
    rw [lv_step g l j _ hr, cnt_step l j _ hr]
    unfold lvS
    split
    · exact ih.wait _ (by omega) (by omega)
    · exact ih.meet _ (by omega)
set_option maxHeartbeats 16000000 in
theorem lived_ok (k a b : Int) (s : ByteArray) (l : List RawT) (most : Nat) (hm : most ≤ 19) : Pur Tryz.prog 4 [.agg [.int .i64 k, .int .i64 a, .int .i64 b, .str s], .slice .frozen l.length (rws l), .int .i64 (most : Int)] (.tup [.agg (lv (gofG a b) (l.take most) (l.take most).length).cells, .bool true]) := by
  have sm := some_ok l most (by omega)
  have hl : (l.take most).length ≤ 19 := by rw [List.length_take]; omega
  have hrl := rws_len (l.take most)
  have hrc := rws_cut (l.take most)
  have hg := gof_start a b
  have hgo := gateOf_ok k a b s
  have hbg := Begin_fn (gofG a b) hg.ok
  have hup := GT.ups0 (gofG a b) hg
  have hinv := lv_inv (gofG a b) hg (l.take most)
  have hstep := lv_step (gofG a b) (l.take most)
  generalize l.take most = l' at *
  generalize hn : l'.length = n at *
  obtain ⟨zr, hzr⟩ : ∃ z, rws l' = z := ⟨_, rfl⟩
  rw [hzr] at hrl hrc sm
  have hzl : n * 4 = zr.length := hrl.symm
  have h00 : lv (gofG a b) l' 0 = g0T (gofG a b) := rfl
  generalize gofG a b = g at *
  unfold GT.cells gC qD at hbg hup
  unfold GT.cells0 at hgo hup
  unfold GuT.cells guC bD mD
  unfold guC at hbg
  refine pur_intro Tryz.func4 rfl Tryz.ntmps4 rfl (by first | rfl | assumption | exact bs_cl _) fun B => ?_
  repeat (first | refine zC ?_ | refine zA ?_ | refine k_call rfl sm rfl rfl rfl rfl ?_ | refine k_call rfl hgo rfl rfl rfl rfl ?_ | refine k_callf (fun l => l + 3) [0, 1] (5) rfl (hbg) rfl (.cons (.refl _) (.cons hup .nil)) (rfl) (by exact zmf) rfl rfl rfl rfl (rfl) (rfl) rfl rfl rfl rfl ?_ | refine zB ?_)
  refine W_loopW (fun n' ρ m nx => ∃ (j : Nat) (y : GuT), j ≤ n ∧ y = lv g l' j ∧ n' = n - j ∧ ρ = [(30, .int .i64 (j : Int)), (29, .int .i64 (n : Int)), (28, .slice .frozen n zr), (10, .bool true), (8, .ptr 0 0), (7, .bool false), (6, .ptr 1 0)] ∧ m = [(1, some (.var 37 [.int .u64 0, .int .u64 0, .int .u64 0, .int .u64 0, .int .i64 0, .int .i64 0, .int .i64 0, .int .i64 0, .int .i64 0, .int .i64 0, .int .i64 0, .slice .nil 0 [], .slice .nil 0 [], .int .i64 0, .int .i64 0, .int .i64 0, .int .i64 0, .int .i64 0, .int .i64 0, .int .i64 0, .slice .nil 0 [], .slice .nil 0 [], .slice .nil 0 [], .slice .nil 0 [], .slice .nil 0 [], .slice .nil 0 []])), (0, some (.var 37 [.int .u64 5, .int .u64 0, .int .u64 0, .int .u64 0, .int .i64 y.f.l0, .int .i64 y.f.l1, .int .i64 y.f.l2, .int .i64 y.f.b0, .int .i64 y.f.b1, .int .i64 y.f.b2, .int .i64 y.f.now, .slice .frozen y.f.past.length (qsC y.f.past), .slice .frozen y.f.queue.length (qsC y.f.queue), .int .i64 y.g.l0, .int .i64 y.g.l1, .int .i64 y.g.l2, .int .i64 y.g.b0, .int .i64 y.g.b1, .int .i64 y.g.b2, .int .i64 y.g.now, .slice .frozen y.g.past.length (qsC y.g.past), .slice .frozen y.g.queue.length (qsC y.g.queue), .slice .frozen y.la.length (bs y.la), .slice .frozen y.si.length (bs y.si), .slice .frozen y.hd.length (bdC y.hd), .slice .frozen y.dn.length (bdC y.dn)]))] ∧ nx = 2)
    ⟨_, _, _, _, (by exact zF (fun l => if l = 0 then 5 else l)), 0, g0T g, Nat.zero_le _, rfl, rfl, rfl, rfl, rfl⟩ ?_
  rintro n' ρ m nx ⟨j, y, hj, hy, rfl, rfl, rfl, rfl⟩
  have hi := hinv j hj (by omega)
  rw [← hy] at hi
  by_cases hlt : j < n
  · obtain ⟨⟨rk, ra, rb, rs⟩, hr⟩ : ∃ r, l'[j]? = some r := ⟨_, List.getElem?_eq_getElem (by omega)⟩
    have hc1 := hrc j _ hr
    have hst := hstep j _ hr
    rw [← hy] at hst
    replace hc1 : ∀ ze, cut ⟨true, 4, ze⟩ 0 (zr.drop ((j : Int).toNat * 4)) = some (.agg [.int .i64 rk, .int .i64 ra, .int .i64 rb, .str rs]) := hc1
    unfold lvS at hst
    dsimp only at hst
    obtain ⟨q4, e4, h4⟩ := gmod rk 4 (by decide)
    have p4 := p_picked rk 4 q4 (by decide) (by decide) e4
    by_cases hk : rk % 4 = 0
    · rw [if_pos hk] at hst
      obtain rfl : q4 = 0 := by omega
      obtain ⟨q9, e9, h9⟩ := gmod ra 9 (by decide)
      have p9 := p_picked ra 9 q9 (by decide) (by decide) e9
      rw [show (ra % 9).toNat = q9 by omega] at hst
      have hnow := hi.now
      have hg := hi.gone (1 + q9) (by omega) (by omega)
      have hla := hi.la
      have hH := Hours_ok y hi.ok (1 + q9) (by omega) (by omega) (by omega) (hi.rinv _) hg.1 hi.si (by omega)
      have hadd : IntKind.i64.wrap ((1 : Int) + (q9 : Int)) = ((1 + q9 : Nat) : Int) := by rw [show (1 : Int) + (q9 : Int) = ((1 + q9 : Nat) : Int) by omega]; exact i64_in _ (by omega)
      generalize y.wait (1 + q9) = y2 at *
      generalize 1 + q9 = h9' at *
      unfold GuT.cells guC bD mD at hH
      repeat (first | refine zC ?_ | (refine k_indexAddrs rfl rfl rfl ⟨?_, ?_⟩ hzl ?_; (omega); (omega)) | refine k_loade rfl rfl (hc1 _) ?_ | refine k_load rfl rfl rfl (raw_4 rk ra rb rs _) ?_ | refine k_add rfl rfl rfl hadd ?_ | refine zA ?_ | refine k_call rfl p4 rfl rfl rfl rfl ?_ | refine k_call rfl p9 rfl rfl rfl rfl ?_ | refine k_call rfl hH rfl rfl rfl rfl ?_ | refine zB ?_)
      exact ⟨n - (j + 1), _, _, _, (by exact zF (fun l => l)), by omega, j + 1, y2, by omega, hst.symm, rfl, rfl, rfl, rfl⟩
    · rw [if_neg hk] at hst
      have hq4 : q4 ≠ 0 := by omega
      have hms := message_ok j (by omega) rk ra rb rs
      have hS := hi.see2 ⟨rk, ra, rb, rs⟩ (by omega)
      have hbe := (msg_ok j (by omega) ⟨rk, ra, rb, rs⟩).e
      have hbf := two_fill _ hbe
      have hbc := bd_cls (msgB j ⟨rk, ra, rb, rs⟩)
      have hbc1 : (D.agg (msgB j ⟨rk, ra, rb, rs⟩).cells).cl = true := hbc
      have hbfz := bd_fz (msgB j ⟨rk, ra, rb, rs⟩)
      have hbfz1 : D.fzs (msgB j ⟨rk, ra, rb, rs⟩).cells = (msgB j ⟨rk, ra, rb, rs⟩).cells := by simpa [D.fzs, D.fz] using hbfz
      have hzc : D.cls (bdC [msgB j ⟨rk, ra, rb, rs⟩, msgB j ⟨rk, ra, rb, rs⟩]) = true := bdC_cls _
      have hzf : D.fzs (bdC [msgB j ⟨rk, ra, rb, rs⟩, msgB j ⟨rk, ra, rb, rs⟩]) = bdC [msgB j ⟨rk, ra, rb, rs⟩, msgB j ⟨rk, ra, rb, rs⟩] := bdC_fzs _
      generalize y.meet (msgB j ⟨rk, ra, rb, rs⟩) (msgA ⟨rk, ra, rb, rs⟩) = y2 at *
      generalize bdC [msgB j ⟨rk, ra, rb, rs⟩, msgB j ⟨rk, ra, rb, rs⟩] = zb at *
      generalize hbce : (msgB j ⟨rk, ra, rb, rs⟩).cells = bc at *
      unfold GuT.cells guC bD mD at hS
      repeat (first | refine zC ?_ | (refine k_indexAddrs rfl rfl rfl ⟨?_, ?_⟩ hzl ?_; (omega); (omega)) | refine k_loade rfl rfl (hc1 _) ?_ | refine k_load rfl rfl rfl (raw_4 rk ra rb rs _) ?_ | refine k_buildSlice rfl rfl hbf hzf hzc rfl rfl ?_ | refine zA ?_ | refine k_call rfl p4 rfl rfl rfl rfl ?_ | refine k_call rfl hms rfl rfl rfl hbc1 ?_ | refine k_call rfl hS rfl rfl rfl rfl ?_ | refine zB ?_)
      exact ⟨n - (j + 1), _, _, _, (by exact zF (fun l => l)), by omega, j + 1, y2, by omega, hst.symm, rfl, rfl, rfl, rfl⟩
  · have ej : j = n := by omega
    subst ej
    rw [← hy]
    refine zR ?_
    (first | with_reducible refine q_endr ?_); refine rets2 Tryz.results4 (by exact zv) (by exact zv) ?_ ?_
    · rfl
    · rfl
end Go.Proofs.YtcfefmbbbfdppaaGreatDoor
namespace Go.Proofs.YtcfefmbbbfdppaaGreatDoor
open Go.RowKit Go.Lib Go.IntWalk
set_option linter.unusedVariables false
set_option maxRecDepth 100000
theorem rel1_perm (s : List BodyT × List BodyT) (id : Nat) : ((rel1 s id).2 ++ (rel1 s id).1).Perm (s.2 ++ s.1) := by
  have e : (fun c : BodyT => decide (c.id ≠ id)) = fun c : BodyT => !decide (c.id = id) := by funext c; simp
  show ((s.2 ++ s.1.filter (fun c => decide (c.id = id))) ++ s.1.filter (fun c => decide (c.id ≠ id))).Perm _
  rw [List.append_assoc, e]
  exact (List.filter_append_perm (fun c : BodyT => decide (c.id = id)) s.1).append_left s.2
theorem rel_perm : ∀ (ids : List Nat) (s : List BodyT × List BodyT), ((rel s ids).2 ++ (rel s ids).1).Perm (s.2 ++ s.1)
  | [], s => List.Perm.refl _
  | i :: ids, s => (rel_perm ids (rel1 s i)).trans (rel1_perm s i)
structure LW (x : GuT) : Prop where
  nd : ((x.dn ++ x.hd).map BodyT.id).Nodup
  ms : ∀ b ∈ x.dn ++ x.hd, ∃ i r, i < 256 ∧ b = msgB i r
theorem LW.perm {x y : GuT} (h : LW x) (p : (y.dn ++ y.hd).Perm (x.dn ++ x.hd)) : LW y :=
  ⟨(p.map BodyT.id).nodup_iff.2 h.nd, fun b hb => h.ms b (p.mem_iff.1 hb)⟩
theorem LW.wait {x : GuT} (h : LW x) (k : Nat) : LW (x.wait k) := h.perm (y := x.wait k) (rel_perm (tick x.g k).2 (x.hd, x.dn))
theorem LW.meet {x : GuT} (h : LW x) (i : Nat) (hi : i < 256) (r : RawT) (hk : knowsB (msgB i r).id (x.dn ++ x.hd) = false) : LW (x.meet (msgB i r) (msgA r)) := by
  have key : ∀ y : GuT, (y.dn ++ y.hd).Perm (msgB i r :: (x.dn ++ x.hd)) → LW y := fun y p => by
    refine ⟨(p.map BodyT.id).nodup_iff.2 ?_, fun b hb => ?_⟩
    · rw [List.map_cons, List.nodup_cons]
      refine ⟨fun hm => ?_, h.nd⟩
      obtain ⟨b, hb, e⟩ := List.mem_map.1 hm
      unfold knowsB at hk
      rw [List.any_eq_false] at hk
      exact hk b hb (by simpa using e)
    · rcases List.mem_cons.1 (p.mem_iff.1 hb) with rfl | hb
      · exact ⟨i, r, hi, rfl⟩
      · exact h.ms b hb
  unfold GuT.meet GuT.take
  split
  · refine key _ ?_
    show ((x.dn ++ [msgB i r]) ++ x.hd).Perm _
    rw [List.append_assoc]
    exact List.perm_middle
  · refine key _ ?_
    show (x.dn ++ (x.hd ++ [msgB i r])).Perm _
    rw [← List.append_assoc]
    exact List.perm_append_singleton _ _
theorem lv_word (g : GT) (hg : Start g) (l : List RawT) : ∀ j, j ≤ l.length → j ≤ 20 → LW (lv g l j)
  | 0, _, _ => ⟨List.nodup_nil, fun b hb => absurd hb List.not_mem_nil⟩
  | j + 1, hj, hj2 => by
    have ih := lv_word g hg l j (by omega) (by omega)
    have hr : l[j]? = some (l[j]'(by omega)) := List.getElem?_eq_getElem (by omega)
    have hi := lv_inv g hg l j (by omega) (by omega)
    rw [lv_step g l j _ hr]
    unfold lvS
    split
    · exact ih.wait _
    · exact ih.meet j (by omega) _ (hi.new _ (by omega)).2.1
theorem LW.apart {x : GuT} (h : LW x) : ∀ b ∈ x.hd, ∀ c ∈ x.dn, c ≠ b := by
  intro b hb c hc e
  have hn := h.nd
  rw [List.map_append] at hn
  have := (List.nodup_append.1 hn).2.2 c.id (List.mem_map.2 ⟨c, hc, rfl⟩) b.id (List.mem_map.2 ⟨b, hb, rfl⟩)
  exact this (by rw [e])
theorem LW.first {x : GuT} (h : LW x) (i : Nat) (b : BodyT) (hb : x.dn[i]? = some b) : ∀ j c, j < i → x.dn[j]? = some c → c ≠ b := by
  intro j c hj hc e
  have hn := h.nd
  rw [List.map_append] at hn
  have hn := (List.nodup_append.1 hn).1
  obtain ⟨h1, e1⟩ := List.getElem?_eq_some_iff.1 hb
  obtain ⟨h2, e2⟩ := List.getElem?_eq_some_iff.1 hc
  rw [List.nodup_iff_pairwise_ne, List.pairwise_iff_getElem] at hn
  have := hn j i (by simp; omega) (by simp; omega) hj
  simp only [List.getElem_map] at this
  rw [e1, e2, e] at this
  exact this rfl
theorem LW.known {x : GuT} (_ : LW x) (b : BodyT) (hb : b ∈ x.dn ++ x.hd) : knowsB b.id (x.dn ++ x.hd) = true := by
  unfold knowsB
  rw [List.any_eq_true]
  exact ⟨b, hb, by simp⟩
theorem LW.out {x : GuT} (h : LW x) (b : BodyT) (hb : b ∈ x.dn ++ x.hd) : b.out.length = 188 ∧ b.ok := by
  obtain ⟨i, r, hi, rfl⟩ := h.ms b hb
  exact ⟨msg_outlen r i hi, msg_ok i hi r⟩
end Go.Proofs.YtcfefmbbbfdppaaGreatDoor
namespace Go.Proofs.YtcfefmbbbfdppaaGreatDoor
open Go.RowKit Go.Lib Go.IntWalk
set_option linter.unusedVariables false
set_option maxRecDepth 100000
theorem deqs_bs : ∀ (x y : List UInt8), x.length = y.length → deqs (bs x) (bs y) = decide (x = y)
  | [], [], _ => rfl
  | [], b :: y, h => by simp at h
  | a :: x, [], h => by simp at h
  | a :: x, b :: y, h => by
    show (deq1 (.int .u8 _) (.int .u8 _) && deqs (bs x) (bs y)) = _
    rw [deqs_bs x y (by simpa using h)]
    simp only [deq1]
    rw [Bool.eq_iff_iff]
    simp only [Bool.and_eq_true, decide_eq_true_eq, beq_iff_eq, List.cons.injEq]
    constructor
    · rintro ⟨h1, h2⟩; exact ⟨UInt8.toNat_inj.1 (by omega), h2⟩
    · rintro ⟨rfl, rfl⟩; simp
theorem lks_bs : ∀ (n : Nat) (z : List UInt8), z.length = n → lks (bs z) = lks (bs (List.replicate n 0))
  | 0, [], _ => rfl
  | n + 1, c :: z, h => by
    have ih := lks_bs n z (by simpa using h)
    rw [List.replicate_succ]
    show lks (D.int .u8 (c.toNat : Int) :: bs z) = lks (D.int .u8 _ :: bs (List.replicate n 0))
    unfold lks
    rw [ih]
    rfl
set_option maxHeartbeats 8000000 in
theorem same_ok (a b : BodyT) (ha : a.e.length = 32) (hb : b.e.length = 32) (c : Bool) (hc : c = true ↔ a = b) : Pur Tryz.prog 67 [.agg a.cells, .agg b.cells] (.bool c) := by
  obtain ⟨c1, h1⟩ : ∃ c1, decide ((a.t : Int) = b.t) = c1 := ⟨_, rfl⟩
  obtain ⟨c2, h2⟩ : ∃ c1, decide ((a.n : Int) = b.n) = c1 := ⟨_, rfl⟩
  obtain ⟨c3, h3⟩ : ∃ c1, decide ((a.c : Int) = b.c) = c1 := ⟨_, rfl⟩
  obtain ⟨c4, h4⟩ : ∃ c1, deqs (bs a.e) (bs b.e) = c1 := ⟨_, rfl⟩
  obtain ⟨c5, h5⟩ : ∃ c1, decide ((a.u : Int) = b.u) = c1 := ⟨_, rfl⟩
  obtain ⟨c6, h6⟩ : ∃ c1, decide ((a.v : Int) = b.v) = c1 := ⟨_, rfl⟩
  obtain ⟨c7, h7⟩ : ∃ c1, ((⟨a.l.toArray⟩ : ByteArray).toList == (⟨b.l.toArray⟩ : ByteArray).toList) = c1 := ⟨_, rfl⟩
  have hcc : c = (c1 && c2 && c3 && c4 && c5 && c6 && c7) := by
    rw [← h1, ← h2, ← h3, ← h4, ← h5, ← h6, ← h7, ba_mk, ba_mk, deqs_bs _ _ (by rw [ha, hb])]
    rw [Bool.eq_iff_iff, hc]
    cases a; cases b
    simp only [decide_eq_true_eq, BodyT.mk.injEq, Bool.and_eq_true, beq_iff_eq, Int.natCast_inj]
    grind
  clear hc
  subst hcc
  have k1 := lks_bs 32 a.e ha
  have k2 := lks_bs 32 b.e hb
  have la := bd_len ha
  have lb := bd_len hb
  have pa := bd_put ha
  have pb := bd_put hb
  have ua := bd_at ha 0 _ rfl
  have va := bd_at ha 1 _ rfl
  have da := bd_at ha 2 _ rfl
  have ea := bd_e ha
  have ub := bd_at hb 0 _ rfl
  have vb := bd_at hb 1 _ rfl
  have db := bd_at hb 2 _ rfl
  have eb := bd_e hb
  have t_ : ∀ (b : BodyT) ze, cut ⟨false, 1, ze⟩ 0 b.cells = some (.int .i64 b.t) := fun _ _ => rfl
  have n_ : ∀ (b : BodyT) ze, cut ⟨false, 1, ze⟩ 1 b.cells = some (.int .i64 b.n) := fun _ _ => rfl
  have c_ : ∀ (b : BodyT) ze, cut ⟨false, 1, ze⟩ 2 b.cells = some (.int .i64 b.c) := fun _ _ => rfl
  have ta := t_ a; have tb := t_ b; have na := n_ a; have nb := n_ b; have ca := c_ a; have cb := c_ b
  clear t_ n_ c_
  generalize a.cells = x at *
  generalize b.cells = y at *
  refine pur_intro Tryz.func67 rfl Tryz.ntmps67 rfl (by first | rfl | assumption | exact bs_cl _) fun B => ?_
  repeat (first | refine zC ?_ | refine k_load rfl rfl rfl (ta _) ?_ | refine k_load rfl rfl rfl (tb _) ?_ | refine zA ?_ | refine k_eql rfl rfl rfl h1 ?_ | refine zB ?_)
  cases c1
  · refine zR ?_
    (first | with_reducible refine q_endr ?_); refine rets1 Tryz.results67 (by exact zv) ?_
    rfl
  repeat (first | refine zC ?_ | refine k_load rfl rfl rfl (na _) ?_ | refine k_load rfl rfl rfl (nb _) ?_ | refine zA ?_ | refine k_eql rfl rfl rfl h2 ?_ | refine zB ?_)
  cases c2
  · refine zR ?_
    (first | with_reducible refine q_endr ?_); refine rets1 Tryz.results67 (by exact zv) ?_
    rfl
  repeat (first | refine zC ?_ | refine k_load rfl rfl rfl (ca _) ?_ | refine k_load rfl rfl rfl (cb _) ?_ | refine zA ?_ | refine k_eql rfl rfl rfl h3 ?_ | refine zB ?_)
  cases c3
  · refine zR ?_
    (first | with_reducible refine q_endr ?_); refine rets1 Tryz.results67 (by exact zv) ?_
    rfl
  repeat (first | refine zC ?_ | refine k_load rfl rfl rfl (ea _) ?_ | refine k_load rfl rfl rfl (eb _) ?_ | refine zA ?_ | refine k_eqa rfl rfl rfl k1 k2 h4 ?_ | refine zB ?_)
  cases c4
  · refine zR ?_
    (first | with_reducible refine q_endr ?_); refine rets1 Tryz.results67 (by exact zv) ?_
    rfl
  repeat (first | refine zC ?_ | refine k_load rfl rfl rfl (by exact ua _ _ rfl) ?_ | refine k_load rfl rfl rfl (by exact ub _ _ rfl) ?_ | refine zA ?_ | refine k_eql rfl rfl rfl h5 ?_ | refine zB ?_)
  cases c5
  · refine zR ?_
    (first | with_reducible refine q_endr ?_); refine rets1 Tryz.results67 (by exact zv) ?_
    rfl
  repeat (first | refine zC ?_ | refine k_load rfl rfl rfl (by exact va _ _ rfl) ?_ | refine k_load rfl rfl rfl (by exact vb _ _ rfl) ?_ | refine zA ?_ | refine k_eql rfl rfl rfl h6 ?_ | refine zB ?_)
  cases c6
  · refine zR ?_
    (first | with_reducible refine q_endr ?_); refine rets1 Tryz.results67 (by exact zv) ?_
    rfl
  repeat (first | refine zC ?_ | refine k_load rfl rfl rfl (by exact da _ _ rfl) ?_ | refine k_load rfl rfl rfl (by exact db _ _ rfl) ?_ | refine zA ?_ | refine k_b2s rfl Tryz.underlying9 Tryz.underlying5 rfl rfl ?_ | refine k_eqs rfl rfl rfl h7 ?_ | refine zB ?_)
  (first | with_reducible refine q_endr ?_); refine rets1 Tryz.results67 (by exact zv) ?_
  rfl
end Go.Proofs.YtcfefmbbbfdppaaGreatDoor
namespace Go.Proofs.YtcfefmbbbfdppaaGreatDoor
open Go.RowKit
set_option linter.unusedVariables false
theorem and_one (x : Int) (t : Nat) (hx : 0 ≤ x) (hx' : x < 18446744073709551616) : bits BinOp.and IntKind.u64 (x / 2 ^ t) 1 = x / 2 ^ t % 2 := by
  have h0 : 0 ≤ x / 2 ^ t := Int.ediv_nonneg hx (Int.le_of_lt (Int.pow_pos (by decide)))
  have h1 : x / 2 ^ t ≤ x := Int.ediv_le_self _ hx
  obtain ⟨y, hy⟩ := Int.eq_ofNat_of_zero_le h0
  rw [hy]
  exact and_one_u64 _ (by omega) (by omega)
set_option maxRecDepth 100000 in
theorem bit_0 (x0 x1 x2 x3 : Int) (i : Int) (t : Nat) (e1 : i / 64 = 0) (e2 : i % 64 = t) (h0 : 0 ≤ i) (h1 : i < 256) (ht : (t : Int) < 64) (hx : 0 ≤ x0) (hx' : x0 < 18446744073709551616) (w : World) :
    Calls Tryz.prog 98 #[.agg #[.int .u64 x0, .int .u64 x1, .int .u64 x2, .int .u64 x3], .int .i64 i] w fun e w' => e = .returned (.int .u64 (x0 / 2 ^ t % 2)) ∧ New w w' := by
  have E := hide (and_one x0 t hx hx')
  go_enter Tryz.func98, Tryz.ntmps98
  go_wp2
  go_ret
  exact ⟨ret_int (unhide E), by (repeat' (first | with_reducible exact new_refl _ | with_reducible assumption | with_reducible refine new_drewN ?_ _ | with_reducible refine new_drew ?_ | with_reducible refine new_alloc ?_ _ | with_reducible refine new_set ?_ ?_ _ | with_reducible refine new_freeze ?_ ?_ _ | with_reducible refine new_trans ?_ (by assumption) | (simp; done) | (simp; omega)))⟩
set_option maxRecDepth 100000 in
theorem bit_1 (x0 x1 x2 x3 : Int) (i : Int) (t : Nat) (e1 : i / 64 = 1) (e2 : i % 64 = t) (h0 : 0 ≤ i) (h1 : i < 256) (ht : (t : Int) < 64) (hx : 0 ≤ x1) (hx' : x1 < 18446744073709551616) (w : World) :
    Calls Tryz.prog 98 #[.agg #[.int .u64 x0, .int .u64 x1, .int .u64 x2, .int .u64 x3], .int .i64 i] w fun e w' => e = .returned (.int .u64 (x1 / 2 ^ t % 2)) ∧ New w w' := by
  have E := hide (and_one x1 t hx hx')
  go_enter Tryz.func98, Tryz.ntmps98
  go_wp2
  go_ret
  exact ⟨ret_int (unhide E), by (repeat' (first | with_reducible exact new_refl _ | with_reducible assumption | with_reducible refine new_drewN ?_ _ | with_reducible refine new_drew ?_ | with_reducible refine new_alloc ?_ _ | with_reducible refine new_set ?_ ?_ _ | with_reducible refine new_freeze ?_ ?_ _ | with_reducible refine new_trans ?_ (by assumption) | (simp; done) | (simp; omega)))⟩
set_option maxRecDepth 100000 in
theorem bit_2 (x0 x1 x2 x3 : Int) (i : Int) (t : Nat) (e1 : i / 64 = 2) (e2 : i % 64 = t) (h0 : 0 ≤ i) (h1 : i < 256) (ht : (t : Int) < 64) (hx : 0 ≤ x2) (hx' : x2 < 18446744073709551616) (w : World) :
    Calls Tryz.prog 98 #[.agg #[.int .u64 x0, .int .u64 x1, .int .u64 x2, .int .u64 x3], .int .i64 i] w fun e w' => e = .returned (.int .u64 (x2 / 2 ^ t % 2)) ∧ New w w' := by
  have E := hide (and_one x2 t hx hx')
  go_enter Tryz.func98, Tryz.ntmps98
  go_wp2
  go_ret
  exact ⟨ret_int (unhide E), by (repeat' (first | with_reducible exact new_refl _ | with_reducible assumption | with_reducible refine new_drewN ?_ _ | with_reducible refine new_drew ?_ | with_reducible refine new_alloc ?_ _ | with_reducible refine new_set ?_ ?_ _ | with_reducible refine new_freeze ?_ ?_ _ | with_reducible refine new_trans ?_ (by assumption) | (simp; done) | (simp; omega)))⟩
set_option maxRecDepth 100000 in
theorem bit_3 (x0 x1 x2 x3 : Int) (i : Int) (t : Nat) (e1 : i / 64 = 3) (e2 : i % 64 = t) (h0 : 0 ≤ i) (h1 : i < 256) (ht : (t : Int) < 64) (hx : 0 ≤ x3) (hx' : x3 < 18446744073709551616) (w : World) :
    Calls Tryz.prog 98 #[.agg #[.int .u64 x0, .int .u64 x1, .int .u64 x2, .int .u64 x3], .int .i64 i] w fun e w' => e = .returned (.int .u64 (x3 / 2 ^ t % 2)) ∧ New w w' := by
  have E := hide (and_one x3 t hx hx')
  go_enter Tryz.func98, Tryz.ntmps98
  go_wp2
  go_ret
  exact ⟨ret_int (unhide E), by (repeat' (first | with_reducible exact new_refl _ | with_reducible assumption | with_reducible refine new_drewN ?_ _ | with_reducible refine new_drew ?_ | with_reducible refine new_alloc ?_ _ | with_reducible refine new_set ?_ ?_ _ | with_reducible refine new_freeze ?_ ?_ _ | with_reducible refine new_trans ?_ (by assumption) | (simp; done) | (simp; omega)))⟩
theorem lim_bit (a q t : Nat) (ht : t < 64) : lim a q / 2 ^ t % 2 = ((a / 2 ^ (64 * q + t) % 2 : Nat) : Int) := by
  unfold lim
  have h : (18446744073709551616 : Nat) ^ q = 2 ^ (64 * q) := by rw [Nat.pow_mul]
  rw [h, Nat.pow_add, ← Nat.div_div_eq_div_mul]
  have e : ((2 : Int) ^ t) = ((2 ^ t : Nat) : Int) := by simp
  rw [e]
  generalize a / 2 ^ (64 * q) = y
  have e2 : (18446744073709551616 : Nat) = 2 ^ t * 2 ^ (64 - t) := by rw [← Nat.pow_add, show t + (64 - t) = 64 from by omega]
  have e3 : (2 : Nat) ^ (64 - t) = 2 * 2 ^ (63 - t) := by rw [show 64 - t = (63 - t) + 1 from by omega, Nat.pow_succ, Nat.mul_comm]
  have : y % 18446744073709551616 / 2 ^ t % 2 = y / 2 ^ t % 2 := by
    rw [e2, Nat.mod_mul_right_div_self, e3, Nat.mod_mul_right_mod]
  omega
theorem bit_any (a i : Nat) (hi : i < 256) (w : World) :
    Calls Tryz.prog 98 #[u a, .int .i64 i] w fun e w' => e = .returned (.int .u64 ((a / 2 ^ i % 2 : Nat) : Int)) ∧ New w w' := by
  obtain ⟨q, t, ht, rfl⟩ : ∃ q t, t < 64 ∧ i = 64 * q + t := ⟨i / 64, i % 64, by omega, by omega⟩
  rw [← lim_bit a q t ht]
  have hq : q = 0 ∨ q = 1 ∨ q = 2 ∨ q = 3 := by omega
  rcases hq with rfl | rfl | rfl | rfl
  · exact bit_0 _ _ _ _ _ t (by omega) (by omega) (by omega) (by omega) (by omega) (lim_nonneg a 0) (lim_lt a 0) w
  · exact bit_1 _ _ _ _ _ t (by omega) (by omega) (by omega) (by omega) (by omega) (lim_nonneg a 1) (lim_lt a 1) w
  · exact bit_2 _ _ _ _ _ t (by omega) (by omega) (by omega) (by omega) (by omega) (lim_nonneg a 2) (lim_lt a 2) w
  · exact bit_3 _ _ _ _ _ t (by omega) (by omega) (by omega) (by omega) (by omega) (lim_nonneg a 3) (lim_lt a 3) w
end Go.Proofs.YtcfefmbbbfdppaaGreatDoor
