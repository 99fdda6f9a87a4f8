/- gate's Offer. Conditions: a gate that may be, an amount that may be, a chain that is one. -/
import Derived.Test.YtcfefmbbbfdppaaGreatDoorSBytes
import Derived.Test.YtcfefmbbbfdppaaGreatDoorSGate1
import Derived.Test.YtcfefmbbbfdppaaGreatDoorSDMi
namespace Go.Proofs.YtcfefmbbbfdppaaGreatDoor
open Go.RowKit
set_option linter.unusedVariables false
set_option maxRecDepth 100000
set_option maxHeartbeats 8000000 in
theorem used_ok (l0 l1 l2 b0 b1 b2 now : Nat) (past : List QT) (q : D) (hq : q.cl = true) (ch : Nat) (hn : past.length ≤ 1000) (hnow : now ≤ 1099511627776) (he : ∀ x ∈ past, x.val ≤ 1073741824 ∧ x.at_ ≤ now) (r : Nat) (hr : used ch now past = r) (np : Nat) (hnp : past.length = np) :
    Pur Tryz.prog 112 [.agg (gC l0 l1 l2 b0 b1 b2 now (.slice .frozen np (qsC past)) q), .int .i64 (ch : Int)] (.int .i64 (r : Int)) := by
  have hl := qs_len past
  have hc := qs_cut past
  have hs := used_snoc ch now past
  have hle : ∀ j, used ch now (past.take j) ≤ 1000 * 1073741824 := fun j => by
    have h1 := used_le ch now 1073741824 (past.take j) fun x hx => (he x (List.mem_of_mem_take hx)).1
    have h2 : (past.take j).length ≤ 1000 := by rw [List.length_take]; omega
    exact Nat.le_trans h1 (Nat.mul_le_mul_right _ h2)
  have h0 : used ch now (past.take 0) = 0 := rfl
  have htk : past.take np = past := List.take_of_length_le (by omega)
  have hzl : np * 4 = (qsC past).length := by omega
  have hqb := fun n => bel_cl n q hq
  unfold gC
  generalize qsC past = z at *
  refine pur_intro Tryz.func112 rfl Tryz.ntmps112 rfl (by first | rfl | assumption | exact bs_cl _) fun B => ?_
  refine zr ?_
  refine W_loopW (fun n' ρ m nx => ∃ (j : Nat) (s : Int), j ≤ np ∧ s = ((used ch now (past.take j) : Nat) : Int) ∧ n' = np - j ∧ ρ = [(11, .int .i64 (j : Int)), (10, .int .i64 (np : Int)), (9, .slice .frozen np z), (5, .int .i64 s), (2, .ptr 0 0), (1, .int .i64 (ch : Int))] ∧ m = [(0, some (.var 31 [.int .i64 l0, .int .i64 l1, .int .i64 l2, .int .i64 b0, .int .i64 b1, .int .i64 b2, .int .i64 now, .slice .frozen np z, q]))] ∧ nx = 1)
    ⟨_, _, _, _, weak_sub (by exact zs) (by refine ⟨⟨rfl, rfl, ?_⟩, trivial⟩; show (q.bel _ && true) = true; rw [hqb]; rfl) (Nat.zero_le _), 0, 0, Nat.zero_le _, rfl, rfl, rfl, rfl, rfl⟩ ?_
  rintro n' ρ m nx ⟨j, s, hj, hs', rfl, rfl, rfl, rfl⟩
  by_cases hlt : j < np
  · obtain ⟨x, hx⟩ : ∃ x, past[j]? = some x := ⟨_, List.getElem?_eq_getElem (by omega)⟩
    have hcx := hc j x hx
    obtain ⟨e1, e2⟩ := he x (List.mem_of_getElem? hx)
    have hsx := hs j x hx
    have hl1 := hle j
    obtain ⟨xi, xv, xc, xa⟩ := x
    dsimp only at *
    by_cases hc1 : xc = ch
    · by_cases hc2 : now - xa < 24
      · rw [if_pos ⟨hc1, hc2⟩] at hsx
        repeat (first | refine zc ?_ | (refine k_indexAddrs rfl rfl rfl ⟨?_, ?_⟩ hzl ?_; (omega); (omega)) | refine k_loade rfl rfl (hcx _) ?_ | refine zAB ?_)
        refine ⟨np - (j + 1), _, _, _, weak_sub (by exact zs) (by refine ⟨⟨rfl, rfl, ?_⟩, trivial⟩; show (q.bel _ && true) = true; rw [hqb]; rfl) (Nat.zero_le _), by omega, j + 1, _, by omega, ?_, rfl, rfl, rfl, rfl⟩
        omega
      · rw [if_neg (fun h => hc2 h.2)] at hsx
        repeat (first | refine zc ?_ | (refine k_indexAddrs rfl rfl rfl ⟨?_, ?_⟩ hzl ?_; (omega); (omega)) | refine k_loade rfl rfl (hcx _) ?_ | refine zAB ?_)
        exact ⟨np - (j + 1), _, _, _, weak_sub (by exact zs) (by refine ⟨⟨rfl, rfl, ?_⟩, trivial⟩; show (q.bel _ && true) = true; rw [hqb]; rfl) (Nat.zero_le _), by omega, j + 1, s, by omega, by omega, rfl, rfl, rfl, rfl⟩
    · rw [if_neg (fun h => hc1 h.1)] at hsx
      repeat (first | refine zc ?_ | (refine k_indexAddrs rfl rfl rfl ⟨?_, ?_⟩ hzl ?_; (omega); (omega)) | refine k_loade rfl rfl (hcx _) ?_ | refine zAB ?_)
      exact ⟨np - (j + 1), _, _, _, weak_sub (by exact zs) (by refine ⟨⟨rfl, rfl, ?_⟩, trivial⟩; show (q.bel _ && true) = true; rw [hqb]; rfl) (Nat.zero_le _), by omega, j + 1, s, by omega, by omega, rfl, rfl, rfl, rfl⟩
  · have ej : j = np := by omega
    subst ej
    rw [htk, hr] at hs'
    subst hs'
    refine zr ?_
    (first | with_reducible refine q_endr ?_); refine rets1 Tryz.results112 (by exact zv) ?_
    rfl
def gsel (l0 l1 l2 c : Nat) : Nat := if c = 0 then l0 else if c = 1 then l1 else l2
set_option maxHeartbeats 8000000 in
theorem fits_ok (l0 l1 l2 b0 b1 b2 now : Nat) (past : List QT) (q : D) (hq : q.cl = true) (hqf : q.fz = q) (xi xv xc xa : Nat) (hx : xc < 3) (hxv : xv ≤ 1073741824) (hn : past.length ≤ 1000) (hnow : now ≤ 1099511627776) (he : ∀ x ∈ past, x.val ≤ 1073741824 ∧ x.at_ ≤ now) (np : Nat) (hnp : past.length = np) (hnp9 : np ≤ 40)
    (r : Bool) (hr : (decide (xv < gsel b0 b1 b2 xc) && (decide (used xc now past + xv ≤ gsel l0 l1 l2 xc) && decide (np < 40))) = r) :
    Pur Tryz.prog 102 [.agg (gC l0 l1 l2 b0 b1 b2 now (.slice .frozen np (qsC past)) q), .agg [.int .i64 xi, .int .i64 xv, .int .i64 xc, .int .i64 xa]] (.bool r) := by
  have hu := used_ok l0 l1 l2 b0 b1 b2 now past q hq xc hn hnow he _ rfl np hnp
  have hul := used_le xc now 1073741824 past fun x hx => (he x hx).1
  have hul2 : used xc now past ≤ 1000 * 1073741824 := Nat.le_trans hul (Nat.mul_le_mul_right _ hn)
  generalize used xc now past = U at *
  have hfz : D.fzs (gC l0 l1 l2 b0 b1 b2 now (.slice .frozen np (qsC past)) q) = gC l0 l1 l2 b0 b1 b2 now (.slice .frozen np (qsC past)) q := by
    unfold gC; simp only [D.fzs, D.fz, hqf]
  have hcl : D.cls (gC l0 l1 l2 b0 b1 b2 now (.slice .frozen np (qsC past)) q) = true := by
    unfold gC; simp only [D.cls, D.cl, hq, Bool.and_true]
  have hcl2 : D.cls [.agg (gC l0 l1 l2 b0 b1 b2 now (.slice .frozen np (qsC past)) q), .int .i64 (xc : Int)] = true := by
    show (D.cls _ && (true && true)) = true; rw [hcl]; rfl
  have hfz2 : D.fzs [.agg (gC l0 l1 l2 b0 b1 b2 now (.slice .frozen np (qsC past)) q), .int .i64 (xc : Int)] = [.agg (gC l0 l1 l2 b0 b1 b2 now (.slice .frozen np (qsC past)) q), .int .i64 (xc : Int)] := by
    show [D.agg (D.fzs _), _] = _; rw [hfz]; rfl
  have gcut : ∀ ze, cut ⟨true, 9, ze⟩ 0 (gC l0 l1 l2 b0 b1 b2 now (.slice .frozen np (qsC past)) q) = some (.agg (gC l0 l1 l2 b0 b1 b2 now (.slice .frozen np (qsC past)) q)) := fun _ => rfl
  unfold gC at *
  generalize qsC past = z at *
  clear hul he
  have h3 : xc = 0 ∨ xc = 1 ∨ xc = 2 := by omega
  rcases h3 with rfl | rfl | rfl
  · rw [show gsel b0 b1 b2 0 = b0 from rfl, show gsel l0 l1 l2 0 = l0 from rfl] at hr
    by_cases c1 : xv < b0
    · rw [decide_eq_true c1, Bool.true_and] at hr
      by_cases c2 : U + xv ≤ l0
      · rw [decide_eq_true c2, Bool.true_and] at hr
        by_cases c3 : np < 40
        · rw [decide_eq_true c3] at hr
          subst hr
          refine pur_intro Tryz.func102 rfl Tryz.ntmps102 rfl (by first | rfl | assumption | exact bs_cl _) fun B => ?_
          repeat (first | refine zc ?_ | refine k_load rfl rfl rfl (gcut _) ?_ | refine zA ?_ | refine k_call rfl hu rfl hfz2 hcl2 rfl ?_ | refine zB ?_)
          (first | with_reducible refine q_endr ?_); refine rets1 Tryz.results102 (by exact zv) ?_
          rfl
        · rw [decide_eq_false c3] at hr
          subst hr
          refine pur_intro Tryz.func102 rfl Tryz.ntmps102 rfl (by first | rfl | assumption | exact bs_cl _) fun B => ?_
          repeat (first | refine zc ?_ | refine k_load rfl rfl rfl (gcut _) ?_ | refine zA ?_ | refine k_call rfl hu rfl hfz2 hcl2 rfl ?_ | refine zB ?_)
          (first | with_reducible refine q_endr ?_); refine rets1 Tryz.results102 (by exact zv) ?_
          rfl
      · rw [decide_eq_false c2, Bool.false_and] at hr
        subst hr
        refine pur_intro Tryz.func102 rfl Tryz.ntmps102 rfl (by first | rfl | assumption | exact bs_cl _) fun B => ?_
        repeat (first | refine zc ?_ | refine k_load rfl rfl rfl (gcut _) ?_ | refine zA ?_ | refine k_call rfl hu rfl hfz2 hcl2 rfl ?_ | refine zB ?_)
        (first | with_reducible refine q_endr ?_); refine rets1 Tryz.results102 (by exact zv) ?_
        rfl
    · rw [decide_eq_false c1, Bool.false_and] at hr
      subst hr
      refine pur_intro Tryz.func102 rfl Tryz.ntmps102 rfl (by first | rfl | assumption | exact bs_cl _) fun B => ?_
      repeat (first | refine zc ?_ | refine k_load rfl rfl rfl (gcut _) ?_ | refine zA ?_ | refine k_call rfl hu rfl hfz2 hcl2 rfl ?_ | refine zB ?_)
      (first | with_reducible refine q_endr ?_); refine rets1 Tryz.results102 (by exact zv) ?_
      rfl
  · rw [show gsel b0 b1 b2 1 = b1 from rfl, show gsel l0 l1 l2 1 = l1 from rfl] at hr
    by_cases c1 : xv < b1
    · rw [decide_eq_true c1, Bool.true_and] at hr
      by_cases c2 : U + xv ≤ l1
      · rw [decide_eq_true c2, Bool.true_and] at hr
        by_cases c3 : np < 40
        · rw [decide_eq_true c3] at hr
          subst hr
          refine pur_intro Tryz.func102 rfl Tryz.ntmps102 rfl (by first | rfl | assumption | exact bs_cl _) fun B => ?_
          repeat (first | refine zc ?_ | refine k_load rfl rfl rfl (gcut _) ?_ | refine zA ?_ | refine k_call rfl hu rfl hfz2 hcl2 rfl ?_ | refine zB ?_)
          (first | with_reducible refine q_endr ?_); refine rets1 Tryz.results102 (by exact zv) ?_
          rfl
        · rw [decide_eq_false c3] at hr
          subst hr
          refine pur_intro Tryz.func102 rfl Tryz.ntmps102 rfl (by first | rfl | assumption | exact bs_cl _) fun B => ?_
          repeat (first | refine zc ?_ | refine k_load rfl rfl rfl (gcut _) ?_ | refine zA ?_ | refine k_call rfl hu rfl hfz2 hcl2 rfl ?_ | refine zB ?_)
          (first | with_reducible refine q_endr ?_); refine rets1 Tryz.results102 (by exact zv) ?_
          rfl
      · rw [decide_eq_false c2, Bool.false_and] at hr
        subst hr
        refine pur_intro Tryz.func102 rfl Tryz.ntmps102 rfl (by first | rfl | assumption | exact bs_cl _) fun B => ?_
        repeat (first | refine zc ?_ | refine k_load rfl rfl rfl (gcut _) ?_ | refine zA ?_ | refine k_call rfl hu rfl hfz2 hcl2 rfl ?_ | refine zB ?_)
        (first | with_reducible refine q_endr ?_); refine rets1 Tryz.results102 (by exact zv) ?_
        rfl
    · rw [decide_eq_false c1, Bool.false_and] at hr
      subst hr
      refine pur_intro Tryz.func102 rfl Tryz.ntmps102 rfl (by first | rfl | assumption | exact bs_cl _) fun B => ?_
      repeat (first | refine zc ?_ | refine k_load rfl rfl rfl (gcut _) ?_ | refine zA ?_ | refine k_call rfl hu rfl hfz2 hcl2 rfl ?_ | refine zB ?_)
      (first | with_reducible refine q_endr ?_); refine rets1 Tryz.results102 (by exact zv) ?_
      rfl
  · rw [show gsel b0 b1 b2 2 = b2 from rfl, show gsel l0 l1 l2 2 = l2 from rfl] at hr
    by_cases c1 : xv < b2
    · rw [decide_eq_true c1, Bool.true_and] at hr
      by_cases c2 : U + xv ≤ l2
      · rw [decide_eq_true c2, Bool.true_and] at hr
        by_cases c3 : np < 40
        · rw [decide_eq_true c3] at hr
          subst hr
          refine pur_intro Tryz.func102 rfl Tryz.ntmps102 rfl (by first | rfl | assumption | exact bs_cl _) fun B => ?_
          repeat (first | refine zc ?_ | refine k_load rfl rfl rfl (gcut _) ?_ | refine zA ?_ | refine k_call rfl hu rfl hfz2 hcl2 rfl ?_ | refine zB ?_)
          (first | with_reducible refine q_endr ?_); refine rets1 Tryz.results102 (by exact zv) ?_
          rfl
        · rw [decide_eq_false c3] at hr
          subst hr
          refine pur_intro Tryz.func102 rfl Tryz.ntmps102 rfl (by first | rfl | assumption | exact bs_cl _) fun B => ?_
          repeat (first | refine zc ?_ | refine k_load rfl rfl rfl (gcut _) ?_ | refine zA ?_ | refine k_call rfl hu rfl hfz2 hcl2 rfl ?_ | refine zB ?_)
          (first | with_reducible refine q_endr ?_); refine rets1 Tryz.results102 (by exact zv) ?_
          rfl
      · rw [decide_eq_false c2, Bool.false_and] at hr
        subst hr
        refine pur_intro Tryz.func102 rfl Tryz.ntmps102 rfl (by first | rfl | assumption | exact bs_cl _) fun B => ?_
        repeat (first | refine zc ?_ | refine k_load rfl rfl rfl (gcut _) ?_ | refine zA ?_ | refine k_call rfl hu rfl hfz2 hcl2 rfl ?_ | refine zB ?_)
        (first | with_reducible refine q_endr ?_); refine rets1 Tryz.results102 (by exact zv) ?_
        rfl
    · rw [decide_eq_false c1, Bool.false_and] at hr
      subst hr
      refine pur_intro Tryz.func102 rfl Tryz.ntmps102 rfl (by first | rfl | assumption | exact bs_cl _) fun B => ?_
      repeat (first | refine zc ?_ | refine k_load rfl rfl rfl (gcut _) ?_ | refine zA ?_ | refine k_call rfl hu rfl hfz2 hcl2 rfl ?_ | refine zB ?_)
      (first | with_reducible refine q_endr ?_); refine rets1 Tryz.results102 (by exact zv) ?_
      rfl
set_option maxHeartbeats 8000000 in
theorem gfresh_ok (l0 l1 l2 b0 b1 b2 now np nq : Nat) (past queue : List QT) (hn : past.length = np) (hm : queue.length = nq) (hn9 : np ≤ 1000) (hm9 : nq ≤ 1000) :
    Pur Tryz.prog 107 [.agg (gC l0 l1 l2 b0 b1 b2 now (.slice .frozen np (qsC past)) (.slice .frozen nq (qsC queue)))] (.agg (gC l0 l1 l2 b0 b1 b2 now (.slice .frozen np (qsC past)) (.slice .frozen nq (qsC queue)))) := by
  have hp := qs_len past
  have hq := qs_len queue
  rw [hn] at hp
  rw [hm] at hq
  unfold gC
  generalize qsC past = z at *
  generalize qsC queue = y at *
  have hz1 : np * 4 = z.length := hp.symm
  have hy1 : nq * 4 = y.length := hq.symm
  have s1 : 0 + np ≤ 16777216 := by omega
  have s2 : 0 + nq ≤ 16777216 := by omega
  refine pur_intro Tryz.func107 rfl Tryz.ntmps107 rfl (by first | rfl | assumption | exact bs_cl _) fun B => ?_
  repeat (first | refine zc ?_ | (refine k_append rfl rfl rfl ?_ rfl hz1 rfl s1 rfl (Nat.zero_add _) (List.nil_append _) ?_; (rfl)) | (refine k_append rfl rfl rfl ?_ rfl hy1 rfl s2 rfl (Nat.zero_add _) (List.nil_append _) ?_; (rfl)) | refine zAB ?_)
  (first | with_reducible refine q_endr ?_); refine rets1 Tryz.results107 (by exact zv) ?_
  rfl
set_option maxHeartbeats 8000000 in
theorem gfresh_fn (l0 l1 l2 b0 b1 b2 now np nq : Nat) (past queue : List QT) (hn : past.length = np) (hm : queue.length = nq) (hn9 : np ≤ 1000) (hm9 : nq ≤ 1000) :
    Fn Tryz.prog 107 0 [.agg (gC l0 l1 l2 b0 b1 b2 now (.slice .frozen np (qsC past)) (.slice .frozen nq (qsC queue)))] [] (.agg (gC l0 l1 l2 b0 b1 b2 now (.slice (.own 0) np (qsC past)) (.slice (.own 1) nq (qsC queue)))) [(0, some (.tok 132 4)), (1, some (.tok 132 4))] := by
  have hp := qs_len past
  have hq := qs_len queue
  rw [hn] at hp
  rw [hm] at hq
  unfold gC
  generalize qsC past = z at *
  generalize qsC queue = y at *
  have hz1 : np * 4 = z.length := hp.symm
  have hy1 : nq * 4 = y.length := hq.symm
  have s1 : 0 + np ≤ 16777216 := by omega
  have s2 : 0 + nq ≤ 16777216 := by omega
  refine fn_intro Tryz.func107 rfl Tryz.ntmps107 rfl fun B => ?_
  repeat (first | refine zc ?_ | (refine k_append rfl rfl rfl ?_ rfl hz1 rfl s1 rfl (Nat.zero_add _) (List.nil_append _) ?_; (rfl)) | (refine k_append rfl rfl rfl ?_ rfl hy1 rfl s2 rfl (Nat.zero_add _) (List.nil_append _) ?_; (rfl)) | refine zAB ?_)
  first | exact (q_endf (fun l => if l = 0 then 3 else 5) 2 (RetsF.r1 (by exact zv) (by exact zu)) rfl (by repeat (first | exact trivial | refine ⟨⟨rfl, _, rfl, Ups.refl _, rfl⟩, ?_⟩ | refine ⟨⟨rfl, rfl⟩, ?_⟩)) rfl rfl rfl).2 | exact (q_endf (fun l => if l = 0 then 3 else 5) 2 (RetsF.r1 (by exact zv) (by exact zu)) rfl (by repeat (first | exact trivial | refine ⟨⟨rfl, _, rfl, Ups.refl _, rfl⟩, ?_⟩ | refine ⟨⟨rfl, rfl⟩, ?_⟩)) rfl rfl rfl).1
end Go.Proofs.YtcfefmbbbfdppaaGreatDoor
namespace Go.Proofs.YtcfefmbbbfdppaaGreatDoor
open Go.RowKit
set_option linter.unusedVariables false
set_option maxRecDepth 100000
def has (id : Nat) (l : List QT) : Bool := l.any fun y => decide (y.id = id)
theorem has_no {id : Nat} {l : List QT} (h : ∀ y ∈ l, y.id ≠ id) : has id l = false := by
  unfold has
  rw [List.any_eq_false]
  intro y hy
  simpa using h y hy
theorem has_yes {id : Nat} {l : List QT} {y : QT} (hy : y ∈ l) (h : y.id = id) : has id l = true := by
  unfold has
  rw [List.any_eq_true]
  exact ⟨y, hy, by simpa using h⟩
def g0C : List D := gC 0 0 0 0 0 0 0 (.slice .nil 0 []) (.slice .nil 0 [])
def GT.pass (g : GT) (x : QT) : GT := { g with past := g.past ++ [x] }
def GT.hold (g : GT) (x : QT) : GT := { g with queue := g.queue ++ [x] }
def offerD (g : GT) (x : QT) : D :=
  if has x.id (g.past ++ g.queue) = true then .tup [.agg g0C, .bool false, .int .i64 8]
  else if g.fits x = true then .tup [.agg (g.pass x).cells, .bool true, .int .i64 0]
  else if g.queue.length = 40 then .tup [.agg g0C, .bool false, .int .i64 9]
  else .tup [.agg (g.hold x).cells, .bool false, .int .i64 0]
theorem offerD_cl (g : GT) (x : QT) : (offerD g x).cl = true := by
  unfold offerD
  split
  · rfl
  · split
    · rfl
    · split <;> rfl
set_option maxHeartbeats 16000000 in
theorem Offer_ok (g : GT) (hg : g.ok) (id n ch : Nat) (hid : id < 1099511627776) (hn : n ≤ 1073741824) (hch : ch < 3) (Rz : D) (hR : offerD g ⟨id, n, ch, g.now⟩ = Rz) :
    Pur Tryz.prog 89 [.agg g.cells, .int .i64 (id : Int), .int .i64 (n : Int), .int .i64 (ch : Int)] Rz := by
  have hck := gCheck_ok g hg
  have hRc := offerD_cl g ⟨id, n, ch, g.now⟩
  rw [hR] at hRc
  obtain ⟨hlim, hnow, hpl, hql, heach, hids⟩ := hg
  have hv := gvalue_ok n hn
  have hpz := qs_len g.past
  have hqz := qs_len g.queue
  have hpc := qs_cut g.past
  have hqc := qs_cut g.queue
  have hfr := gfresh_fn g.l0 g.l1 g.l2 g.b0 g.b1 g.b2 g.now _ _ g.past g.queue rfl rfl (by omega) (by omega)
  have hft := fits_ok g.l0 g.l1 g.l2 g.b0 g.b1 g.b2 g.now g.past (.slice .frozen g.queue.length (qsC g.queue)) rfl rfl id n ch g.now hch hn (by omega) hnow (fun x hx => by
    obtain ⟨e1, e2, e3, e4⟩ := heach x (List.mem_append.2 (.inl hx)); exact ⟨e1, e3⟩) _ rfl hpl _ rfl
  have hft2 : (decide (n < gsel g.b0 g.b1 g.b2 ch) && (decide (used ch g.now g.past + n ≤ gsel g.l0 g.l1 g.l2 ch) && decide (g.past.length < 40))) = g.fits ⟨id, n, ch, g.now⟩ := rfl
  rw [hft2] at hft
  have r1 : (∃ y ∈ g.past ++ g.queue, y.id = id) → Rz = .tup [.agg [.int .i64 0, .int .i64 0, .int .i64 0, .int .i64 0, .int .i64 0, .int .i64 0, .int .i64 0, .slice .nil 0 [], .slice .nil 0 []], .bool false, .int .i64 8] := by
    rintro ⟨y, hy, e⟩
    rw [← hR]; unfold offerD
    rw [if_pos (has_yes hy e)]; rfl
  have r2 : (∀ y ∈ g.past, y.id ≠ id) → (∀ y ∈ g.queue, y.id ≠ id) → has id (g.past ++ g.queue) = false := fun h1 h2 => has_no fun y hy => (List.mem_append.1 hy).elim (h1 y) (h2 y)
  have r3 : has id (g.past ++ g.queue) = false → Rz = if g.fits ⟨id, n, ch, g.now⟩ = true then .tup [.agg (gC g.l0 g.l1 g.l2 g.b0 g.b1 g.b2 g.now (.slice .frozen (g.past.length + 1) (qsC g.past ++ [.int .i64 id, .int .i64 n, .int .i64 ch, .int .i64 g.now])) (qD g.queue)), .bool true, .int .i64 0] else if g.queue.length = 40 then .tup [.agg [.int .i64 0, .int .i64 0, .int .i64 0, .int .i64 0, .int .i64 0, .int .i64 0, .int .i64 0, .slice .nil 0 [], .slice .nil 0 []], .bool false, .int .i64 9] else .tup [.agg (gC g.l0 g.l1 g.l2 g.b0 g.b1 g.b2 g.now (qD g.past) (.slice .frozen (g.queue.length + 1) (qsC g.queue ++ [.int .i64 id, .int .i64 n, .int .i64 ch, .int .i64 g.now]))), .bool false, .int .i64 0] := by
    intro h
    rw [← hR]; unfold offerD
    rw [if_neg (by rw [h]; simp)]
    have e1 : (g.pass ⟨id, n, ch, g.now⟩).cells = gC g.l0 g.l1 g.l2 g.b0 g.b1 g.b2 g.now (.slice .frozen (g.past.length + 1) (qsC g.past ++ [.int .i64 id, .int .i64 n, .int .i64 ch, .int .i64 g.now])) (qD g.queue) := by
      unfold GT.cells GT.pass qD; dsimp only; rw [qs_app, qs_one, List.length_append]; rfl
    have e2 : (g.hold ⟨id, n, ch, g.now⟩).cells = gC g.l0 g.l1 g.l2 g.b0 g.b1 g.b2 g.now (qD g.past) (.slice .frozen (g.queue.length + 1) (qsC g.queue ++ [.int .i64 id, .int .i64 n, .int .i64 ch, .int .i64 g.now])) := by
      unfold GT.cells GT.hold qD; dsimp only; rw [qs_app, qs_one, List.length_append]; rfl
    rw [e1, e2]; rfl
  clear hR hft2 hids heach
  have hfit9 : g.fits ⟨id, n, ch, g.now⟩ = true → g.past.length < 40 := fun h => by
    unfold GT.fits at h; simp at h; exact h.2.2
  unfold GT.cells gC qD at *
  have gcut : ∀ (l0 l1 l2 b0 b1 b2 now : D) (p q : D) ze, cut ⟨true, 9, ze⟩ 0 [l0, l1, l2, b0, b1, b2, now, p, q] = some (.agg [l0, l1, l2, b0, b1, b2, now, p, q]) := fun _ _ _ _ _ _ _ _ _ _ => rfl
  generalize g.fits ⟨id, n, ch, g.now⟩ = F at *
  obtain ⟨l0, l1, l2, b0, b1, b2, now, past, queue⟩ := g
  dsimp only at *
  generalize hnp : past.length = np at *
  generalize hnq : queue.length = nq at *
  generalize qsC past = zp at *
  generalize qsC queue = zq at *
  have hp1 : np * 4 = zp.length := hpz.symm
  have hq1 : nq * 4 = zq.length := hqz.symm
  refine pur_intro Tryz.func89 rfl Tryz.ntmps89 rfl (by first | rfl | assumption | exact bs_cl _) fun B => ?_
  repeat (first | refine zc ?_ | refine k_load rfl rfl rfl (gcut _ _ _ _ _ _ _ _ _ _) ?_ | refine zA ?_ | refine k_call rfl hck rfl rfl rfl rfl ?_ | refine k_call rfl hv rfl rfl rfl rfl ?_ | refine zB ?_)
  refine W_loopW (fun n' ρ m nx => ∃ j : Nat, j ≤ 2 ∧ (1 ≤ j → ∀ y ∈ past, y.id ≠ id) ∧ (2 ≤ j → ∀ y ∈ queue, y.id ≠ id) ∧ n' = 2 - j ∧ ρ = [(40, .int .i64 (j : Int)), (39, .agg [.slice .frozen np zp, .slice .frozen nq zq]), (10, .int .i64 0), (9, .bool false), (8, .ptr 1 0), (4, .ptr 0 0), (3, .int .i64 (ch : Int)), (2, .int .i64 (n : Int)), (1, .int .i64 (id : Int))] ∧ m = [(1, some (.var 31 [.int .i64 0, .int .i64 0, .int .i64 0, .int .i64 0, .int .i64 0, .int .i64 0, .int .i64 0, .slice .nil 0 [], .slice .nil 0 []])), (0, some (.var 31 [.int .i64 l0, .int .i64 l1, .int .i64 l2, .int .i64 b0, .int .i64 b1, .int .i64 b2, .int .i64 now, .slice .frozen np zp, .slice .frozen nq zq]))] ∧ nx = 2)
    ⟨_, _, _, _, (by exact zF (fun l => l)), 0, Nat.zero_le _, fun h => absurd h (by decide), fun h => absurd h (by decide), rfl, rfl, rfl, rfl⟩ ?_
  rintro n' ρ m nx ⟨j, hj, q1, q2, rfl, rfl, rfl, rfl⟩
  have h3 : j = 0 ∨ j = 1 ∨ j = 2 := by omega
  rcases h3 with rfl | rfl | rfl
  · refine zr ?_
    refine W_loopW (fun n' ρ m nx => ∃ i : Nat, i ≤ np ∧ (∀ k y, k < i → past[k]? = some y → y.id ≠ id) ∧ n' = np - i ∧ ρ = [(45, .int .i64 (i : Int)), (44, .int .i64 (np : Int)), (43, .slice .frozen np zp), (40, .int .i64 0), (39, .agg [.slice .frozen np zp, .slice .frozen nq zq]), (10, .int .i64 0), (9, .bool false), (8, .ptr 1 0), (4, .ptr 0 0), (3, .int .i64 (ch : Int)), (2, .int .i64 (n : Int)), (1, .int .i64 (id : Int))] ∧ m = [(1, some (.var 31 [.int .i64 0, .int .i64 0, .int .i64 0, .int .i64 0, .int .i64 0, .int .i64 0, .int .i64 0, .slice .nil 0 [], .slice .nil 0 []])), (0, some (.var 31 [.int .i64 l0, .int .i64 l1, .int .i64 l2, .int .i64 b0, .int .i64 b1, .int .i64 b2, .int .i64 now, .slice .frozen np zp, .slice .frozen nq zq]))] ∧ nx = 2)
      ⟨_, _, _, _, (by exact zF (fun l => l)), 0, Nat.zero_le _, fun k y h => absurd h (Nat.not_lt_zero _), rfl, rfl, rfl, rfl⟩ ?_
    rintro n' ρ m nx ⟨i, hi, hno, rfl, rfl, rfl, rfl⟩
    by_cases hlt : i < np
    · obtain ⟨y, hy⟩ : ∃ y, past[i]? = some y := ⟨_, List.getElem?_eq_getElem (by omega)⟩
      have hcy := hpc i y hy
      have hmem : y ∈ past ++ queue := List.mem_append.2 (.inl (List.mem_of_getElem? hy))
      obtain ⟨yi, yv, yc, ya⟩ := y
      dsimp only at *
      by_cases he : yi = id
      · have hRz := r1 ⟨_, hmem, he⟩
        repeat (first | refine zc ?_ | (refine k_indexAddrs rfl rfl rfl ⟨?_, ?_⟩ hp1 ?_; (omega); (omega)) | refine k_loade rfl rfl (hcy _) ?_ | refine zAB ?_)
        rw [hRz]
        (first | with_reducible refine q_endr ?_); refine rets3 Tryz.results89 (by exact zv) (by exact zv) (by exact zv) ?_ ?_ ?_
        · rfl
        · rfl
        · rfl
      · repeat (first | refine zc ?_ | (refine k_indexAddrs rfl rfl rfl ⟨?_, ?_⟩ hp1 ?_; (omega); (omega)) | refine k_loade rfl rfl (hcy _) ?_ | refine zAB ?_)
        refine ⟨np - (i + 1), _, _, _, (by exact zF (fun l => l)), by omega, i + 1, by omega, ?_, rfl, rfl, rfl, rfl⟩
        intro k y hk hky
        rcases Nat.lt_or_ge k i with h | h
        · exact hno k y h hky
        · have ek : k = i := by omega
          subst ek
          rw [hy] at hky
          injection hky with hky
          rw [← hky]; exact he
    · have ei : i = np := by omega
      subst ei
      have hall : ∀ y ∈ past, y.id ≠ id := fun y hy => by
        obtain ⟨k, hk⟩ := List.getElem?_of_mem hy
        exact hno k y (by have := (List.getElem?_eq_some_iff.1 hk).1; omega) hk
      refine zr ?_
      exact ⟨1, _, _, _, (by exact zF (fun l => l)), by omega, 1, by omega, fun _ => hall, fun h => absurd h (by decide), rfl, rfl, rfl, rfl⟩
  · refine zr ?_
    refine W_loopW (fun n' ρ m nx => ∃ i : Nat, i ≤ nq ∧ (∀ k y, k < i → queue[k]? = some y → y.id ≠ id) ∧ n' = nq - i ∧ ρ = [(45, .int .i64 (i : Int)), (44, .int .i64 (nq : Int)), (43, .slice .frozen nq zq), (40, .int .i64 1), (39, .agg [.slice .frozen np zp, .slice .frozen nq zq]), (10, .int .i64 0), (9, .bool false), (8, .ptr 1 0), (4, .ptr 0 0), (3, .int .i64 (ch : Int)), (2, .int .i64 (n : Int)), (1, .int .i64 (id : Int))] ∧ m = [(1, some (.var 31 [.int .i64 0, .int .i64 0, .int .i64 0, .int .i64 0, .int .i64 0, .int .i64 0, .int .i64 0, .slice .nil 0 [], .slice .nil 0 []])), (0, some (.var 31 [.int .i64 l0, .int .i64 l1, .int .i64 l2, .int .i64 b0, .int .i64 b1, .int .i64 b2, .int .i64 now, .slice .frozen np zp, .slice .frozen nq zq]))] ∧ nx = 2)
      ⟨_, _, _, _, (by exact zF (fun l => l)), 0, Nat.zero_le _, fun k y h => absurd h (Nat.not_lt_zero _), rfl, rfl, rfl, rfl⟩ ?_
    rintro n' ρ m nx ⟨i, hi, hno, rfl, rfl, rfl, rfl⟩
    by_cases hlt : i < nq
    · obtain ⟨y, hy⟩ : ∃ y, queue[i]? = some y := ⟨_, List.getElem?_eq_getElem (by omega)⟩
      have hcy := hqc i y hy
      have hmem : y ∈ past ++ queue := List.mem_append.2 (.inr (List.mem_of_getElem? hy))
      obtain ⟨yi, yv, yc, ya⟩ := y
      dsimp only at *
      by_cases he : yi = id
      · have hRz := r1 ⟨_, hmem, he⟩
        repeat (first | refine zc ?_ | (refine k_indexAddrs rfl rfl rfl ⟨?_, ?_⟩ hq1 ?_; (omega); (omega)) | refine k_loade rfl rfl (hcy _) ?_ | refine zAB ?_)
        rw [hRz]
        (first | with_reducible refine q_endr ?_); refine rets3 Tryz.results89 (by exact zv) (by exact zv) (by exact zv) ?_ ?_ ?_
        · rfl
        · rfl
        · rfl
      · repeat (first | refine zc ?_ | (refine k_indexAddrs rfl rfl rfl ⟨?_, ?_⟩ hq1 ?_; (omega); (omega)) | refine k_loade rfl rfl (hcy _) ?_ | refine zAB ?_)
        refine ⟨nq - (i + 1), _, _, _, (by exact zF (fun l => l)), by omega, i + 1, by omega, ?_, rfl, rfl, rfl, rfl⟩
        intro k y hk hky
        rcases Nat.lt_or_ge k i with h | h
        · exact hno k y h hky
        · have ek : k = i := by omega
          subst ek
          rw [hy] at hky
          injection hky with hky
          rw [← hky]; exact he
    · have ei : i = nq := by omega
      subst ei
      have hall : ∀ y ∈ queue, y.id ≠ id := fun y hy => by
        obtain ⟨k, hk⟩ := List.getElem?_of_mem hy
        exact hno k y (by have := (List.getElem?_eq_some_iff.1 hk).1; omega) hk
      refine zr ?_
      exact ⟨0, _, _, _, (by exact zF (fun l => l)), by omega, 2, by omega, fun _ => q1 (by decide), fun _ => hall, rfl, rfl, rfl, rfl⟩
  · have hRz := r3 (r2 (q1 (by decide)) (q2 (by decide)))
    clear r1 r2 r3 q1 q2 hpc hqc
    have hp2 : np + 1 ≤ 16777216 := by omega
    have hq2 : nq + 1 ≤ 16777216 := by omega
    obtain ⟨zp', hzp'⟩ : ∃ z, zp ++ [D.int .i64 id, .int .i64 n, .int .i64 ch, .int .i64 now] = z := ⟨_, rfl⟩
    obtain ⟨zq', hzq'⟩ : ∃ z, zq ++ [D.int .i64 id, .int .i64 n, .int .i64 ch, .int .i64 now] = z := ⟨_, rfl⟩
    rw [hzp', hzq'] at hRz
    cases F with
    | true =>
      rw [if_pos rfl] at hRz
      subst hRz
      repeat (first | refine zc ?_ | refine k_load rfl rfl rfl (gcut _ _ _ _ _ _ _ _ _ _) ?_ | (refine k_append rfl rfl rfl ?_ hp1 rfl rfl hp2 rfl rfl (by exact hzp') ?_; (rfl)) | refine zA ?_ | refine k_callf (fun l => l + 3) [0, 1] (5) rfl (hfr) rfl (by exact zus) (rfl) (by exact zmf) rfl rfl rfl rfl (rfl) (rfl) rfl rfl rfl rfl ?_ | refine k_call rfl hft rfl rfl rfl rfl ?_ | refine zB ?_)
      (first | with_reducible refine q_endr ?_); refine rets3 Tryz.results89 (by exact zv) (by exact zv) (by exact zv) ?_ ?_ ?_
      · rfl
      · rfl
      · rfl
    | false =>
      rw [if_neg (by decide)] at hRz
      by_cases h40 : nq = 40
      · rw [if_pos h40] at hRz
        subst hRz
        repeat (first | refine zc ?_ | refine k_load rfl rfl rfl (gcut _ _ _ _ _ _ _ _ _ _) ?_ | refine zA ?_ | refine k_callf (fun l => l + 3) [0, 1] (5) rfl (hfr) rfl (by exact zus) (rfl) (by exact zmf) rfl rfl rfl rfl (rfl) (rfl) rfl rfl rfl rfl ?_ | refine k_call rfl hft rfl rfl rfl rfl ?_ | refine zB ?_)
        (first | with_reducible refine q_endr ?_); refine rets3 Tryz.results89 (by exact zv) (by exact zv) (by exact zv) ?_ ?_ ?_
        · rfl
        · rfl
        · rfl
      · rw [if_neg h40] at hRz
        subst hRz
        repeat (first | refine zc ?_ | refine k_load rfl rfl rfl (gcut _ _ _ _ _ _ _ _ _ _) ?_ | (refine k_append rfl rfl rfl ?_ hq1 rfl rfl hq2 rfl rfl (by exact hzq') ?_; (rfl)) | refine zA ?_ | refine k_callf (fun l => l + 3) [0, 1] (5) rfl (hfr) rfl (by exact zus) (rfl) (by exact zmf) rfl rfl rfl rfl (rfl) (rfl) rfl rfl rfl rfl ?_ | refine k_call rfl hft rfl rfl rfl rfl ?_ | refine zB ?_)
        (first | with_reducible refine q_endr ?_); refine rets3 Tryz.results89 (by exact zv) (by exact zv) (by exact zv) ?_ ?_ ?_
        · rfl
        · rfl
        · rfl
end Go.Proofs.YtcfefmbbbfdppaaGreatDoor
