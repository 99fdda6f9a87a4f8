/- The last step of a law's row, whatever the law: it returned true, nothing that was there has turned: so its arguments read as before. No conditions. -/
import Derived.Test.YtcfefmbbbfdppaaGreatDoorSBytes
import Derived.Test.YtcfefmbbbfdppaaGreatDoorSGate3
import Derived.Test.YtcfefmbbbfdppaaGreatDoorSGate1
import Derived.Test.YtcfefmbbbfdppaaGreatDoorSWide1
import Derived.Test.YtcfefmbbbfdppaaGreatDoorRows
import Derived.Test.YtcfefmbbbfdppaaGreatDoorSKit
import Derived.ProofKit
import Derived.Carry
import Derived.Lib.SmallJoins
namespace Go.Proofs.YtcfefmbbbfdppaaGreatDoor
open Go.RowKit Go.IntWalk
set_option linter.unusedVariables false
set_option maxRecDepth 100000
def idC (l : List Nat) : List D := l.map fun (n : Nat) => .int .i64 (n : Int)
theorem idC_len (l : List Nat) : (idC l).length = l.length := by unfold idC; rw [List.length_map]
theorem idC_snoc (l : List Nat) (n : Nat) : idC l ++ [.int .i64 (n : Int)] = idC (l ++ [n]) := by simp [idC]
def tickStep (s : GT × List Nat) (x : QT) : GT × List Nat :=
  if 24 ≤ s.1.now - x.at_ then (s.1, s.2 ++ [x.id])
  else if s.1.fits x = true then ({ s.1 with past := s.1.past ++ [{ x with at_ := s.1.now }] }, s.2 ++ [x.id])
  else ({ s.1 with queue := s.1.queue ++ [x] }, s.2)
def fresh24 (now : Nat) (x : QT) : Bool := decide (now - x.at_ < 24)
def GT.later (g : GT) (h : Nat) : GT := { g with now := g.now + h, past := g.past.filter (fresh24 (g.now + h)), queue := [] }
def tick (g : GT) (h : Nat) : GT × List Nat := g.queue.foldl tickStep (g.later h, [])
theorem foldl_snoc {α β : Type} (f : β → α → β) (b : β) (l : List α) (j : Nat) (x : α) (h : l[j]? = some x) : (l.take (j + 1)).foldl f b = f ((l.take j).foldl f b) x := by
  rw [List.take_add_one, h, Option.toList_some, List.foldl_append]; rfl
theorem filter_snoc {α : Type} (p : α → Bool) (l : List α) (j : Nat) (x : α) (h : l[j]? = some x) : (l.take (j + 1)).filter p = (l.take j).filter p ++ (if p x then [x] else []) := by
  rw [List.take_add_one, h, Option.toList_some, List.filter_append]
  congr 1
  rw [List.filter_cons, List.filter_nil]
structure TickInv (g : GT) (h : Nat) (j : Nat) (s : GT × List Nat) : Prop where
  fix : s.1.l0 = g.l0 ∧ s.1.l1 = g.l1 ∧ s.1.l2 = g.l2 ∧ s.1.b0 = g.b0 ∧ s.1.b1 = g.b1 ∧ s.1.b2 = g.b2 ∧ s.1.now = g.now + h
  plen : s.1.past.length ≤ 40
  qlen : s.1.queue.length ≤ j
  olen : s.2.length ≤ j
  each : ∀ x ∈ s.1.past, x.val ≤ 1073741824 ∧ x.at_ ≤ g.now + h
theorem tick_inv (g : GT) (hg : g.ok) (h : Nat) : ∀ j, j ≤ g.queue.length → TickInv g h j ((g.queue.take j).foldl tickStep (g.later h, []))
  | 0, _ => ⟨⟨rfl, rfl, rfl, rfl, rfl, rfl, rfl⟩, Nat.le_trans (List.length_filter_le _ _) hg.plen, Nat.le_refl _, Nat.le_refl _, fun x hx => by
    have := hg.each x (List.mem_append.2 (.inl (List.mem_filter.1 hx).1))
    exact ⟨this.1, by have := this.2.2.1; omega⟩⟩
  | j + 1, hj => by
    obtain ⟨x, hx⟩ : ∃ x, g.queue[j]? = some x := ⟨_, List.getElem?_eq_getElem (by omega)⟩
    have ih := tick_inv g hg h j (by omega)
    rw [foldl_snoc _ _ _ _ _ hx]
    generalize (g.queue.take j).foldl tickStep (g.later h, []) = s at *
    have hxe := hg.each x (List.mem_append.2 (.inr (List.mem_of_getElem? hx)))
    have iq := ih.qlen
    have io := ih.olen
    unfold tickStep
    split
    · exact ⟨ih.fix, ih.plen, by show s.1.queue.length ≤ _; omega, by show (s.2 ++ [x.id]).length ≤ _; rw [List.length_append]; simp; omega, ih.each⟩
    · split
      · rename_i hf
        have h40 : s.1.past.length < 40 := by unfold GT.fits at hf; simp at hf; exact hf.2.2
        refine ⟨ih.fix, by show (s.1.past ++ [_]).length ≤ 40; rw [List.length_append]; simp; omega, by show s.1.queue.length ≤ _; omega, by show (s.2 ++ [x.id]).length ≤ _; rw [List.length_append]; simp; omega, fun y hy => ?_⟩
        rcases List.mem_append.1 hy with hy | hy
        · exact ih.each y hy
        · rw [List.mem_singleton.1 hy]
          exact ⟨hxe.1, by show s.1.now ≤ _; rw [ih.fix.2.2.2.2.2.2]; exact Nat.le_refl _⟩
      · exact ⟨ih.fix, ih.plen, by show (s.1.queue ++ [x]).length ≤ _; rw [List.length_append]; simp; omega, by show s.2.length ≤ _; omega, ih.each⟩
set_option maxHeartbeats 16000000 in
theorem Tick_ok (g : GT) (hg : g.ok) (h : Nat) (h1 : 1 ≤ h) (h2 : h ≤ 1000) (h3 : g.now + h ≤ 1099511627776) :
    Pur Tryz.prog 76 [.agg g.cells, .int .i64 (h : Int)] (.tup [.agg (tick g h).1.cells, .slice .frozen (tick g h).2.length (idC (tick g h).2), .int .i64 0]) := by
  have hck := gCheck_ok g hg
  have hinv := tick_inv g hg h
  have hpc := qs_cut g.past
  have hqc := qs_cut g.queue
  have hpz := qs_len g.past
  have hqz := qs_len g.queue
  have hp40 := hg.plen
  have hq40 := hg.qlen
  have hgnow := hg.now
  have hea : ∀ x ∈ g.past ++ g.queue, x.at_ ≤ g.now := fun x hx => (hg.each x hx).2.2.1
  have hev : ∀ x ∈ g.past ++ g.queue, x.val ≤ 1073741824 ∧ x.ch < 3 := fun x hx => ⟨(hg.each x hx).1, (hg.each x hx).2.1⟩
  obtain ⟨nw, hnw⟩ : ∃ nw, g.now + h = nw := ⟨_, rfl⟩
  have hnwi : (g.now : Int) + (h : Int) = (nw : Int) := by omega
  have hadd : IntKind.i64.wrap ((g.now : Int) + (h : Int)) = (nw : Int) := by rw [hnwi]; exact i64_in _ (by omega)
  have hfin : (g.queue.take g.queue.length).foldl tickStep (g.later h, []) = tick g h := by rw [List.take_length]; rfl
  have hst : g.later h = { g with now := nw, past := g.past.filter (fresh24 nw), queue := [] } := by unfold GT.later; rw [hnw]
  have hst0 : ((g.queue.take 0).foldl tickStep (g.later h, [])) = (g.later h, []) := rfl
  have hsn := foldl_snoc tickStep (g.later h, []) g.queue
  have hfl := filter_snoc (fresh24 nw) g.past
  have gcut : ∀ (l0 l1 l2 b0 b1 b2 now : D) (p q : D) ze, cut ⟨true, 9, ze⟩ 0 [l0, l1, l2, b0, b1, b2, now, p, q] = some (.agg [l0, l1, l2, b0, b1, b2, now, p, q]) := fun _ _ _ _ _ _ _ _ _ _ => rfl
  have hfull : g.past.take g.past.length = g.past := List.take_length
  clear hg
  unfold GT.cells gC qD at hck ⊢
  generalize hT : tick g h = T at *
  obtain ⟨l0, l1, l2, b0, b1, b2, now, past, queue⟩ := g
  dsimp only at *
  generalize hnp : past.length = np at *
  generalize hnq : queue.length = nq at *
  generalize qsC past = zp at *
  generalize qsC queue = zq at *
  have hp1 : np * 4 = zp.length := hpz.symm
  have hq1 : nq * 4 = zq.length := hqz.symm
  have hTc : D.cl (.tup [.agg [.int .i64 T.1.l0, .int .i64 T.1.l1, .int .i64 T.1.l2, .int .i64 T.1.b0, .int .i64 T.1.b1, .int .i64 T.1.b2, .int .i64 T.1.now, .slice .frozen T.1.past.length (qsC T.1.past), .slice .frozen T.1.queue.length (qsC T.1.queue)], .slice .frozen T.2.length (idC T.2), .int .i64 0]) = true := rfl
  refine pur_intro Tryz.func76 rfl Tryz.ntmps76 rfl (by first | rfl | assumption | exact bs_cl _) fun B => ?_
  repeat (first | refine zc ?_ | refine k_load rfl rfl rfl (gcut _ _ _ _ _ _ _ _ _ _) ?_ | refine k_add rfl rfl rfl hadd ?_ | refine zA ?_ | refine k_call rfl hck rfl rfl rfl rfl ?_ | refine zB ?_)
  refine W_of_weak (weak_tok 132 4) ?_
  refine W_loopW (fun n' ρ m nx => ∃ (j k : Nat) (z : List D), j ≤ np ∧ k = ((past.take j).filter (fresh24 nw)).length ∧ z = qsC ((past.take j).filter (fresh24 nw)) ∧ n' = np - j ∧ ρ = [(48, .int .i64 (j : Int)), (47, .int .i64 (np : Int)), (46, .slice .frozen np zp), (9, .slice .frozen nq zq), (6, .int .i64 0), (5, .slice .nil 0 []), (4, .ptr 1 0), (2, .ptr 0 0), (1, .int .i64 (h : Int))] ∧ m = [(2, some (.tok 132 4)), (1, some (.var 31 [.int .i64 0, .int .i64 0, .int .i64 0, .int .i64 0, .int .i64 0, .int .i64 0, .int .i64 0, .slice .nil 0 [], .slice .nil 0 []])), (0, some (.var 31 [.int .i64 l0, .int .i64 l1, .int .i64 l2, .int .i64 b0, .int .i64 b1, .int .i64 b2, .int .i64 (nw : Int), .slice (.own 2) k z, .slice .nil 0 []]))] ∧ nx = 3)
    ⟨_, _, _, _, (by exact zF (fun l => l)), 0, 0, [], Nat.zero_le _, rfl, rfl, rfl, rfl, rfl, rfl⟩ ?_
  rintro n' ρ m nx ⟨j, k, z, hj, hk, hz, rfl, rfl, rfl, rfl⟩
  have hkz : k * 4 = z.length := by rw [hz, hk, qs_len]
  have hkj : k ≤ 40 := by
    have := List.length_filter_le (fresh24 nw) (past.take j)
    rw [List.length_take] at this; omega
  by_cases hlt : j < np
  · obtain ⟨x, hx⟩ : ∃ x, past[j]? = some x := ⟨_, List.getElem?_eq_getElem (by omega)⟩
    have hc := hpc j x hx
    have hxa := hea x (List.mem_append.2 (.inl (List.mem_of_getElem? hx)))
    have hfx := hfl j x hx
    have hsm : k + 1 ≤ 16777216 := by omega
    by_cases h24 : nw - x.at_ < 24
    · rw [show fresh24 nw x = true from decide_eq_true h24, if_pos rfl] at hfx
      have hz2 : z ++ x.cells = qsC ((past.take (j + 1)).filter (fresh24 nw)) := by rw [hfx, qs_app, qs_one, hz]
      have hk2 : k + 1 = ((past.take (j + 1)).filter (fresh24 nw)).length := by rw [hfx, List.length_append, hk]; rfl
      clear hsn hfl hfx
      obtain ⟨xi, xv, xc, xa⟩ := x
      dsimp only at *
      replace hz2 : z ++ [D.int .i64 xi, .int .i64 xv, .int .i64 xc, .int .i64 xa] = _ := hz2
      generalize hzz : qsC ((past.take (j + 1)).filter (fresh24 nw)) = z2 at *
      repeat (first | refine zc ?_ | (refine k_indexAddrs rfl rfl rfl ⟨?_, ?_⟩ hp1 ?_; (omega); (omega)) | refine k_loade rfl rfl (hc _) ?_ | (refine k_append rfl rfl rfl ?_ hkz rfl rfl hsm rfl rfl (by exact hz2) ?_; (rfl)) | refine zAB ?_)
      exact ⟨np - (j + 1), _, _, _, (by exact zF (fun l => if l = 2 then 5 else l)), by omega, j + 1, k + 1, z2, by omega, hk2, hzz.symm, rfl, rfl, rfl, rfl⟩
    · rw [show fresh24 nw x = false from decide_eq_false h24, if_neg (by decide), List.append_nil] at hfx
      clear hsn hfl
      obtain ⟨xi, xv, xc, xa⟩ := x
      dsimp only at *
      repeat (first | refine zc ?_ | (refine k_indexAddrs rfl rfl rfl ⟨?_, ?_⟩ hp1 ?_; (omega); (omega)) | refine k_loade rfl rfl (hc _) ?_ | refine zAB ?_)
      exact ⟨np - (j + 1), _, _, _, (by exact zF (fun l => l)), by omega, j + 1, k, z, by omega, by rw [hfx]; exact hk, by rw [hfx]; exact hz, rfl, rfl, rfl, rfl⟩
  have ej : j = np := by omega
  subst ej
  rw [hfull] at hk hz
  refine zr ?_
  refine W_of_weak (weak_tok 132 4) ?_
  refine W_of_weak (weak_tok 3 1) ?_
  refine W_loopW (fun n' ρ m nx => ∃ (j : Nat) (s : GT × List Nat) (k kq ko : Nat) (z y o : List D), j ≤ nq ∧ s = (queue.take j).foldl tickStep (GT.later ⟨l0, l1, l2, b0, b1, b2, now, past, queue⟩ h, []) ∧ k = s.1.past.length ∧ z = qsC s.1.past ∧ kq = s.1.queue.length ∧ y = qsC s.1.queue ∧ ko = s.2.length ∧ o = idC s.2 ∧ n' = nq - j ∧
      ρ = [(67, .int .i64 (j : Int)), (66, .int .i64 (nq : Int)), (65, .slice .frozen nq zq), (12, .slice (.own 4) ko o), (6, .int .i64 0), (5, .slice .nil 0 []), (4, .ptr 1 0), (2, .ptr 0 0)] ∧ m = [(4, some (.tok 3 1)), (3, some (.tok 132 4)), (2, some (.tok 132 4)), (1, some (.var 31 [.int .i64 0, .int .i64 0, .int .i64 0, .int .i64 0, .int .i64 0, .int .i64 0, .int .i64 0, .slice .nil 0 [], .slice .nil 0 []])), (0, some (.var 31 [.int .i64 l0, .int .i64 l1, .int .i64 l2, .int .i64 b0, .int .i64 b1, .int .i64 b2, .int .i64 (nw : Int), .slice (.own 2) k z, .slice (.own 3) kq y]))] ∧ nx = 5)
    ⟨_, _, _, _, (by exact zF (fun l => l)), 0, _, k, 0, 0, z, [], [], Nat.zero_le _, rfl, by rw [hst0, hst]; exact hk, by rw [hst0, hst]; exact hz, by rw [hst0, hst]; rfl, by rw [hst0, hst]; rfl, rfl, rfl, rfl, rfl, rfl, rfl⟩ ?_
  clear hst hst0 hk hz hkz hkj hlt
  rintro n' ρ m nx ⟨j, s, k, kq, ko, z, y, o, hj, hs, hk, hz, hkq, hy, hko, ho, rfl, rfl, rfl, rfl⟩
  have hi := hinv j hj
  rw [← hs] at hi
  by_cases hlt : j < nq
  · obtain ⟨x, hx⟩ : ∃ x, queue[j]? = some x := ⟨_, List.getElem?_eq_getElem (by omega)⟩
    have hc := hqc j x hx
    have hxe := hev x (List.mem_append.2 (.inr (List.mem_of_getElem? hx)))
    have hxa := hea x (List.mem_append.2 (.inr (List.mem_of_getElem? hx)))
    have hs2 := hsn j x hx
    rw [← hs] at hs2
    have hkz : k * 4 = z.length := by rw [hz, hk, qs_len]
    have hqy : kq * 4 = y.length := by rw [hy, hkq, qs_len]
    have hoo : ko * 1 = o.length := by rw [ho, hko, idC_len]; omega
    have b1' : k ≤ 40 := by rw [hk]; exact hi.plen
    have b2' : kq ≤ 40 := by have := hi.qlen; omega
    have b3' : ko ≤ 40 := by have := hi.olen; omega
    obtain ⟨⟨f0, f1, f2, f3, f4, f5, f6⟩, _, _, _, hie⟩ := hi
    obtain ⟨⟨m0, m1, m2, c0, c1, c2, now', past', queue'⟩, out⟩ := s
    dsimp only at *
    subst f0 f1 f2 f3 f4 f5
    have f6' : now' = nw := f6.trans hnw
    subst f6'
    obtain ⟨xi, xv, xc, xa⟩ := x
    dsimp only at *
    have hfit := fits_ok m0 m1 m2 c0 c1 c2 now' past' (.slice .frozen kq y) rfl rfl xi xv xc xa hxe.2 hxe.1 (by omega) (by omega) (fun x hx => by have := hie x hx; exact ⟨this.1, by omega⟩) k hk.symm b1' _ rfl
    rw [← hz] at hfit
    have hfe : (decide (xv < gsel c0 c1 c2 xc) && (decide (used xc now' past' + xv ≤ gsel m0 m1 m2 xc) && decide (k < 40))) = GT.fits ⟨m0, m1, m2, c0, c1, c2, now', past', queue'⟩ ⟨xi, xv, xc, xa⟩ := by rw [hk]; rfl
    rw [hfe] at hfit
    have hsm1 : ko + 1 ≤ 16777216 := by omega
    have hsm2 : k + 1 ≤ 16777216 := by omega
    have hsm3 : kq + 1 ≤ 16777216 := by omega
    have ho2 : o ++ [D.int .i64 (xi : Int)] = idC (out ++ [xi]) := by rw [ho, idC_snoc]
    have hz2 : z ++ [D.int .i64 (xi : Int), .int .i64 xv, .int .i64 xc, .int .i64 now'] = qsC (past' ++ [⟨xi, xv, xc, now'⟩]) := by rw [hz, qs_app, qs_one]; rfl
    have hy2 : y ++ [D.int .i64 (xi : Int), .int .i64 xv, .int .i64 xc, .int .i64 xa] = qsC (queue' ++ [⟨xi, xv, xc, xa⟩]) := by rw [hy, qs_app, qs_one]; rfl
    have lo2 : ko + 1 = (out ++ [xi]).length := by rw [hko, List.length_append]; rfl
    have lz2 : k + 1 = (past' ++ [(⟨xi, xv, xc, now'⟩ : QT)]).length := by rw [hk, List.length_append]; rfl
    have ly2 : kq + 1 = (queue' ++ [(⟨xi, xv, xc, xa⟩ : QT)]).length := by rw [hkq, List.length_append]; rfl
    unfold tickStep at hs2
    dsimp only at hs2
    unfold gC at hfit
    generalize hgo : idC (out ++ [xi]) = o2 at *
    generalize hgz : qsC (past' ++ [⟨xi, xv, xc, now'⟩]) = z2 at *
    generalize hgy : qsC (queue' ++ [⟨xi, xv, xc, xa⟩]) = y2 at *
    clear hinv hpc hqc hsn hfl hfe hie hck hpz hqz hea hev
    by_cases h24 : 24 ≤ now' - xa
    · rw [if_pos h24] at hs2
      repeat (first | refine zc ?_ | (refine k_indexAddrs rfl rfl rfl ⟨?_, ?_⟩ hq1 ?_; (omega); (omega)) | refine k_loade rfl rfl (hc _) ?_ | (refine k_append rfl rfl rfl ?_ hoo rfl rfl hsm1 rfl rfl (by exact ho2) ?_; (rfl)) | refine zAB ?_)
      exact ⟨nq - (j + 1), _, _, _, (by exact zF (fun l => if l = 4 then 7 else l)), by omega, j + 1, _, k, kq, ko + 1, z, y, o2, by omega, hs2.symm, hk, hz, hkq, hy, lo2, hgo.symm, rfl, rfl, rfl, rfl⟩
    · rw [if_neg h24] at hs2
      generalize GT.fits ⟨m0, m1, m2, c0, c1, c2, now', past', queue'⟩ ⟨xi, xv, xc, xa⟩ = F at *
      cases F with
      | true =>
        rw [if_pos rfl] at hs2
        repeat (first | refine zc ?_ | (refine k_indexAddrs rfl rfl rfl ⟨?_, ?_⟩ hq1 ?_; (omega); (omega)) | refine k_loade rfl rfl (hc _) ?_ | refine k_load rfl rfl rfl (gcut _ _ _ _ _ _ _ _ _ _) ?_ | (refine k_append rfl rfl rfl ?_ hoo rfl rfl hsm1 rfl rfl (by exact ho2) ?_; (rfl)) | (refine k_append rfl rfl rfl ?_ hkz rfl rfl hsm2 rfl rfl (by exact hz2) ?_; (rfl)) | refine zA ?_ | refine k_call rfl hfit rfl rfl rfl rfl ?_ | refine zB ?_)
        exact ⟨nq - (j + 1), _, _, _, (by exact zF (fun l => if l = 2 then 7 else if l = 4 then 9 else l)), by omega, j + 1, _, k + 1, kq, ko + 1, z2, y, o2, by omega, hs2.symm, lz2, hgz.symm, hkq, hy, lo2, hgo.symm, rfl, rfl, rfl, rfl⟩
      | false =>
        rw [if_neg (by decide)] at hs2
        repeat (first | refine zc ?_ | (refine k_indexAddrs rfl rfl rfl ⟨?_, ?_⟩ hq1 ?_; (omega); (omega)) | refine k_loade rfl rfl (hc _) ?_ | refine k_load rfl rfl rfl (gcut _ _ _ _ _ _ _ _ _ _) ?_ | (refine k_append rfl rfl rfl ?_ hqy rfl rfl hsm3 rfl rfl (by exact hy2) ?_; (rfl)) | refine zA ?_ | refine k_call rfl hfit rfl rfl rfl rfl ?_ | refine zB ?_)
        exact ⟨nq - (j + 1), _, _, _, (by exact zF (fun l => if l = 3 then 7 else l)), by omega, j + 1, _, k, kq + 1, ko, z, y2, o, by omega, hs2.symm, hk, hz, ly2, hgy.symm, hko, ho, rfl, rfl, rfl, rfl⟩
  · have ej : j = nq := by omega
    subst ej
    rw [hfin] at hs
    subst hs
    obtain ⟨⟨f0, f1, f2, f3, f4, f5, f6⟩, _, _, _, _⟩ := hi
    have f6' := f6.trans hnw
    rw [← hk, ← hz, ← hkq, ← hy, ← hko, ← ho, f0, f1, f2, f3, f4, f5, f6']
    repeat (first | refine zc ?_ | refine k_load rfl rfl rfl (gcut _ _ _ _ _ _ _ _ _ _) ?_ | refine zAB ?_)
    (first | with_reducible refine q_endr ?_); refine rets3 Tryz.results76 (by exact zv) (by exact zv) (by exact zv) ?_ ?_ ?_
    · rfl
    · rfl
    · rfl
end Go.Proofs.YtcfefmbbbfdppaaGreatDoor
namespace Go.Proofs.YtcfefmbbbfdppaaGreatDoor
open Go.RowKit Go.Lib Go.IntWalk
set_option linter.unusedVariables false
set_option maxRecDepth 100000
set_option maxHeartbeats 8000000 in
theorem gbody_ok (b : BodyT) (h : b.e.length = 32) (hl : b.l.length ≤ 10000) : Pur Tryz.prog 88 [.agg b.cells] (.agg b.cells) := by
  have hcl : D.cl (.agg b.cells) = true := bd_cls b
  have hld := bd_at h 2 _ rfl
  have hlen := bd_len h
  have hlay : ∀ (d : D) (cs : List D), cs.length = 38 → splice 0 (bx b.t b.n b.c b.e [.int .i64 b.u, .int .i64 b.v, d]) cs = some (bx b.t b.n b.c b.e [.int .i64 b.u, .int .i64 b.v, d]) := fun d cs hc => bx_lay h _ rfl cs hc
  have hall : ∀ (d : D) ze, cut ⟨true, 38, ze⟩ 0 (bx b.t b.n b.c b.e [.int .i64 b.u, .int .i64 b.v, d]) = some (.agg (bx b.t b.n b.c b.e [.int .i64 b.u, .int .i64 b.v, d])) := fun d ze => bx_all h _ rfl ze
  have hput : ∀ d : D, splice 37 [d] b.cells = some (bx b.t b.n b.c b.e [.int .i64 b.u, .int .i64 b.v, d]) := fun d => by
    rw [bd_bx]
    exact bx_put h _ _ _ d 2 _ (.inr (.inr ⟨rfl, rfl⟩)) 37 rfl
  have hxl : ∀ d : D, (D.agg (bx b.t b.n b.c b.e [.int .i64 b.u, .int .i64 b.v, d])).cells.length = 38 := fun d => bx_len h _ rfl
  have hbl : b.l.length * 1 = (bs b.l).length := by rw [bs_len]; omega
  have hfz : D.fzs (bx b.t b.n b.c b.e [.int .i64 b.u, .int .i64 b.v, .slice (.own 3) b.l.length (bs b.l)]) = b.cells := by rw [bx_fzs]; rfl
  have hsm : 0 + b.l.length ≤ 16777216 := by omega
  refine pur_intro Tryz.func88 rfl Tryz.ntmps88 rfl (by first | rfl | assumption | exact bs_cl _) fun B => ?_
  repeat (first | refine zC ?_ | refine k_load rfl rfl rfl (by exact hld _ _ rfl) ?_ | (refine k_append rfl rfl rfl ?_ rfl hbl rfl hsm rfl (Nat.zero_add _) (List.nil_append _) ?_; (rfl)) | refine k_store rfl rfl rfl rfl rfl rfl (hput _) ?_ | refine k_load rfl rfl rfl (hall _ _) ?_ | refine k_store rfl rfl rfl rfl (hxl _) rfl (by exact hlay _ _ rfl) ?_ | refine zAB ?_)
  (first | with_reducible refine q_endr ?_); refine rets1 Tryz.results88 (RetV.cell _ _ _ _ _ _ _ _ inferInstance rfl rfl (by exact hall _ _)) ?_
  show D.agg (D.fzs _) = _
  rw [hfz]
theorem one_fill (b : BodyT) (h : b.e.length = 32) : dfill (bpl 1 38) (zeros 1 (bx 0 0 0 (List.replicate 32 0) [.int .i64 0, .int .i64 0, .slice .nil 0 []])) [(0, .agg b.cells)] = some b.cells := by
  have hz : (zeros 1 (bx 0 0 0 (List.replicate 32 0) [.int .i64 0, .int .i64 0, .slice .nil 0 []])).length = 38 := rfl
  have hp := bd_put h _ hz
  have hl := bd_len h
  generalize b.cells = bc at *
  generalize zeros 1 (bx 0 0 0 (List.replicate 32 0) [.int .i64 0, .int .i64 0, .slice .nil 0 []]) = zz at *
  show cond (Nat.beq bc.length 38 && true) (match splice 0 bc zz with | some cs' => some cs' | none => none) none = some bc
  rw [hl, hp]; rfl
def BodyT.id (b : BodyT) : Nat := b.c * 256 + b.u
theorem Id_ok (b : BodyT) (h : b.ok) : Pur Tryz.prog 60 [.agg b.cells] (.int .i64 (b.id : Int)) := by
  have hu := bd_at h.e 0 _ rfl
  have hc : ∀ ze, cut ⟨false, 1, ze⟩ 2 b.cells = some (.int .i64 (b.c : Int)) := fun _ => rfl
  have h1 := h.c
  have h2 := h.u
  have hm : IntKind.i64.wrap ((b.c : Int) * 256) = ((b.c * 256 : Nat) : Int) := by rw [i64_in _ (by omega)]; omega
  have ha : IntKind.i64.wrap (((b.c * 256 : Nat) : Int) + (b.u : Int)) = (b.id : Int) := by rw [i64_in _ (by omega)]; unfold BodyT.id; omega
  generalize b.c * 256 = x at *
  generalize b.id = y at *
  refine pur_intro Tryz.func60 rfl Tryz.ntmps60 rfl (by first | rfl | assumption | exact bs_cl _) fun B => ?_
  repeat (first | refine zC ?_ | refine k_load rfl rfl rfl (by exact hu _ _ rfl) ?_ | refine k_load rfl rfl rfl (hc _) ?_ | refine k_mul rfl rfl rfl hm ?_ | refine k_add rfl rfl rfl ha ?_ | refine zAB ?_)
  (first | with_reducible refine q_endr ?_); refine rets1 Tryz.results60 (by exact zv) ?_
  rfl
set_option maxHeartbeats 8000000 in
theorem bodies_fn (l : List BodyT) (h : Em l) (hl : ∀ b ∈ l, b.l.length ≤ 10000) (n : Nat) (hn : l.length = n) (hn9 : n ≤ 10000) : Fn Tryz.prog 57 0 [.slice .frozen n (bdC l)] [] (.slice (.own 0) n (bdC l)) [(0, some (.tok 50 38))] := by
  have hcut := bdC_cut l h
  have hsn := bdC_snoc l
  have hlen := bdC_len l h
  have hlt' := fun j => bdC_len (l.take j) (h.take j)
  rw [hn] at hlen
  have hzl : n * 38 = (bdC l).length := hlen.symm
  have htk : l.take n = l := List.take_of_length_le (by omega)
  obtain ⟨Z, hZ⟩ : ∃ Z, bdC l = Z := ⟨_, rfl⟩
  rw [hZ] at hcut hzl ⊢
  refine fn_intro Tryz.func57 rfl Tryz.ntmps57 rfl fun B => ?_
  refine zR ?_
  refine W_of_weak (weak_tok 50 38) ?_
  refine W_loopW (fun n' ρ m nx => ∃ (j : Nat) (z : List D), j ≤ n ∧ z = bdC (l.take j) ∧ n' = n - j ∧ ρ = [(8, .int .i64 (j : Int)), (7, .int .i64 (n : Int)), (6, .slice .frozen n Z), (3, .slice (.own 0) j z)] ∧ m = [(0, some (.tok 50 38))] ∧ nx = 1)
    ⟨_, _, _, _, (by exact zK (fun l => l)), 0, [], Nat.zero_le _, rfl, rfl, rfl, rfl, rfl⟩ ?_
  rintro n' ρ m nx ⟨j, z, hj, hz, rfl, rfl, rfl, rfl⟩
  by_cases hlt : j < n
  · obtain ⟨b, hb⟩ : ∃ b, l[j]? = some b := ⟨_, List.getElem?_eq_getElem (by omega)⟩
    have he := h b (List.mem_of_getElem? hb)
    have hc := hcut j b hb
    have hbo := gbody_ok b he (hl b (List.mem_of_getElem? hb))
    have hzq : j * 38 = z.length := by rw [hz, hlt' j, List.length_take, hn, Nat.min_eq_left hj]
    have hnx : z ++ b.cells = bdC (l.take (j + 1)) := by rw [hz]; exact hsn j b hb
    have hbl := bd_len he
    have hball := bd_all he
    have hbput := bd_put he
    have hbc := bd_cls b
    have hbcl := bd_cl b
    have hbfz := bd_fz b
    have hbfz1 : D.fzs b.cells = b.cells := by have := hbfz; simpa [D.fzs, D.fz] using this
    have hbc1 : (D.agg b.cells).cl = true := hbc
    have hb38 : (D.agg b.cells).cells.length = 38 := hbl
    have h1c : 1 * 38 = b.cells.length := by omega
    have hbs := one_fill b he
    have hsm : j + 1 ≤ 16777216 := by omega
    generalize hyy : bdC (l.take (j + 1)) = z2 at *
    generalize b.cells = bc at *
    repeat (first | refine zC ?_ | (refine k_indexAddrs rfl rfl rfl ⟨?_, ?_⟩ hzl ?_; (omega); (omega)) | refine k_loade rfl rfl (hc _) ?_ | refine k_store rfl rfl rfl rfl (by exact hb38) rfl (by exact hbput _ rfl) ?_ | refine k_load rfl rfl rfl (hball _) ?_ | refine k_buildSlice rfl rfl hbs hbfz1 hbc rfl rfl ?_ | (refine k_append rfl rfl rfl ?_ hzq h1c rfl hsm rfl rfl (by exact hnx) ?_; (rfl)) | refine zA ?_ | refine k_call rfl hbo rfl hbfz hbcl hbc1 ?_ | refine zB ?_)
    subst hyy
    exact ⟨n - (j + 1), _, _, _, (by exact zK (fun l => if l = 0 then 3 else l)), by omega, j + 1, _, by omega, rfl, rfl, rfl, rfl, rfl⟩
  · have ej : j = n := by omega
    subst ej
    rw [htk, hZ] at hz
    subst hz
    refine zR ?_
    first | exact (q_endf (fun l => l) 1 (RetsF.r1 (by exact zv) (by exact zu)) rfl (by repeat (first | exact trivial | refine ⟨⟨rfl, _, rfl, Ups.refl _, rfl⟩, ?_⟩ | refine ⟨⟨rfl, rfl⟩, ?_⟩)) rfl rfl rfl).2 | exact (q_endf (fun l => l) 1 (RetsF.r1 (by exact zv) (by exact zu)) rfl (by repeat (first | exact trivial | refine ⟨⟨rfl, _, rfl, Ups.refl _, rfl⟩, ?_⟩ | refine ⟨⟨rfl, rfl⟩, ?_⟩)) rfl rfl rfl).1
end Go.Proofs.YtcfefmbbbfdppaaGreatDoor
namespace Go.Proofs.YtcfefmbbbfdppaaGreatDoor
open Go.RowKit Go.Lib
set_option linter.unusedVariables false
abbrev By := List UInt8
def tl8 (r : By) : UInt8 := r.foldl (fun s c => s + c) 0
def rec8 (r : By) : By := UInt8.ofNat (r.length / 256) :: UInt8.ofNat r.length :: (r ++ [tl8 r])
theorem rec8_len (r : By) : (rec8 r).length = r.length + 3 := by simp [rec8]
def hdr (b : By) : Nat := (b[0]?.getD 0).toNat * 256 + (b[1]?.getD 0).toNat
def lg (a b : By) : List D := [.slice .frozen a.length (bs a), .slice .frozen b.length (bs b)]
theorem bs_app (a b : By) : bs (a ++ b) = bs a ++ bs b := by simp [bs]
end Go.Proofs.YtcfefmbbbfdppaaGreatDoor
namespace Go.Proofs.YtcfefmbbbfdppaaGreatDoor
open Go.ChangeShapes Go.WideShapes Go.RowKit Go.Joins
set_option linter.unusedVariables false
set_option maxRecDepth 100000
theorem own : ownKnob Tryz.prog.godebug = none := by kernel_rfl
theorem laidOut : laidOutB Tryz.prog = true := by kernel_rfl
section
variable {H : Type} {enc : TypeId × Value → H} {P : Program}
theorem trodAll_later (hl : laidOutB P = true) {W W' : World} (hb : New W W') {sp : Nat → Bool} : ∀ (ts : List TypeId) (vs : List Value) (ds : List (DataW H)) (ps : List MemPlace),
    (∀ t ∈ ts, P.readableRec t = true ∧ t < P.types.size) → DataW.TrodAll enc P W 0 (fun _ => true) true ts vs ds ps → (∀ x ∈ ps, x.block < W.heap.size) → (∀ x ∈ ps, sp x.block = true) → DataW.TrodAll enc P W' 0 sp true ts vs ds ps
  | [], vs, ds, ps, _, h, _, _ => by
    obtain ⟨rfl, rfl, rfl⟩ := trodAll_nil h
    exact trodAll_mk0
  | t :: ts, vs, ds, ps, hr, h, hlt, hsp => by
    obtain ⟨v, vs', d, ds', p, q, rfl, rfl, rfl, h0, r0⟩ := trodAll_cons h
    obtain ⟨hr0, hr1⟩ := hr t (by simp)
    exact trodAll_cons_mk (WideElems.Trod_stays hl hr0 hr1 h0 (fun x hx => hb.same (hlt x (by simp [hx]))) (fun x hx => hsp x (by simp [hx])))
      (trodAll_later hl hb ts vs' ds' q (fun t ht => hr t (by simp [ht])) r0 (fun x hx => hlt x (by simp [hx])) (fun x hx => hsp x (by simp [hx])))
def readableAll (P : Program) (ts : List TypeId) : Bool := ts.all fun t => P.readableRec t && decide (t < P.types.size)
theorem law_post {f : Func} {s : ChangeSpec} {apart fresh handsOn again : Bool} {W W' : World} {args : Array Value} {ds gs : List (DataW H)} {before : List MemPlace} {tb : TypeId}
    (hl : laidOutB P = true) (hr : readableAll P f.params.toList = true) (hres : f.resultTypes = #[tb]) (htb : P.underlying tb = some .bool) (hv : s.vars = [])
    (hW : DataW.Whole enc P f.params.toList s.vars apart W args.toList ds gs before) (hfn : s.fn H (ds ++ gs) = { results := [.lit (.bool true)], args := ds }) (hN : New W W') :
    s.post enc P f apart fresh handsOn again W args (.bool true) W' := by
  have hlt : ∀ p ∈ before, p.block < W.heap.size := fun p hp => hW.lt p hp
  obtain ⟨p, q, hA, hV, rfl, hz, hn⟩ := hW
  have hV' := hV
  rw [hv] at hV'
  obtain ⟨rfl, rfl⟩ := trodVars_none hV'
  have hr' : ∀ t ∈ f.params.toList, P.readableRec t = true ∧ t < P.types.size := fun t ht => by
    unfold readableAll at hr
    have := (List.all_eq_true.1 hr) t ht
    simpa using this
  have hargs : ∀ sp : Nat → Bool, (∀ x ∈ p ++ ([] : List MemPlace), sp x.block = true) → DataW.TrodAll enc P W' 0 sp true f.params.toList args.toList ds p := fun sp hsp =>
    trodAll_later hl hN _ _ _ _ hr' hA (fun x hx => hlt x (by simp [hx])) (fun x hx => hsp x (by simp [hx]))
  have hout : ∀ (b : Nat) (sp : Nat → Bool) (hd : Bool), DataW.TrodAll enc P W' b sp hd f.resultTypes.toList ((Value.bool true).resultList f.resultTypes.size) [.lit (.bool true)] [] := fun b sp hd => by
    rw [hres]; exact trodAll_mk1 (shut_bool htb true)
  have hold : ∀ x ∈ p ++ ([] : List MemPlace), (fun b => decide (b < W.heap.size)) x.block = true := fun x hx => by simpa using hlt x hx
  refine ⟨ds, [], p ++ [], [], p, [], ⟨p, [], hA, hV, rfl, hz, hn⟩, ?_, ?_, ?_, World.keptBut_mono (fun x hx => ⟨hx, ?_⟩) (hN.frame (· ∈ p ++ [])), fun _ => ?_⟩
  · rw [hfn]; exact hout _ _ _
  · rw [hfn]; exact hargs _ hold
  · rw [hfn, hv]; rfl
  · simp at hx; simp [hx]
  · refine ⟨ok_one hres rfl (okWide_bool_mk htb true), [.lit (.bool true)] ++ ds, [], (([] ++ p) ++ []), ⟨[] ++ p, [], trodAll_append (hargs _ (fun _ _ => rfl)) (hout _ _ _), by rw [hv]; rfl, rfl, ?_, ?_⟩, ?_⟩
    · intro b off hp
      have hin : MemPlace.cell b off ∈ p ++ [] := by simpa using hp
      rw [hN.frozen (p := ⟨b, off, none⟩) (hlt _ hin)]
      exact hz b off hin
    · intro ha
      have := hn ha
      simpa using this
    · intro x hx _
      simpa using hx
theorem open_raw {w : World} {base : Nat} {spare : Nat → Bool} {held : Bool} {r : Reach} {b0 : Nat} {v : Value} {d : DataW H} {p : List MemPlace} (hv : Value.okWide Tryz.prog w r b0 23 v) (h : DataW.Trod enc Tryz.prog w base spare held 23 v d p) :
    ∃ (k a b : Int) (s : ByteArray), v = .agg #[.int .i64 k, .int .i64 a, .int .i64 b, .string s] ∧ (Lit.int .i64 k).wf = true ∧ (Lit.int .i64 a).wf = true ∧ (Lit.int .i64 b).wf = true ∧ s.size ≤ maxLen := by
  obtain ⟨c0, c1, c2, c3, y0, y1, y2, y3, m, rfl, rfl, rfl, hy0, hy1, hy2, hy3⟩ := open_agg4 Tryz.underlying23 (by kernel_rfl) (by kernel_rfl) hv h
  obtain ⟨k, e0, _, wk⟩ := DataW.trod_int Tryz.underlying3 hy0
  obtain ⟨a, e1, _, wa⟩ := DataW.trod_int Tryz.underlying3 hy1
  obtain ⟨b, e2, _, wb⟩ := DataW.trod_int Tryz.underlying3 hy2
  obtain ⟨s, e3, _, ws⟩ := DataW.trod_string Tryz.underlying9 hy3
  simp at e0 e1 e2 e3
  subst e0 e1 e2 e3
  exact ⟨k, a, b, s, rfl, wk, wa, wb, ws⟩
end
end Go.Proofs.YtcfefmbbbfdppaaGreatDoor
