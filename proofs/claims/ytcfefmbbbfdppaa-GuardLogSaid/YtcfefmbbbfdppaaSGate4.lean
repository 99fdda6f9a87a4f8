/- gate's Tick. Conditions: a gate that may be, hours that may be. -/
import Derived.Test.YtcfefmbbbfdppaaSGate3
namespace Go.Proofs.Ytcfefmbbbfdppaa
open Go.RowKit Go.IntWalk
set_option linter.unusedVariables false
set_option maxRecDepth 100000
def idC (l : List Nat) : List D := l.map fun (n : Nat) => .int .i64 (n : Int)
theorem idC_len (l : List Nat) : (idC l).length = l.length := by unfold idC; rw [List.length_map]
theorem idC_snoc (l : List Nat) (n : Nat) : idC l ++ [.int .i64 (n : Int)] = idC (l ++ [n]) := by simp [idC]
def tickStep (s : GT × List Nat) (x : QT) : GT × List Nat :=
  if 24 ≤ s.1.now - x.at_ then (s.1, s.2 ++ [x.id])
  else if s.1.fits x = true then ({ s.1 with past := s.1.past ++ [{ x with at_ := s.1.now }] }, s.2 ++ [x.id])
  else ({ s.1 with queue := s.1.queue ++ [x] }, s.2)
def fresh24 (now : Nat) (x : QT) : Bool := decide (now - x.at_ < 24)
def GT.later (g : GT) (h : Nat) : GT := { g with now := g.now + h, past := g.past.filter (fresh24 (g.now + h)), queue := [] }
def tick (g : GT) (h : Nat) : GT × List Nat := g.queue.foldl tickStep (g.later h, [])
theorem foldl_snoc {α β : Type} (f : β → α → β) (b : β) (l : List α) (j : Nat) (x : α) (h : l[j]? = some x) : (l.take (j + 1)).foldl f b = f ((l.take j).foldl f b) x := by
  rw [List.take_add_one, h, Option.toList_some, List.foldl_append]; rfl
theorem filter_snoc {α : Type} (p : α → Bool) (l : List α) (j : Nat) (x : α) (h : l[j]? = some x) : (l.take (j + 1)).filter p = (l.take j).filter p ++ (if p x then [x] else []) := by
  rw [List.take_add_one, h, Option.toList_some, List.filter_append]
  congr 1
  rw [List.filter_cons, List.filter_nil]
structure TickInv (g : GT) (h : Nat) (j : Nat) (s : GT × List Nat) : Prop where
  fix : s.1.l0 = g.l0 ∧ s.1.l1 = g.l1 ∧ s.1.l2 = g.l2 ∧ s.1.b0 = g.b0 ∧ s.1.b1 = g.b1 ∧ s.1.b2 = g.b2 ∧ s.1.now = g.now + h
  plen : s.1.past.length ≤ 40
  qlen : s.1.queue.length ≤ j
  olen : s.2.length ≤ j
  each : ∀ x ∈ s.1.past, x.val ≤ 1073741824 ∧ x.at_ ≤ g.now + h
theorem tick_inv (g : GT) (hg : g.ok) (h : Nat) : ∀ j, j ≤ g.queue.length → TickInv g h j ((g.queue.take j).foldl tickStep (g.later h, []))
  | 0, _ => ⟨⟨rfl, rfl, rfl, rfl, rfl, rfl, rfl⟩, Nat.le_trans (List.length_filter_le _ _) hg.plen, Nat.le_refl _, Nat.le_refl _, fun x hx => by
    have := hg.each x (List.mem_append.2 (.inl (List.mem_filter.1 hx).1))
    exact ⟨this.1, by have := this.2.2.1; omega⟩⟩
  | j + 1, hj => by
    obtain ⟨x, hx⟩ : ∃ x, g.queue[j]? = some x := ⟨_, List.getElem?_eq_getElem (by omega)⟩
    have ih := tick_inv g hg h j (by omega)
    rw [foldl_snoc _ _ _ _ _ hx]
    generalize (g.queue.take j).foldl tickStep (g.later h, []) = s at *
    have hxe := hg.each x (List.mem_append.2 (.inr (List.mem_of_getElem? hx)))
    have iq := ih.qlen
    have io := ih.olen
    unfold tickStep
    split
    · exact ⟨ih.fix, ih.plen, by show s.1.queue.length ≤ _; omega, by show (s.2 ++ [x.id]).length ≤ _; rw [List.length_append]; simp; omega, ih.each⟩
    · split
      · rename_i hf
        have h40 : s.1.past.length < 40 := by unfold GT.fits at hf; simp at hf; exact hf.2.2
        refine ⟨ih.fix, by show (s.1.past ++ [_]).length ≤ 40; rw [List.length_append]; simp; omega, by show s.1.queue.length ≤ _; omega, by show (s.2 ++ [x.id]).length ≤ _; rw [List.length_append]; simp; omega, fun y hy => ?_⟩
        rcases List.mem_append.1 hy with hy | hy
        · exact ih.each y hy
        · rw [List.mem_singleton.1 hy]
          exact ⟨hxe.1, by show s.1.now ≤ _; rw [ih.fix.2.2.2.2.2.2]; exact Nat.le_refl _⟩
      · exact ⟨ih.fix, ih.plen, by show (s.1.queue ++ [x]).length ≤ _; rw [List.length_append]; simp; omega, by show s.2.length ≤ _; omega, ih.each⟩
set_option maxHeartbeats 16000000 in
theorem Tick_ok (g : GT) (hg : g.ok) (h : Nat) (h1 : 1 ≤ h) (h2 : h ≤ 1000) (h3 : g.now + h ≤ 1099511627776) :
    Pur Try.prog 39 [.agg g.cells, .int .i64 (h : Int)] (.tup [.agg (tick g h).1.cells, .slice .frozen (tick g h).2.length (idC (tick g h).2), .int .i64 0]) := by
  have hck := gCheck_ok g hg
  have hinv := tick_inv g hg h
  have hpc := qs_cut g.past
  have hqc := qs_cut g.queue
  have hpz := qs_len g.past
  have hqz := qs_len g.queue
  have hp40 := hg.plen
  have hq40 := hg.qlen
  have hgnow := hg.now
  have hea : ∀ x ∈ g.past ++ g.queue, x.at_ ≤ g.now := fun x hx => (hg.each x hx).2.2.1
  have hev : ∀ x ∈ g.past ++ g.queue, x.val ≤ 1073741824 ∧ x.ch < 3 := fun x hx => ⟨(hg.each x hx).1, (hg.each x hx).2.1⟩
  obtain ⟨nw, hnw⟩ : ∃ nw, g.now + h = nw := ⟨_, rfl⟩
  have hnwi : (g.now : Int) + (h : Int) = (nw : Int) := by omega
  have hadd : IntKind.i64.wrap ((g.now : Int) + (h : Int)) = (nw : Int) := by rw [hnwi]; exact i64_in _ (by omega)
  have hfin : (g.queue.take g.queue.length).foldl tickStep (g.later h, []) = tick g h := by rw [List.take_length]; rfl
  have hst : g.later h = { g with now := nw, past := g.past.filter (fresh24 nw), queue := [] } := by unfold GT.later; rw [hnw]
  have hst0 : ((g.queue.take 0).foldl tickStep (g.later h, [])) = (g.later h, []) := rfl
  have hsn := foldl_snoc tickStep (g.later h, []) g.queue
  have hfl := filter_snoc (fresh24 nw) g.past
  have gcut : ∀ (l0 l1 l2 b0 b1 b2 now : D) (p q : D) ze, cut ⟨true, 9, ze⟩ 0 [l0, l1, l2, b0, b1, b2, now, p, q] = some (.agg [l0, l1, l2, b0, b1, b2, now, p, q]) := fun _ _ _ _ _ _ _ _ _ _ => rfl
  have hfull : g.past.take g.past.length = g.past := List.take_length
  clear hg
  unfold GT.cells gC qD at hck ⊢
  generalize hT : tick g h = T at *
  obtain ⟨l0, l1, l2, b0, b1, b2, now, past, queue⟩ := g
  dsimp only at *
  generalize hnp : past.length = np at *
  generalize hnq : queue.length = nq at *
  generalize qsC past = zp at *
  generalize qsC queue = zq at *
  have hp1 : np * 4 = zp.length := hpz.symm
  have hq1 : nq * 4 = zq.length := hqz.symm
  have hTc : D.cl (.tup [.agg [.int .i64 T.1.l0, .int .i64 T.1.l1, .int .i64 T.1.l2, .int .i64 T.1.b0, .int .i64 T.1.b1, .int .i64 T.1.b2, .int .i64 T.1.now, .slice .frozen T.1.past.length (qsC T.1.past), .slice .frozen T.1.queue.length (qsC T.1.queue)], .slice .frozen T.2.length (idC T.2), .int .i64 0]) = true := rfl
  refine pur_intro Try.func39 rfl Try.ntmps39 rfl (by first | rfl | assumption | exact bs_cl _) fun B => ?_
  repeat (first | with_reducible (first | refine W_seq ?_ | refine q_then ?_ | refine q_thenx ?_ | refine W_block ?_ | refine q_block ?_ | refine q_blockx ?_ | refine W_ret ?_ | refine W_skip ?_ | refine W_exit ?_) | (with_reducible refine R_nil ?_; try dsimp only [slots0, slots_ud, cells_U, agg_ud, drop0, dropS, takeS, take0, ud_nil, take_ud, take_ud0, drop_ud, drop_ud0, take_udk, D.cells, D.fz, D.fzs, List.take_succ_cons, List.take_zero, List.drop_succ_cons, List.drop_zero, List.cons_append, List.nil_append, List.append_eq, List.length_cons, List.length_nil, Nat.reduceAdd, Nat.reduceMul, Nat.reduceSub, Int.reduceAdd, Int.reduceSub, Int.reduceToNat, Int.reduceNeg, Int.reduceMul]) | refine W_plain rfl ?_ | refine W_drawn mixed rfl ?_ | refine and_chk (by kernel_rfl) ?_ | refine k_load rfl rfl rfl (gcut _ _ _ _ _ _ _ _ _ _) ?_ | refine k_add rfl rfl rfl hadd ?_ | refine k_move rfl rfl ?_ | refine k_assign rfl rfl ?_ | refine k_load rfl rfl rfl rfl ?_ | refine k_alloc rfl ?_ | refine k_box rfl rfl rfl ?_ | refine k_store rfl rfl rfl rfl rfl rfl rfl ?_ | refine k_fieldAddr rfl rfl rfl ?_ | refine k_call rfl hck rfl rfl rfl rfl ?_ | (refine k_append rfl rfl rfl ?_ ?_ ?_ rfl ?_ rfl rfl rfl ?_; (first | rfl | exact trivial | (show 0 < _; omega)); (first | rfl | (simp <;> omega)); (first | rfl | (simp <;> omega)); (omega)) | refine k_buildSlice (cs := []) rfl rfl rfl rfl rfl rfl rfl ?_ | refine k_buildSlice rfl rfl rfl rfl rfl rfl rfl ?_ | (refine k_indexAddrs rfl rfl rfl ⟨?_, ?_⟩ rfl ?_; (omega); (omega)) | refine k_loade rfl rfl rfl ?_ | refine k_len rfl rfl ?_ | refine k_pickF rfl rfl rfl ?_ | (refine k_addi rfl rfl rfl ?_ ?_; (omega)) | (refine k_subi rfl rfl rfl ?_ ?_; (omega)) | (refine k_lssT rfl rfl rfl ?_ ?_; (omega)) | (refine k_lssF rfl rfl rfl ?_ ?_; (omega)) | (refine k_gtrF rfl rfl rfl ?_ ?_; (omega)) | (refine k_geqT rfl rfl rfl ?_ ?_; (omega)) | (refine k_geqF rfl rfl rfl ?_ ?_; (omega)) | (refine k_neqF rfl rfl rfl ?_ ?_; (omega)) | refine W_yes rfl ?_ | refine W_no rfl ?_)
  refine W_of_weak (weak_tok 113 4) ?_
  refine W_loopW (fun n' ρ m nx => ∃ (j k : Nat) (z : List D), j ≤ np ∧ k = ((past.take j).filter (fresh24 nw)).length ∧ z = qsC ((past.take j).filter (fresh24 nw)) ∧ n' = np - j ∧ ρ = [(48, .int .i64 (j : Int)), (47, .int .i64 (np : Int)), (46, .slice .frozen np zp), (9, .slice .frozen nq zq), (6, .int .i64 0), (5, .slice .nil 0 []), (4, .ptr 1 0), (2, .ptr 0 0), (1, .int .i64 (h : Int))] ∧ m = [(2, some (.tok 113 4)), (1, some (.var 31 [.int .i64 0, .int .i64 0, .int .i64 0, .int .i64 0, .int .i64 0, .int .i64 0, .int .i64 0, .slice .nil 0 [], .slice .nil 0 []])), (0, some (.var 31 [.int .i64 l0, .int .i64 l1, .int .i64 l2, .int .i64 b0, .int .i64 b1, .int .i64 b2, .int .i64 (nw : Int), .slice (.own 2) k z, .slice .nil 0 []]))] ∧ nx = 3)
    ⟨_, _, _, _, (weak_ren (fun l => l) (by repeat (first | exact trivial | refine ⟨⟨_, rfl, (by first | exact Up.refl _ | exact Up.fz _ _ _ | exact Up.nil _ | exact Up.nrs _ | assumption), rfl⟩, ?_⟩)) (by repeat (first | exact trivial | refine ⟨⟨rfl, _, rfl, (by first | exact Ups.refl _ | assumption | ((repeat refine Ups.cons (by first | exact Up.refl _ | exact Up.nil _ | exact Up.fz _ _ _) ?_); exact Ups.nil)), rfl⟩, ?_⟩ | refine ⟨⟨rfl, rfl⟩, ?_⟩ | refine ⟨⟨rfl, _, rfl, bs_ups _ _, bs_lalls _ _⟩, ?_⟩ | refine ⟨⟨rfl, _, rfl, cls_ups _ _ (by assumption), cls_lalls _ _ (by assumption)⟩, ?_⟩)) (by first | decide | simp) (Nat.zero_le _) (fun _ h => absurd h (Nat.not_lt_zero _))), 0, 0, [], Nat.zero_le _, rfl, rfl, rfl, rfl, rfl, rfl⟩ ?_
  rintro n' ρ m nx ⟨j, k, z, hj, hk, hz, rfl, rfl, rfl, rfl⟩
  have hkz : k * 4 = z.length := by rw [hz, hk, qs_len]
  have hkj : k ≤ 40 := by
    have := List.length_filter_le (fresh24 nw) (past.take j)
    rw [List.length_take] at this; omega
  by_cases hlt : j < np
  · obtain ⟨x, hx⟩ : ∃ x, past[j]? = some x := ⟨_, List.getElem?_eq_getElem (by omega)⟩
    have hc := hpc j x hx
    have hxa := hea x (List.mem_append.2 (.inl (List.mem_of_getElem? hx)))
    have hfx := hfl j x hx
    have hsm : k + 1 ≤ 16777216 := by omega
    by_cases h24 : nw - x.at_ < 24
    · rw [show fresh24 nw x = true from decide_eq_true h24, if_pos rfl] at hfx
      have hz2 : z ++ x.cells = qsC ((past.take (j + 1)).filter (fresh24 nw)) := by rw [hfx, qs_app, qs_one, hz]
      have hk2 : k + 1 = ((past.take (j + 1)).filter (fresh24 nw)).length := by rw [hfx, List.length_append, hk]; rfl
      clear hsn hfl hfx
      obtain ⟨xi, xv, xc, xa⟩ := x
      dsimp only at *
      replace hz2 : z ++ [D.int .i64 xi, .int .i64 xv, .int .i64 xc, .int .i64 xa] = _ := hz2
      generalize hzz : qsC ((past.take (j + 1)).filter (fresh24 nw)) = z2 at *
      repeat (first | with_reducible (first | refine W_seq ?_ | refine q_then ?_ | refine q_thenx ?_ | refine W_block ?_ | refine q_block ?_ | refine q_blockx ?_ | refine W_ret ?_ | refine W_skip ?_ | refine W_exit ?_) | (with_reducible refine R_nil ?_; try dsimp only [slots0, slots_ud, cells_U, agg_ud, drop0, dropS, takeS, take0, ud_nil, take_ud, take_ud0, drop_ud, drop_ud0, take_udk, D.cells, D.fz, D.fzs, List.take_succ_cons, List.take_zero, List.drop_succ_cons, List.drop_zero, List.cons_append, List.nil_append, List.append_eq, List.length_cons, List.length_nil, Nat.reduceAdd, Nat.reduceMul, Nat.reduceSub, Int.reduceAdd, Int.reduceSub, Int.reduceToNat, Int.reduceNeg, Int.reduceMul]) | refine W_plain rfl ?_ | refine W_drawn mixed rfl ?_ | refine and_chk (by kernel_rfl) ?_ | (refine k_indexAddrs rfl rfl rfl ⟨?_, ?_⟩ hp1 ?_; (omega); (omega)) | refine k_loade rfl rfl (hc _) ?_ | (refine k_append rfl rfl rfl ?_ hkz rfl rfl hsm rfl rfl (by exact hz2) ?_; (rfl)) | refine k_move rfl rfl ?_ | refine k_assign rfl rfl ?_ | refine k_load rfl rfl rfl rfl ?_ | refine k_alloc rfl ?_ | refine k_box rfl rfl rfl ?_ | refine k_store rfl rfl rfl rfl rfl rfl rfl ?_ | refine k_fieldAddr rfl rfl rfl ?_ | (refine k_append rfl rfl rfl ?_ ?_ ?_ rfl ?_ rfl rfl rfl ?_; (first | rfl | exact trivial | (show 0 < _; omega)); (first | rfl | (simp <;> omega)); (first | rfl | (simp <;> omega)); (omega)) | refine k_buildSlice (cs := []) rfl rfl rfl rfl rfl rfl rfl ?_ | refine k_buildSlice rfl rfl rfl rfl rfl rfl rfl ?_ | (refine k_indexAddrs rfl rfl rfl ⟨?_, ?_⟩ rfl ?_; (omega); (omega)) | refine k_loade rfl rfl rfl ?_ | refine k_len rfl rfl ?_ | refine k_pickF rfl rfl rfl ?_ | (refine k_addi rfl rfl rfl ?_ ?_; (omega)) | (refine k_subi rfl rfl rfl ?_ ?_; (omega)) | (refine k_lssT rfl rfl rfl ?_ ?_; (omega)) | (refine k_lssF rfl rfl rfl ?_ ?_; (omega)) | (refine k_gtrF rfl rfl rfl ?_ ?_; (omega)) | (refine k_geqT rfl rfl rfl ?_ ?_; (omega)) | (refine k_geqF rfl rfl rfl ?_ ?_; (omega)) | (refine k_neqF rfl rfl rfl ?_ ?_; (omega)) | refine W_yes rfl ?_ | refine W_no rfl ?_)
      exact ⟨np - (j + 1), _, _, _, (weak_ren (fun l => if l = 2 then 5 else l) (by repeat (first | exact trivial | refine ⟨⟨_, rfl, (by first | exact Up.refl _ | exact Up.fz _ _ _ | exact Up.nil _ | exact Up.nrs _ | assumption), rfl⟩, ?_⟩)) (by repeat (first | exact trivial | refine ⟨⟨rfl, _, rfl, (by first | exact Ups.refl _ | assumption | ((repeat refine Ups.cons (by first | exact Up.refl _ | exact Up.nil _ | exact Up.fz _ _ _) ?_); exact Ups.nil)), rfl⟩, ?_⟩ | refine ⟨⟨rfl, rfl⟩, ?_⟩ | refine ⟨⟨rfl, _, rfl, bs_ups _ _, bs_lalls _ _⟩, ?_⟩ | refine ⟨⟨rfl, _, rfl, cls_ups _ _ (by assumption), cls_lalls _ _ (by assumption)⟩, ?_⟩)) (by first | decide | simp) (Nat.zero_le _) (fun _ h => absurd h (Nat.not_lt_zero _))), by omega, j + 1, k + 1, z2, by omega, hk2, hzz.symm, rfl, rfl, rfl, rfl⟩
    · rw [show fresh24 nw x = false from decide_eq_false h24, if_neg (by decide), List.append_nil] at hfx
      clear hsn hfl
      obtain ⟨xi, xv, xc, xa⟩ := x
      dsimp only at *
      repeat (first | with_reducible (first | refine W_seq ?_ | refine q_then ?_ | refine q_thenx ?_ | refine W_block ?_ | refine q_block ?_ | refine q_blockx ?_ | refine W_ret ?_ | refine W_skip ?_ | refine W_exit ?_) | (with_reducible refine R_nil ?_; try dsimp only [slots0, slots_ud, cells_U, agg_ud, drop0, dropS, takeS, take0, ud_nil, take_ud, take_ud0, drop_ud, drop_ud0, take_udk, D.cells, D.fz, D.fzs, List.take_succ_cons, List.take_zero, List.drop_succ_cons, List.drop_zero, List.cons_append, List.nil_append, List.append_eq, List.length_cons, List.length_nil, Nat.reduceAdd, Nat.reduceMul, Nat.reduceSub, Int.reduceAdd, Int.reduceSub, Int.reduceToNat, Int.reduceNeg, Int.reduceMul]) | refine W_plain rfl ?_ | refine W_drawn mixed rfl ?_ | refine and_chk (by kernel_rfl) ?_ | (refine k_indexAddrs rfl rfl rfl ⟨?_, ?_⟩ hp1 ?_; (omega); (omega)) | refine k_loade rfl rfl (hc _) ?_ | refine k_move rfl rfl ?_ | refine k_assign rfl rfl ?_ | refine k_load rfl rfl rfl rfl ?_ | refine k_alloc rfl ?_ | refine k_box rfl rfl rfl ?_ | refine k_store rfl rfl rfl rfl rfl rfl rfl ?_ | refine k_fieldAddr rfl rfl rfl ?_ | (refine k_append rfl rfl rfl ?_ ?_ ?_ rfl ?_ rfl rfl rfl ?_; (first | rfl | exact trivial | (show 0 < _; omega)); (first | rfl | (simp <;> omega)); (first | rfl | (simp <;> omega)); (omega)) | refine k_buildSlice (cs := []) rfl rfl rfl rfl rfl rfl rfl ?_ | refine k_buildSlice rfl rfl rfl rfl rfl rfl rfl ?_ | (refine k_indexAddrs rfl rfl rfl ⟨?_, ?_⟩ rfl ?_; (omega); (omega)) | refine k_loade rfl rfl rfl ?_ | refine k_len rfl rfl ?_ | refine k_pickF rfl rfl rfl ?_ | (refine k_addi rfl rfl rfl ?_ ?_; (omega)) | (refine k_subi rfl rfl rfl ?_ ?_; (omega)) | (refine k_lssT rfl rfl rfl ?_ ?_; (omega)) | (refine k_lssF rfl rfl rfl ?_ ?_; (omega)) | (refine k_gtrF rfl rfl rfl ?_ ?_; (omega)) | (refine k_geqT rfl rfl rfl ?_ ?_; (omega)) | (refine k_geqF rfl rfl rfl ?_ ?_; (omega)) | (refine k_neqF rfl rfl rfl ?_ ?_; (omega)) | refine W_yes rfl ?_ | refine W_no rfl ?_)
      exact ⟨np - (j + 1), _, _, _, (weak_ren (fun l => l) (by repeat (first | exact trivial | refine ⟨⟨_, rfl, (by first | exact Up.refl _ | exact Up.fz _ _ _ | exact Up.nil _ | exact Up.nrs _ | assumption), rfl⟩, ?_⟩)) (by repeat (first | exact trivial | refine ⟨⟨rfl, _, rfl, (by first | exact Ups.refl _ | assumption | ((repeat refine Ups.cons (by first | exact Up.refl _ | exact Up.nil _ | exact Up.fz _ _ _) ?_); exact Ups.nil)), rfl⟩, ?_⟩ | refine ⟨⟨rfl, rfl⟩, ?_⟩ | refine ⟨⟨rfl, _, rfl, bs_ups _ _, bs_lalls _ _⟩, ?_⟩ | refine ⟨⟨rfl, _, rfl, cls_ups _ _ (by assumption), cls_lalls _ _ (by assumption)⟩, ?_⟩)) (by first | decide | simp) (Nat.zero_le _) (fun _ h => absurd h (Nat.not_lt_zero _))), by omega, j + 1, k, z, by omega, by rw [hfx]; exact hk, by rw [hfx]; exact hz, rfl, rfl, rfl, rfl⟩
  have ej : j = np := by omega
  subst ej
  rw [hfull] at hk hz
  repeat (first | with_reducible (first | refine W_seq ?_ | refine q_then ?_ | refine q_thenx ?_ | refine W_block ?_ | refine q_block ?_ | refine q_blockx ?_ | refine W_ret ?_ | refine W_skip ?_ | refine W_exit ?_) | (with_reducible refine R_nil ?_; try dsimp only [slots0, slots_ud, cells_U, agg_ud, drop0, dropS, takeS, take0, ud_nil, take_ud, take_ud0, drop_ud, drop_ud0, take_udk, D.cells, D.fz, D.fzs, List.take_succ_cons, List.take_zero, List.drop_succ_cons, List.drop_zero, List.cons_append, List.nil_append, List.append_eq, List.length_cons, List.length_nil, Nat.reduceAdd, Nat.reduceMul, Nat.reduceSub, Int.reduceAdd, Int.reduceSub, Int.reduceToNat, Int.reduceNeg, Int.reduceMul]) | refine W_plain rfl ?_ | refine W_drawn mixed rfl ?_ | refine and_chk (by kernel_rfl) ?_ | refine k_move rfl rfl ?_ | refine k_assign rfl rfl ?_ | refine k_load rfl rfl rfl rfl ?_ | refine k_alloc rfl ?_ | refine k_box rfl rfl rfl ?_ | refine k_store rfl rfl rfl rfl rfl rfl rfl ?_ | refine k_fieldAddr rfl rfl rfl ?_ | (refine k_append rfl rfl rfl ?_ ?_ ?_ rfl ?_ rfl rfl rfl ?_; (first | rfl | exact trivial | (show 0 < _; omega)); (first | rfl | (simp <;> omega)); (first | rfl | (simp <;> omega)); (omega)) | refine k_buildSlice (cs := []) rfl rfl rfl rfl rfl rfl rfl ?_ | refine k_buildSlice rfl rfl rfl rfl rfl rfl rfl ?_ | (refine k_indexAddrs rfl rfl rfl ⟨?_, ?_⟩ rfl ?_; (omega); (omega)) | refine k_loade rfl rfl rfl ?_ | refine k_len rfl rfl ?_ | refine k_pickF rfl rfl rfl ?_ | (refine k_addi rfl rfl rfl ?_ ?_; (omega)) | (refine k_subi rfl rfl rfl ?_ ?_; (omega)) | (refine k_lssT rfl rfl rfl ?_ ?_; (omega)) | (refine k_lssF rfl rfl rfl ?_ ?_; (omega)) | (refine k_gtrF rfl rfl rfl ?_ ?_; (omega)) | (refine k_geqT rfl rfl rfl ?_ ?_; (omega)) | (refine k_geqF rfl rfl rfl ?_ ?_; (omega)) | (refine k_neqF rfl rfl rfl ?_ ?_; (omega)) | refine W_yes rfl ?_ | refine W_no rfl ?_)
  refine W_of_weak (weak_tok 113 4) ?_
  refine W_of_weak (weak_tok 3 1) ?_
  refine W_loopW (fun n' ρ m nx => ∃ (j : Nat) (s : GT × List Nat) (k kq ko : Nat) (z y o : List D), j ≤ nq ∧ s = (queue.take j).foldl tickStep (GT.later ⟨l0, l1, l2, b0, b1, b2, now, past, queue⟩ h, []) ∧ k = s.1.past.length ∧ z = qsC s.1.past ∧ kq = s.1.queue.length ∧ y = qsC s.1.queue ∧ ko = s.2.length ∧ o = idC s.2 ∧ n' = nq - j ∧
      ρ = [(67, .int .i64 (j : Int)), (66, .int .i64 (nq : Int)), (65, .slice .frozen nq zq), (12, .slice (.own 4) ko o), (6, .int .i64 0), (5, .slice .nil 0 []), (4, .ptr 1 0), (2, .ptr 0 0)] ∧ m = [(4, some (.tok 3 1)), (3, some (.tok 113 4)), (2, some (.tok 113 4)), (1, some (.var 31 [.int .i64 0, .int .i64 0, .int .i64 0, .int .i64 0, .int .i64 0, .int .i64 0, .int .i64 0, .slice .nil 0 [], .slice .nil 0 []])), (0, some (.var 31 [.int .i64 l0, .int .i64 l1, .int .i64 l2, .int .i64 b0, .int .i64 b1, .int .i64 b2, .int .i64 (nw : Int), .slice (.own 2) k z, .slice (.own 3) kq y]))] ∧ nx = 5)
    ⟨_, _, _, _, (weak_ren (fun l => l) (by repeat (first | exact trivial | refine ⟨⟨_, rfl, (by first | exact Up.refl _ | exact Up.fz _ _ _ | exact Up.nil _ | exact Up.nrs _ | assumption), rfl⟩, ?_⟩)) (by repeat (first | exact trivial | refine ⟨⟨rfl, _, rfl, (by first | exact Ups.refl _ | assumption | ((repeat refine Ups.cons (by first | exact Up.refl _ | exact Up.nil _ | exact Up.fz _ _ _) ?_); exact Ups.nil)), rfl⟩, ?_⟩ | refine ⟨⟨rfl, rfl⟩, ?_⟩ | refine ⟨⟨rfl, _, rfl, bs_ups _ _, bs_lalls _ _⟩, ?_⟩ | refine ⟨⟨rfl, _, rfl, cls_ups _ _ (by assumption), cls_lalls _ _ (by assumption)⟩, ?_⟩)) (by first | decide | simp) (Nat.zero_le _) (fun _ h => absurd h (Nat.not_lt_zero _))), 0, _, k, 0, 0, z, [], [], Nat.zero_le _, rfl, by rw [hst0, hst]; exact hk, by rw [hst0, hst]; exact hz, by rw [hst0, hst]; rfl, by rw [hst0, hst]; rfl, rfl, rfl, rfl, rfl, rfl, rfl⟩ ?_
  clear hst hst0 hk hz hkz hkj hlt
  rintro n' ρ m nx ⟨j, s, k, kq, ko, z, y, o, hj, hs, hk, hz, hkq, hy, hko, ho, rfl, rfl, rfl, rfl⟩
  have hi := hinv j hj
  rw [← hs] at hi
  by_cases hlt : j < nq
  · obtain ⟨x, hx⟩ : ∃ x, queue[j]? = some x := ⟨_, List.getElem?_eq_getElem (by omega)⟩
    have hc := hqc j x hx
    have hxe := hev x (List.mem_append.2 (.inr (List.mem_of_getElem? hx)))
    have hxa := hea x (List.mem_append.2 (.inr (List.mem_of_getElem? hx)))
    have hs2 := hsn j x hx
    rw [← hs] at hs2
    have hkz : k * 4 = z.length := by rw [hz, hk, qs_len]
    have hqy : kq * 4 = y.length := by rw [hy, hkq, qs_len]
    have hoo : ko * 1 = o.length := by rw [ho, hko, idC_len]; omega
    have b1' : k ≤ 40 := by rw [hk]; exact hi.plen
    have b2' : kq ≤ 40 := by have := hi.qlen; omega
    have b3' : ko ≤ 40 := by have := hi.olen; omega
    obtain ⟨⟨f0, f1, f2, f3, f4, f5, f6⟩, _, _, _, hie⟩ := hi
    obtain ⟨⟨m0, m1, m2, c0, c1, c2, now', past', queue'⟩, out⟩ := s
    dsimp only at *
    subst f0 f1 f2 f3 f4 f5
    have f6' : now' = nw := f6.trans hnw
    subst f6'
    obtain ⟨xi, xv, xc, xa⟩ := x
    dsimp only at *
    have hfit := fits_ok m0 m1 m2 c0 c1 c2 now' past' (.slice .frozen kq y) rfl rfl xi xv xc xa hxe.2 hxe.1 (by omega) (by omega) (fun x hx => by have := hie x hx; exact ⟨this.1, by omega⟩) k hk.symm b1' _ rfl
    rw [← hz] at hfit
    have hfe : (decide (xv < gsel c0 c1 c2 xc) && (decide (used xc now' past' + xv ≤ gsel m0 m1 m2 xc) && decide (k < 40))) = GT.fits ⟨m0, m1, m2, c0, c1, c2, now', past', queue'⟩ ⟨xi, xv, xc, xa⟩ := by rw [hk]; rfl
    rw [hfe] at hfit
    have hsm1 : ko + 1 ≤ 16777216 := by omega
    have hsm2 : k + 1 ≤ 16777216 := by omega
    have hsm3 : kq + 1 ≤ 16777216 := by omega
    have ho2 : o ++ [D.int .i64 (xi : Int)] = idC (out ++ [xi]) := by rw [ho, idC_snoc]
    have hz2 : z ++ [D.int .i64 (xi : Int), .int .i64 xv, .int .i64 xc, .int .i64 now'] = qsC (past' ++ [⟨xi, xv, xc, now'⟩]) := by rw [hz, qs_app, qs_one]; rfl
    have hy2 : y ++ [D.int .i64 (xi : Int), .int .i64 xv, .int .i64 xc, .int .i64 xa] = qsC (queue' ++ [⟨xi, xv, xc, xa⟩]) := by rw [hy, qs_app, qs_one]; rfl
    have lo2 : ko + 1 = (out ++ [xi]).length := by rw [hko, List.length_append]; rfl
    have lz2 : k + 1 = (past' ++ [(⟨xi, xv, xc, now'⟩ : QT)]).length := by rw [hk, List.length_append]; rfl
    have ly2 : kq + 1 = (queue' ++ [(⟨xi, xv, xc, xa⟩ : QT)]).length := by rw [hkq, List.length_append]; rfl
    unfold tickStep at hs2
    dsimp only at hs2
    unfold gC at hfit
    generalize hgo : idC (out ++ [xi]) = o2 at *
    generalize hgz : qsC (past' ++ [⟨xi, xv, xc, now'⟩]) = z2 at *
    generalize hgy : qsC (queue' ++ [⟨xi, xv, xc, xa⟩]) = y2 at *
    clear hinv hpc hqc hsn hfl hfe hie hck hpz hqz hea hev
    by_cases h24 : 24 ≤ now' - xa
    · rw [if_pos h24] at hs2
      repeat (first | with_reducible (first | refine W_seq ?_ | refine q_then ?_ | refine q_thenx ?_ | refine W_block ?_ | refine q_block ?_ | refine q_blockx ?_ | refine W_ret ?_ | refine W_skip ?_ | refine W_exit ?_) | (with_reducible refine R_nil ?_; try dsimp only [slots0, slots_ud, cells_U, agg_ud, drop0, dropS, takeS, take0, ud_nil, take_ud, take_ud0, drop_ud, drop_ud0, take_udk, D.cells, D.fz, D.fzs, List.take_succ_cons, List.take_zero, List.drop_succ_cons, List.drop_zero, List.cons_append, List.nil_append, List.append_eq, List.length_cons, List.length_nil, Nat.reduceAdd, Nat.reduceMul, Nat.reduceSub, Int.reduceAdd, Int.reduceSub, Int.reduceToNat, Int.reduceNeg, Int.reduceMul]) | refine W_plain rfl ?_ | refine W_drawn mixed rfl ?_ | refine and_chk (by kernel_rfl) ?_ | (refine k_indexAddrs rfl rfl rfl ⟨?_, ?_⟩ hq1 ?_; (omega); (omega)) | refine k_loade rfl rfl (hc _) ?_ | (refine k_append rfl rfl rfl ?_ hoo rfl rfl hsm1 rfl rfl (by exact ho2) ?_; (rfl)) | refine k_move rfl rfl ?_ | refine k_assign rfl rfl ?_ | refine k_load rfl rfl rfl rfl ?_ | refine k_alloc rfl ?_ | refine k_box rfl rfl rfl ?_ | refine k_store rfl rfl rfl rfl rfl rfl rfl ?_ | refine k_fieldAddr rfl rfl rfl ?_ | (refine k_append rfl rfl rfl ?_ ?_ ?_ rfl ?_ rfl rfl rfl ?_; (first | rfl | exact trivial | (show 0 < _; omega)); (first | rfl | (simp <;> omega)); (first | rfl | (simp <;> omega)); (omega)) | refine k_buildSlice (cs := []) rfl rfl rfl rfl rfl rfl rfl ?_ | refine k_buildSlice rfl rfl rfl rfl rfl rfl rfl ?_ | (refine k_indexAddrs rfl rfl rfl ⟨?_, ?_⟩ rfl ?_; (omega); (omega)) | refine k_loade rfl rfl rfl ?_ | refine k_len rfl rfl ?_ | refine k_pickF rfl rfl rfl ?_ | (refine k_addi rfl rfl rfl ?_ ?_; (omega)) | (refine k_subi rfl rfl rfl ?_ ?_; (omega)) | (refine k_lssT rfl rfl rfl ?_ ?_; (omega)) | (refine k_lssF rfl rfl rfl ?_ ?_; (omega)) | (refine k_gtrF rfl rfl rfl ?_ ?_; (omega)) | (refine k_geqT rfl rfl rfl ?_ ?_; (omega)) | (refine k_geqF rfl rfl rfl ?_ ?_; (omega)) | (refine k_neqF rfl rfl rfl ?_ ?_; (omega)) | refine W_yes rfl ?_ | refine W_no rfl ?_)
      exact ⟨nq - (j + 1), _, _, _, (weak_ren (fun l => if l = 4 then 7 else l) (by repeat (first | exact trivial | refine ⟨⟨_, rfl, (by first | exact Up.refl _ | exact Up.fz _ _ _ | exact Up.nil _ | exact Up.nrs _ | assumption), rfl⟩, ?_⟩)) (by repeat (first | exact trivial | refine ⟨⟨rfl, _, rfl, (by first | exact Ups.refl _ | assumption | ((repeat refine Ups.cons (by first | exact Up.refl _ | exact Up.nil _ | exact Up.fz _ _ _) ?_); exact Ups.nil)), rfl⟩, ?_⟩ | refine ⟨⟨rfl, rfl⟩, ?_⟩ | refine ⟨⟨rfl, _, rfl, bs_ups _ _, bs_lalls _ _⟩, ?_⟩ | refine ⟨⟨rfl, _, rfl, cls_ups _ _ (by assumption), cls_lalls _ _ (by assumption)⟩, ?_⟩)) (by first | decide | simp) (Nat.zero_le _) (fun _ h => absurd h (Nat.not_lt_zero _))), by omega, j + 1, _, k, kq, ko + 1, z, y, o2, by omega, hs2.symm, hk, hz, hkq, hy, lo2, hgo.symm, rfl, rfl, rfl, rfl⟩
    · rw [if_neg h24] at hs2
      generalize GT.fits ⟨m0, m1, m2, c0, c1, c2, now', past', queue'⟩ ⟨xi, xv, xc, xa⟩ = F at *
      cases F with
      | true =>
        rw [if_pos rfl] at hs2
        repeat (first | with_reducible (first | refine W_seq ?_ | refine q_then ?_ | refine q_thenx ?_ | refine W_block ?_ | refine q_block ?_ | refine q_blockx ?_ | refine W_ret ?_ | refine W_skip ?_ | refine W_exit ?_) | (with_reducible refine R_nil ?_; try dsimp only [slots0, slots_ud, cells_U, agg_ud, drop0, dropS, takeS, take0, ud_nil, take_ud, take_ud0, drop_ud, drop_ud0, take_udk, D.cells, D.fz, D.fzs, List.take_succ_cons, List.take_zero, List.drop_succ_cons, List.drop_zero, List.cons_append, List.nil_append, List.append_eq, List.length_cons, List.length_nil, Nat.reduceAdd, Nat.reduceMul, Nat.reduceSub, Int.reduceAdd, Int.reduceSub, Int.reduceToNat, Int.reduceNeg, Int.reduceMul]) | refine W_plain rfl ?_ | refine W_drawn mixed rfl ?_ | refine and_chk (by kernel_rfl) ?_ | (refine k_indexAddrs rfl rfl rfl ⟨?_, ?_⟩ hq1 ?_; (omega); (omega)) | refine k_loade rfl rfl (hc _) ?_ | refine k_load rfl rfl rfl (gcut _ _ _ _ _ _ _ _ _ _) ?_ | (refine k_append rfl rfl rfl ?_ hoo rfl rfl hsm1 rfl rfl (by exact ho2) ?_; (rfl)) | (refine k_append rfl rfl rfl ?_ hkz rfl rfl hsm2 rfl rfl (by exact hz2) ?_; (rfl)) | refine k_move rfl rfl ?_ | refine k_assign rfl rfl ?_ | refine k_load rfl rfl rfl rfl ?_ | refine k_alloc rfl ?_ | refine k_box rfl rfl rfl ?_ | refine k_store rfl rfl rfl rfl rfl rfl rfl ?_ | refine k_fieldAddr rfl rfl rfl ?_ | refine k_call rfl hfit rfl rfl rfl rfl ?_ | (refine k_append rfl rfl rfl ?_ ?_ ?_ rfl ?_ rfl rfl rfl ?_; (first | rfl | exact trivial | (show 0 < _; omega)); (first | rfl | (simp <;> omega)); (first | rfl | (simp <;> omega)); (omega)) | refine k_buildSlice (cs := []) rfl rfl rfl rfl rfl rfl rfl ?_ | refine k_buildSlice rfl rfl rfl rfl rfl rfl rfl ?_ | (refine k_indexAddrs rfl rfl rfl ⟨?_, ?_⟩ rfl ?_; (omega); (omega)) | refine k_loade rfl rfl rfl ?_ | refine k_len rfl rfl ?_ | refine k_pickF rfl rfl rfl ?_ | (refine k_addi rfl rfl rfl ?_ ?_; (omega)) | (refine k_subi rfl rfl rfl ?_ ?_; (omega)) | (refine k_lssT rfl rfl rfl ?_ ?_; (omega)) | (refine k_lssF rfl rfl rfl ?_ ?_; (omega)) | (refine k_gtrF rfl rfl rfl ?_ ?_; (omega)) | (refine k_geqT rfl rfl rfl ?_ ?_; (omega)) | (refine k_geqF rfl rfl rfl ?_ ?_; (omega)) | (refine k_neqF rfl rfl rfl ?_ ?_; (omega)) | refine W_yes rfl ?_ | refine W_no rfl ?_)
        exact ⟨nq - (j + 1), _, _, _, (weak_ren (fun l => if l = 2 then 7 else if l = 4 then 9 else l) (by repeat (first | exact trivial | refine ⟨⟨_, rfl, (by first | exact Up.refl _ | exact Up.fz _ _ _ | exact Up.nil _ | exact Up.nrs _ | assumption), rfl⟩, ?_⟩)) (by repeat (first | exact trivial | refine ⟨⟨rfl, _, rfl, (by first | exact Ups.refl _ | assumption | ((repeat refine Ups.cons (by first | exact Up.refl _ | exact Up.nil _ | exact Up.fz _ _ _) ?_); exact Ups.nil)), rfl⟩, ?_⟩ | refine ⟨⟨rfl, rfl⟩, ?_⟩ | refine ⟨⟨rfl, _, rfl, bs_ups _ _, bs_lalls _ _⟩, ?_⟩ | refine ⟨⟨rfl, _, rfl, cls_ups _ _ (by assumption), cls_lalls _ _ (by assumption)⟩, ?_⟩)) (by first | decide | simp) (Nat.zero_le _) (fun _ h => absurd h (Nat.not_lt_zero _))), by omega, j + 1, _, k + 1, kq, ko + 1, z2, y, o2, by omega, hs2.symm, lz2, hgz.symm, hkq, hy, lo2, hgo.symm, rfl, rfl, rfl, rfl⟩
      | false =>
        rw [if_neg (by decide)] at hs2
        repeat (first | with_reducible (first | refine W_seq ?_ | refine q_then ?_ | refine q_thenx ?_ | refine W_block ?_ | refine q_block ?_ | refine q_blockx ?_ | refine W_ret ?_ | refine W_skip ?_ | refine W_exit ?_) | (with_reducible refine R_nil ?_; try dsimp only [slots0, slots_ud, cells_U, agg_ud, drop0, dropS, takeS, take0, ud_nil, take_ud, take_ud0, drop_ud, drop_ud0, take_udk, D.cells, D.fz, D.fzs, List.take_succ_cons, List.take_zero, List.drop_succ_cons, List.drop_zero, List.cons_append, List.nil_append, List.append_eq, List.length_cons, List.length_nil, Nat.reduceAdd, Nat.reduceMul, Nat.reduceSub, Int.reduceAdd, Int.reduceSub, Int.reduceToNat, Int.reduceNeg, Int.reduceMul]) | refine W_plain rfl ?_ | refine W_drawn mixed rfl ?_ | refine and_chk (by kernel_rfl) ?_ | (refine k_indexAddrs rfl rfl rfl ⟨?_, ?_⟩ hq1 ?_; (omega); (omega)) | refine k_loade rfl rfl (hc _) ?_ | refine k_load rfl rfl rfl (gcut _ _ _ _ _ _ _ _ _ _) ?_ | (refine k_append rfl rfl rfl ?_ hqy rfl rfl hsm3 rfl rfl (by exact hy2) ?_; (rfl)) | refine k_move rfl rfl ?_ | refine k_assign rfl rfl ?_ | refine k_load rfl rfl rfl rfl ?_ | refine k_alloc rfl ?_ | refine k_box rfl rfl rfl ?_ | refine k_store rfl rfl rfl rfl rfl rfl rfl ?_ | refine k_fieldAddr rfl rfl rfl ?_ | refine k_call rfl hfit rfl rfl rfl rfl ?_ | (refine k_append rfl rfl rfl ?_ ?_ ?_ rfl ?_ rfl rfl rfl ?_; (first | rfl | exact trivial | (show 0 < _; omega)); (first | rfl | (simp <;> omega)); (first | rfl | (simp <;> omega)); (omega)) | refine k_buildSlice (cs := []) rfl rfl rfl rfl rfl rfl rfl ?_ | refine k_buildSlice rfl rfl rfl rfl rfl rfl rfl ?_ | (refine k_indexAddrs rfl rfl rfl ⟨?_, ?_⟩ rfl ?_; (omega); (omega)) | refine k_loade rfl rfl rfl ?_ | refine k_len rfl rfl ?_ | refine k_pickF rfl rfl rfl ?_ | (refine k_addi rfl rfl rfl ?_ ?_; (omega)) | (refine k_subi rfl rfl rfl ?_ ?_; (omega)) | (refine k_lssT rfl rfl rfl ?_ ?_; (omega)) | (refine k_lssF rfl rfl rfl ?_ ?_; (omega)) | (refine k_gtrF rfl rfl rfl ?_ ?_; (omega)) | (refine k_geqT rfl rfl rfl ?_ ?_; (omega)) | (refine k_geqF rfl rfl rfl ?_ ?_; (omega)) | (refine k_neqF rfl rfl rfl ?_ ?_; (omega)) | refine W_yes rfl ?_ | refine W_no rfl ?_)
        exact ⟨nq - (j + 1), _, _, _, (weak_ren (fun l => if l = 3 then 7 else l) (by repeat (first | exact trivial | refine ⟨⟨_, rfl, (by first | exact Up.refl _ | exact Up.fz _ _ _ | exact Up.nil _ | exact Up.nrs _ | assumption), rfl⟩, ?_⟩)) (by repeat (first | exact trivial | refine ⟨⟨rfl, _, rfl, (by first | exact Ups.refl _ | assumption | ((repeat refine Ups.cons (by first | exact Up.refl _ | exact Up.nil _ | exact Up.fz _ _ _) ?_); exact Ups.nil)), rfl⟩, ?_⟩ | refine ⟨⟨rfl, rfl⟩, ?_⟩ | refine ⟨⟨rfl, _, rfl, bs_ups _ _, bs_lalls _ _⟩, ?_⟩ | refine ⟨⟨rfl, _, rfl, cls_ups _ _ (by assumption), cls_lalls _ _ (by assumption)⟩, ?_⟩)) (by first | decide | simp) (Nat.zero_le _) (fun _ h => absurd h (Nat.not_lt_zero _))), by omega, j + 1, _, k, kq + 1, ko, z, y2, o, by omega, hs2.symm, hk, hz, ly2, hgy.symm, hko, ho, rfl, rfl, rfl, rfl⟩
  · have ej : j = nq := by omega
    subst ej
    rw [hfin] at hs
    subst hs
    obtain ⟨⟨f0, f1, f2, f3, f4, f5, f6⟩, _, _, _, _⟩ := hi
    have f6' := f6.trans hnw
    rw [← hk, ← hz, ← hkq, ← hy, ← hko, ← ho, f0, f1, f2, f3, f4, f5, f6']
    repeat (first | with_reducible (first | refine W_seq ?_ | refine q_then ?_ | refine q_thenx ?_ | refine W_block ?_ | refine q_block ?_ | refine q_blockx ?_ | refine W_ret ?_ | refine W_skip ?_ | refine W_exit ?_) | (with_reducible refine R_nil ?_; try dsimp only [slots0, slots_ud, cells_U, agg_ud, drop0, dropS, takeS, take0, ud_nil, take_ud, take_ud0, drop_ud, drop_ud0, take_udk, D.cells, D.fz, D.fzs, List.take_succ_cons, List.take_zero, List.drop_succ_cons, List.drop_zero, List.cons_append, List.nil_append, List.append_eq, List.length_cons, List.length_nil, Nat.reduceAdd, Nat.reduceMul, Nat.reduceSub, Int.reduceAdd, Int.reduceSub, Int.reduceToNat, Int.reduceNeg, Int.reduceMul]) | refine W_plain rfl ?_ | refine W_drawn mixed rfl ?_ | refine and_chk (by kernel_rfl) ?_ | refine k_load rfl rfl rfl (gcut _ _ _ _ _ _ _ _ _ _) ?_ | refine k_move rfl rfl ?_ | refine k_assign rfl rfl ?_ | refine k_load rfl rfl rfl rfl ?_ | refine k_alloc rfl ?_ | refine k_box rfl rfl rfl ?_ | refine k_store rfl rfl rfl rfl rfl rfl rfl ?_ | refine k_fieldAddr rfl rfl rfl ?_ | (refine k_append rfl rfl rfl ?_ ?_ ?_ rfl ?_ rfl rfl rfl ?_; (first | rfl | exact trivial | (show 0 < _; omega)); (first | rfl | (simp <;> omega)); (first | rfl | (simp <;> omega)); (omega)) | refine k_buildSlice (cs := []) rfl rfl rfl rfl rfl rfl rfl ?_ | refine k_buildSlice rfl rfl rfl rfl rfl rfl rfl ?_ | (refine k_indexAddrs rfl rfl rfl ⟨?_, ?_⟩ rfl ?_; (omega); (omega)) | refine k_loade rfl rfl rfl ?_ | refine k_len rfl rfl ?_ | refine k_pickF rfl rfl rfl ?_ | (refine k_addi rfl rfl rfl ?_ ?_; (omega)) | (refine k_subi rfl rfl rfl ?_ ?_; (omega)) | (refine k_lssT rfl rfl rfl ?_ ?_; (omega)) | (refine k_lssF rfl rfl rfl ?_ ?_; (omega)) | (refine k_gtrF rfl rfl rfl ?_ ?_; (omega)) | (refine k_geqT rfl rfl rfl ?_ ?_; (omega)) | (refine k_geqF rfl rfl rfl ?_ ?_; (omega)) | (refine k_neqF rfl rfl rfl ?_ ?_; (omega)) | refine W_yes rfl ?_ | refine W_no rfl ?_)
    (first | with_reducible refine q_endr ?_); refine rets3 Try.results39 (by first | exact RetV.tmp _ _ rfl | exact RetV.cell _ _ _ _ _ _ _ _ inferInstance rfl rfl rfl) (by first | exact RetV.tmp _ _ rfl | exact RetV.cell _ _ _ _ _ _ _ _ inferInstance rfl rfl rfl) (by first | exact RetV.tmp _ _ rfl | exact RetV.cell _ _ _ _ _ _ _ _ inferInstance rfl rfl rfl) ?_ ?_ ?_
    · rfl
    · rfl
    · rfl
end Go.Proofs.Ytcfefmbbbfdppaa
