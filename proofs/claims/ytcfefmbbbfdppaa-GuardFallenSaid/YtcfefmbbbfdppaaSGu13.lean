/- guard.Again: a guard by its log alone. Conditions: as said. -/
import Derived.Test.YtcfefmbbbfdppaaSGu12
import Derived.Test.YtcfefmbbbfdppaaSGq
namespace Go.Proofs.Ytcfefmbbbfdppaa
open Go.RowKit Go.Lib Go.IntWalk
set_option linter.unusedVariables false
set_option maxRecDepth 100000
theorem ran_bare (g : GT) (st : List Stp) : (ran g st).la = [] ∧ (ran g st).si = [] := by
  have key : ∀ (st : List Stp) (x : GuT), x.la = [] ∧ x.si = [] → (st.foldl Stp.go x).la = [] ∧ (st.foldl Stp.go x).si = [] := by
    intro st
    induction st with
    | nil => intro x h; exact h
    | cons s st ih =>
      intro x h
      refine ih _ ?_
      cases s with
      | w n => exact h
      | m b am => show (x.take b am).la = [] ∧ (x.take b am).si = []; unfold GuT.take; split <;> exact h
  exact key st _ ⟨rfl, rfl⟩
def guB (x : GuT) (i j : Nat) : List D := guC x.f x.g (.slice .frozen 0 []) (.slice .frozen 0 []) (.slice (.own i) x.hd.length (bdC x.hd)) (.slice (.own j) x.dn.length (bdC x.dn))
theorem guO_bare {x : GuT} (h : x.la = [] ∧ x.si = []) (i j : Nat) : guO x i j = guB x i j := by unfold guO guB bD; rw [h.1, h.2]; rfl
theorem cells_bare {x : GuT} (h : x.la = [] ∧ x.si = []) : x.cells = guC x.f x.g (.slice .frozen 0 []) (.slice .frozen 0 []) (mD x.hd) (mD x.dn) := by unfold GuT.cells bD; rw [h.1, h.2]; rfl
def papO (b : BodyT) : PapT := ⟨0, [], b⟩
theorem papO_ok {b : BodyT} (h : b.ok) : (papO b).ok := ⟨Nat.zero_le _, Nat.zero_le _, fun s hs => absurd hs List.not_mem_nil, h⟩
theorem papO_out (b : BodyT) : (papO b).out = [1, 0, 0, 0, 0, 0] ++ b.out := by
  show toB 1 1 ++ toB 4 0 ++ toB 1 0 ++ sgOut [] ++ b.out = _
  rw [show toB 1 1 = [1] by decide, show toB 4 0 = [0, 0, 0, 0] by decide, show toB 1 0 = [0] by decide]
  rfl
theorem pp_put {x : List D} (hx : x.length = 38) (set : Int) (n : Nat) (z cs : List D) (hc : cs.length = 40) : splice 0 (ppC set n z x) cs = some (ppC set n z x) := by
  unfold splice
  rw [pp_len hx, Nat.ble_eq_true_of_le (by omega), cond_true]
  congr 1
  rw [List.take_zero, List.nil_append, List.drop_of_length_le (by omega), List.append_nil]
theorem recs_get (st : List Stp) (j : Nat) (s : Stp) (h : st[j]? = some s) : (recs st)[j]? = some s.log := by unfold recs; rw [List.getElem?_map, h]; rfl
theorem recs_len (st : List Stp) : (recs st).length = st.length := by unfold recs; rw [List.length_map]
theorem ran_step (g : GT) (st : List Stp) (j : Nat) (s : Stp) (h : st[j]? = some s) : ran g (st.take (j + 1)) = s.go (ran g (st.take j)) := by
  rw [List.take_add_one, h, Option.toList_some, ran_snoc]
set_option maxHeartbeats 32000000 in
theorem Again_ok (g : GT) (hg : g.ok) (st : List Stp) (hc : Cans g st) (hN9 : st.length ≤ 100) (a : List UInt8) (ha : a.length ≤ 9000) (c : List UInt8) (hcc : cat8 (recs st) = c) (hcl : c.length ≤ 9000) (ho : opn a = (recs st, c.length)) (htk : a.take c.length = c) (hxo : (ran g st).ok) :
    Pur Try.prog 11 [u5, .agg g.cells, .agg (lg a [])] (.tup [.agg (GuT.mk (ran g st).f (ran g st).g c [] (ran g st).hd (ran g st).dn).cells, .int .i64 0]) := by
  have hbg := Begin_fn g hg
  have hmd := Mend_ok a ha _ _ ho
  rw [htk] at hmd
  have hop : Pur Try.prog 23 [.agg (lgn c)] (.tup [.slice .frozen (recs st).length (rcs (recs st)), .int .i64 (c.length : Nat)]) :=
    pur_ups (Open_ok c [] (by simpa using hcl) (recs st) c.length (by rw [List.append_nil, ← hcc]; exact opn_all _ hc.small)) (.cons (.agg_ (lgn_ups c)) .nil)
  have hrg := rcs_cut (recs st)
  have hrl := rcs_len (recs st)
  have hgt := recs_get st
  rw [recs_len] at hop hrl
  obtain ⟨zr, hzr⟩ : ∃ z, rcs (recs st) = z := ⟨_, rfl⟩
  rw [hzr] at hop hrg hrl
  have hbare := fun j => ran_bare g (st.take j)
  have hstep := ran_step g st
  have hcan := hc
  have hfr : Pur Try.prog 19 [.agg (guC (ran g st).f (ran g st).g (.slice .frozen c.length (bs c)) (.slice .nil 0 []) (mD (ran g st).hd) (mD (ran g st).dn))] (.agg (GuT.mk (ran g st).f (ran g st).g c [] (ran g st).hd (ran g st).dn).cells) :=
    pur_ups (fresh_ok ⟨(ran g st).f, (ran g st).g, c, [], (ran g st).hd, (ran g st).dn⟩ ⟨hxo.f, hxo.g, by simpa using hcl, hxo.hd, hxo.dn⟩) (.cons (.agg_ (by unfold GuT.cells guC bD mD; (repeat refine Ups.cons (by first | exact Up.refl _ | exact Up.nil _) ?_); exact Ups.nil)) .nil)
  have hfull : ran g (st.take st.length) = ran g st := by rw [List.take_length]
  obtain ⟨N, hN⟩ : ∃ n, st.length = n := ⟨_, rfl⟩
  rw [hN] at hop hrl hN9 hfull
  have hz1 : N * 1 = zr.length := by omega
  unfold lgn at hmd hop
  obtain ⟨Y, hY⟩ : ∃ q, ran g st = q := ⟨_, rfl⟩
  rw [hY] at hfr hfull ⊢
  unfold GuT.cells guC bD mD at hfr ⊢
  dsimp only at hfr ⊢
  generalize hP1 : qsC Y.f.past = P1 at hfr ⊢
  generalize hQ1 : qsC Y.f.queue = Q1 at hfr ⊢
  generalize hP2 : qsC Y.g.past = P2 at hfr ⊢
  generalize hQ2 : qsC Y.g.queue = Q2 at hfr ⊢
  generalize hHd : bdC Y.hd = Hd at hfr ⊢
  generalize hDn : bdC Y.dn = Dn at hfr ⊢
  unfold GT.cells gC qD at *
  unfold u5 at *
  unfold lg at *
  generalize bs a = za at *
  generalize hnc : c.length = nc at *
  obtain ⟨zc, hzc⟩ : ∃ z, bs c = z := ⟨_, rfl⟩
  rw [hzc] at hmd hop hfr ⊢
  have hmdz : (List.nil : List UInt8).length = 0 := rfl
  unfold guC at hbg
  generalize hp0 : qsC g.past = gp at *
  generalize hq0 : qsC g.queue = gq at *
  have gcut : ∀ (l0 l1 l2 b0 b1 b2 now : D) (p q : D) ze, cut ⟨true, 9, ze⟩ 0 [l0, l1, l2, b0, b1, b2, now, p, q] = some (.agg [l0, l1, l2, b0, b1, b2, now, p, q]) := fun _ _ _ _ _ _ _ _ _ _ => rfl
  refine pur_intro Try.func11 rfl Try.ntmps11 rfl (by first | rfl | assumption | exact bs_cl _) fun B => ?_
  repeat (first | with_reducible (first | refine W_seq ?_ | refine q_then ?_ | refine q_thenx ?_ | refine W_block ?_ | refine q_block ?_ | refine q_blockx ?_ | refine W_ret ?_ | refine W_skip ?_ | refine W_exit ?_) | (with_reducible refine R_nil ?_; try dsimp only [slots0, slots_ud, cells_U, agg_ud, drop0, dropS, takeS, take0, ud_nil, take_ud, take_ud0, drop_ud, drop_ud0, take_udk, D.cells, D.fz, D.fzs, List.take_succ_cons, List.take_zero, List.drop_succ_cons, List.drop_zero, List.cons_append, List.nil_append, List.append_eq, List.length_cons, List.length_nil, Nat.reduceAdd, Nat.reduceMul, Nat.reduceSub, Int.reduceAdd, Int.reduceSub, Int.reduceToNat, Int.reduceNeg, Int.reduceMul]) | refine W_plain rfl ?_ | refine W_drawn mixed rfl ?_ | refine and_chk (by kernel_rfl) ?_ | refine k_load rfl rfl rfl (gcut _ _ _ _ _ _ _ _ _ _) ?_ | refine k_move rfl rfl ?_ | refine k_assign rfl rfl ?_ | refine k_load rfl rfl rfl rfl ?_ | refine k_alloc rfl ?_ | refine k_box rfl rfl rfl ?_ | refine k_store rfl rfl rfl rfl rfl rfl rfl ?_ | refine k_extract rfl rfl rfl ?_ | refine k_fieldAddr rfl rfl rfl ?_ | refine k_call rfl hmd rfl rfl rfl rfl ?_ | refine k_call rfl hop rfl rfl rfl rfl ?_ | refine k_callf (fun l => l + 4) [0, 1] (6) rfl (hbg) rfl (by first | exact Ups.refl _ | assumption | ((repeat refine Ups.cons (by first | exact Up.refl _ | exact Up.nil _ | exact Up.fz _ _ _) ?_); exact Ups.nil)) (rfl) (by (repeat (first | refine ⟨⟨rfl, _, rfl, (by first | exact Ups.refl _ | assumption | ((repeat refine Ups.cons (by first | exact Up.refl _ | exact Up.nil _ | exact Up.fz _ _ _) ?_); exact Ups.nil)), rfl⟩, ?_⟩ | refine ⟨⟨rfl, rfl⟩, ?_⟩)); exact trivial) rfl rfl rfl rfl (rfl) (rfl) rfl rfl rfl rfl ?_ | (refine k_append rfl rfl rfl ?_ ?_ ?_ rfl ?_ rfl rfl rfl ?_; (first | rfl | exact trivial | (show 0 < _; omega)); (first | rfl | (simp <;> omega)); (first | rfl | (simp <;> omega)); (omega)) | (refine k_slice rfl rfl rfl rfl ⟨?_, ?_, ?_⟩ rfl rfl rfl ?_; (omega); (omega); (omega)) | refine k_buildSlice (cs := []) rfl rfl rfl rfl rfl rfl rfl ?_ | refine k_buildSlice rfl rfl rfl rfl rfl rfl rfl ?_ | (refine k_indexAddrs rfl rfl rfl ⟨?_, ?_⟩ rfl ?_; (omega); (omega)) | refine k_loade rfl rfl rfl ?_ | refine k_len rfl rfl ?_ | refine k_pickT rfl rfl rfl ?_ | refine k_pickF rfl rfl rfl ?_ | (refine k_addi rfl rfl rfl ?_ ?_; (omega)) | (refine k_lssT rfl rfl rfl ?_ ?_; (omega)) | (refine k_lssF rfl rfl rfl ?_ ?_; (omega)) | (refine k_gtrT rfl rfl rfl ?_ ?_; (omega)) | (refine k_geqF rfl rfl rfl ?_ ?_; (omega)) | (refine k_eqlT rfl rfl rfl ?_ ?_; (omega)) | (refine k_eqlF rfl rfl rfl ?_ ?_; (omega)) | (refine k_neqF rfl rfl rfl ?_ ?_; (omega)) | refine k_skip rfl ?_ | refine W_yes rfl ?_ | refine W_no rfl ?_)
  refine W_loopW (fun n' ρ m nx => ∃ (j : Nat) (y : GuT) (p1 q1 p2 q2 hd dn : List D), j ≤ N ∧ y = ran g (st.take j) ∧ p1 = qsC y.f.past ∧ q1 = qsC y.f.queue ∧ p2 = qsC y.g.past ∧ q2 = qsC y.g.queue ∧ hd = bdC y.hd ∧ dn = bdC y.dn ∧ n' = N - j ∧ ρ = [(42, .int .i64 (j : Int)), (41, .int .i64 (N : Int)), (40, .slice .frozen N zr), (8, .ptr 6 0), (6, .ptr 3 0), (5, .ptr 2 0)] ∧ m = [(4, some (.tok 52 38)), (5, some (.tok 52 38)), (6, some (.var 37 [.int .u64 5, .int .u64 0, .int .u64 0, .int .u64 0, .int .i64 y.f.l0, .int .i64 y.f.l1, .int .i64 y.f.l2, .int .i64 y.f.b0, .int .i64 y.f.b1, .int .i64 y.f.b2, .int .i64 y.f.now, .slice .frozen y.f.past.length p1, .slice .frozen y.f.queue.length q1, .int .i64 y.g.l0, .int .i64 y.g.l1, .int .i64 y.g.l2, .int .i64 y.g.b0, .int .i64 y.g.b1, .int .i64 y.g.b2, .int .i64 y.g.now, .slice .frozen y.g.past.length p2, .slice .frozen y.g.queue.length q2, .slice .frozen 0 [], .slice .frozen 0 [], .slice (.own 4) y.hd.length hd, .slice (.own 5) y.dn.length dn])), (3, some (.var 37 [.int .u64 0, .int .u64 0, .int .u64 0, .int .u64 0, .int .i64 0, .int .i64 0, .int .i64 0, .int .i64 0, .int .i64 0, .int .i64 0, .int .i64 0, .slice .nil 0 [], .slice .nil 0 [], .int .i64 0, .int .i64 0, .int .i64 0, .int .i64 0, .int .i64 0, .int .i64 0, .int .i64 0, .slice .nil 0 [], .slice .nil 0 [], .slice .nil 0 [], .slice .nil 0 [], .slice .nil 0 [], .slice .nil 0 []])), (2, some (.var 34 [.slice .frozen nc zc, .slice .nil 0 []]))] ∧ nx = 7)
    ⟨_, _, _, _, (weak_ren (fun l => l) (by repeat (first | exact trivial | refine ⟨⟨_, rfl, (by first | exact Up.refl _ | exact Up.fz _ _ _ | exact Up.nil _ | exact Up.nrs _ | assumption), rfl⟩, ?_⟩)) (by repeat (first | exact trivial | refine ⟨⟨rfl, _, rfl, (by first | exact Ups.refl _ | assumption | ((repeat refine Ups.cons (by first | exact Up.refl _ | exact Up.nil _ | exact Up.fz _ _ _) ?_); exact Ups.nil)), rfl⟩, ?_⟩ | refine ⟨⟨rfl, rfl⟩, ?_⟩ | refine ⟨⟨rfl, _, rfl, bs_ups _ _, bs_lalls _ _⟩, ?_⟩ | refine ⟨⟨rfl, _, rfl, cls_ups _ _ (by assumption), cls_lalls _ _ (by assumption)⟩, ?_⟩)) (by first | decide | simp) (Nat.zero_le _) (fun _ h => absurd h (Nat.not_lt_zero _))), 0, g0T g, _, _, _, _, _, _, Nat.zero_le _, rfl, hp0.symm, hq0.symm, hp0.symm, hq0.symm, rfl, rfl, rfl, rfl, rfl, rfl⟩ ?_
  rintro n' ρ m nx ⟨j, y, p1, q1, p2, q2, hd, dn, hj, hy, hp1, hq1, hp2, hq2, hhd, hdn, rfl, rfl, rfl, rfl⟩
  by_cases hlt : j < N
  · obtain ⟨s, hs⟩ : ∃ s, st[j]? = some s := ⟨_, List.getElem?_eq_getElem (by omega)⟩
    obtain ⟨hcs, hyo⟩ := hcan j s hs
    have hns := hstep j s hs
    have hrc := hrg j _ (hgt j s hs)
    have hb0 := hbare j
    rw [← hy] at hcs hyo hns hb0
    obtain ⟨y', hy'⟩ : ∃ q, q = ran g (st.take (j + 1)) := ⟨_, rfl⟩
    rw [← hy'] at hns
    clear hcan hstep hgt hrg hbare
    cases s with
    | w n =>
      obtain ⟨c1, c2, c3, c4, _⟩ := hcs
      replace hns : y' = y.gone n := hns
      have hps : ∀ u v : Nat, ((tick y.g n).2.length = 0 ∧ u = 0 ∧ v = 1) ∨ (0 < (tick y.g n).2.length ∧ u = 2 ∧ v = 3) → Fn Try.prog 18 2 [.agg (guB y 0 1), .int .i64 (n : Int)] [(0, some (.tok 52 38)), (1, some (.tok 52 38))] (.tup [.agg (guB y' u v), .int .i64 0]) [(u, some (.tok 52 38)), (v, some (.tok 52 38))] := fun u v huv => by
        have h := Passed_own y hyo n c1 c2 c3 c4 u v huv
        rw [guO_bare hb0, guO_bare (x := y.gone n) hb0, ← hns] at h
        exact h
      have sh := shl8 (UInt8.ofNat (n / 256))
      have orr : bitw .or .i64 (((UInt8.ofNat (n / 256)).toNat : Int) * 256) ((UInt8.ofNat n).toNat : Int) = (n : Int) := by
        rw [or8, UInt8.toNat_ofNat', UInt8.toNat_ofNat']; omega
      have v0 : ∀ x : UInt8, IntKind.i64.wrap (x.toNat : Int) = (x.toNat : Int) := fun x => by have := x.toNat_lt; rw [IntKind.wrap_i64]; omega
      have hv0 := v0 (UInt8.ofNat (n / 256))
      have hv1 := v0 (UInt8.ofNat n)
      replace hrc : ∀ ze, cut ⟨false, 1, ze⟩ 0 (zr.drop ((j : Int).toNat * 1)) = some (.slice .frozen 3 [.int .u8 2, .int .u8 ((UInt8.ofNat (n / 256)).toNat : Int), .int .u8 ((UInt8.ofNat n).toNat : Int)]) := hrc
      generalize ((UInt8.ofNat (n / 256)).toNat : Int) = n1 at *
      generalize ((UInt8.ofNat n).toNat : Int) = n2 at *
      unfold guB guC at hps
      rw [← hp1, ← hq1, ← hp2, ← hq2, ← hhd, ← hdn] at hps
      obtain ⟨p1', hp1'⟩ : ∃ z, z = qsC y'.f.past := ⟨_, rfl⟩
      rw [← hp1'] at hps
      obtain ⟨q1', hq1'⟩ : ∃ z, z = qsC y'.f.queue := ⟨_, rfl⟩
      rw [← hq1'] at hps
      obtain ⟨p2', hp2'⟩ : ∃ z, z = qsC y'.g.past := ⟨_, rfl⟩
      rw [← hp2'] at hps
      obtain ⟨q2', hq2'⟩ : ∃ z, z = qsC y'.g.queue := ⟨_, rfl⟩
      rw [← hq2'] at hps
      obtain ⟨hd', hhd'⟩ : ∃ z, z = bdC y'.hd := ⟨_, rfl⟩
      rw [← hhd'] at hps
      obtain ⟨dn', hdn'⟩ : ∃ z, z = bdC y'.dn := ⟨_, rfl⟩
      rw [← hdn'] at hps
      generalize (tick y.g n).2.length = tn at hps
      clear hns hyo c4 hb0
      rcases Nat.eq_zero_or_pos tn with h0 | h0
      · have hp := hps 0 1 (.inl ⟨h0, rfl, rfl⟩)
        clear hps
        repeat (first | with_reducible (first | refine W_seq ?_ | refine q_then ?_ | refine q_thenx ?_ | refine W_block ?_ | refine q_block ?_ | refine q_blockx ?_ | refine W_ret ?_ | refine W_skip ?_ | refine W_exit ?_) | (with_reducible refine R_nil ?_; try dsimp only [slots0, slots_ud, cells_U, agg_ud, drop0, dropS, takeS, take0, ud_nil, take_ud, take_ud0, drop_ud, drop_ud0, take_udk, D.cells, D.fz, D.fzs, List.take_succ_cons, List.take_zero, List.drop_succ_cons, List.drop_zero, List.cons_append, List.nil_append, List.append_eq, List.length_cons, List.length_nil, Nat.reduceAdd, Nat.reduceMul, Nat.reduceSub, Int.reduceAdd, Int.reduceSub, Int.reduceToNat, Int.reduceNeg, Int.reduceMul]) | refine W_plain rfl ?_ | refine W_drawn mixed rfl ?_ | refine and_chk (by kernel_rfl) ?_ | (refine k_indexAddrs rfl rfl rfl ⟨?_, ?_⟩ hz1 ?_; (omega); (omega)) | refine k_loade rfl rfl (hrc _) ?_ | refine k_move rfl rfl ?_ | refine k_assign rfl rfl ?_ | refine k_load rfl rfl rfl rfl ?_ | refine k_alloc rfl ?_ | refine k_box rfl rfl rfl ?_ | refine k_store rfl rfl rfl rfl rfl rfl rfl ?_ | refine k_extract rfl rfl rfl ?_ | refine k_fieldAddr rfl rfl rfl ?_ | refine k_conv rfl rfl hv0 ?_ | refine k_conv rfl rfl hv1 ?_ | (refine k_shl rfl rfl rfl ?_ sh ?_; (decide)) | refine k_bits rfl rfl rfl rfl orr ?_ | refine k_callf (fun l => l + 4) [0, 1] (7) rfl (hp) rfl (by first | exact Ups.refl _ | assumption | ((repeat refine Ups.cons (by first | exact Up.refl _ | exact Up.nil _ | exact Up.fz _ _ _) ?_); exact Ups.nil)) (rfl) (by (repeat (first | refine ⟨⟨rfl, _, rfl, (by first | exact Ups.refl _ | assumption | ((repeat refine Ups.cons (by first | exact Up.refl _ | exact Up.nil _ | exact Up.fz _ _ _) ?_); exact Ups.nil)), rfl⟩, ?_⟩ | refine ⟨⟨rfl, rfl⟩, ?_⟩)); exact trivial) rfl rfl rfl rfl (rfl) (rfl) rfl rfl rfl rfl ?_ | (refine k_append rfl rfl rfl ?_ ?_ ?_ rfl ?_ rfl rfl rfl ?_; (first | rfl | exact trivial | (show 0 < _; omega)); (first | rfl | (simp <;> omega)); (first | rfl | (simp <;> omega)); (omega)) | (refine k_slice rfl rfl rfl rfl ⟨?_, ?_, ?_⟩ rfl rfl rfl ?_; (omega); (omega); (omega)) | refine k_buildSlice (cs := []) rfl rfl rfl rfl rfl rfl rfl ?_ | refine k_buildSlice rfl rfl rfl rfl rfl rfl rfl ?_ | (refine k_indexAddrs rfl rfl rfl ⟨?_, ?_⟩ rfl ?_; (omega); (omega)) | refine k_loade rfl rfl rfl ?_ | refine k_len rfl rfl ?_ | refine k_pickT rfl rfl rfl ?_ | refine k_pickF rfl rfl rfl ?_ | (refine k_addi rfl rfl rfl ?_ ?_; (omega)) | (refine k_lssT rfl rfl rfl ?_ ?_; (omega)) | (refine k_lssF rfl rfl rfl ?_ ?_; (omega)) | (refine k_gtrT rfl rfl rfl ?_ ?_; (omega)) | (refine k_geqF rfl rfl rfl ?_ ?_; (omega)) | (refine k_eqlT rfl rfl rfl ?_ ?_; (omega)) | (refine k_eqlF rfl rfl rfl ?_ ?_; (omega)) | (refine k_neqF rfl rfl rfl ?_ ?_; (omega)) | refine k_skip rfl ?_ | refine W_yes rfl ?_ | refine W_no rfl ?_)
        exact ⟨N - (j + 1), _, _, _, (weak_ren (fun l => l) (by repeat (first | exact trivial | refine ⟨⟨_, rfl, (by first | exact Up.refl _ | exact Up.fz _ _ _ | exact Up.nil _ | exact Up.nrs _ | assumption), rfl⟩, ?_⟩)) (by repeat (first | exact trivial | refine ⟨⟨rfl, _, rfl, (by first | exact Ups.refl _ | assumption | ((repeat refine Ups.cons (by first | exact Up.refl _ | exact Up.nil _ | exact Up.fz _ _ _) ?_); exact Ups.nil)), rfl⟩, ?_⟩ | refine ⟨⟨rfl, rfl⟩, ?_⟩ | refine ⟨⟨rfl, _, rfl, bs_ups _ _, bs_lalls _ _⟩, ?_⟩ | refine ⟨⟨rfl, _, rfl, cls_ups _ _ (by assumption), cls_lalls _ _ (by assumption)⟩, ?_⟩)) (by first | decide | simp) (Nat.zero_le _) (fun _ h => absurd h (Nat.not_lt_zero _))), by omega, j + 1, y', p1', q1', p2', q2', hd', dn', by omega, hy', hp1', hq1', hp2', hq2', hhd', hdn', rfl, rfl, rfl, rfl⟩
      · have hp := hps 2 3 (.inr ⟨h0, rfl, rfl⟩)
        clear hps
        repeat (first | with_reducible (first | refine W_seq ?_ | refine q_then ?_ | refine q_thenx ?_ | refine W_block ?_ | refine q_block ?_ | refine q_blockx ?_ | refine W_ret ?_ | refine W_skip ?_ | refine W_exit ?_) | (with_reducible refine R_nil ?_; try dsimp only [slots0, slots_ud, cells_U, agg_ud, drop0, dropS, takeS, take0, ud_nil, take_ud, take_ud0, drop_ud, drop_ud0, take_udk, D.cells, D.fz, D.fzs, List.take_succ_cons, List.take_zero, List.drop_succ_cons, List.drop_zero, List.cons_append, List.nil_append, List.append_eq, List.length_cons, List.length_nil, Nat.reduceAdd, Nat.reduceMul, Nat.reduceSub, Int.reduceAdd, Int.reduceSub, Int.reduceToNat, Int.reduceNeg, Int.reduceMul]) | refine W_plain rfl ?_ | refine W_drawn mixed rfl ?_ | refine and_chk (by kernel_rfl) ?_ | (refine k_indexAddrs rfl rfl rfl ⟨?_, ?_⟩ hz1 ?_; (omega); (omega)) | refine k_loade rfl rfl (hrc _) ?_ | refine k_move rfl rfl ?_ | refine k_assign rfl rfl ?_ | refine k_load rfl rfl rfl rfl ?_ | refine k_alloc rfl ?_ | refine k_box rfl rfl rfl ?_ | refine k_store rfl rfl rfl rfl rfl rfl rfl ?_ | refine k_extract rfl rfl rfl ?_ | refine k_fieldAddr rfl rfl rfl ?_ | refine k_conv rfl rfl hv0 ?_ | refine k_conv rfl rfl hv1 ?_ | (refine k_shl rfl rfl rfl ?_ sh ?_; (decide)) | refine k_bits rfl rfl rfl rfl orr ?_ | refine k_callf (fun l => if l < 2 then l + 4 else l + 5) [0, 1, 2, 3] (9) rfl (hp) rfl (by first | exact Ups.refl _ | assumption | ((repeat refine Ups.cons (by first | exact Up.refl _ | exact Up.nil _ | exact Up.fz _ _ _) ?_); exact Ups.nil)) (rfl) (by (repeat (first | refine ⟨⟨rfl, _, rfl, (by first | exact Ups.refl _ | assumption | ((repeat refine Ups.cons (by first | exact Up.refl _ | exact Up.nil _ | exact Up.fz _ _ _) ?_); exact Ups.nil)), rfl⟩, ?_⟩ | refine ⟨⟨rfl, rfl⟩, ?_⟩)); exact trivial) rfl rfl rfl rfl (rfl) (rfl) rfl rfl rfl rfl ?_ | (refine k_append rfl rfl rfl ?_ ?_ ?_ rfl ?_ rfl rfl rfl ?_; (first | rfl | exact trivial | (show 0 < _; omega)); (first | rfl | (simp <;> omega)); (first | rfl | (simp <;> omega)); (omega)) | (refine k_slice rfl rfl rfl rfl ⟨?_, ?_, ?_⟩ rfl rfl rfl ?_; (omega); (omega); (omega)) | refine k_buildSlice (cs := []) rfl rfl rfl rfl rfl rfl rfl ?_ | refine k_buildSlice rfl rfl rfl rfl rfl rfl rfl ?_ | (refine k_indexAddrs rfl rfl rfl ⟨?_, ?_⟩ rfl ?_; (omega); (omega)) | refine k_loade rfl rfl rfl ?_ | refine k_len rfl rfl ?_ | refine k_pickT rfl rfl rfl ?_ | refine k_pickF rfl rfl rfl ?_ | (refine k_addi rfl rfl rfl ?_ ?_; (omega)) | (refine k_lssT rfl rfl rfl ?_ ?_; (omega)) | (refine k_lssF rfl rfl rfl ?_ ?_; (omega)) | (refine k_gtrT rfl rfl rfl ?_ ?_; (omega)) | (refine k_geqF rfl rfl rfl ?_ ?_; (omega)) | (refine k_eqlT rfl rfl rfl ?_ ?_; (omega)) | (refine k_eqlF rfl rfl rfl ?_ ?_; (omega)) | (refine k_neqF rfl rfl rfl ?_ ?_; (omega)) | refine k_skip rfl ?_ | refine W_yes rfl ?_ | refine W_no rfl ?_)
        exact ⟨N - (j + 1), _, _, _, (weak_ren (fun l => if l = 4 then 7 else if l = 5 then 8 else l) (by repeat (first | exact trivial | refine ⟨⟨_, rfl, (by first | exact Up.refl _ | exact Up.fz _ _ _ | exact Up.nil _ | exact Up.nrs _ | assumption), rfl⟩, ?_⟩)) (by repeat (first | exact trivial | refine ⟨⟨rfl, _, rfl, (by first | exact Ups.refl _ | assumption | ((repeat refine Ups.cons (by first | exact Up.refl _ | exact Up.nil _ | exact Up.fz _ _ _) ?_); exact Ups.nil)), rfl⟩, ?_⟩ | refine ⟨⟨rfl, rfl⟩, ?_⟩ | refine ⟨⟨rfl, _, rfl, bs_ups _ _, bs_lalls _ _⟩, ?_⟩ | refine ⟨⟨rfl, _, rfl, cls_ups _ _ (by assumption), cls_lalls _ _ (by assumption)⟩, ?_⟩)) (by first | decide | simp) (Nat.zero_le _) (fun _ h => absurd h (Nat.not_lt_zero _))), by omega, j + 1, y', p1', q1', p2', q2', hd', dn', by omega, hy', hp1', hq1', hp2', hq2', hhd', hdn', rfl, rfl, rfl, rfl⟩
    | m b am =>
      obtain ⟨hbo, hc3, hu, hw, hnw, hkn, hq40, h200, h201, ho9, _⟩ := hcs
      replace hns : y' = y.take b am := hns
      have hi := Id_ok b hbo
      have hkw := knows_ok y hyo b.id false hkn
      rw [cells_bare hb0] at hkw
      have hdc := Decode_out (papO b) (papO_ok hbo) (6 + b.out.length) (by rw [papO_out, List.length_append]; rfl)
      rw [papO_out, bs_app] at hdc
      replace hdc : Pur Try.prog 24 [.slice .frozen (6 + b.out.length) ([.int .u8 1, .int .u8 0, .int .u8 0, .int .u8 0, .int .u8 0, .int .u8 0] ++ bs b.out)] (.tup [.agg (ppC 0 0 [] b.cells), .int .i64 0]) := hdc
      replace hrc : ∀ ze, cut ⟨false, 1, ze⟩ 0 (zr.drop ((j : Int).toNat * 1)) = some (.slice .frozen (b.out.length + 1) (.int .u8 1 :: bs b.out)) := hrc
      have hbc := bd_cls b
      have hbcl := bd_cl b
      have hbfz := bd_fz b
      have hbl := bd_len hbo.e
      have hlb : D.lalls (below 2) b.cells = true := cls_lalls _ _ hbc
      have hub : ∀ f, Ups b.cells (D.rens f b.cells) := fun f => cls_ups _ _ hbc
      have hpall := pp_all hbl 0 0 []
      have hpb := pp_b hbl 0 0 []
      have hpl := pp_len hbl 0 0 []
      have hpc : ∀ ze, cut ⟨false, 1, ze⟩ 4 (ppC 0 0 [] b.cells) = some (.int .i64 (b.c : Int)) := fun _ => rfl
      have hpu : ∀ ze, cut ⟨false, 1, ze⟩ 37 (ppC 0 0 [] b.cells) = some (.int .i64 (b.u : Int)) := fun ze => by
        have := bd_at hbo.e 0 _ rfl ze 35 rfl
        exact this
      have hpcl := pp_cl 0 0 [] b.cells hbc
      have hmp := fun hf => Met_pass y hyo b hbo hc3 hu am hw hnw (by omega) hf
      have hmh := fun hf => Met_hold y hyo b hbo hc3 hu am hw hnw (by omega) hf
      have hz2 : (b.out.length + 1) * 1 = (D.int .u8 1 :: bs b.out).length := by rw [List.length_cons, bs_len]; omega
      have ho55 : 55 ≤ b.out.length := by rw [b.out_len hbo]; omega
      have n1 : (((b.out.length + 1 : Nat) : Int) - 1).toNat = b.out.length := by omega
      have hn2 : b.out.length * 1 = (bs b.out).length := by rw [bs_len]; omega
      have hz3 : ((D.int .u8 1 :: bs b.out).drop ((1 : Int).toNat * 1)).take (b.out.length * 1) = bs b.out := by
        show (bs b.out).take _ = _
        exact List.take_of_length_le (by rw [bs_len]; omega)
      have s1 : 6 + b.out.length ≤ 16777216 := by omega
      have hpcl2 : D.cl (.tup [.agg (ppC 0 0 [] b.cells), .int .i64 0]) = true := by
        show (D.cls _ && (true && true)) = true; rw [hpcl]; rfl
      have hp40 : (D.agg (ppC 0 0 [] b.cells)).cells.length = 40 := hpl
      have hpput := pp_put hbl 0 0 []
      unfold guC mD at hkw
      rw [← hp1, ← hq1, ← hp2, ← hq2, ← hhd, ← hdn] at hkw
      generalize ppC 0 0 [] b.cells = pc at *
      cases hf : y.g.fits (qOf y b am) with
      | true =>
        have hns' : y' = y.pass b am := by rw [hns]; unfold GuT.take; rw [if_pos hf]
        have hmm : Fn Try.prog 27 2 [.agg (guB y 0 1), .agg b.cells] [(0, some (.tok 52 38)), (1, some (.tok 52 38))] (.tup [.agg (guB y' 0 2), .int .i64 0]) [(0, some (.tok 52 38)), (2, some (.tok 52 38))] := by
          have h := hmp hf
          rw [guO_bare hb0, guO_bare (x := y.pass b am) hb0, ← hns'] at h
          exact h
        unfold guB guC at hmm
        rw [← hp1, ← hq1, ← hp2, ← hq2, ← hhd, ← hdn] at hmm
        obtain ⟨p1', hp1'⟩ : ∃ z, z = qsC y'.f.past := ⟨_, rfl⟩
        rw [← hp1'] at hmm
        obtain ⟨q1', hq1'⟩ : ∃ z, z = qsC y'.f.queue := ⟨_, rfl⟩
        rw [← hq1'] at hmm
        obtain ⟨p2', hp2'⟩ : ∃ z, z = qsC y'.g.past := ⟨_, rfl⟩
        rw [← hp2'] at hmm
        obtain ⟨q2', hq2'⟩ : ∃ z, z = qsC y'.g.queue := ⟨_, rfl⟩
        rw [← hq2'] at hmm
        obtain ⟨hd', hhd'⟩ : ∃ z, z = bdC y'.hd := ⟨_, rfl⟩
        rw [← hhd'] at hmm
        obtain ⟨dn', hdn'⟩ : ∃ z, z = bdC y'.dn := ⟨_, rfl⟩
        rw [← hdn'] at hmm
        clear hns hns' hyo hb0 hmp hmh hnw hw hkn
        clear hcc ho hfull hp0 hq0 hfr hP1 hQ1 hP2 hQ2 hHd hDn
        generalize b.out.length = no at *
        generalize bs b.out = zo at *
        generalize b.cells = bc at *
        generalize b.id = bid at *
        generalize b.c = bch at *
        generalize b.u = bu at *
        repeat (first | with_reducible (first | refine W_seq ?_ | refine q_then ?_ | refine q_thenx ?_ | refine W_block ?_ | refine q_block ?_ | refine q_blockx ?_ | refine W_ret ?_ | refine W_skip ?_ | refine W_exit ?_) | (with_reducible refine R_nil ?_; try dsimp only [slots0, slots_ud, cells_U, agg_ud, drop0, dropS, takeS, take0, ud_nil, take_ud, take_ud0, drop_ud, drop_ud0, take_udk, D.cells, D.fz, D.fzs, List.take_succ_cons, List.take_zero, List.drop_succ_cons, List.drop_zero, List.cons_append, List.nil_append, List.append_eq, List.length_cons, List.length_nil, Nat.reduceAdd, Nat.reduceMul, Nat.reduceSub, Int.reduceAdd, Int.reduceSub, Int.reduceToNat, Int.reduceNeg, Int.reduceMul]) | refine W_plain rfl ?_ | refine W_drawn mixed rfl ?_ | refine and_chk (by kernel_rfl) ?_ | (refine k_indexAddrs rfl rfl rfl ⟨?_, ?_⟩ hz1 ?_; (omega); (omega)) | refine k_loade rfl rfl (hrc _) ?_ | (refine k_indexAddrs rfl rfl rfl ⟨?_, ?_⟩ hz2 ?_; (omega); (omega)) | (refine k_slice rfl rfl rfl rfl ⟨?_, ?_, ?_⟩ hz2 n1 hz3 ?_; (omega); (omega); (omega)) | (refine k_append rfl rfl rfl ?_ rfl hn2 rfl s1 rfl rfl ?_ ?_; (rfl); (rfl)) | refine k_store rfl rfl rfl rfl (by exact hp40) rfl (by exact hpput _ rfl) ?_ | refine k_load rfl rfl rfl (hpc _) ?_ | refine k_load rfl rfl rfl (hpu _) ?_ | refine k_load rfl rfl rfl (hpb _) ?_ | refine k_move rfl rfl ?_ | refine k_assign rfl rfl ?_ | refine k_load rfl rfl rfl rfl ?_ | refine k_alloc rfl ?_ | refine k_box rfl rfl rfl ?_ | refine k_store rfl rfl rfl rfl rfl rfl rfl ?_ | refine k_extract rfl rfl rfl ?_ | refine k_fieldAddr rfl rfl rfl ?_ | refine k_call rfl hdc rfl rfl rfl hpcl2 ?_ | refine k_call rfl hi rfl hbfz hbcl rfl ?_ | refine k_call rfl hkw rfl rfl rfl rfl ?_ | refine k_callf (fun l => if l < 2 then l + 4 else l + 8) [0, 1, 2] (11) rfl (hmm) rfl (.cons (.refl _) (.cons (.agg_ (hub _)) .nil)) ((by show (_ && (D.lalls (below 2) bc && true)) = true; rw [hlb]; rfl)) (by (repeat (first | refine ⟨⟨rfl, _, rfl, (by first | exact Ups.refl _ | assumption | ((repeat refine Ups.cons (by first | exact Up.refl _ | exact Up.nil _ | exact Up.fz _ _ _) ?_); exact Ups.nil)), rfl⟩, ?_⟩ | refine ⟨⟨rfl, rfl⟩, ?_⟩)); exact trivial) rfl rfl rfl rfl (rfl) (rfl) rfl rfl rfl rfl ?_ | (refine k_append rfl rfl rfl ?_ ?_ ?_ rfl ?_ rfl rfl rfl ?_; (first | rfl | exact trivial | (show 0 < _; omega)); (first | rfl | (simp <;> omega)); (first | rfl | (simp <;> omega)); (omega)) | (refine k_slice rfl rfl rfl rfl ⟨?_, ?_, ?_⟩ rfl rfl rfl ?_; (omega); (omega); (omega)) | refine k_buildSlice (cs := []) rfl rfl rfl rfl rfl rfl rfl ?_ | refine k_buildSlice rfl rfl rfl rfl rfl rfl rfl ?_ | (refine k_indexAddrs rfl rfl rfl ⟨?_, ?_⟩ rfl ?_; (omega); (omega)) | refine k_loade rfl rfl rfl ?_ | refine k_len rfl rfl ?_ | refine k_pickT rfl rfl rfl ?_ | refine k_pickF rfl rfl rfl ?_ | (refine k_addi rfl rfl rfl ?_ ?_; (omega)) | (refine k_lssT rfl rfl rfl ?_ ?_; (omega)) | (refine k_lssF rfl rfl rfl ?_ ?_; (omega)) | (refine k_gtrT rfl rfl rfl ?_ ?_; (omega)) | (refine k_geqF rfl rfl rfl ?_ ?_; (omega)) | (refine k_eqlT rfl rfl rfl ?_ ?_; (omega)) | (refine k_eqlF rfl rfl rfl ?_ ?_; (omega)) | (refine k_neqF rfl rfl rfl ?_ ?_; (omega)) | refine k_skip rfl ?_ | refine W_yes rfl ?_ | refine W_no rfl ?_)
        exact ⟨N - (j + 1), _, _, _, (weak_ren (fun l => if l = 5 then 10 else l) (by repeat (first | exact trivial | refine ⟨⟨_, rfl, (by first | exact Up.refl _ | exact Up.fz _ _ _ | exact Up.nil _ | exact Up.nrs _ | assumption), rfl⟩, ?_⟩)) (by repeat (first | exact trivial | refine ⟨⟨rfl, _, rfl, (by first | exact Ups.refl _ | assumption | ((repeat refine Ups.cons (by first | exact Up.refl _ | exact Up.nil _ | exact Up.fz _ _ _) ?_); exact Ups.nil)), rfl⟩, ?_⟩ | refine ⟨⟨rfl, rfl⟩, ?_⟩ | refine ⟨⟨rfl, _, rfl, bs_ups _ _, bs_lalls _ _⟩, ?_⟩ | refine ⟨⟨rfl, _, rfl, cls_ups _ _ (by assumption), cls_lalls _ _ (by assumption)⟩, ?_⟩)) (by first | decide | simp) (Nat.zero_le _) (fun _ h => absurd h (Nat.not_lt_zero _))), by omega, j + 1, y', p1', q1', p2', q2', hd', dn', by omega, hy', hp1', hq1', hp2', hq2', hhd', hdn', rfl, rfl, rfl, rfl⟩
      | false =>
        have hns' : y' = y.hold b am := by rw [hns]; unfold GuT.take; rw [if_neg (by rw [hf]; decide)]
        have hmm : Fn Try.prog 27 2 [.agg (guB y 0 1), .agg b.cells] [(0, some (.tok 52 38)), (1, some (.tok 52 38))] (.tup [.agg (guB y' 2 1), .int .i64 0]) [(1, some (.tok 52 38)), (2, some (.tok 52 38))] := by
          have h := hmh hf
          rw [guO_bare hb0, guO_bare (x := y.hold b am) hb0, ← hns'] at h
          exact h
        unfold guB guC at hmm
        rw [← hp1, ← hq1, ← hp2, ← hq2, ← hhd, ← hdn] at hmm
        obtain ⟨p1', hp1'⟩ : ∃ z, z = qsC y'.f.past := ⟨_, rfl⟩
        rw [← hp1'] at hmm
        obtain ⟨q1', hq1'⟩ : ∃ z, z = qsC y'.f.queue := ⟨_, rfl⟩
        rw [← hq1'] at hmm
        obtain ⟨p2', hp2'⟩ : ∃ z, z = qsC y'.g.past := ⟨_, rfl⟩
        rw [← hp2'] at hmm
        obtain ⟨q2', hq2'⟩ : ∃ z, z = qsC y'.g.queue := ⟨_, rfl⟩
        rw [← hq2'] at hmm
        obtain ⟨hd', hhd'⟩ : ∃ z, z = bdC y'.hd := ⟨_, rfl⟩
        rw [← hhd'] at hmm
        obtain ⟨dn', hdn'⟩ : ∃ z, z = bdC y'.dn := ⟨_, rfl⟩
        rw [← hdn'] at hmm
        clear hns hns' hyo hb0 hmp hmh hnw hw hkn
        clear hcc ho hfull hp0 hq0 hfr hP1 hQ1 hP2 hQ2 hHd hDn
        generalize b.out.length = no at *
        generalize bs b.out = zo at *
        generalize b.cells = bc at *
        generalize b.id = bid at *
        generalize b.c = bch at *
        generalize b.u = bu at *
        repeat (first | with_reducible (first | refine W_seq ?_ | refine q_then ?_ | refine q_thenx ?_ | refine W_block ?_ | refine q_block ?_ | refine q_blockx ?_ | refine W_ret ?_ | refine W_skip ?_ | refine W_exit ?_) | (with_reducible refine R_nil ?_; try dsimp only [slots0, slots_ud, cells_U, agg_ud, drop0, dropS, takeS, take0, ud_nil, take_ud, take_ud0, drop_ud, drop_ud0, take_udk, D.cells, D.fz, D.fzs, List.take_succ_cons, List.take_zero, List.drop_succ_cons, List.drop_zero, List.cons_append, List.nil_append, List.append_eq, List.length_cons, List.length_nil, Nat.reduceAdd, Nat.reduceMul, Nat.reduceSub, Int.reduceAdd, Int.reduceSub, Int.reduceToNat, Int.reduceNeg, Int.reduceMul]) | refine W_plain rfl ?_ | refine W_drawn mixed rfl ?_ | refine and_chk (by kernel_rfl) ?_ | (refine k_indexAddrs rfl rfl rfl ⟨?_, ?_⟩ hz1 ?_; (omega); (omega)) | refine k_loade rfl rfl (hrc _) ?_ | (refine k_indexAddrs rfl rfl rfl ⟨?_, ?_⟩ hz2 ?_; (omega); (omega)) | (refine k_slice rfl rfl rfl rfl ⟨?_, ?_, ?_⟩ hz2 n1 hz3 ?_; (omega); (omega); (omega)) | (refine k_append rfl rfl rfl ?_ rfl hn2 rfl s1 rfl rfl ?_ ?_; (rfl); (rfl)) | refine k_store rfl rfl rfl rfl (by exact hp40) rfl (by exact hpput _ rfl) ?_ | refine k_load rfl rfl rfl (hpc _) ?_ | refine k_load rfl rfl rfl (hpu _) ?_ | refine k_load rfl rfl rfl (hpb _) ?_ | refine k_move rfl rfl ?_ | refine k_assign rfl rfl ?_ | refine k_load rfl rfl rfl rfl ?_ | refine k_alloc rfl ?_ | refine k_box rfl rfl rfl ?_ | refine k_store rfl rfl rfl rfl rfl rfl rfl ?_ | refine k_extract rfl rfl rfl ?_ | refine k_fieldAddr rfl rfl rfl ?_ | refine k_call rfl hdc rfl rfl rfl hpcl2 ?_ | refine k_call rfl hi rfl hbfz hbcl rfl ?_ | refine k_call rfl hkw rfl rfl rfl rfl ?_ | refine k_callf (fun l => if l < 2 then l + 4 else l + 8) [0, 1, 2] (11) rfl (hmm) rfl (.cons (.refl _) (.cons (.agg_ (hub _)) .nil)) ((by show (_ && (D.lalls (below 2) bc && true)) = true; rw [hlb]; rfl)) (by (repeat (first | refine ⟨⟨rfl, _, rfl, (by first | exact Ups.refl _ | assumption | ((repeat refine Ups.cons (by first | exact Up.refl _ | exact Up.nil _ | exact Up.fz _ _ _) ?_); exact Ups.nil)), rfl⟩, ?_⟩ | refine ⟨⟨rfl, rfl⟩, ?_⟩)); exact trivial) rfl rfl rfl rfl (rfl) (rfl) rfl rfl rfl rfl ?_ | (refine k_append rfl rfl rfl ?_ ?_ ?_ rfl ?_ rfl rfl rfl ?_; (first | rfl | exact trivial | (show 0 < _; omega)); (first | rfl | (simp <;> omega)); (first | rfl | (simp <;> omega)); (omega)) | (refine k_slice rfl rfl rfl rfl ⟨?_, ?_, ?_⟩ rfl rfl rfl ?_; (omega); (omega); (omega)) | refine k_buildSlice (cs := []) rfl rfl rfl rfl rfl rfl rfl ?_ | refine k_buildSlice rfl rfl rfl rfl rfl rfl rfl ?_ | (refine k_indexAddrs rfl rfl rfl ⟨?_, ?_⟩ rfl ?_; (omega); (omega)) | refine k_loade rfl rfl rfl ?_ | refine k_len rfl rfl ?_ | refine k_pickT rfl rfl rfl ?_ | refine k_pickF rfl rfl rfl ?_ | (refine k_addi rfl rfl rfl ?_ ?_; (omega)) | (refine k_lssT rfl rfl rfl ?_ ?_; (omega)) | (refine k_lssF rfl rfl rfl ?_ ?_; (omega)) | (refine k_gtrT rfl rfl rfl ?_ ?_; (omega)) | (refine k_geqF rfl rfl rfl ?_ ?_; (omega)) | (refine k_eqlT rfl rfl rfl ?_ ?_; (omega)) | (refine k_eqlF rfl rfl rfl ?_ ?_; (omega)) | (refine k_neqF rfl rfl rfl ?_ ?_; (omega)) | refine k_skip rfl ?_ | refine W_yes rfl ?_ | refine W_no rfl ?_)
        exact ⟨N - (j + 1), _, _, _, (weak_ren (fun l => if l = 4 then 10 else l) (by repeat (first | exact trivial | refine ⟨⟨_, rfl, (by first | exact Up.refl _ | exact Up.fz _ _ _ | exact Up.nil _ | exact Up.nrs _ | assumption), rfl⟩, ?_⟩)) (by repeat (first | exact trivial | refine ⟨⟨rfl, _, rfl, (by first | exact Ups.refl _ | assumption | ((repeat refine Ups.cons (by first | exact Up.refl _ | exact Up.nil _ | exact Up.fz _ _ _) ?_); exact Ups.nil)), rfl⟩, ?_⟩ | refine ⟨⟨rfl, rfl⟩, ?_⟩ | refine ⟨⟨rfl, _, rfl, bs_ups _ _, bs_lalls _ _⟩, ?_⟩ | refine ⟨⟨rfl, _, rfl, cls_ups _ _ (by assumption), cls_lalls _ _ (by assumption)⟩, ?_⟩)) (by first | decide | simp) (Nat.zero_le _) (fun _ h => absurd h (Nat.not_lt_zero _))), by omega, j + 1, y', p1', q1', p2', q2', hd', dn', by omega, hy', hp1', hq1', hp2', hq2', hhd', hdn', rfl, rfl, rfl, rfl⟩
  · obtain rfl : j = N := by omega
    rw [hfull] at hy
    subst hy
    rw [hP1] at hp1
    rw [hQ1] at hq1
    rw [hP2] at hp2
    rw [hQ2] at hq2
    rw [hHd] at hhd
    rw [hDn] at hdn
    subst hp1 hq1 hp2 hq2 hhd hdn
    repeat (first | with_reducible (first | refine W_seq ?_ | refine q_then ?_ | refine q_thenx ?_ | refine W_block ?_ | refine q_block ?_ | refine q_blockx ?_ | refine W_ret ?_ | refine W_skip ?_ | refine W_exit ?_) | (with_reducible refine R_nil ?_; try dsimp only [slots0, slots_ud, cells_U, agg_ud, drop0, dropS, takeS, take0, ud_nil, take_ud, take_ud0, drop_ud, drop_ud0, take_udk, D.cells, D.fz, D.fzs, List.take_succ_cons, List.take_zero, List.drop_succ_cons, List.drop_zero, List.cons_append, List.nil_append, List.append_eq, List.length_cons, List.length_nil, Nat.reduceAdd, Nat.reduceMul, Nat.reduceSub, Int.reduceAdd, Int.reduceSub, Int.reduceToNat, Int.reduceNeg, Int.reduceMul]) | refine W_plain rfl ?_ | refine W_drawn mixed rfl ?_ | refine and_chk (by kernel_rfl) ?_ | refine k_move rfl rfl ?_ | refine k_assign rfl rfl ?_ | refine k_load rfl rfl rfl rfl ?_ | refine k_alloc rfl ?_ | refine k_box rfl rfl rfl ?_ | refine k_store rfl rfl rfl rfl rfl rfl rfl ?_ | refine k_extract rfl rfl rfl ?_ | refine k_fieldAddr rfl rfl rfl ?_ | refine k_call rfl hfr rfl rfl rfl rfl ?_ | (refine k_append rfl rfl rfl ?_ ?_ ?_ rfl ?_ rfl rfl rfl ?_; (first | rfl | exact trivial | (show 0 < _; omega)); (first | rfl | (simp <;> omega)); (first | rfl | (simp <;> omega)); (omega)) | (refine k_slice rfl rfl rfl rfl ⟨?_, ?_, ?_⟩ rfl rfl rfl ?_; (omega); (omega); (omega)) | refine k_buildSlice (cs := []) rfl rfl rfl rfl rfl rfl rfl ?_ | refine k_buildSlice rfl rfl rfl rfl rfl rfl rfl ?_ | (refine k_indexAddrs rfl rfl rfl ⟨?_, ?_⟩ rfl ?_; (omega); (omega)) | refine k_loade rfl rfl rfl ?_ | refine k_len rfl rfl ?_ | refine k_pickT rfl rfl rfl ?_ | refine k_pickF rfl rfl rfl ?_ | (refine k_addi rfl rfl rfl ?_ ?_; (omega)) | (refine k_lssT rfl rfl rfl ?_ ?_; (omega)) | (refine k_lssF rfl rfl rfl ?_ ?_; (omega)) | (refine k_gtrT rfl rfl rfl ?_ ?_; (omega)) | (refine k_geqF rfl rfl rfl ?_ ?_; (omega)) | (refine k_eqlT rfl rfl rfl ?_ ?_; (omega)) | (refine k_eqlF rfl rfl rfl ?_ ?_; (omega)) | (refine k_neqF rfl rfl rfl ?_ ?_; (omega)) | refine k_skip rfl ?_ | refine W_yes rfl ?_ | refine W_no rfl ?_)
    (first | with_reducible refine q_endr ?_); refine rets2 Try.results11 (by first | exact RetV.tmp _ _ rfl | exact RetV.cell _ _ _ _ _ _ _ _ inferInstance rfl rfl rfl) (by first | exact RetV.tmp _ _ rfl | exact RetV.cell _ _ _ _ _ _ _ _ inferInstance rfl rfl rfl) ?_ ?_
    all_goals rfl
end Go.Proofs.Ytcfefmbbbfdppaa
