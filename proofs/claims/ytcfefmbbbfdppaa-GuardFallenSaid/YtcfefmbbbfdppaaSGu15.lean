/- guard.Fall. Conditions: as said. -/
import Derived.Test.YtcfefmbbbfdppaaSGu13
import Derived.Test.YtcfefmbbbfdppaaSDMore
namespace Go.Proofs.Ytcfefmbbbfdppaa
open Go.RowKit Go.Lib Go.IntWalk
set_option linter.unusedVariables false
set_option maxRecDepth 100000
set_option maxHeartbeats 16000000 in
theorem Fall_ok (x : GuT) (hsi : x.si = []) (b : BodyT) (hb : b.ok) (am : Nat) (n : Nat) (hbo : b.out.length = n) (hn9 : n ≤ 199) (hl : x.la.length + n + 4 ≤ 9000) (hmt : Pur Try.prog 34 [.agg x.cells, .agg b.cells] (.tup [.agg (x.meet b am).cells, .bool true]))
    (k : Int) (K : Nat) (hK : min (max k 0) ((n + 4 : Nat) : Int) = K) (hK4 : K ≤ n + 4) (y : GuT) (hag : Pur Try.prog 11 [u5, .agg x.f.cells, .agg (lgn (x.la ++ (rec8 (1 :: b.out)).take K))] (.tup [.agg y.cells, .int .i64 0])) :
    Pur Try.prog 16 [.agg x.cells, .agg b.cells, .int .i64 k] (.tup [.agg y.cells, .int .i64 0]) := by
  have hme := meeting_ok b hb n hbo
  have hrl : (rec8 (1 :: b.out)).length = n + 4 := by rw [rec8_len, List.length_cons, hbo]
  have hap := Append_ok x.la x.si (1 :: b.out) (by rw [List.length_cons]; omega) (by rw [hsi, List.length_cons, List.length_nil]; omega)
  rw [hsi, List.nil_append] at hap
  have hcr := Crash_at x.la (rec8 (1 :: b.out)) (by omega) K (by omega)
  rw [show (1 :: b.out).length = 1 + n by rw [List.length_cons]; omega] at hap
  have hm1 : max k 0 = max k 0 := rfl
  have hball := bd_all hb.e
  have hbput := bd_put hb.e
  have hbl := bd_len hb.e
  have hbc := bd_cls b
  have hbcl := bd_cl b
  have hbfz := bd_fz b
  have hbfz1 : D.fzs b.cells = b.cells := by have := hbfz; simpa [D.fzs, D.fz] using this
  have gcut : ∀ (l0 l1 l2 b0 b1 b2 now : D) (p q : D) ze, cut ⟨true, 9, ze⟩ 0 [l0, l1, l2, b0, b1, b2, now, p, q] = some (.agg [l0, l1, l2, b0, b1, b2, now, p, q]) := fun _ _ _ _ _ _ _ _ _ _ => rfl
  have hx2 : ∀ z : List D, D.fzs z = z → D.fzs [D.agg z, D.agg b.cells] = [D.agg z, D.agg b.cells] := fun z hz => by
    show [D.agg (D.fzs z), D.agg (D.fzs b.cells)] = _; rw [hz, hbfz1]
  have hcl2 : ∀ z : List D, D.cls z = true → D.cls [D.agg z, D.agg b.cells] = true := fun z hz => by
    show (D.cls z && (D.cls b.cells && true)) = true; rw [hz, hbc]; rfl
  generalize x.meet b am = w at *
  generalize hrr : rec8 (1 :: b.out) = rr at *
  generalize bs (1 :: b.out) = yr at *
  unfold lgn at hcr hag
  generalize hll : x.la ++ rr.take K = ll at *
  unfold GT.cells gC qD u5 at hag
  unfold lg at hap hcr
  rw [hrl] at hap hcr
  unfold GuT.cells guC bD mD at hmt hag ⊢
  rw [hsi] at hmt ⊢
  generalize bdC x.hd = y1 at *
  generalize bdC x.dn = y2 at *
  generalize bs x.la = y3 at *
  generalize bs rr = y5 at *
  generalize bs ll = y6 at *
  generalize qsC x.f.past = z1 at *
  generalize qsC x.f.queue = z2 at *
  generalize qsC x.g.past = z3 at *
  generalize qsC x.g.queue = z4 at *
  generalize b.cells = bc at *
  refine pur_intro Try.func16 rfl Try.ntmps16 rfl (by first | rfl | assumption | exact bs_cl _) fun B => ?_
  repeat (first | with_reducible (first | refine W_seq ?_ | refine q_then ?_ | refine W_ret ?_ | refine W_skip ?_) | (with_reducible refine R_nil ?_; try dsimp only [slots0, slots_ud, cells_U, agg_ud, drop0, dropS, takeS, take0, ud_nil, take_ud, take_ud0, drop_ud, drop_ud0, take_udk, D.cells, D.fz, D.fzs, List.take_succ_cons, List.take_zero, List.drop_succ_cons, List.drop_zero, List.cons_append, List.nil_append, List.append_eq, List.length_cons, List.length_nil, Nat.reduceAdd, Nat.reduceMul, Nat.reduceSub, Int.reduceAdd, Int.reduceSub, Int.reduceToNat, Int.reduceNeg, Int.reduceMul]) | refine W_plain rfl ?_ | refine and_chk (by kernel_rfl) ?_ | refine k_load rfl rfl rfl (gcut _ _ _ _ _ _ _ _ _ _) ?_ | refine k_load rfl rfl rfl (hball _) ?_ | refine k_move rfl rfl ?_ | refine k_assign rfl rfl ?_ | refine k_load rfl rfl rfl rfl ?_ | refine k_alloc rfl ?_ | refine k_box rfl rfl rfl ?_ | refine k_store rfl rfl rfl rfl rfl rfl rfl ?_ | refine k_extract rfl rfl rfl ?_ | refine k_fieldAddr rfl rfl rfl ?_ | refine k_build rfl rfl rfl ?_ | refine k_call rfl hmt rfl (by exact hx2 _ rfl) (by exact hcl2 _ rfl) rfl ?_ | refine k_call rfl hme rfl hbfz hbcl rfl ?_ | refine k_call rfl hap rfl rfl rfl rfl ?_ | refine k_max rfl rfl rfl hm1 ?_ | refine k_min rfl rfl rfl hK ?_ | refine k_call rfl hcr rfl rfl rfl rfl ?_ | refine k_call rfl hag rfl rfl rfl rfl ?_ | (refine k_append rfl rfl rfl ?_ ?_ ?_ rfl ?_ rfl rfl rfl ?_; (first | rfl | exact trivial | (show 0 < _; omega)); (first | rfl | (simp <;> omega)); (first | rfl | (simp <;> omega)); (omega)) | refine k_len rfl rfl ?_ | (refine k_neqF rfl rfl rfl ?_ ?_; (omega)) | refine W_yes rfl ?_ | refine W_no rfl ?_)
  (first | with_reducible refine q_endr ?_); refine rets2 Try.results16 (by first | exact RetV.tmp _ _ rfl | exact RetV.cell _ _ _ _ _ _ _ _ inferInstance rfl rfl rfl) (by first | exact RetV.tmp _ _ rfl | exact RetV.cell _ _ _ _ _ _ _ _ inferInstance rfl rfl rfl) ?_ ?_
  all_goals rfl
end Go.Proofs.Ytcfefmbbbfdppaa
