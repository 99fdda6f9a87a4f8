/- guard: what is met is met; a day. No conditions. -/
import Derived.Test.YtcfefmbbbfdppaaSGu10
namespace Go.Proofs.Ytcfefmbbbfdppaa
open Go.RowKit Go.Lib Go.IntWalk
set_option linter.unusedVariables false
set_option maxRecDepth 100000
def r00 : RawT := ⟨0, 0, 0, ⟨#[]⟩⟩
theorem tells_fits : (g0T (gofG 0 0)).g.fits (qOf (g0T (gofG 0 0)) (msgB 0 r00) (msgA r00)) = true := rfl
set_option maxHeartbeats 16000000 in
theorem guardTells_ok : Pur Try.prog 10 [] (.bool true) := by
  have hg := gof_start 0 0
  have hgo := gateOf_ok 0 0 0 ⟨#[]⟩
  have hbg := Begin_fn (gofG 0 0) hg.ok
  have hup := GT.ups0 (gofG 0 0) hg
  have hi := lv_inv (gofG 0 0) hg [] 0 (Nat.le_refl _) (by decide)
  replace hi : LInv (gofG 0 0) 0 0 (g0T (gofG 0 0)) := hi
  have hms := message_ok 0 (by decide) 0 0 0 ⟨#[]⟩
  replace hms : Pur Try.prog 14 [.int .i64 0, .agg [.int .i64 0, .int .i64 0, .int .i64 0, .str ⟨#[]⟩]] (.agg (msgB 0 r00).cells) := hms
  have hm := msg_ok 0 (by decide) r00
  have hS : Pur Try.prog 15 [.agg (g0T (gofG 0 0)).cells, .slice .frozen 1 (bdC [msgB 0 r00])] (.tup [.agg ((g0T (gofG 0 0)).meet (msgB 0 r00) (msgA r00)).cells, .int .i64 1]) := by
    obtain ⟨a1, a2, a3, a4, a5⟩ := hi.new r00 (by decide)
    have h1 := meet_new _ hi.ok (msgB 0 r00) hm (by decide) (by decide) (msgA r00) (msg_wor 0 r00) a1 a3 a4 a5 hi.si a2 188 (msg_outlen r00 0 (by decide)) (by decide) (by decide)
    exact See_ok _ hi.ok [msgB 0 r00] (fun b hb => by rw [List.mem_singleton.1 hb]; exact hm) 1 rfl (by decide) (fun k => if k = 0 then (g0T (gofG 0 0), 0) else ((g0T (gofG 0 0)).meet (msgB 0 r00) (msgA r00), 1)) rfl (fun k b hb => by
      match k, hb with
      | 0, hb =>
        obtain rfl : msgB 0 r00 = b := by simpa using hb
        exact ⟨true, h1, fun _ => rfl, fun h => by cases h⟩
      | k + 1, hb => simp at hb)
  have hbf := (one_fill _ hm.e).trans (congrArg some (bdC_one _).symm)
  have hbc1 : (D.agg (msgB 0 r00).cells).cl = true := bd_cls _
  have hzc : D.cls (bdC [msgB 0 r00]) = true := bdC_cls _
  have hzf : D.fzs (bdC [msgB 0 r00]) = bdC [msgB 0 r00] := bdC_fzs _
  obtain ⟨y, hy⟩ : ∃ y, (g0T (gofG 0 0)).meet (msgB 0 r00) (msgA r00) = y := ⟨_, rfl⟩
  have hd1 : y.dn.length = 1 := by
    rw [← hy]; unfold GuT.meet GuT.take
    rw [if_pos tells_fits]; rfl
  have hla : (0 : Int) < (y.la.length : Int) := by
    rw [← hy]
    show (0 : Int) < (((g0T (gofG 0 0)).take (msgB 0 r00) (msgA r00)).la ++ rec8 (1 :: (msgB 0 r00).out)).length
    rw [List.length_append, rec8_len]; omega
  rw [hy] at hS
  clear hy hm hi
  generalize bdC [msgB 0 r00] = zb at *
  generalize (msgB 0 r00).cells = bc at *
  generalize gofG 0 0 = g at *
  unfold GT.cells gC qD at hbg hup
  unfold GT.cells0 at hgo hup
  unfold GuT.cells guC bD mD g0T at hS
  dsimp only at hS
  replace hS : Pur Try.prog 15 [.agg [.int .u64 5, .int .u64 0, .int .u64 0, .int .u64 0, .int .i64 g.l0, .int .i64 g.l1, .int .i64 g.l2, .int .i64 g.b0, .int .i64 g.b1, .int .i64 g.b2, .int .i64 g.now, .slice .frozen g.past.length (qsC g.past), .slice .frozen g.queue.length (qsC g.queue), .int .i64 g.l0, .int .i64 g.l1, .int .i64 g.l2, .int .i64 g.b0, .int .i64 g.b1, .int .i64 g.b2, .int .i64 g.now, .slice .frozen g.past.length (qsC g.past), .slice .frozen g.queue.length (qsC g.queue), .slice .frozen 0 [], .slice .frozen 0 [], .slice .frozen 0 [], .slice .frozen 0 []], .slice .frozen 1 zb] (.tup [.agg [.int .u64 5, .int .u64 0, .int .u64 0, .int .u64 0, .int .i64 y.f.l0, .int .i64 y.f.l1, .int .i64 y.f.l2, .int .i64 y.f.b0, .int .i64 y.f.b1, .int .i64 y.f.b2, .int .i64 y.f.now, .slice .frozen y.f.past.length (qsC y.f.past), .slice .frozen y.f.queue.length (qsC y.f.queue), .int .i64 y.g.l0, .int .i64 y.g.l1, .int .i64 y.g.l2, .int .i64 y.g.b0, .int .i64 y.g.b1, .int .i64 y.g.b2, .int .i64 y.g.now, .slice .frozen y.g.past.length (qsC y.g.past), .slice .frozen y.g.queue.length (qsC y.g.queue), .slice .frozen y.la.length (bs y.la), .slice .frozen y.si.length (bs y.si), .slice .frozen y.hd.length (bdC y.hd), .slice .frozen y.dn.length (bdC y.dn)], .int .i64 1]) := hS
  rw [hd1] at hS
  unfold guC at hbg
  generalize bdC y.dn = yd at *
  refine pur_intro Try.func10 rfl Try.ntmps10 rfl (by first | rfl | assumption | exact bs_cl _) fun B => ?_
  repeat (first | with_reducible (first | refine W_seq ?_ | refine q_then ?_ | refine W_ret ?_) | (with_reducible refine R_nil ?_; try dsimp only [slots0, slots_ud, cells_U, agg_ud, drop0, dropS, takeS, take0, ud_nil, take_ud, take_ud0, drop_ud, drop_ud0, take_udk, D.cells, D.fz, D.fzs, List.take_succ_cons, List.take_zero, List.drop_succ_cons, List.drop_zero, List.cons_append, List.nil_append, List.append_eq, List.length_cons, List.length_nil, Nat.reduceAdd, Nat.reduceMul, Nat.reduceSub, Int.reduceAdd, Int.reduceSub, Int.reduceToNat, Int.reduceNeg, Int.reduceMul]) | refine W_plain rfl ?_ | refine W_drawn mixed rfl ?_ | refine and_chk (by kernel_rfl) ?_ | refine k_buildSlice rfl rfl hbf hzf hzc rfl rfl ?_ | refine k_move rfl rfl ?_ | refine k_assign rfl rfl ?_ | refine k_load rfl rfl rfl rfl ?_ | refine k_alloc rfl ?_ | refine k_store rfl rfl rfl rfl rfl rfl rfl ?_ | refine k_extract rfl rfl rfl ?_ | refine k_fieldAddr rfl rfl rfl ?_ | refine k_build rfl rfl rfl ?_ | refine k_call rfl hgo rfl rfl rfl rfl ?_ | refine k_callf (fun l => l + 3) [0, 1] (5) rfl (hbg) rfl (.cons (.refl _) (.cons hup .nil)) (rfl) (by (repeat (first | refine ⟨⟨rfl, _, rfl, (by first | exact Ups.refl _ | assumption | ((repeat refine Ups.cons (by first | exact Up.refl _ | exact Up.nil _ | exact Up.fz _ _ _) ?_); exact Ups.nil)), rfl⟩, ?_⟩ | refine ⟨⟨rfl, rfl⟩, ?_⟩)); exact trivial) rfl rfl rfl rfl (rfl) (rfl) rfl rfl rfl rfl ?_ | refine k_call rfl hms rfl rfl rfl hbc1 ?_ | refine k_call rfl hS rfl rfl rfl rfl ?_ | (refine k_append rfl rfl rfl ?_ ?_ ?_ rfl ?_ rfl rfl rfl ?_; (first | rfl | exact trivial | (show 0 < _; omega)); (first | rfl | (simp <;> omega)); (first | rfl | (simp <;> omega)); (omega)) | refine k_buildSlice (cs := []) rfl rfl rfl rfl rfl rfl rfl ?_ | refine k_buildSlice rfl rfl rfl rfl rfl rfl rfl ?_ | refine k_len rfl rfl ?_ | refine k_pickT rfl rfl rfl ?_ | (refine k_gtrT rfl rfl rfl ?_ ?_; (omega)) | (refine k_eqlT rfl rfl rfl ?_ ?_; (omega)))
  (first | with_reducible refine q_endr ?_); refine rets1 Try.results10 (by first | exact RetV.tmp _ _ rfl | exact RetV.cell _ _ _ _ _ _ _ _ inferInstance rfl rfl rfl) ?_
  rfl
end Go.Proofs.Ytcfefmbbbfdppaa
