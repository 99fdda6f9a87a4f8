/- PaperBack: a paper is read as it was written; cut in its head it is none. No conditions. -/
import Derived.Test.YtbpaimfnfigjpaaGq
import Derived.Test.YtbpaimfnfigjpaaGp
import Derived.Test.YtbpaimfnfigjpaaRowS
namespace Go.Proofs.Ytbpaimfnfigjpaa.paperBack
open Go.ChangeShapes Go.WideShapes Go.RowKit Go.Joins Go.Lib Go.IntWalk
set_option linter.unusedVariables false
open Go.Proofs.Ytbpaimfnfigjpaa
set_option maxRecDepth 100000

theorem sg_eq (s : SgT) : deqs s.cells s.cells = true := by
  unfold SgT.cells sgC ud
  simp [deqs, deq1]
set_option maxHeartbeats 16000000 in
theorem pur (l : List RawT) (set k a b at_ : Int) (s : ByteArray) : Pur Try.prog 3 [.slice .frozen l.length (rws l), .int .i64 set, .agg [.int .i64 k, .int .i64 a, .int .i64 b, .str s], .int .i64 at_] (.bool true) := by
  obtain ⟨q, hq, hqn, hw⟩ := written_ok l set k a b s
  obtain ⟨no, hno⟩ : ∃ no, q.out.length = no := ⟨_, rfl⟩
  have he := Encode_ok q hq no hno
  have hd := Decode_out q hq no hno
  have hol : no = 61 + 66 * q.sg.length + q.b.l.length := by rw [← hno]; unfold PapT.out; simp only [List.length_append, toB_len, sgOut_len, q.b.out_len hq.b]; omega
  have hn := hq.n
  have hbl := hq.b.l
  obtain ⟨H, hH⟩ : ∃ H, 61 + 66 * q.sg.length = H := ⟨_, rfl⟩
  obtain ⟨c, ec, hc⟩ := mod_nat at_ H (by omega)
  have hcut := Decode_cut q hq c (by omega)
  have pk := p_picked at_ H c (by omega) (by omega) ec
  have hmax : max (H : Int) 1 = H := by omega
  have hsub : (no : Int) - (q.b.l.length : Int) = H := by omega
  have sm := same_ok q.b q.b hq.b.e hq.b.e true (by simp)
  have hsl : ((bs q.out).drop ((0 : Int).toNat * 1)).take (c * 1) = bs (q.out.take c) := by
    rw [show (0 : Int).toNat * 1 = 0 from rfl, List.drop_zero, Nat.mul_one]; unfold bs; rw [List.map_take]
  have hbo : no * 1 = (bs q.out).length := by rw [bs_len, hno]; omega
  have hk0 : ((c : Int) - 0).toNat = c := by omega
  have hsubw : IntKind.i64.wrap ((no : Int) - (q.b.l.length : Int)) = H := by rw [hsub]; exact i64_in _ (by omega)
  have h66 : IntKind.i64.wrap (66 * (q.sg.length : Int)) = 66 * (q.sg.length : Int) := i64_in _ (by omega)
  have hHn : decide ((H : Int) ≠ 61 + 66 * (q.sg.length : Int)) = false := by simp; omega
  -- the paper's cells
  have hbe := hq.b.e
  have hxl := bd_len hbe
  have hxf : D.fzs q.b.cells = q.b.cells := by have := bd_fz q.b; simpa [D.fzs, D.fz] using this
  have hxc : D.cls q.b.cells = true := bd_cls q.b
  have hld := bd_at hbe 2 _ rfl
  have hcell := sgsC_cut q.sg
  have hzl : q.sg.length * 10 = (sgsC q.sg).length := by rw [sgsC_len]
  have hcp := pp_cl q.set q.sg.length (sgsC q.sg) q.b.cells hxc
  have hld39 : ∀ (a c : D) ze, cut ⟨false, 1, ze⟩ 39 (a :: c :: q.b.cells) = some (.slice .frozen q.b.l.length (bs q.b.l)) := fun a c ze => by
    have := hld ze 37 rfl
    unfold cut at this ⊢
    simp only [cond_false] at this ⊢
    rw [List.getElem?_cons_succ, List.getElem?_cons_succ]; exact this
  have hpb : ∀ (a c : D) ze, cut ⟨true, 38, ze⟩ 2 (a :: c :: q.b.cells) = some (.agg q.b.cells) := fun a c ze => by
    unfold cut
    simp only [cond_true, List.drop_succ_cons, List.drop_zero]
    rw [show (a :: c :: q.b.cells).length = 40 from by simp [hxl], List.take_of_length_le (by omega)]; rfl
  have hfx : D.fzs [D.agg (.int .i64 q.set :: .slice .frozen q.sg.length (sgsC q.sg) :: q.b.cells)] = [D.agg (.int .i64 q.set :: .slice .frozen q.sg.length (sgsC q.sg) :: q.b.cells)] := by
    show [D.agg (_ :: _ :: D.fzs q.b.cells)] = _
    rw [hxf]; rfl
  have hcx : D.cls [D.agg (.int .i64 q.set :: .slice .frozen q.sg.length (sgsC q.sg) :: q.b.cells)] = true := by
    show (D.cls (ppC q.set q.sg.length (sgsC q.sg) q.b.cells) && true) = true
    rw [hcp]; rfl
  have hfb2 : D.fzs [D.agg q.b.cells, D.agg q.b.cells] = [D.agg q.b.cells, D.agg q.b.cells] := by
    show [D.agg (D.fzs q.b.cells), D.agg (D.fzs q.b.cells)] = _
    rw [hxf]
  have hcb2 : D.cls [D.agg q.b.cells, D.agg q.b.cells] = true := by
    show (D.cls q.b.cells && (D.cls q.b.cells && true)) = true
    rw [hxc]; rfl
  have hct : D.cl (.tup [.agg (.int .i64 q.set :: .slice .frozen q.sg.length (sgsC q.sg) :: q.b.cells), .int .i64 0]) = true := by
    show (D.cls (ppC q.set q.sg.length (sgsC q.sg) q.b.cells) && true) = true
    rw [hcp]; rfl
  have hcw : D.cl (.agg (.int .i64 q.set :: .slice .frozen q.sg.length (sgsC q.sg) :: q.b.cells)) = true := hcp
  unfold PapT.cells ppC at hw he hd
  unfold ppC at hcp
  have hsgl : (q.sg.length : Int) ≤ 19 := by omega
  generalize hxx : q.b.cells = x at *
  generalize hzz : sgsC q.sg = z at *
  generalize bs q.out = zo at *
  generalize bs (q.out.take c) = zc at *
  generalize bs q.b.l = zl at *
  have hwa : ∀ (a c : D) ze, cut ⟨true, 40, ze⟩ 0 (a :: c :: x) = some (.agg (a :: c :: x)) := fun a c ze => wh_all hxl a c ze
  have hwl : ∀ a c : D, (D.agg (a :: c :: x)).cells.length = 40 := fun a c => by show (a :: c :: x).length = 40; simp [hxl]
  have hws : ∀ (a c : D) (cs : List D), cs.length = 40 → splice 0 (a :: c :: x) cs = some (a :: c :: x) := fun a c cs hc => wh_lay hxl a c cs hc
  generalize q.sg = lq at *
  generalize hL : lq.length = L at *
  refine pur_intro Try.func3 rfl Try.ntmps3 rfl (by first | rfl | assumption | exact bs_cl _) fun B => ?_
  repeat (first | with_reducible (first | refine W_seq ?_ | refine q_then ?_ | refine q_thenr ?_ | refine q_thenx ?_ | refine W_block ?_ | refine q_block ?_ | refine q_blockr ?_ | refine q_blockx ?_ | refine W_ret ?_ | refine W_skip ?_ | refine W_label ?_ | refine W_exit ?_ | refine W_scope ?_ | refine q_scope ?_ | refine q_scoper ?_ | refine q_scopex ?_) | (with_reducible refine R_nil ?_; try dsimp only [slots0, slots_ud, cells_U, agg_ud, drop0, dropS, takeS, take0, ud_nil, take_ud, take_ud0, drop_ud, drop_ud0, take_udk, D.cells, D.fz, D.fzs, List.take_succ_cons, List.take_zero, List.drop_succ_cons, List.drop_zero, List.cons_append, List.nil_append, List.append_eq, List.length_cons, List.length_nil, Nat.reduceAdd, Nat.reduceMul, Nat.reduceSub, Int.reduceAdd, Int.reduceSub, Int.reduceToNat, Int.reduceNeg, Int.reduceMul]) | refine q_blocky rfl ?_ | refine W_plain rfl ?_ | refine W_drawn mixed rfl ?_ | refine and_chk (by kernel_rfl) ?_ | refine k_load rfl rfl rfl (by exact hwa _ _ _) ?_ | refine k_store rfl rfl rfl rfl (by exact hwl _ _) rfl (by exact hws _ _ _ rfl) ?_ | refine k_move rfl rfl ?_ | refine k_assign rfl rfl ?_ | refine k_load rfl rfl rfl rfl ?_ | refine k_alloc rfl ?_ | refine k_box rfl rfl rfl ?_ | refine k_store rfl rfl rfl rfl rfl rfl rfl ?_ | refine k_extract rfl rfl rfl ?_ | refine k_fieldAddr rfl rfl rfl ?_ | refine k_call rfl hw rfl rfl rfl hcw ?_ | refine k_call rfl he rfl hfx hcx rfl ?_ | refine k_call rfl hd rfl rfl rfl hct ?_ | refine k_append rfl rfl rfl (by first | rfl | exact trivial | (show 0 < _; omega)) (by first | rfl | (simp <;> omega)) (by first | rfl | (simp <;> omega)) rfl (by omega) rfl rfl rfl ?_ | refine k_slice rfl rfl rfl rfl ⟨by omega, by omega, by omega⟩ rfl rfl rfl ?_ | refine k_slice3 rfl rfl rfl rfl rfl ⟨by omega, by omega, by omega⟩ rfl rfl rfl ?_ | refine k_sliceA rfl rfl rfl rfl ⟨by omega, by omega, by omega, by omega⟩ rfl rfl ?_ | refine k_sliceE rfl rfl rfl rfl ⟨by omega, by omega, by omega, by omega⟩ rfl rfl rfl rfl ?_ | refine k_indexAddr rfl rfl rfl ⟨by omega, by omega⟩ ?_ | refine k_indexAddrs rfl rfl rfl ⟨by omega, by omega⟩ rfl ?_ | refine k_loade rfl rfl rfl ?_ | refine k_fieldAddre rfl rfl rfl rfl ?_ | refine k_len rfl rfl ?_ | refine k_pickT rfl rfl rfl ?_ | refine k_pickF rfl rfl rfl ?_ | refine k_addi rfl rfl rfl (by omega) ?_ | refine k_subi rfl rfl rfl (by omega) ?_ | refine k_not rfl rfl rfl ?_ | refine k_lssT rfl rfl rfl (by omega) ?_ | refine k_lssF rfl rfl rfl (by omega) ?_ | refine k_eqlT rfl rfl rfl (by omega) ?_ | refine k_eqlF rfl rfl rfl (by omega) ?_ | refine k_neqT rfl rfl rfl (by omega) ?_ | refine k_neqF rfl rfl rfl (by omega) ?_ | refine k_eqa rfl rfl rfl rfl rfl rfl ?_ | refine k_nea rfl rfl rfl rfl rfl rfl ?_ | refine k_skip rfl ?_ | refine k_skip0 rfl ?_ | refine k_pick rfl rfl rfl rfl rfl ?_ | refine W_yes rfl ?_ | refine W_no rfl ?_)
  repeat (first | with_reducible (first | refine W_seq ?_ | refine q_then ?_ | refine q_thenr ?_ | refine q_thenx ?_ | refine W_block ?_ | refine q_block ?_ | refine q_blockr ?_ | refine q_blockx ?_ | refine W_ret ?_ | refine W_skip ?_ | refine W_label ?_ | refine W_exit ?_ | refine W_scope ?_ | refine q_scope ?_ | refine q_scoper ?_ | refine q_scopex ?_) | (with_reducible refine R_nil ?_; try dsimp only [slots0, slots_ud, cells_U, agg_ud, drop0, dropS, takeS, take0, ud_nil, take_ud, take_ud0, drop_ud, drop_ud0, take_udk, D.cells, D.fz, D.fzs, List.take_succ_cons, List.take_zero, List.drop_succ_cons, List.drop_zero, List.cons_append, List.nil_append, List.append_eq, List.length_cons, List.length_nil, Nat.reduceAdd, Nat.reduceMul, Nat.reduceSub, Int.reduceAdd, Int.reduceSub, Int.reduceToNat, Int.reduceNeg, Int.reduceMul]) | refine q_blocky rfl ?_ | refine W_plain rfl ?_ | refine W_drawn mixed rfl ?_ | refine and_chk (by kernel_rfl) ?_ | refine k_load rfl rfl rfl (by exact hld39 _ _ _) ?_ | refine k_load rfl rfl rfl (by exact hpb _ _ _) ?_ | refine k_sub rfl rfl rfl hsubw ?_ | refine k_slice rfl rfl rfl rfl ⟨by omega, by omega, by omega⟩ (by exact hbo) (by exact hk0) (by exact hsl) ?_ | refine k_move rfl rfl ?_ | refine k_assign rfl rfl ?_ | refine k_load rfl rfl rfl rfl ?_ | refine k_alloc rfl ?_ | refine k_box rfl rfl rfl ?_ | refine k_store rfl rfl rfl rfl rfl rfl rfl ?_ | refine k_extract rfl rfl rfl ?_ | refine k_fieldAddr rfl rfl rfl ?_ | refine k_max rfl rfl rfl hmax ?_ | refine k_call rfl pk rfl rfl rfl rfl ?_ | refine k_call rfl hcut rfl rfl rfl rfl ?_ | refine k_mul rfl rfl rfl h66 ?_ | refine k_call rfl sm rfl hfb2 hcb2 rfl ?_ | refine k_append rfl rfl rfl (by first | rfl | exact trivial | (show 0 < _; omega)) (by first | rfl | (simp <;> omega)) (by first | rfl | (simp <;> omega)) rfl (by omega) rfl rfl rfl ?_ | refine k_slice rfl rfl rfl rfl ⟨by omega, by omega, by omega⟩ rfl rfl rfl ?_ | refine k_slice3 rfl rfl rfl rfl rfl ⟨by omega, by omega, by omega⟩ rfl rfl rfl ?_ | refine k_sliceA rfl rfl rfl rfl ⟨by omega, by omega, by omega, by omega⟩ rfl rfl ?_ | refine k_sliceE rfl rfl rfl rfl ⟨by omega, by omega, by omega, by omega⟩ rfl rfl rfl rfl ?_ | refine k_indexAddr rfl rfl rfl ⟨by omega, by omega⟩ ?_ | refine k_indexAddrs rfl rfl rfl ⟨by omega, by omega⟩ rfl ?_ | refine k_loade rfl rfl rfl ?_ | refine k_fieldAddre rfl rfl rfl rfl ?_ | refine k_len rfl rfl ?_ | refine k_pickT rfl rfl rfl ?_ | refine k_pickF rfl rfl rfl ?_ | refine k_addi rfl rfl rfl (by omega) ?_ | refine k_subi rfl rfl rfl (by omega) ?_ | refine k_not rfl rfl rfl ?_ | refine k_lssT rfl rfl rfl (by omega) ?_ | refine k_lssF rfl rfl rfl (by omega) ?_ | refine k_eqlT rfl rfl rfl (by omega) ?_ | refine k_eqlF rfl rfl rfl (by omega) ?_ | refine k_neqT rfl rfl rfl (by omega) ?_ | refine k_neqF rfl rfl rfl (by omega) ?_ | refine k_eqa rfl rfl rfl rfl rfl rfl ?_ | refine k_nea rfl rfl rfl rfl rfl rfl ?_ | refine k_skip rfl ?_ | refine k_skip0 rfl ?_ | refine k_pick rfl rfl rfl rfl rfl ?_ | refine W_yes rfl ?_ | refine W_no rfl ?_)
  refine W_loop (fun n' ρ m nx => ∃ j : Nat, j ≤ L ∧ n' = L - j ∧ ρ = [(91, .int .i64 (j : Int)), (90, .int .i64 (L : Int)), (16, .int .i64 4), (12, .ptr 2 0), (9, .ptr 1 0), (8, .bool false)] ∧ m = [(2, some (.var 31 (.int .i64 q.set :: .slice .frozen L z :: x))), (1, some (.var 31 (.int .i64 q.set :: .slice .frozen L z :: x)))] ∧ nx = 4)
    ⟨_, _, _, _, (by repeat (first | exact trivial | refine ⟨⟨rfl, rfl⟩, ?_⟩ | refine ⟨⟨rfl, bs_bel _ _⟩, ?_⟩ | refine ⟨⟨rfl, arr_bels _ _ _⟩, ?_⟩)), (by exact ⟨⟨rfl, rfl, bels_cls _ _ hcp⟩, ⟨rfl, rfl, bels_cls _ _ hcp⟩, trivial⟩), 0, Nat.zero_le _, rfl, rfl, rfl, rfl⟩ ?_
  rintro n' ρ m nx ⟨j, hj, rfl, rfl, rfl, rfl⟩
  by_cases hlt : j < L
  · obtain ⟨e, he'⟩ : ∃ e, lq[j]? = some e := ⟨_, List.getElem?_eq_getElem (by omega)⟩
    have hc1 := hcell j e he'
    have hdq := sg_eq e
    have hdn : (!deqs e.cells e.cells) = false := by rw [hdq]; rfl
    obtain ⟨w, r, ss, o⟩ := e
    replace hc1 : ∀ ze, cut ⟨true, 10, ze⟩ 0 (z.drop ((j : Int).toNat * 10)) = some (.agg (sgC w r ss o)) := hc1
    replace hdn : (!deqs (sgC w r ss o) (sgC w r ss o)) = false := hdn
    repeat (first | with_reducible (first | refine W_seq ?_ | refine q_then ?_ | refine q_thenr ?_ | refine q_thenx ?_ | refine W_block ?_ | refine q_block ?_ | refine q_blockr ?_ | refine q_blockx ?_ | refine W_ret ?_ | refine W_skip ?_ | refine W_label ?_ | refine W_exit ?_ | refine W_scope ?_ | refine q_scope ?_ | refine q_scoper ?_ | refine q_scopex ?_) | (with_reducible refine R_nil ?_; try dsimp only [slots0, slots_ud, cells_U, agg_ud, drop0, dropS, takeS, take0, ud_nil, take_ud, take_ud0, drop_ud, drop_ud0, take_udk, D.cells, D.fz, D.fzs, List.take_succ_cons, List.take_zero, List.drop_succ_cons, List.drop_zero, List.cons_append, List.nil_append, List.append_eq, List.length_cons, List.length_nil, Nat.reduceAdd, Nat.reduceMul, Nat.reduceSub, Int.reduceAdd, Int.reduceSub, Int.reduceToNat, Int.reduceNeg, Int.reduceMul]) | refine q_blocky rfl ?_ | refine W_plain rfl ?_ | refine W_drawn mixed rfl ?_ | refine and_chk (by kernel_rfl) ?_ | refine k_indexAddrs rfl rfl rfl ⟨by omega, by omega⟩ hzl ?_ | refine k_loade rfl rfl (by exact hc1 _) ?_ | refine k_move rfl rfl ?_ | refine k_assign rfl rfl ?_ | refine k_load rfl rfl rfl rfl ?_ | refine k_alloc rfl ?_ | refine k_box rfl rfl rfl ?_ | refine k_store rfl rfl rfl rfl rfl rfl rfl ?_ | refine k_extract rfl rfl rfl ?_ | refine k_fieldAddr rfl rfl rfl ?_ | refine k_nea rfl rfl rfl rfl rfl hdn ?_ | refine k_append rfl rfl rfl (by first | rfl | exact trivial | (show 0 < _; omega)) (by first | rfl | (simp <;> omega)) (by first | rfl | (simp <;> omega)) rfl (by omega) rfl rfl rfl ?_ | refine k_slice rfl rfl rfl rfl ⟨by omega, by omega, by omega⟩ rfl rfl rfl ?_ | refine k_slice3 rfl rfl rfl rfl rfl ⟨by omega, by omega, by omega⟩ rfl rfl rfl ?_ | refine k_sliceA rfl rfl rfl rfl ⟨by omega, by omega, by omega, by omega⟩ rfl rfl ?_ | refine k_sliceE rfl rfl rfl rfl ⟨by omega, by omega, by omega, by omega⟩ rfl rfl rfl rfl ?_ | refine k_indexAddr rfl rfl rfl ⟨by omega, by omega⟩ ?_ | refine k_indexAddrs rfl rfl rfl ⟨by omega, by omega⟩ rfl ?_ | refine k_loade rfl rfl rfl ?_ | refine k_fieldAddre rfl rfl rfl rfl ?_ | refine k_len rfl rfl ?_ | refine k_pickT rfl rfl rfl ?_ | refine k_pickF rfl rfl rfl ?_ | refine k_addi rfl rfl rfl (by omega) ?_ | refine k_subi rfl rfl rfl (by omega) ?_ | refine k_not rfl rfl rfl ?_ | refine k_lssT rfl rfl rfl (by omega) ?_ | refine k_lssF rfl rfl rfl (by omega) ?_ | refine k_eqlT rfl rfl rfl (by omega) ?_ | refine k_eqlF rfl rfl rfl (by omega) ?_ | refine k_neqT rfl rfl rfl (by omega) ?_ | refine k_neqF rfl rfl rfl (by omega) ?_ | refine k_eqa rfl rfl rfl rfl rfl rfl ?_ | refine k_nea rfl rfl rfl rfl rfl rfl ?_ | refine k_skip rfl ?_ | refine k_skip0 rfl ?_ | refine k_pick rfl rfl rfl rfl rfl ?_ | refine W_yes rfl ?_ | refine W_no rfl ?_)
    exact ⟨L - (j + 1), _, _, _, (by repeat (first | exact trivial | refine ⟨⟨rfl, rfl⟩, ?_⟩ | refine ⟨⟨rfl, bs_bel _ _⟩, ?_⟩ | refine ⟨⟨rfl, arr_bels _ _ _⟩, ?_⟩)), (by exact ⟨⟨rfl, rfl, bels_cls _ _ hcp⟩, ⟨rfl, rfl, bels_cls _ _ hcp⟩, trivial⟩), by omega, j + 1, by omega, rfl, rfl, rfl, rfl⟩
  · have ej : j = L := by omega
    subst ej
    repeat (first | with_reducible (first | refine W_seq ?_ | refine q_then ?_ | refine q_thenr ?_ | refine q_thenx ?_ | refine W_block ?_ | refine q_block ?_ | refine q_blockr ?_ | refine q_blockx ?_ | refine W_ret ?_ | refine W_skip ?_ | refine W_label ?_ | refine W_exit ?_ | refine W_scope ?_ | refine q_scope ?_ | refine q_scoper ?_ | refine q_scopex ?_) | (with_reducible refine R_nil ?_; try dsimp only [slots0, slots_ud, cells_U, agg_ud, drop0, dropS, takeS, take0, ud_nil, take_ud, take_ud0, drop_ud, drop_ud0, take_udk, D.cells, D.fz, D.fzs, List.take_succ_cons, List.take_zero, List.drop_succ_cons, List.drop_zero, List.cons_append, List.nil_append, List.append_eq, List.length_cons, List.length_nil, Nat.reduceAdd, Nat.reduceMul, Nat.reduceSub, Int.reduceAdd, Int.reduceSub, Int.reduceToNat, Int.reduceNeg, Int.reduceMul]) | refine q_blocky rfl ?_ | refine W_plain rfl ?_ | refine W_drawn mixed rfl ?_ | refine and_chk (by kernel_rfl) ?_ | refine k_move rfl rfl ?_ | refine k_assign rfl rfl ?_ | refine k_load rfl rfl rfl rfl ?_ | refine k_alloc rfl ?_ | refine k_box rfl rfl rfl ?_ | refine k_store rfl rfl rfl rfl rfl rfl rfl ?_ | refine k_extract rfl rfl rfl ?_ | refine k_fieldAddr rfl rfl rfl ?_ | refine k_append rfl rfl rfl (by first | rfl | exact trivial | (show 0 < _; omega)) (by first | rfl | (simp <;> omega)) (by first | rfl | (simp <;> omega)) rfl (by omega) rfl rfl rfl ?_ | refine k_slice rfl rfl rfl rfl ⟨by omega, by omega, by omega⟩ rfl rfl rfl ?_ | refine k_slice3 rfl rfl rfl rfl rfl ⟨by omega, by omega, by omega⟩ rfl rfl rfl ?_ | refine k_sliceA rfl rfl rfl rfl ⟨by omega, by omega, by omega, by omega⟩ rfl rfl ?_ | refine k_sliceE rfl rfl rfl rfl ⟨by omega, by omega, by omega, by omega⟩ rfl rfl rfl rfl ?_ | refine k_indexAddr rfl rfl rfl ⟨by omega, by omega⟩ ?_ | refine k_indexAddrs rfl rfl rfl ⟨by omega, by omega⟩ rfl ?_ | refine k_loade rfl rfl rfl ?_ | refine k_fieldAddre rfl rfl rfl rfl ?_ | refine k_len rfl rfl ?_ | refine k_pickT rfl rfl rfl ?_ | refine k_pickF rfl rfl rfl ?_ | refine k_addi rfl rfl rfl (by omega) ?_ | refine k_subi rfl rfl rfl (by omega) ?_ | refine k_not rfl rfl rfl ?_ | refine k_lssT rfl rfl rfl (by omega) ?_ | refine k_lssF rfl rfl rfl (by omega) ?_ | refine k_eqlT rfl rfl rfl (by omega) ?_ | refine k_eqlF rfl rfl rfl (by omega) ?_ | refine k_neqT rfl rfl rfl (by omega) ?_ | refine k_neqF rfl rfl rfl (by omega) ?_ | refine k_eqa rfl rfl rfl rfl rfl rfl ?_ | refine k_nea rfl rfl rfl rfl rfl rfl ?_ | refine k_skip rfl ?_ | refine k_skip0 rfl ?_ | refine k_pick rfl rfl rfl rfl rfl ?_ | refine W_yes rfl ?_ | refine W_no rfl ?_)
    (first | with_reducible refine q_endr ?_ | with_reducible refine q_endn ?_); refine rets1 Try.results3 (by first | exact RetV.tmp _ _ rfl | exact RetV.cell _ _ _ _ _ _ _ _ inferInstance rfl rfl rfl) ?_
    rfl

theorem walk {w : World} {v : Value} (l : List RawT) (hok : ∀ x ∈ l, x.ok) (hr : Rep (bare (allhw w)) w (.slice .frozen l.length (rws l)) v) (set k a b at_ : Int) (s : ByteArray) : Calls Try.prog 3 #[v, .int .i64 set, .agg #[.int .i64 k, .int .i64 a, .int .i64 b, .string s], .int .i64 at_] w fun e w' => e = .returned (.bool true) ∧ New w w' :=
  calls_of_purS (pur l set k a b at_ s) (.cons hr (.cons (.int _ _) (.cons (rep_raw _ _ _ _ _ _) (.cons (.int _ _) .nil))))

set_option maxRecDepth 100000 in
theorem lifted (os : Os) (started : os.Started) (H : Type) (enc : TypeId × Value → H) :
    ReturnsInHanded {} Try.checked os 3 .any (Rows.paperBackSpec.pre6 enc Try.prog Try.f3 Rows.paperBackRow.domain false) (Rows.paperBackSpec.post enc Try.prog Try.f3 false true false false) := by
  refine returnsInHanded_of_change (C := Try.checked) own started (by kernel_rfl) Try.func3
    (ChangeSpec.witness6 (enc := enc) (C := Try.checked) false ⟨#[], #[.slice none 0 0, .int .i64 0, .agg #[.int .i64 0, .int .i64 0, .int .i64 0, .string ⟨#[]⟩], .int .i64 0], []⟩ 8 (by kernel_rfl) (by kernel_rfl) (by kernel_rfl) (by kernel_rfl)) ?_
  intro W base args ds gs before hval0 hW hcnd _
  have hval : ∀ (j : Nat) t v, Try.f3.params[j]? = some t → args[j]? = some v → Value.okWide Try.prog W .any base t v := hval0
  have hW' := hW
  obtain ⟨p, q, hA0, hV, rfl, hfz, hnd⟩ := hW
  have hA : DataW.TrodAll enc Try.prog W 0 (fun _ => true) true Try.f3.params.toList args.toList ds p := hA0
  rw [Try.params3] at hA hval
  obtain ⟨v0, vs0, d0, ds0, p0, q0, hargs, rfl, rfl, h0, r0⟩ := trodAll_cons hA
  obtain ⟨v1, vs1, d1, ds1, p1, q1, rfl, rfl, rfl, h1, r1⟩ := trodAll_cons r0
  obtain ⟨v2, vs2, d2, ds2, p2, q2, rfl, rfl, rfl, h2, r2⟩ := trodAll_cons r1
  obtain ⟨v3, vs3, d3, ds3, p3, q3, rfl, rfl, rfl, h3, r3⟩ := trodAll_cons r2
  obtain ⟨rfl, rfl, rfl⟩ := trodAll_nil r3
  obtain rfl : args = #[v0, v1, v2, v3] := by cases args; simp_all
  obtain ⟨rfl, rfl⟩ := trodVars_none hV
  obtain ⟨l1, wl1, hl1⟩ := open_raws (hval 0 22 v0 rfl rfl) h0
  obtain ⟨n2, rfl, rfl, rfl, wn2⟩ := open_int Try.underlying3 (hval 1 3 v1 rfl rfl) h1
  obtain ⟨k3, a3, b3, s3, rfl, wk3, wa3, wb3, ws3⟩ := open_raw (hval 2 24 v2 rfl rfl) h2
  obtain ⟨n4, rfl, rfl, rfl, wn4⟩ := open_int Try.underlying3 (hval 3 3 v3 rfl rfl) h3
  refine (walk l1 wl1 hl1 n2 k3 a3 b3 n4 s3).mono fun e W' ⟨he, hN⟩ => ?_
  subst he
  exact ⟨_, rfl, law_post laidOut (by kernel_rfl) (by kernel_rfl) Try.underlying4 rfl hW' rfl hN⟩

theorem holds : Rows.PaperBackSaid :=
  OpenClaim.holds_of_wide 3 Try.f3 rfl rfl rfl rfl rfl rfl rfl ⟨rfl, rfl, rfl, rfl, rfl⟩ rfl rfl rfl rfl rfl (by kernel_rfl) Try.func3 (by kernel_rfl)
    (of_decide_eq_true (by kernel_rfl)) (by unfold Func.isWrapper; first | (rw [if_pos (by decide +kernel)]; kernel_rfl) | (rw [if_neg (by decide +kernel)]; exact ⟨rfl, rfl⟩))
    (fun os started H enc _ => lifted os started H enc)

#print axioms holds
end Go.Proofs.Ytbpaimfnfigjpaa.paperBack
