/- load: Decode, by kinds. Conditions: as said. -/
import Derived.Test.YtbpaimfnfigjpaaLoad14
namespace Go.Proofs.Ytbpaimfnfigjpaa
open Go.RowKit Go.Lib Go.IntWalk
set_option linter.unusedVariables false
set_option maxRecDepth 100000
set_option maxHeartbeats 4000000 in
theorem Decode_nil : Pur Try.prog 14 [.slice .frozen 0 []] (.tup [.agg ld0, .int .i64 4]) := by
  have hz : ∀ ze, cut ⟨true, 80, ze⟩ 0 ld0 = some (.agg ld0) := ldC_all z32_len z32_len _ rfl
  have hfz := ld0_fz
  have hbz : dfill ldPl ld0 [] = some ld0 := rfl
  have hlen : ld0.length = 80 := ldC_len z32_len z32_len _ rfl
  have hlay : ∀ cs : List D, cs.length = 80 → splice 0 ld0 cs = some ld0 := ldC_lay z32_len z32_len _ rfl
  refine pur_intro Try.func14 rfl Try.ntmps14 rfl (by first | rfl | assumption | exact bs_cl _) fun B => ?_
  repeat (first | with_reducible (first | refine W_seq ?_ | refine q_then ?_ | refine q_thenr ?_ | refine q_thenx ?_ | refine W_block ?_ | refine q_block ?_ | refine q_blockr ?_ | refine q_blockx ?_ | refine W_ret ?_ | refine W_skip ?_ | refine W_label ?_ | refine W_exit ?_ | refine W_scope ?_ | refine q_scope ?_ | refine q_scoper ?_ | refine q_scopex ?_) | (with_reducible refine R_nil ?_; try dsimp only [slots0, slots_ud, cells_U, agg_ud, drop0, dropS, takeS, take0, ud_nil, take_ud, take_ud0, drop_ud, drop_ud0, take_udk, D.cells, D.fz, D.fzs, List.take_succ_cons, List.take_zero, List.drop_succ_cons, List.drop_zero, List.cons_append, List.nil_append, List.append_eq, List.length_cons, List.length_nil, Nat.reduceAdd, Nat.reduceMul, Nat.reduceSub, Int.reduceAdd, Int.reduceSub, Int.reduceToNat, Int.reduceNeg, Int.reduceMul]) | refine q_blocky rfl ?_ | refine W_plain rfl ?_ | refine W_drawn mixed rfl ?_ | refine and_chk (by kernel_rfl) ?_ | refine k_build rfl rfl hbz ?_ | refine k_store rfl rfl rfl rfl (by exact hlen) rfl (by exact hlay _ rfl) ?_ | refine k_move rfl rfl ?_ | refine k_assign rfl rfl ?_ | refine k_load rfl rfl rfl rfl ?_ | refine k_alloc rfl ?_ | refine k_store rfl rfl rfl rfl rfl rfl rfl ?_ | refine k_extract rfl rfl rfl ?_ | refine k_fieldAddr rfl rfl rfl ?_ | refine k_build rfl rfl rfl ?_ | (refine k_append rfl rfl rfl ?_ ?_ ?_ rfl ?_ rfl rfl rfl ?_; (first | rfl | exact trivial | (show 0 < _; omega)); (first | rfl | (simp <;> omega)); (first | rfl | (simp <;> omega)); (omega)) | (refine k_slice rfl rfl rfl rfl ⟨?_, ?_, ?_⟩ rfl rfl rfl ?_; (omega); (omega); (omega)) | (refine k_slice3 rfl rfl rfl rfl rfl ⟨?_, ?_, ?_⟩ rfl rfl rfl ?_; (omega); (omega); (omega)) | (refine k_sliceA rfl rfl rfl rfl ⟨?_, ?_, ?_, ?_⟩ rfl rfl ?_; (omega); (omega); (omega); (omega)) | (refine k_sliceE rfl rfl rfl rfl ⟨?_, ?_, ?_, ?_⟩ rfl rfl rfl rfl ?_; (omega); (omega); (omega); (omega)) | (refine k_indexAddr rfl rfl rfl ⟨?_, ?_⟩ ?_; (omega); (omega)) | (refine k_indexAddrs rfl rfl rfl ⟨?_, ?_⟩ rfl ?_; (omega); (omega)) | refine k_loade rfl rfl rfl ?_ | refine k_fieldAddre rfl rfl rfl rfl ?_ | refine k_len rfl rfl ?_ | refine k_nilCheck rfl rfl rfl ?_ | refine k_not rfl rfl rfl ?_ | (refine k_eqlT rfl rfl rfl ?_ ?_; (omega)) | (refine k_eqlF rfl rfl rfl ?_ ?_; (omega)) | (refine k_neqT rfl rfl rfl ?_ ?_; (omega)) | (refine k_neqF rfl rfl rfl ?_ ?_; (omega)) | refine k_eqa rfl rfl rfl rfl rfl rfl ?_ | refine k_nea rfl rfl rfl rfl rfl rfl ?_ | refine k_makeFunc rfl rfl rfl ?_ | refine W_yes rfl ?_ | refine W_no rfl ?_)
  (first | with_reducible refine q_endr ?_ | with_reducible refine q_endn ?_); refine rets2 Try.results14 (RetV.cell _ _ _ _ _ _ _ _ inferInstance rfl rfl (by exact hz _)) (RetV.tmp _ _ rfl) ?_ rfl
  show D.agg (D.fzs ld0) = _
  rw [hfz]
set_option maxHeartbeats 4000000 in
theorem Decode_kind (c : UInt8) (r : List UInt8) (L n : Nat) (hn : r.length = n) (hL : n + 1 = L) (hc : c ≠ 1 ∧ c ≠ 2 ∧ c ≠ 3 ∧ c ≠ 4) : Pur Try.prog 14 [.slice .frozen L (bs (c :: r))] (.tup [.agg ld0, .int .i64 2]) := by
  have hb0 : ∀ ze, cut ⟨false, 1, ze⟩ 0 ((bs (c :: r)).drop ((0 : Int).toNat * 1)) = some (.int .u8 (c.toNat : Int)) := bs_nth (c :: r) [] r c rfl _ rfl
  have p1 : ((bs (c :: r)).drop ((1 : Int).toNat * 1)).take (n * 1) = bs r := bs_mid (c :: r) [c] r [] (by simp) _ _ rfl (by omega)
  have hz1 : L * 1 = (bs (c :: r)).length := by rw [bs_len, List.length_cons]; omega
  have q0 := c.toNat_lt
  have c0 : IntKind.i64.wrap (c.toNat : Int) = (c.toNat : Int) := i64_in _ (by omega)
  have hq : ((L : Int) - 1).toNat = n := by omega
  have hz : ∀ ze, cut ⟨true, 80, ze⟩ 0 ld0 = some (.agg ld0) := ldC_all z32_len z32_len _ rfl
  have hfz := ld0_fz
  have hbz : dfill ldPl ld0 [] = some ld0 := rfl
  have hlen : ld0.length = 80 := ldC_len z32_len z32_len _ rfl
  have hlay : ∀ cs : List D, cs.length = 80 → splice 0 ld0 cs = some ld0 := ldC_lay z32_len z32_len _ rfl
  have hk := kindOf_no (c.toNat : Int) ⟨fun e => hc.1 (UInt8.toNat_inj.1 (by show c.toNat = 1; omega)), fun e => hc.2.1 (UInt8.toNat_inj.1 (by show c.toNat = 2; omega)), fun e => hc.2.2.1 (UInt8.toNat_inj.1 (by show c.toNat = 3; omega)), fun e => hc.2.2.2 (UInt8.toNat_inj.1 (by show c.toNat = 4; omega))⟩
  generalize c.toNat = C at *
  generalize bs (c :: r) = Z at *
  refine pur_intro Try.func14 rfl Try.ntmps14 rfl (by first | rfl | assumption | exact bs_cl _) fun B => ?_
  repeat (first | with_reducible (first | refine W_seq ?_ | refine q_then ?_ | refine q_thenr ?_ | refine q_thenx ?_ | refine W_block ?_ | refine q_block ?_ | refine q_blockr ?_ | refine q_blockx ?_ | refine W_ret ?_ | refine W_skip ?_ | refine W_label ?_ | refine W_exit ?_ | refine W_scope ?_ | refine q_scope ?_ | refine q_scoper ?_ | refine q_scopex ?_) | (with_reducible refine R_nil ?_; try dsimp only [slots0, slots_ud, cells_U, agg_ud, drop0, dropS, takeS, take0, ud_nil, take_ud, take_ud0, drop_ud, drop_ud0, take_udk, D.cells, D.fz, D.fzs, List.take_succ_cons, List.take_zero, List.drop_succ_cons, List.drop_zero, List.cons_append, List.nil_append, List.append_eq, List.length_cons, List.length_nil, Nat.reduceAdd, Nat.reduceMul, Nat.reduceSub, Int.reduceAdd, Int.reduceSub, Int.reduceToNat, Int.reduceNeg, Int.reduceMul]) | refine q_blocky rfl ?_ | refine W_plain rfl ?_ | refine W_drawn mixed rfl ?_ | refine and_chk (by kernel_rfl) ?_ | (refine k_indexAddrs rfl rfl rfl ⟨?_, ?_⟩ hz1 ?_; (omega); (omega)) | refine k_loade rfl rfl (hb0 _) ?_ | refine k_build rfl rfl hbz ?_ | refine k_store rfl rfl rfl rfl (by exact hlen) rfl (by exact hlay _ rfl) ?_ | refine k_move rfl rfl ?_ | refine k_assign rfl rfl ?_ | refine k_load rfl rfl rfl rfl ?_ | refine k_alloc rfl ?_ | refine k_store rfl rfl rfl rfl rfl rfl rfl ?_ | refine k_extract rfl rfl rfl ?_ | refine k_fieldAddr rfl rfl rfl ?_ | refine k_build rfl rfl rfl ?_ | refine k_conv rfl rfl c0 ?_ | refine k_call rfl hk rfl rfl rfl rfl ?_ | (refine k_append rfl rfl rfl ?_ ?_ ?_ rfl ?_ rfl rfl rfl ?_; (first | rfl | exact trivial | (show 0 < _; omega)); (first | rfl | (simp <;> omega)); (first | rfl | (simp <;> omega)); (omega)) | (refine k_slice rfl rfl rfl rfl ⟨?_, ?_, ?_⟩ rfl rfl rfl ?_; (omega); (omega); (omega)) | (refine k_slice3 rfl rfl rfl rfl rfl ⟨?_, ?_, ?_⟩ rfl rfl rfl ?_; (omega); (omega); (omega)) | (refine k_sliceA rfl rfl rfl rfl ⟨?_, ?_, ?_, ?_⟩ rfl rfl ?_; (omega); (omega); (omega); (omega)) | (refine k_sliceE rfl rfl rfl rfl ⟨?_, ?_, ?_, ?_⟩ rfl rfl rfl rfl ?_; (omega); (omega); (omega); (omega)) | (refine k_indexAddr rfl rfl rfl ⟨?_, ?_⟩ ?_; (omega); (omega)) | (refine k_indexAddrs rfl rfl rfl ⟨?_, ?_⟩ rfl ?_; (omega); (omega)) | refine k_loade rfl rfl rfl ?_ | refine k_fieldAddre rfl rfl rfl rfl ?_ | refine k_len rfl rfl ?_ | refine k_nilCheck rfl rfl rfl ?_ | refine k_not rfl rfl rfl ?_ | (refine k_eqlT rfl rfl rfl ?_ ?_; (omega)) | (refine k_eqlF rfl rfl rfl ?_ ?_; (omega)) | (refine k_neqT rfl rfl rfl ?_ ?_; (omega)) | (refine k_neqF rfl rfl rfl ?_ ?_; (omega)) | refine k_eqa rfl rfl rfl rfl rfl rfl ?_ | refine k_nea rfl rfl rfl rfl rfl rfl ?_ | refine k_makeFunc rfl rfl rfl ?_ | refine W_yes rfl ?_ | refine W_no rfl ?_)
  (first | with_reducible refine q_endr ?_ | with_reducible refine q_endn ?_); refine rets2 Try.results14 (RetV.cell _ _ _ _ _ _ _ _ inferInstance rfl rfl (by exact hz _)) (RetV.tmp _ _ rfl) ?_ rfl
  show D.agg (D.fzs ld0) = _
  rw [hfz]
section
variable {T : TypeId} {v : Value} {dr : D} {F : FuncId} [HasFn Try.prog F] (c : UInt8) (r : List UInt8) (L n : Nat) (hn : r.length = n) (hL : n + 1 = L) (hL9 : L ≤ 140737488355328) (hk : Pur Try.prog 33 [.int .i64 (c.toNat : Int)] (.tup [.raw (.iface T v), .bool true]))
  (Y : List D) (hYl : Y.length = 80) (hYy : ∀ cs : List D, cs.length = 80 → splice 0 Y cs = some Y) (hYc : D.cls Y = true) (e : Int) (hg : Pur Try.prog F [dr, .slice .frozen n (bs r)] (.tup [.agg Y, .int .i64 e]))
  (hm : ∀ w, (Go.method (Try.prog.types.size + Made.depth) T v "bascule/load.get").run Try.prog w = .ok (F, v) w) (hnil : ∀ w, (Go.nilAhead (Try.prog.types.size + Made.depth) T v "bascule/load.get").run Try.prog w = .ok (some false) w)
  (hrv : ∀ G w, Rep G w dr v) (hdr : dr.fz = dr) (hcd : dr.cl = true)
include hn hL hL9 hk hYl hYy hYc hg hm hnil hrv hdr hcd
set_option maxHeartbeats 8000000 in
theorem Decode_err (he : e ≠ 0) : Pur Try.prog 14 [.slice .frozen L (bs (c :: r))] (.tup [.agg ld0, .int .i64 e]) := by
  have c1 : D.cls [dr, .slice .frozen n (bs r)] = true := by show (dr.cl && true) = true; rw [hcd]; rfl
  have hgc : (D.tup [.agg Y, .int .i64 e]).cl = true := by show (D.cls Y && true) = true; rw [hYc]; rfl
  have hb0 : ∀ ze, cut ⟨false, 1, ze⟩ 0 ((bs (c :: r)).drop ((0 : Int).toNat * 1)) = some (.int .u8 (c.toNat : Int)) := bs_nth (c :: r) [] r c rfl _ rfl
  have p1 : ((bs (c :: r)).drop ((1 : Int).toNat * 1)).take (n * 1) = bs r := bs_mid (c :: r) [c] r [] (by simp) _ _ rfl (by omega)
  have hz1 : L * 1 = (bs (c :: r)).length := by rw [bs_len, List.length_cons]; omega
  have q0 := c.toNat_lt
  have c0 : IntKind.i64.wrap (c.toNat : Int) = (c.toNat : Int) := i64_in _ (by omega)
  have hq : ((L : Int) - 1).toNat = n := by omega
  have hz : ∀ ze, cut ⟨true, 80, ze⟩ 0 ld0 = some (.agg ld0) := ldC_all z32_len z32_len _ rfl
  have hfz := ld0_fz
  have hbz : dfill ldPl ld0 [] = some ld0 := rfl
  have hlen : ld0.length = 80 := ldC_len z32_len z32_len _ rfl
  have hlay : ∀ cs : List D, cs.length = 80 → splice 0 ld0 cs = some ld0 := ldC_lay z32_len z32_len _ rfl
  generalize c.toNat = C at *
  generalize bs (c :: r) = Z at *
  refine pur_intro Try.func14 rfl Try.ntmps14 rfl (by first | rfl | assumption | exact bs_cl _) fun B => ?_
  repeat (first | with_reducible (first | refine W_seq ?_ | refine q_then ?_ | refine q_thenr ?_ | refine q_thenx ?_ | refine W_block ?_ | refine q_block ?_ | refine q_blockr ?_ | refine q_blockx ?_ | refine W_ret ?_ | refine W_skip ?_ | refine W_label ?_ | refine W_exit ?_ | refine W_scope ?_ | refine q_scope ?_ | refine q_scoper ?_ | refine q_scopex ?_) | (with_reducible refine R_nil ?_; try dsimp only [slots0, slots_ud, cells_U, agg_ud, drop0, dropS, takeS, take0, ud_nil, take_ud, take_ud0, drop_ud, drop_ud0, take_udk, D.cells, D.fz, D.fzs, List.take_succ_cons, List.take_zero, List.drop_succ_cons, List.drop_zero, List.cons_append, List.nil_append, List.append_eq, List.length_cons, List.length_nil, Nat.reduceAdd, Nat.reduceMul, Nat.reduceSub, Int.reduceAdd, Int.reduceSub, Int.reduceToNat, Int.reduceNeg, Int.reduceMul]) | refine q_blocky rfl ?_ | refine W_plain rfl ?_ | refine W_drawn mixed rfl ?_ | refine and_chk (by kernel_rfl) ?_ | (refine k_slice (nn := n) rfl rfl rfl rfl ⟨?_, ?_, ?_⟩ hz1 hq p1 ?_; (omega); (omega); (omega)) | (refine k_indexAddrs rfl rfl rfl ⟨?_, ?_⟩ hz1 ?_; (omega); (omega)) | refine k_loade rfl rfl (hb0 _) ?_ | refine k_build rfl rfl hbz ?_ | refine k_store rfl rfl rfl rfl (by exact hlen) rfl (by exact hlay _ rfl) ?_ | refine k_store rfl rfl rfl rfl (by exact hYl) rfl (by exact hYy _ rfl) ?_ | refine k_move rfl rfl ?_ | refine k_assign rfl rfl ?_ | refine k_load rfl rfl rfl rfl ?_ | refine k_alloc rfl ?_ | refine k_store rfl rfl rfl rfl rfl rfl rfl ?_ | refine k_extract rfl rfl rfl ?_ | refine k_fieldAddr rfl rfl rfl ?_ | refine k_build rfl rfl rfl ?_ | refine k_conv rfl rfl c0 ?_ | refine k_call rfl hk rfl rfl rfl rfl ?_ | refine k_makeMeth rfl rfl ?_ | refine k_nilMeth rfl hnil rfl ?_ | refine k_invoke rfl hg hm hrv hdr rfl rfl rfl c1 hgc ?_ | (refine k_append rfl rfl rfl ?_ ?_ ?_ rfl ?_ rfl rfl rfl ?_; (first | rfl | exact trivial | (show 0 < _; omega)); (first | rfl | (simp <;> omega)); (first | rfl | (simp <;> omega)); (omega)) | (refine k_slice rfl rfl rfl rfl ⟨?_, ?_, ?_⟩ rfl rfl rfl ?_; (omega); (omega); (omega)) | (refine k_slice3 rfl rfl rfl rfl rfl ⟨?_, ?_, ?_⟩ rfl rfl rfl ?_; (omega); (omega); (omega)) | (refine k_sliceA rfl rfl rfl rfl ⟨?_, ?_, ?_, ?_⟩ rfl rfl ?_; (omega); (omega); (omega); (omega)) | (refine k_sliceE rfl rfl rfl rfl ⟨?_, ?_, ?_, ?_⟩ rfl rfl rfl rfl ?_; (omega); (omega); (omega); (omega)) | (refine k_indexAddr rfl rfl rfl ⟨?_, ?_⟩ ?_; (omega); (omega)) | (refine k_indexAddrs rfl rfl rfl ⟨?_, ?_⟩ rfl ?_; (omega); (omega)) | refine k_loade rfl rfl rfl ?_ | refine k_fieldAddre rfl rfl rfl rfl ?_ | refine k_len rfl rfl ?_ | refine k_nilCheck rfl rfl rfl ?_ | refine k_not rfl rfl rfl ?_ | (refine k_eqlT rfl rfl rfl ?_ ?_; (omega)) | (refine k_eqlF rfl rfl rfl ?_ ?_; (omega)) | (refine k_neqT rfl rfl rfl ?_ ?_; (omega)) | (refine k_neqF rfl rfl rfl ?_ ?_; (omega)) | refine k_eqa rfl rfl rfl rfl rfl rfl ?_ | refine k_nea rfl rfl rfl rfl rfl rfl ?_ | refine k_makeFunc rfl rfl rfl ?_ | refine W_yes rfl ?_ | refine W_no rfl ?_)
  (first | with_reducible refine q_endr ?_ | with_reducible refine q_endn ?_); refine rets2 Try.results14 (RetV.cell _ _ _ _ _ _ _ _ inferInstance rfl rfl (by exact hz _)) (RetV.tmp _ _ rfl) ?_ rfl
  show D.agg (D.fzs ld0) = _
  rw [hfz]
variable (X : List D) (hYX : splice 0 [.int .i64 (c.toNat : Int)] Y = some X) (hXa : ∀ ze, cut ⟨true, 80, ze⟩ 0 X = some (.agg X)) (hXz : D.fzs X = X) (hXc : D.cls X = true) (hXl : X.length = 80) (hXy : ∀ cs : List D, cs.length = 80 → splice 0 X cs = some X) (f : Int) (hC : Pur Try.prog 15 [.agg X] (.int .i64 f)) (he : e = 0)
include hYX hXa hXz hXc hXl hXy hC he
set_option maxHeartbeats 8000000 in
theorem Decode_ok (hf : f = 0) : Pur Try.prog 14 [.slice .frozen L (bs (c :: r))] (.tup [.agg X, .int .i64 0]) := by
  subst he hf
  have c1 : D.cls [dr, .slice .frozen n (bs r)] = true := by show (dr.cl && true) = true; rw [hcd]; rfl
  have hgc : (D.tup [.agg Y, .int .i64 0]).cl = true := by show (D.cls Y && true) = true; rw [hYc]; rfl
  have hrc : (D.tup [.agg X, .int .i64 0]).cl = true := by show (D.cls X && true) = true; rw [hXc]; rfl
  have c2 : D.cls [.agg X] = true := by show (D.cls X && true) = true; rw [hXc]; rfl
  have z2 : D.fzs [.agg X] = [.agg X] := by show [D.agg (D.fzs X)] = _; rw [hXz]
  have hb0 : ∀ ze, cut ⟨false, 1, ze⟩ 0 ((bs (c :: r)).drop ((0 : Int).toNat * 1)) = some (.int .u8 (c.toNat : Int)) := bs_nth (c :: r) [] r c rfl _ rfl
  have p1 : ((bs (c :: r)).drop ((1 : Int).toNat * 1)).take (n * 1) = bs r := bs_mid (c :: r) [c] r [] (by simp) _ _ rfl (by omega)
  have hz1 : L * 1 = (bs (c :: r)).length := by rw [bs_len, List.length_cons]; omega
  have q0 := c.toNat_lt
  have c0 : IntKind.i64.wrap (c.toNat : Int) = (c.toNat : Int) := i64_in _ (by omega)
  have hq : ((L : Int) - 1).toNat = n := by omega
  have hz : ∀ ze, cut ⟨true, 80, ze⟩ 0 ld0 = some (.agg ld0) := ldC_all z32_len z32_len _ rfl
  have hfz := ld0_fz
  have hbz : dfill ldPl ld0 [] = some ld0 := rfl
  have hlen : ld0.length = 80 := ldC_len z32_len z32_len _ rfl
  have hlay : ∀ cs : List D, cs.length = 80 → splice 0 ld0 cs = some ld0 := ldC_lay z32_len z32_len _ rfl
  generalize c.toNat = C at *
  generalize bs (c :: r) = Z at *
  refine pur_intro Try.func14 rfl Try.ntmps14 rfl hrc fun B => ?_
  repeat (first | with_reducible (first | refine W_seq ?_ | refine q_then ?_ | refine q_thenr ?_ | refine q_thenx ?_ | refine W_block ?_ | refine q_block ?_ | refine q_blockr ?_ | refine q_blockx ?_ | refine W_ret ?_ | refine W_skip ?_ | refine W_label ?_ | refine W_exit ?_ | refine W_scope ?_ | refine q_scope ?_ | refine q_scoper ?_ | refine q_scopex ?_) | (with_reducible refine R_nil ?_; try dsimp only [slots0, slots_ud, cells_U, agg_ud, drop0, dropS, takeS, take0, ud_nil, take_ud, take_ud0, drop_ud, drop_ud0, take_udk, D.cells, D.fz, D.fzs, List.take_succ_cons, List.take_zero, List.drop_succ_cons, List.drop_zero, List.cons_append, List.nil_append, List.append_eq, List.length_cons, List.length_nil, Nat.reduceAdd, Nat.reduceMul, Nat.reduceSub, Int.reduceAdd, Int.reduceSub, Int.reduceToNat, Int.reduceNeg, Int.reduceMul]) | refine q_blocky rfl ?_ | refine W_plain rfl ?_ | refine W_drawn mixed rfl ?_ | refine and_chk (by kernel_rfl) ?_ | (refine k_slice (nn := n) rfl rfl rfl rfl ⟨?_, ?_, ?_⟩ hz1 hq p1 ?_; (omega); (omega); (omega)) | (refine k_indexAddrs rfl rfl rfl ⟨?_, ?_⟩ hz1 ?_; (omega); (omega)) | refine k_loade rfl rfl (hb0 _) ?_ | refine k_build rfl rfl hbz ?_ | refine k_store rfl rfl rfl rfl (by exact hlen) rfl (by exact hlay _ rfl) ?_ | refine k_store rfl rfl rfl rfl (by exact hYl) rfl (by exact hYy _ rfl) ?_ | refine k_store rfl rfl rfl rfl rfl rfl hYX ?_ | refine k_load rfl rfl rfl (hXa _) ?_ | refine k_store rfl rfl rfl rfl (by exact hXl) rfl (by exact hXy _ rfl) ?_ | refine k_move rfl rfl ?_ | refine k_assign rfl rfl ?_ | refine k_load rfl rfl rfl rfl ?_ | refine k_alloc rfl ?_ | refine k_store rfl rfl rfl rfl rfl rfl rfl ?_ | refine k_extract rfl rfl rfl ?_ | refine k_fieldAddr rfl rfl rfl ?_ | refine k_build rfl rfl rfl ?_ | refine k_conv rfl rfl c0 ?_ | refine k_call rfl hk rfl rfl rfl rfl ?_ | refine k_makeMeth rfl rfl ?_ | refine k_nilMeth rfl hnil rfl ?_ | refine k_invoke rfl hg hm hrv hdr rfl rfl rfl c1 hgc ?_ | refine k_call rfl hC rfl z2 c2 rfl ?_ | (refine k_append rfl rfl rfl ?_ ?_ ?_ rfl ?_ rfl rfl rfl ?_; (first | rfl | exact trivial | (show 0 < _; omega)); (first | rfl | (simp <;> omega)); (first | rfl | (simp <;> omega)); (omega)) | (refine k_slice rfl rfl rfl rfl ⟨?_, ?_, ?_⟩ rfl rfl rfl ?_; (omega); (omega); (omega)) | (refine k_slice3 rfl rfl rfl rfl rfl ⟨?_, ?_, ?_⟩ rfl rfl rfl ?_; (omega); (omega); (omega)) | (refine k_sliceA rfl rfl rfl rfl ⟨?_, ?_, ?_, ?_⟩ rfl rfl ?_; (omega); (omega); (omega); (omega)) | (refine k_sliceE rfl rfl rfl rfl ⟨?_, ?_, ?_, ?_⟩ rfl rfl rfl rfl ?_; (omega); (omega); (omega); (omega)) | (refine k_indexAddr rfl rfl rfl ⟨?_, ?_⟩ ?_; (omega); (omega)) | (refine k_indexAddrs rfl rfl rfl ⟨?_, ?_⟩ rfl ?_; (omega); (omega)) | refine k_loade rfl rfl rfl ?_ | refine k_fieldAddre rfl rfl rfl rfl ?_ | refine k_len rfl rfl ?_ | refine k_nilCheck rfl rfl rfl ?_ | refine k_not rfl rfl rfl ?_ | (refine k_eqlT rfl rfl rfl ?_ ?_; (omega)) | (refine k_eqlF rfl rfl rfl ?_ ?_; (omega)) | (refine k_neqT rfl rfl rfl ?_ ?_; (omega)) | (refine k_neqF rfl rfl rfl ?_ ?_; (omega)) | refine k_eqa rfl rfl rfl rfl rfl rfl ?_ | refine k_nea rfl rfl rfl rfl rfl rfl ?_ | refine k_makeFunc rfl rfl rfl ?_ | refine W_yes rfl ?_ | refine W_no rfl ?_)
  (first | with_reducible refine q_endr ?_ | with_reducible refine q_endn ?_); refine rets2 Try.results14 (RetV.cell _ _ _ _ _ _ _ _ inferInstance rfl rfl (by exact hXa _)) (RetV.tmp _ _ rfl) ?_ rfl
  show D.agg (D.fzs X) = _
  rw [hXz]
set_option maxHeartbeats 8000000 in
omit hXl hXy in
theorem Decode_form (hf : f ≠ 0) : Pur Try.prog 14 [.slice .frozen L (bs (c :: r))] (.tup [.agg ld0, .int .i64 3]) := by
  subst he
  have c1 : D.cls [dr, .slice .frozen n (bs r)] = true := by show (dr.cl && true) = true; rw [hcd]; rfl
  have hgc : (D.tup [.agg Y, .int .i64 0]).cl = true := by show (D.cls Y && true) = true; rw [hYc]; rfl
  have c2 : D.cls [.agg X] = true := by show (D.cls X && true) = true; rw [hXc]; rfl
  have z2 : D.fzs [.agg X] = [.agg X] := by show [D.agg (D.fzs X)] = _; rw [hXz]
  have hb0 : ∀ ze, cut ⟨false, 1, ze⟩ 0 ((bs (c :: r)).drop ((0 : Int).toNat * 1)) = some (.int .u8 (c.toNat : Int)) := bs_nth (c :: r) [] r c rfl _ rfl
  have p1 : ((bs (c :: r)).drop ((1 : Int).toNat * 1)).take (n * 1) = bs r := bs_mid (c :: r) [c] r [] (by simp) _ _ rfl (by omega)
  have hz1 : L * 1 = (bs (c :: r)).length := by rw [bs_len, List.length_cons]; omega
  have q0 := c.toNat_lt
  have c0 : IntKind.i64.wrap (c.toNat : Int) = (c.toNat : Int) := i64_in _ (by omega)
  have hq : ((L : Int) - 1).toNat = n := by omega
  have hz : ∀ ze, cut ⟨true, 80, ze⟩ 0 ld0 = some (.agg ld0) := ldC_all z32_len z32_len _ rfl
  have hfz := ld0_fz
  have hbz : dfill ldPl ld0 [] = some ld0 := rfl
  have hlen : ld0.length = 80 := ldC_len z32_len z32_len _ rfl
  have hlay : ∀ cs : List D, cs.length = 80 → splice 0 ld0 cs = some ld0 := ldC_lay z32_len z32_len _ rfl
  generalize c.toNat = C at *
  generalize bs (c :: r) = Z at *
  refine pur_intro Try.func14 rfl Try.ntmps14 rfl (by first | rfl | assumption | exact bs_cl _) fun B => ?_
  repeat (first | with_reducible (first | refine W_seq ?_ | refine q_then ?_ | refine q_thenr ?_ | refine q_thenx ?_ | refine W_block ?_ | refine q_block ?_ | refine q_blockr ?_ | refine q_blockx ?_ | refine W_ret ?_ | refine W_skip ?_ | refine W_label ?_ | refine W_exit ?_ | refine W_scope ?_ | refine q_scope ?_ | refine q_scoper ?_ | refine q_scopex ?_) | (with_reducible refine R_nil ?_; try dsimp only [slots0, slots_ud, cells_U, agg_ud, drop0, dropS, takeS, take0, ud_nil, take_ud, take_ud0, drop_ud, drop_ud0, take_udk, D.cells, D.fz, D.fzs, List.take_succ_cons, List.take_zero, List.drop_succ_cons, List.drop_zero, List.cons_append, List.nil_append, List.append_eq, List.length_cons, List.length_nil, Nat.reduceAdd, Nat.reduceMul, Nat.reduceSub, Int.reduceAdd, Int.reduceSub, Int.reduceToNat, Int.reduceNeg, Int.reduceMul]) | refine q_blocky rfl ?_ | refine W_plain rfl ?_ | refine W_drawn mixed rfl ?_ | refine and_chk (by kernel_rfl) ?_ | (refine k_slice (nn := n) rfl rfl rfl rfl ⟨?_, ?_, ?_⟩ hz1 hq p1 ?_; (omega); (omega); (omega)) | (refine k_indexAddrs rfl rfl rfl ⟨?_, ?_⟩ hz1 ?_; (omega); (omega)) | refine k_loade rfl rfl (hb0 _) ?_ | refine k_build rfl rfl hbz ?_ | refine k_store rfl rfl rfl rfl (by exact hlen) rfl (by exact hlay _ rfl) ?_ | refine k_store rfl rfl rfl rfl (by exact hYl) rfl (by exact hYy _ rfl) ?_ | refine k_store rfl rfl rfl rfl rfl rfl hYX ?_ | refine k_load rfl rfl rfl (hXa _) ?_ | refine k_move rfl rfl ?_ | refine k_assign rfl rfl ?_ | refine k_load rfl rfl rfl rfl ?_ | refine k_alloc rfl ?_ | refine k_store rfl rfl rfl rfl rfl rfl rfl ?_ | refine k_extract rfl rfl rfl ?_ | refine k_fieldAddr rfl rfl rfl ?_ | refine k_build rfl rfl rfl ?_ | refine k_conv rfl rfl c0 ?_ | refine k_call rfl hk rfl rfl rfl rfl ?_ | refine k_makeMeth rfl rfl ?_ | refine k_nilMeth rfl hnil rfl ?_ | refine k_invoke rfl hg hm hrv hdr rfl rfl rfl c1 hgc ?_ | refine k_call rfl hC rfl z2 c2 rfl ?_ | (refine k_append rfl rfl rfl ?_ ?_ ?_ rfl ?_ rfl rfl rfl ?_; (first | rfl | exact trivial | (show 0 < _; omega)); (first | rfl | (simp <;> omega)); (first | rfl | (simp <;> omega)); (omega)) | (refine k_slice rfl rfl rfl rfl ⟨?_, ?_, ?_⟩ rfl rfl rfl ?_; (omega); (omega); (omega)) | (refine k_slice3 rfl rfl rfl rfl rfl ⟨?_, ?_, ?_⟩ rfl rfl rfl ?_; (omega); (omega); (omega)) | (refine k_sliceA rfl rfl rfl rfl ⟨?_, ?_, ?_, ?_⟩ rfl rfl ?_; (omega); (omega); (omega); (omega)) | (refine k_sliceE rfl rfl rfl rfl ⟨?_, ?_, ?_, ?_⟩ rfl rfl rfl rfl ?_; (omega); (omega); (omega); (omega)) | (refine k_indexAddr rfl rfl rfl ⟨?_, ?_⟩ ?_; (omega); (omega)) | (refine k_indexAddrs rfl rfl rfl ⟨?_, ?_⟩ rfl ?_; (omega); (omega)) | refine k_loade rfl rfl rfl ?_ | refine k_fieldAddre rfl rfl rfl rfl ?_ | refine k_len rfl rfl ?_ | refine k_nilCheck rfl rfl rfl ?_ | refine k_not rfl rfl rfl ?_ | (refine k_eqlT rfl rfl rfl ?_ ?_; (omega)) | (refine k_eqlF rfl rfl rfl ?_ ?_; (omega)) | (refine k_neqT rfl rfl rfl ?_ ?_; (omega)) | (refine k_neqF rfl rfl rfl ?_ ?_; (omega)) | refine k_eqa rfl rfl rfl rfl rfl rfl ?_ | refine k_nea rfl rfl rfl rfl rfl rfl ?_ | refine k_makeFunc rfl rfl rfl ?_ | refine W_yes rfl ?_ | refine W_no rfl ?_)
  (first | with_reducible refine q_endr ?_ | with_reducible refine q_endn ?_); refine rets2 Try.results14 (RetV.cell _ _ _ _ _ _ _ _ inferInstance rfl rfl (by exact hz _)) (RetV.tmp _ _ rfl) ?_ rfl
  show D.agg (D.fzs ld0) = _
  rw [hfz]
end
end Go.Proofs.Ytbpaimfnfigjpaa
