/- load: get of turn. Conditions: as said. -/
import Derived.Test.YtbpaimfnfigjpaaLoad12
namespace Go.Proofs.Ytbpaimfnfigjpaa
open Go.RowKit Go.Lib Go.IntWalk
set_option linter.unusedVariables false
set_option maxRecDepth 100000
def tuC (x : Int) (d : D) : List D := ldC 0 0 0 z32' 0 z32' [.int .i64 0, .int .i64 0, .str ⟨#[]⟩, .slice .nil 0 [], .int .i64 x, d]
theorem tuC_d (x : Int) (d : D) (ze : List D) : cut ⟨false, 1, ze⟩ 79 (tuC x d) = some d := rfl
theorem tuC_put (x : Int) (d d' : D) : splice 79 [d'] (tuC x d) = some (tuC x d') := rfl
theorem tuC_all (x : Int) (d : D) (ze : List D) : cut ⟨true, 80, ze⟩ 0 (tuC x d) = some (.agg (tuC x d)) := ldC_all z32_len z32_len _ rfl ze
theorem tuC_len (x : Int) (d : D) : (tuC x d).length = 80 := ldC_len z32_len z32_len _ rfl
theorem tuC_lay (x : Int) (d : D) (cs : List D) (h : cs.length = 80) : splice 0 (tuC x d) cs = some (tuC x d) := ldC_lay z32_len z32_len _ rfl cs h
theorem tuC_ren (f : Nat → Nat) (x : Int) (d : D) : D.rens f (tuC x d) = tuC x (d.ren f) := rfl
theorem tuC_ups (f : Nat → Nat) (x : Int) (d d' : D) (h : Up d (d'.ren f)) : Ups (tuC x d) (D.rens f (tuC x d')) := by
  rw [tuC_ren]
  exact ldC_ups (.cons (.refl _) (.cons (.refl _) (.cons (.refl _) (.cons (.refl _) (.cons (.refl _) (.cons h .nil))))))
theorem tuC_lall (p : Nat → Bool) (x : Int) (d : D) (h : d.lall p = true) : D.lalls p (tuC x d) = true := by
  show (d.lall p && true) = true
  rw [h]; rfl
theorem tuC_fz (x : Int) (d : D) : D.fzs (tuC x d) = tuC x d.fz := by unfold tuC; rw [ldC_fzs]; rfl
theorem fill_ug (x : Int) : dfill ldPl ld0 [(10, .int .i64 x)] = some (tuC x (.slice .nil 0 [])) := by kernel_rfl
set_option maxHeartbeats 4000000 in
theorem tu_get_few (L : Nat) (z : List D) (h : L < 5) : Pur Try.prog 68 [.agg [], .slice .frozen L z] (.tup [.agg ld0, .int .i64 4]) := by
  have hz : ∀ ze, cut ⟨true, 80, ze⟩ 0 ld0 = some (.agg ld0) := ldC_all z32_len z32_len _ rfl
  have hfz := ld0_fz
  have hb : dfill ldPl ld0 [] = some ld0 := rfl
  have hlen : ld0.length = 80 := ldC_len z32_len z32_len _ rfl
  have hlay : ∀ cs : List D, cs.length = 80 → splice 0 ld0 cs = some ld0 := ldC_lay z32_len z32_len _ rfl
  refine pur_intro Try.func68 rfl Try.ntmps68 rfl (by first | rfl | assumption | exact bs_cl _) fun B => ?_
  repeat (first | with_reducible (first | refine W_seq ?_ | refine q_then ?_ | refine q_thenr ?_ | refine q_thenx ?_ | refine W_block ?_ | refine q_block ?_ | refine q_blockr ?_ | refine q_blockx ?_ | refine W_ret ?_ | refine W_skip ?_ | refine W_label ?_ | refine W_exit ?_ | refine W_scope ?_ | refine q_scope ?_ | refine q_scoper ?_ | refine q_scopex ?_) | (with_reducible refine R_nil ?_; try dsimp only [slots0, slots_ud, cells_U, agg_ud, drop0, dropS, takeS, take0, ud_nil, take_ud, take_ud0, drop_ud, drop_ud0, take_udk, D.cells, D.fz, D.fzs, List.take_succ_cons, List.take_zero, List.drop_succ_cons, List.drop_zero, List.cons_append, List.nil_append, List.append_eq, List.length_cons, List.length_nil, Nat.reduceAdd, Nat.reduceMul, Nat.reduceSub, Int.reduceAdd, Int.reduceSub, Int.reduceToNat, Int.reduceNeg, Int.reduceMul]) | refine q_blocky rfl ?_ | refine W_plain rfl ?_ | refine W_drawn mixed rfl ?_ | refine and_chk (by kernel_rfl) ?_ | refine k_build rfl rfl hb ?_ | refine k_store rfl rfl rfl rfl (by exact hlen) rfl (by exact hlay _ rfl) ?_ | refine k_move rfl rfl ?_ | refine k_assign rfl rfl ?_ | refine k_load rfl rfl rfl rfl ?_ | refine k_alloc rfl ?_ | refine k_box rfl rfl rfl ?_ | refine k_store rfl rfl rfl rfl rfl rfl rfl ?_ | refine k_fieldAddr rfl rfl rfl ?_ | refine k_build rfl rfl rfl ?_ | (refine k_append rfl rfl rfl ?_ ?_ ?_ rfl ?_ rfl rfl rfl ?_; (first | rfl | exact trivial | (show 0 < _; omega)); (first | rfl | (simp <;> omega)); (first | rfl | (simp <;> omega)); (omega)) | (refine k_slice rfl rfl rfl rfl ⟨?_, ?_, ?_⟩ rfl rfl rfl ?_; (omega); (omega); (omega)) | (refine k_slice3 rfl rfl rfl rfl rfl ⟨?_, ?_, ?_⟩ rfl rfl rfl ?_; (omega); (omega); (omega)) | (refine k_sliceA rfl rfl rfl rfl ⟨?_, ?_, ?_, ?_⟩ rfl rfl ?_; (omega); (omega); (omega); (omega)) | (refine k_sliceE rfl rfl rfl rfl ⟨?_, ?_, ?_, ?_⟩ rfl rfl rfl rfl ?_; (omega); (omega); (omega); (omega)) | refine k_buildSlice (cs := []) rfl rfl rfl rfl rfl rfl rfl ?_ | refine k_buildSlice rfl rfl rfl rfl rfl rfl rfl ?_ | (refine k_indexAddr rfl rfl rfl ⟨?_, ?_⟩ ?_; (omega); (omega)) | (refine k_indexAddrs rfl rfl rfl ⟨?_, ?_⟩ rfl ?_; (omega); (omega)) | refine k_loade rfl rfl rfl ?_ | refine k_fieldAddre rfl rfl rfl rfl ?_ | refine k_len rfl rfl ?_ | refine k_pickT rfl rfl rfl ?_ | refine k_pickF rfl rfl rfl ?_ | (refine k_addi rfl rfl rfl ?_ ?_; (omega)) | (refine k_lssT rfl rfl rfl ?_ ?_; (omega)) | (refine k_lssF rfl rfl rfl ?_ ?_; (omega)) | (refine k_gtrT rfl rfl rfl ?_ ?_; (omega)) | (refine k_gtrF rfl rfl rfl ?_ ?_; (omega)) | refine k_skip rfl ?_ | refine k_skip0 rfl ?_ | refine k_pick rfl rfl rfl rfl rfl ?_ | refine W_yes rfl ?_ | refine W_no rfl ?_)
  (first | with_reducible refine q_endr ?_ | with_reducible refine q_endn ?_); refine rets2 Try.results68 (RetV.cell _ _ _ _ _ _ _ _ inferInstance rfl rfl (by exact hz _)) (RetV.tmp _ _ rfl) ?_ rfl
  show D.agg (D.fzs ld0) = _
  rw [hfz]
theorem mul20 (c : Nat) (hc : c ≤ 1000) : IntKind.i64.wrap (20 * (c : Int)) = ((20 * c : Nat) : Int) := by rw [i64_in _ (by omega)]; omega
set_option maxHeartbeats 4000000 in
theorem tu_get_short (a0 a1 a2 a3 c : UInt8) (r b : List UInt8) (hb : b = a0 :: a1 :: a2 :: a3 :: c :: r) (L : Nat) (hL : b.length = L) (h : L < 5 + 20 * c.toNat) : Pur Try.prog 68 [.agg [], .slice .frozen L (bs b)] (.tup [.agg ld0, .int .i64 4]) := by
  have hL5 : 5 ≤ L := by rw [← hL, hb]; simp
  have hz' : L * 1 = (bs b).length := by rw [bs_len, hL]; omega
  have hc9 := c.toNat_lt
  have i4 : ∀ ze, cut ⟨false, 1, ze⟩ 0 ((bs b).drop ((4 : Int).toNat * 1)) = some (.int .u8 (c.toNat : Int)) := bs_nth b [a0, a1, a2, a3] r c hb _ rfl
  generalize c.toNat = C at *
  have c4 : IntKind.i64.wrap (C : Int) = (C : Int) := i64_in _ (by omega)
  have hm := mul20 C (by omega)
  have hz : ∀ ze, cut ⟨true, 80, ze⟩ 0 ld0 = some (.agg ld0) := ldC_all z32_len z32_len _ rfl
  have hfz := ld0_fz
  have hbz : dfill ldPl ld0 [] = some ld0 := rfl
  have hlen : ld0.length = 80 := ldC_len z32_len z32_len _ rfl
  have hlay : ∀ cs : List D, cs.length = 80 → splice 0 ld0 cs = some ld0 := ldC_lay z32_len z32_len _ rfl
  generalize bs b = Z at *
  refine pur_intro Try.func68 rfl Try.ntmps68 rfl (by first | rfl | assumption | exact bs_cl _) fun B => ?_
  repeat (first | with_reducible (first | refine W_seq ?_ | refine q_then ?_ | refine q_thenr ?_ | refine q_thenx ?_ | refine W_block ?_ | refine q_block ?_ | refine q_blockr ?_ | refine q_blockx ?_ | refine W_ret ?_ | refine W_skip ?_ | refine W_label ?_ | refine W_exit ?_ | refine W_scope ?_ | refine q_scope ?_ | refine q_scoper ?_ | refine q_scopex ?_) | (with_reducible refine R_nil ?_; try dsimp only [slots0, slots_ud, cells_U, agg_ud, drop0, dropS, takeS, take0, ud_nil, take_ud, take_ud0, drop_ud, drop_ud0, take_udk, D.cells, D.fz, D.fzs, List.take_succ_cons, List.take_zero, List.drop_succ_cons, List.drop_zero, List.cons_append, List.nil_append, List.append_eq, List.length_cons, List.length_nil, Nat.reduceAdd, Nat.reduceMul, Nat.reduceSub, Int.reduceAdd, Int.reduceSub, Int.reduceToNat, Int.reduceNeg, Int.reduceMul]) | refine q_blocky rfl ?_ | refine W_plain rfl ?_ | refine W_drawn mixed rfl ?_ | refine and_chk (by kernel_rfl) ?_ | (refine k_indexAddrs rfl rfl rfl ⟨?_, ?_⟩ hz' ?_; (omega); (omega)) | refine k_loade rfl rfl (i4 _) ?_ | refine k_build rfl rfl hbz ?_ | refine k_store rfl rfl rfl rfl (by exact hlen) rfl (by exact hlay _ rfl) ?_ | refine k_move rfl rfl ?_ | refine k_assign rfl rfl ?_ | refine k_load rfl rfl rfl rfl ?_ | refine k_alloc rfl ?_ | refine k_box rfl rfl rfl ?_ | refine k_store rfl rfl rfl rfl rfl rfl rfl ?_ | refine k_fieldAddr rfl rfl rfl ?_ | refine k_build rfl rfl rfl ?_ | refine k_conv rfl rfl c4 ?_ | refine k_mul rfl rfl rfl hm ?_ | (refine k_append rfl rfl rfl ?_ ?_ ?_ rfl ?_ rfl rfl rfl ?_; (first | rfl | exact trivial | (show 0 < _; omega)); (first | rfl | (simp <;> omega)); (first | rfl | (simp <;> omega)); (omega)) | (refine k_slice rfl rfl rfl rfl ⟨?_, ?_, ?_⟩ rfl rfl rfl ?_; (omega); (omega); (omega)) | (refine k_slice3 rfl rfl rfl rfl rfl ⟨?_, ?_, ?_⟩ rfl rfl rfl ?_; (omega); (omega); (omega)) | (refine k_sliceA rfl rfl rfl rfl ⟨?_, ?_, ?_, ?_⟩ rfl rfl ?_; (omega); (omega); (omega); (omega)) | (refine k_sliceE rfl rfl rfl rfl ⟨?_, ?_, ?_, ?_⟩ rfl rfl rfl rfl ?_; (omega); (omega); (omega); (omega)) | refine k_buildSlice (cs := []) rfl rfl rfl rfl rfl rfl rfl ?_ | refine k_buildSlice rfl rfl rfl rfl rfl rfl rfl ?_ | (refine k_indexAddr rfl rfl rfl ⟨?_, ?_⟩ ?_; (omega); (omega)) | (refine k_indexAddrs rfl rfl rfl ⟨?_, ?_⟩ rfl ?_; (omega); (omega)) | refine k_loade rfl rfl rfl ?_ | refine k_fieldAddre rfl rfl rfl rfl ?_ | refine k_len rfl rfl ?_ | refine k_pickT rfl rfl rfl ?_ | refine k_pickF rfl rfl rfl ?_ | (refine k_addi rfl rfl rfl ?_ ?_; (omega)) | (refine k_lssT rfl rfl rfl ?_ ?_; (omega)) | (refine k_lssF rfl rfl rfl ?_ ?_; (omega)) | (refine k_gtrT rfl rfl rfl ?_ ?_; (omega)) | (refine k_gtrF rfl rfl rfl ?_ ?_; (omega)) | refine k_skip rfl ?_ | refine k_skip0 rfl ?_ | refine k_pick rfl rfl rfl rfl rfl ?_ | refine W_yes rfl ?_ | refine W_no rfl ?_)
  (first | with_reducible refine q_endr ?_ | with_reducible refine q_endn ?_); refine rets2 Try.results68 (RetV.cell _ _ _ _ _ _ _ _ inferInstance rfl rfl (by exact hz _)) (RetV.tmp _ _ rfl) ?_ rfl
  show D.agg (D.fzs ld0) = _
  rw [hfz]
theorem nm_4 (a b c d : UInt8) : nm [a, b, c, d] = ((a.toNat * 256 + b.toNat) * 256 + c.toNat) * 256 + d.toNat := by simp [nm]
end Go.Proofs.Ytbpaimfnfigjpaa
