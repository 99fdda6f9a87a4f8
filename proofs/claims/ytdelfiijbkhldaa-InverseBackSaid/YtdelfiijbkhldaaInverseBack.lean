/- InverseBack: what has an inverse is taken to one by it, and that one's inverse is the number itself. No conditions. -/
import Derived.Test.YtdelfiijbkhldaaPRing
import Derived.Test.YtdelfiijbkhldaaRow
namespace Go.Proofs.Ytdelfiijbkhldaa.inverseBack
open Go.ChangeShapes Go.WideShapes Go.RowKit Go.Joins
set_option linter.unusedVariables false
open Go.Proofs.Ytdelfiijbkhldaa
set_option maxRecDepth 100000

theorem gcd_of (a m i : Nat) (ei : i * a % m = 1 % m) : Nat.gcd m a = 1 := by
  have h1 : Nat.gcd m a ∣ i * a % m := (Nat.dvd_mod_iff (Nat.gcd_dvd_left m a)).2 (Nat.dvd_trans (Nat.gcd_dvd_right m a) (Nat.dvd_mul_left a i))
  rw [ei] at h1
  have h2 := (Nat.dvd_mod_iff (Nat.gcd_dvd_left m a)).1 h1
  exact Nat.dvd_one.1 h2
theorem inv_25 : Pur Try.prog 21 [U 2, U 5] (.tup [U 3, .int .i64 0]) := p_finv 2 5 3 (by decide) (by decide) (by decide) (by decide) (by decide)

theorem inv_no (a m : Nat) (hm : m < M256) (ha : a < m) (h : ¬∃ i, i < m ∧ i * a % m = 1 % m) : Pur Try.prog 21 [U a, U m] (.tup [U 0, .int .i64 5]) :=
  pur_of_calls (vs := [u a, u m]) rfl rfl rfl fun w => inv_walk a m hm ha w _ (fun x hx ex _ => absurd ⟨x, hx, ex⟩ h) (fun _ => rfl)

set_option maxHeartbeats 4000000 in
theorem pur (k a b k1 a1 b1 : Int) (s s1 : ByteArray) : Pur Try.prog 8 [.agg [.int .i64 k, .int .i64 a, .int .i64 b, .str s], .agg [.int .i64 k1, .int .i64 a1, .int .i64 b1, .str s1]] (.bool true) := by
  obtain ⟨n, hn⟩ : ∃ n, mo (num k a b) = n := ⟨_, rfl⟩
  obtain ⟨x, hx⟩ : ∃ x, num k1 a1 b1 % n = x := ⟨_, rfl⟩
  have hnM : n < M256 := by rw [← hn]; exact mo_lt _ (num_lt _ _ _)
  have hn0 : 0 < n := by rw [← hn]; exact mo_pos _
  have lx : x < n := by rw [← hx]; exact Nat.mod_lt _ hn0
  have R := p_ring1 k a b k1 a1 b1 s s1 n x hn hx
  have q3 := deqs_ud 3 3 (by decide) (by decide)
  simp only [decide_true] at q3
  by_cases h : ∃ i, i < n ∧ i * x % n = 1 % n
  · obtain ⟨i, li, ei⟩ := h
    have f1 := p_finv x n i hnM lx li ei (gcd_of x n i ei)
    have ei' : x * i % n = 1 % n := by rw [Nat.mul_comm]; exact ei
    have f2 := p_finv i n x hnM li lx ei' (gcd_of i n x ei')
    have f3 := p_fmul x i n (1 % n) hnM lx li ei'
    have f4 := p_div 1 n _ (1 % n) (by decide) hnM hn0 rfl rfl
    obtain ⟨e, he⟩ : ∃ e, 1 % n = e := ⟨_, rfl⟩
    have le : e < n := by rw [← he]; exact Nat.mod_lt _ hn0
    rw [he] at f3 f4
    have q1 := deqs_ud e e (Nat.lt_trans le hnM) (Nat.lt_trans le hnM)
    have q2 := deqs_ud x x (Nat.lt_trans lx hnM) (Nat.lt_trans lx hnM)
    simp only [decide_true] at q1 q2
    refine pur_intro Try.func8 rfl Try.ntmps8 rfl rfl fun B => ?_
    repeat (first | with_reducible refine W_seq ?_ | with_reducible refine q_then ?_ | with_reducible refine q_thenr ?_ | with_reducible refine q_thenx ?_ | with_reducible refine W_block ?_ | with_reducible refine q_block ?_ | with_reducible refine q_blockr ?_ | with_reducible refine q_blockx ?_ | with_reducible refine W_ret ?_ | with_reducible refine W_skip ?_ | with_reducible refine W_label ?_ | with_reducible refine W_exit ?_ | (with_reducible refine R_nil ?_; try dsimp only [slots0, slots_ud, cells_U, agg_ud, drop0, dropS, takeS, take0, ud_nil, take_ud, take_ud0, drop_ud, drop_ud0, take_udk, D.cells, D.fz, D.fzs, List.take_succ_cons, List.take_zero, List.drop_succ_cons, List.drop_zero, List.cons_append, List.nil_append, List.append_eq, List.length_cons, List.length_nil, Nat.reduceAdd, Nat.reduceMul, Nat.reduceSub, Int.reduceAdd, Int.reduceSub, Int.reduceToNat, Int.reduceNeg, Int.reduceMul]) | refine q_blocky rfl ?_ | refine W_plain rfl ?_ | refine W_drawn mixed rfl ?_ | refine and_chk (by kernel_rfl) ?_ | refine k_move rfl rfl ?_ | refine k_assign rfl rfl ?_ | refine k_load rfl rfl rfl rfl ?_ | refine k_alloc rfl ?_ | refine k_box rfl rfl rfl ?_ | refine k_store rfl rfl rfl rfl rfl rfl rfl ?_ | refine k_extract rfl rfl rfl ?_ | refine k_fieldAddr rfl rfl rfl ?_ | refine k_field rfl rfl rfl ?_ | refine k_build rfl rfl rfl ?_ | refine k_call rfl R rfl rfl rfl rfl ?_ | refine k_call rfl f1 rfl rfl rfl rfl ?_ | refine k_call rfl f2 rfl rfl rfl rfl ?_ | refine k_call rfl f3 rfl rfl rfl rfl ?_ | refine k_call rfl f4 rfl rfl rfl rfl ?_ | refine k_call rfl inv_25 rfl rfl rfl rfl ?_ | refine k_eqa rfl rfl rfl rfl rfl q1 ?_ | refine k_eqa rfl rfl rfl rfl rfl q2 ?_ | refine k_nea rfl rfl rfl rfl rfl q3 ?_ | refine W_unroll (WL_round ?_) | refine WL_round ?_ | refine k_append rfl rfl rfl (by first | rfl | exact trivial | (show 0 < _; omega)) (by first | rfl | (simp <;> omega)) (by first | rfl | (simp <;> omega)) rfl (by omega) rfl rfl rfl ?_ | refine k_slice rfl rfl rfl rfl ⟨by omega, by omega, by omega⟩ rfl rfl rfl ?_ | refine k_slice3 rfl rfl rfl rfl rfl ⟨by omega, by omega, by omega⟩ rfl rfl rfl ?_ | refine k_sliceA rfl rfl rfl rfl ⟨by omega, by omega, by omega, by omega⟩ rfl rfl ?_ | refine k_sliceE rfl rfl rfl rfl ⟨by omega, by omega, by omega, by omega⟩ rfl rfl rfl rfl ?_ | refine k_buildSlice rfl rfl rfl rfl rfl rfl rfl ?_ | refine k_indexAddr rfl rfl rfl ⟨by omega, by omega⟩ ?_ | refine k_indexAddrs rfl rfl rfl ⟨by omega, by omega⟩ rfl ?_ | refine k_index rfl rfl rfl ⟨by omega, by omega⟩ rfl ?_ | refine k_loade rfl rfl rfl ?_ | refine k_fieldAddre rfl rfl rfl rfl ?_ | refine k_len rfl rfl ?_ | refine k_nilCheck rfl rfl rfl ?_ | refine k_pickT rfl rfl rfl ?_ | refine k_pickF rfl rfl rfl ?_ | refine k_addi rfl rfl rfl (by omega) ?_ | refine k_subi rfl rfl rfl (by omega) ?_ | refine k_negi rfl rfl (by omega) ?_ | refine k_not rfl rfl rfl ?_ | refine k_lssT rfl rfl rfl (by omega) ?_ | refine k_lssF rfl rfl rfl (by omega) ?_ | refine k_leqT rfl rfl rfl (by omega) ?_ | refine k_leqF rfl rfl rfl (by omega) ?_ | refine k_gtrT rfl rfl rfl (by omega) ?_ | refine k_gtrF rfl rfl rfl (by omega) ?_ | refine k_geqT rfl rfl rfl (by omega) ?_ | refine k_geqF rfl rfl rfl (by omega) ?_ | refine k_eqlT rfl rfl rfl (by omega) ?_ | refine k_eqlF rfl rfl rfl (by omega) ?_ | refine k_neqT rfl rfl rfl (by omega) ?_ | refine k_neqF rfl rfl rfl (by omega) ?_ | refine k_eqa rfl rfl rfl rfl rfl rfl ?_ | refine k_nea rfl rfl rfl rfl rfl rfl ?_ | refine k_makeFunc rfl rfl rfl ?_ | refine k_skip rfl ?_ | refine k_skip0 rfl ?_ | refine k_pick rfl rfl rfl rfl rfl ?_ | refine W_yes rfl ?_ | refine W_no rfl ?_)
    (first | with_reducible refine q_endr ?_ | with_reducible refine q_endn ?_); refine rets1 Try.results8 (by first | exact RetV.tmp _ _ rfl | exact RetV.cell _ _ _ _ _ _ _ _ inferInstance rfl rfl rfl) ?_
    rfl
  · have f1 := inv_no x n hnM lx h
    refine pur_intro Try.func8 rfl Try.ntmps8 rfl rfl fun B => ?_
    repeat (first | with_reducible refine W_seq ?_ | with_reducible refine q_then ?_ | with_reducible refine q_thenr ?_ | with_reducible refine q_thenx ?_ | with_reducible refine W_block ?_ | with_reducible refine q_block ?_ | with_reducible refine q_blockr ?_ | with_reducible refine q_blockx ?_ | with_reducible refine W_ret ?_ | with_reducible refine W_skip ?_ | with_reducible refine W_label ?_ | with_reducible refine W_exit ?_ | (with_reducible refine R_nil ?_; try dsimp only [slots0, slots_ud, cells_U, agg_ud, drop0, dropS, takeS, take0, ud_nil, take_ud, take_ud0, drop_ud, drop_ud0, take_udk, D.cells, D.fz, D.fzs, List.take_succ_cons, List.take_zero, List.drop_succ_cons, List.drop_zero, List.cons_append, List.nil_append, List.append_eq, List.length_cons, List.length_nil, Nat.reduceAdd, Nat.reduceMul, Nat.reduceSub, Int.reduceAdd, Int.reduceSub, Int.reduceToNat, Int.reduceNeg, Int.reduceMul]) | refine q_blocky rfl ?_ | refine W_plain rfl ?_ | refine W_drawn mixed rfl ?_ | refine and_chk (by kernel_rfl) ?_ | refine k_move rfl rfl ?_ | refine k_assign rfl rfl ?_ | refine k_load rfl rfl rfl rfl ?_ | refine k_alloc rfl ?_ | refine k_box rfl rfl rfl ?_ | refine k_store rfl rfl rfl rfl rfl rfl rfl ?_ | refine k_extract rfl rfl rfl ?_ | refine k_fieldAddr rfl rfl rfl ?_ | refine k_field rfl rfl rfl ?_ | refine k_build rfl rfl rfl ?_ | refine k_call rfl R rfl rfl rfl rfl ?_ | refine k_call rfl f1 rfl rfl rfl rfl ?_ | refine k_call rfl inv_25 rfl rfl rfl rfl ?_ | refine k_nea rfl rfl rfl rfl rfl q3 ?_ | refine W_unroll (WL_round ?_) | refine WL_round ?_ | refine k_append rfl rfl rfl (by first | rfl | exact trivial | (show 0 < _; omega)) (by first | rfl | (simp <;> omega)) (by first | rfl | (simp <;> omega)) rfl (by omega) rfl rfl rfl ?_ | refine k_slice rfl rfl rfl rfl ⟨by omega, by omega, by omega⟩ rfl rfl rfl ?_ | refine k_slice3 rfl rfl rfl rfl rfl ⟨by omega, by omega, by omega⟩ rfl rfl rfl ?_ | refine k_sliceA rfl rfl rfl rfl ⟨by omega, by omega, by omega, by omega⟩ rfl rfl ?_ | refine k_sliceE rfl rfl rfl rfl ⟨by omega, by omega, by omega, by omega⟩ rfl rfl rfl rfl ?_ | refine k_buildSlice rfl rfl rfl rfl rfl rfl rfl ?_ | refine k_indexAddr rfl rfl rfl ⟨by omega, by omega⟩ ?_ | refine k_indexAddrs rfl rfl rfl ⟨by omega, by omega⟩ rfl ?_ | refine k_index rfl rfl rfl ⟨by omega, by omega⟩ rfl ?_ | refine k_loade rfl rfl rfl ?_ | refine k_fieldAddre rfl rfl rfl rfl ?_ | refine k_len rfl rfl ?_ | refine k_nilCheck rfl rfl rfl ?_ | refine k_pickT rfl rfl rfl ?_ | refine k_pickF rfl rfl rfl ?_ | refine k_addi rfl rfl rfl (by omega) ?_ | refine k_subi rfl rfl rfl (by omega) ?_ | refine k_negi rfl rfl (by omega) ?_ | refine k_not rfl rfl rfl ?_ | refine k_lssT rfl rfl rfl (by omega) ?_ | refine k_lssF rfl rfl rfl (by omega) ?_ | refine k_leqT rfl rfl rfl (by omega) ?_ | refine k_leqF rfl rfl rfl (by omega) ?_ | refine k_gtrT rfl rfl rfl (by omega) ?_ | refine k_gtrF rfl rfl rfl (by omega) ?_ | refine k_geqT rfl rfl rfl (by omega) ?_ | refine k_geqF rfl rfl rfl (by omega) ?_ | refine k_eqlT rfl rfl rfl (by omega) ?_ | refine k_eqlF rfl rfl rfl (by omega) ?_ | refine k_neqT rfl rfl rfl (by omega) ?_ | refine k_neqF rfl rfl rfl (by omega) ?_ | refine k_eqa rfl rfl rfl rfl rfl rfl ?_ | refine k_nea rfl rfl rfl rfl rfl rfl ?_ | refine k_makeFunc rfl rfl rfl ?_ | refine k_skip rfl ?_ | refine k_skip0 rfl ?_ | refine k_pick rfl rfl rfl rfl rfl ?_ | refine W_yes rfl ?_ | refine W_no rfl ?_)
    (first | with_reducible refine q_endr ?_ | with_reducible refine q_endn ?_); refine rets1 Try.results8 (by first | exact RetV.tmp _ _ rfl | exact RetV.cell _ _ _ _ _ _ _ _ inferInstance rfl rfl rfl) ?_
    rfl

theorem walk (k a b k1 a1 b1 : Int) (s s1 : ByteArray) (w : World) : Calls Try.prog 8 #[.agg (raw k a b s), .agg (raw k1 a1 b1 s1)] w fun e w' => e = .returned (.bool true) ∧ New w w' :=
  calls_of_pur (vs := [.agg #[.int .i64 k, .int .i64 a, .int .i64 b, .string s], .agg #[.int .i64 k1, .int .i64 a1, .int .i64 b1, .string s1]]) rfl rfl rfl (pur k a b k1 a1 b1 s s1) w

set_option maxRecDepth 100000 in
theorem lifted (os : Os) (started : os.Started) (H : Type) (enc : TypeId × Value → H) :
    ReturnsInHanded {} Try.checked os 8 .any (Rows.inverseBackSpec.pre6 enc Try.prog Try.f8 Rows.inverseBackRow.domain false) (Rows.inverseBackSpec.post enc Try.prog Try.f8 false true false false) := by
  refine returnsInHanded_of_change (C := Try.checked) own started (by kernel_rfl) Try.func8
    (ChangeSpec.witness6 (enc := enc) (C := Try.checked) false ⟨#[], #[.agg #[.int .i64 0, .int .i64 0, .int .i64 0, .string ⟨#[]⟩], .agg #[.int .i64 0, .int .i64 0, .int .i64 0, .string ⟨#[]⟩]], []⟩ 8 (by kernel_rfl) (by kernel_rfl) (by kernel_rfl) (by kernel_rfl)) ?_
  intro W base args ds gs before hval0 hW hcnd _
  have hval : ∀ (j : Nat) t v, Try.f8.params[j]? = some t → args[j]? = some v → Value.okWide Try.prog W .any base t v := hval0
  have hW' := hW
  obtain ⟨p, q, hA0, hV, rfl, hfz, hnd⟩ := hW
  have hA : DataW.TrodAll enc Try.prog W 0 (fun _ => true) true Try.f8.params.toList args.toList ds p := hA0
  rw [Try.params8] at hA hval
  obtain ⟨v0, vs0, d0, ds0, p0, q0, hargs, rfl, rfl, h0, r0⟩ := trodAll_cons hA
  obtain ⟨v1, vs1, d1, ds1, p1, q1, rfl, rfl, rfl, h1, r1⟩ := trodAll_cons r0
  obtain ⟨rfl, rfl, rfl⟩ := trodAll_nil r1
  obtain rfl : args = #[v0, v1] := by cases args; simp_all
  obtain ⟨rfl, rfl⟩ := trodVars_none hV
  obtain ⟨k1, a1, b1, s1, rfl, wk1, wa1, wb1, ws1⟩ := open_raw (hval 0 23 v0 rfl rfl) h0
  obtain ⟨k2, a2, b2, s2, rfl, wk2, wa2, wb2, ws2⟩ := open_raw (hval 1 23 v1 rfl rfl) h1
  refine (walk k1 a1 b1 k2 a2 b2 s1 s2 W).mono fun e W' ⟨he, hN⟩ => ?_
  subst he
  exact ⟨_, rfl, law_post laidOut (by kernel_rfl) (by kernel_rfl) Try.underlying4 rfl hW' rfl hN⟩

theorem holds : Rows.InverseBackSaid :=
  OpenClaim.holds_of_wide 8 Try.f8 rfl rfl rfl rfl rfl rfl rfl ⟨rfl, rfl, rfl, rfl, rfl⟩ rfl rfl rfl rfl rfl (by kernel_rfl) Try.func8 (by kernel_rfl)
    (of_decide_eq_true (by kernel_rfl)) (by unfold Func.isWrapper; first | (rw [if_pos (by decide +kernel)]; kernel_rfl) | (rw [if_neg (by decide +kernel)]; exact ⟨rfl, rfl⟩))
    (fun os started H enc _ => lifted os started H enc)

#print axioms holds
end Go.Proofs.Ytdelfiijbkhldaa.inverseBack
