/- quorum.Check: whether enough have signed. Conditions: a small curve; of each signature is known what it tells. -/
import Derived.Test.YtpdhbddkcnffbaaDoorSgn5
import Derived.Test.YtpdhbddkcnffbaaDoorKeyOf
import Derived.Test.YtpdhbddkcnffbaaDoorFlat
namespace Go.Proofs.YtpdhbddkcnffbaaDoor
open Go.RowKit Go.Lib
set_option linter.unusedVariables false
set_option linter.unusedVariables false
set_option maxRecDepth 100000
--nrm pt_all pt_x pt_y cv_all cv_p cv_a cv_b cv_n cv_g cv_gx pt_len cv_len rg_len ren_rl rl_all rl_m rl_len rl_nil pt_nil ptD_all ptD_nil ptD_len sg_all sg_r sg_s sg_len

theorem deqs_bs : ∀ (x y : List UInt8), x.length = y.length → deqs (bs x) (bs y) = decide (x = y)
  | [], [], _ => rfl
  | [], b :: y, h => by simp at h
  | a :: x, [], h => by simp at h
  | a :: x, b :: y, h => by
    show (deq1 (.int .u8 _) (.int .u8 _) && deqs (bs x) (bs y)) = _
    rw [deqs_bs x y (by simpa using h)]
    simp only [deq1]
    rw [Bool.eq_iff_iff]
    simp only [Bool.and_eq_true, decide_eq_true_eq, beq_iff_eq, List.cons.injEq]
    constructor
    · rintro ⟨h1, h2⟩; exact ⟨UInt8.toNat_inj.1 (by omega), h2⟩
    · rintro ⟨rfl, rfl⟩; simp
theorem lks_bs : ∀ (n : Nat) (z : List UInt8), z.length = n → lks (bs z) = lks (bs (List.replicate n 0))
  | 0, [], _ => rfl
  | n + 1, c :: z, h => by
    have ih := lks_bs n z (by simpa using h)
    rw [List.replicate_succ]
    show lks (D.int .u8 (c.toNat : Int) :: bs z) = lks (D.int .u8 _ :: bs (List.replicate n 0))
    unfold lks
    rw [ih]
    rfl

/-- one signature of a list: whose it is, its numbers, and whether it is right -/
structure QE where
  w : Nat
  r : Nat
  s : Nat
  o : Int
  good : Bool
def QE.cells (e : QE) : List D := .int .i64 e.w :: sg e.r e.s e.o
theorem QE.len (e : QE) : e.cells.length = 10 := rfl
def esC (es : List QE) : List D := es.flatMap QE.cells
theorem esC_len (es : List QE) : (esC es).length = es.length * 10 := fl_len (f := QE.cells) (s := 10) QE.len es
theorem esC_cut (es : List QE) (k : Nat) (e : QE) (h : es[k]? = some e) (ze : List D) : cut ⟨true, 10, ze⟩ 0 ((esC es).drop ((k : Int).toNat * 10)) = some (.agg e.cells) := by
  have hlt := (List.getElem?_eq_some_iff.1 h).1
  unfold cut
  simp only [cond_true, Int.toNat_natCast, Nat.zero_add, List.length_drop, esC_len, List.drop_zero]
  rw [Nat.ble_eq_true_of_le (by omega), cond_true]
  unfold esC
  rw [fl_at QE.len es k e h]
def ksC (K : List (List UInt8)) : List D := K.flatMap bs
/-- flatMap of lists of one length, where only the list's own members need have it -/
theorem ks_norm (K : List (List UInt8)) (hK : ∀ k ∈ K, k.length = 20) : ksC K = K.flatMap fun k => bs (k.take 20 ++ List.replicate (20 - k.length) 0) := by
  unfold ksC
  induction K with
  | nil => rfl
  | cons k K ih =>
    have h1 := hK k (by simp)
    rw [List.flatMap_cons, List.flatMap_cons, ← ih fun k hk => hK k (by simp [hk]), h1, Nat.sub_self, List.replicate_zero, List.append_nil, List.take_of_length_le (by omega)]
theorem ks_len (K : List (List UInt8)) (hK : ∀ k ∈ K, k.length = 20) : (ksC K).length = K.length * 20 := by
  rw [ks_norm K hK]
  exact fl_len (f := fun k => bs (k.take 20 ++ List.replicate (20 - k.length) 0)) (s := 20) (fun k => by rw [bs_len, List.length_append, List.length_take, List.length_replicate]; omega) K
theorem ks_cut (K : List (List UInt8)) (hK : ∀ k ∈ K, k.length = 20) (i : Nat) (k : List UInt8) (h : K[i]? = some k) (ze : List D) : cut ⟨true, 20, ze⟩ 0 ((ksC K).drop ((i : Int).toNat * 20)) = some (.agg (bs k)) := by
  have hlt := (List.getElem?_eq_some_iff.1 h).1
  have hk := hK k (List.mem_of_getElem? h)
  unfold cut
  simp only [cond_true, Int.toNat_natCast, Nat.zero_add, List.length_drop, ks_len K hK, List.drop_zero]
  rw [Nat.ble_eq_true_of_le (by omega), cond_true, ks_norm K hK]
  have := fl_at (f := fun k => bs (k.take 20 ++ List.replicate (20 - k.length) 0)) (s := 20) (fun k => by rw [bs_len, List.length_append, List.length_take, List.length_replicate]; omega) K i k h
  rw [this, hk, Nat.sub_self, List.replicate_zero, List.append_nil, List.take_of_length_le (by omega)]

/-- what is said of a list of signatures -/
def chkR : Int → List QE → Int
  | _, [] => 0
  | last, e :: es => if (e.w : Int) ≤ last then 3 else if e.good then chkR e.w es else 10

theorem Need_ok (n m : Nat) (h : n ≤ 19) (hm : 2 * n / 3 + 1 = m) : Pur Tryd.prog 26 [.int .i64 n] (.tup [.int .i64 m, .int .i64 0]) := by
  have h1 : IntKind.i64.wrap (2 * (n : Int)) = ((2 * n : Nat) : Int) := by rw [Go.IntWalk.i64_in _ (by omega)]; push_cast; rfl
  have h2 : IntKind.i64.wrap (((2 * n : Nat) : Int).tdiv 3) = ((2 * n / 3 : Nat) : Int) := by
    rw [Int.tdiv_eq_ediv_of_nonneg (by omega), Go.IntWalk.i64_in _ (by omega)]; omega
  have h3 : IntKind.i64.wrap (((2 * n / 3 : Nat) : Int) + 1) = (m : Int) := by rw [Go.IntWalk.i64_in _ (by omega)]; omega
  refine pur_intro Tryd.func26 rfl Tryd.ntmps26 rfl (by first | rfl | assumption | exact bs_cl _) fun B => ?_
  repeat (first | with_reducible (first | refine W_seq ?_ | refine q_then ?_ | refine q_thenr ?_ | refine q_thenx ?_ | refine W_block ?_ | refine q_block ?_ | refine q_blockr ?_ | refine q_blockx ?_ | refine W_ret ?_ | refine W_skip ?_ | refine W_label ?_ | refine W_exit ?_ | refine W_scope ?_ | refine q_scope ?_ | refine q_scoper ?_ | refine q_scopex ?_) | (with_reducible refine R_nil ?_; try dsimp only [slots0, slots_ud, pt_all, pt_x, pt_y, cv_all, cv_p, cv_a, cv_b, cv_n, cv_g, cv_gx, pt_len, cv_len, rg_len, ren_rl, rl_all, rl_m, rl_len, rl_nil, pt_nil, ptD_all, ptD_nil, ptD_len, sg_all, sg_r, sg_s, sg_len, cells_U, agg_ud, drop0, dropS, takeS, take0, ud_nil, take_ud, take_ud0, drop_ud, drop_ud0, take_udk, D.cells, D.fz, D.fzs, List.take_succ_cons, List.take_zero, List.drop_succ_cons, List.drop_zero, List.cons_append, List.nil_append, List.append_eq, List.length_cons, List.length_nil, Nat.reduceAdd, Nat.reduceMul, Nat.reduceSub, Int.reduceAdd, Int.reduceSub, Int.reduceToNat, Int.reduceNeg, Int.reduceMul]) | refine q_blocky rfl ?_ | refine W_plain rfl ?_ | refine W_drawn mixed rfl ?_ | refine and_chk (by kernel_rfl) ?_ | refine k_add rfl rfl rfl h3 ?_ | refine k_move rfl rfl ?_ | refine k_assign rfl rfl ?_ | refine k_mul rfl rfl rfl h1 ?_ | (refine k_quo rfl rfl rfl ?_ h2 ?_; (decide)) | refine k_pickT rfl rfl rfl ?_ | refine k_pickF rfl rfl rfl ?_ | (refine k_addi rfl rfl rfl ?_ ?_; (omega)) | (refine k_lssT rfl rfl rfl ?_ ?_; (omega)) | (refine k_lssF rfl rfl rfl ?_ ?_; (omega)) | (refine k_gtrT rfl rfl rfl ?_ ?_; (omega)) | (refine k_gtrF rfl rfl rfl ?_ ?_; (omega)) | refine k_skip rfl ?_ | refine k_skip0 rfl ?_ | refine k_pick rfl rfl rfl rfl rfl ?_ | refine W_yes rfl ?_ | refine W_no rfl ?_)
  (first | with_reducible refine q_endr ?_ | with_reducible refine q_endn ?_); refine rets2 Tryd.results26 (by first | exact RetV.tmp _ _ rfl | exact RetV.cell _ _ _ _ _ _ _ _ inferInstance rfl rfl rfl) (by first | exact RetV.tmp _ _ rfl | exact RetV.cell _ _ _ _ _ _ _ _ inferInstance rfl rfl rfl) ?_ ?_
  · rfl
  · rfl
section
variable {p b n gx gy : Nat} {T : Nat → P3}
/-- what is known of a signature -/
def EOk (p b n gx gy : Nat) (l : List UInt8) (K : List (List UInt8)) (e : QE) : Prop := ∃ k, K[e.w]? = some k ∧
  ((e.good = false ∧ Pur Tryd.prog 19 [.agg (cv p 0 b n gx gy false), .agg (bs l), .agg (sg e.r e.s e.o)] (.tup [.agg (pt 0 0 false), .int .i64 10])) ∨
   ∃ x y f, Pur Tryd.prog 19 [.agg (cv p 0 b n gx gy false), .agg (bs l), .agg (sg e.r e.s e.o)] (.tup [.agg (pt x y f), .int .i64 0]) ∧ e.good = decide (keyN x y = k))
set_option maxHeartbeats 16000000 in
theorem QCheck_ok (G : Grp p b n gx gy T) (l : List UInt8) (hl : l.length = 32) (K : List (List UInt8)) (hK : ∀ k ∈ K, k.length = 20) (nk : Nat) (hnk : K.length = nk) (h1 : 1 ≤ nk) (h19 : nk ≤ 19) (es : List QE) (hes : ∀ e ∈ es, EOk p b n gx gy l K e) (ne : Nat) (hne : es.length = ne) (hsm : ne ≤ 1000) (hneed : 2 * nk / 3 + 1 ≤ ne) (ix un R : Int) (hR : chkR (-1) es = R) :
    Pur Tryd.prog 27 [.agg (cv p 0 b n gx gy false), .agg [.int .i64 ix, .slice .frozen nk (ksC K), .int .i64 un], .agg (bs l), .slice .frozen ne (esC es)] (.int .i64 R) := by
  have nd := Need_ok nk _ h19 rfl
  generalize hm : 2 * nk / 3 + 1 = m at *
  have hcc := Check_ok G.good
  have hwl := b_cut hl
  have hkl : nk * 20 = (ksC K).length := by rw [ks_len K hK, hnk]
  have hel : ne * 10 = (esC es).length := by rw [esC_len, hne]
  have kcut := ks_cut K hK
  have ecut := esC_cut es
  generalize ksC K = kz at *
  generalize esC es = ez at *
  refine pur_intro Tryd.func27 rfl Tryd.ntmps27 rfl (by first | rfl | assumption | exact bs_cl _) fun B => ?_
  repeat (first | with_reducible (first | refine W_seq ?_ | refine q_then ?_ | refine q_thenr ?_ | refine q_thenx ?_ | refine W_block ?_ | refine q_block ?_ | refine q_blockr ?_ | refine q_blockx ?_ | refine W_ret ?_ | refine W_skip ?_ | refine W_label ?_ | refine W_exit ?_ | refine W_scope ?_ | refine q_scope ?_ | refine q_scoper ?_ | refine q_scopex ?_) | (with_reducible refine R_nil ?_; try dsimp only [slots0, slots_ud, pt_all, pt_x, pt_y, cv_all, cv_p, cv_a, cv_b, cv_n, cv_g, cv_gx, pt_len, cv_len, rg_len, ren_rl, rl_all, rl_m, rl_len, rl_nil, pt_nil, ptD_all, ptD_nil, ptD_len, sg_all, sg_r, sg_s, sg_len, cells_U, agg_ud, drop0, dropS, takeS, take0, ud_nil, take_ud, take_ud0, drop_ud, drop_ud0, take_udk, D.cells, D.fz, D.fzs, List.take_succ_cons, List.take_zero, List.drop_succ_cons, List.drop_zero, List.cons_append, List.nil_append, List.append_eq, List.length_cons, List.length_nil, Nat.reduceAdd, Nat.reduceMul, Nat.reduceSub, Int.reduceAdd, Int.reduceSub, Int.reduceToNat, Int.reduceNeg, Int.reduceMul]) | refine q_blocky rfl ?_ | refine W_plain rfl ?_ | refine W_drawn mixed rfl ?_ | refine and_chk (by kernel_rfl) ?_ | refine k_move rfl rfl ?_ | refine k_assign rfl rfl ?_ | refine k_load rfl rfl rfl rfl ?_ | refine k_alloc rfl ?_ | refine k_box rfl rfl rfl ?_ | refine k_store rfl rfl rfl rfl rfl rfl rfl ?_ | refine k_extract rfl rfl rfl ?_ | refine k_fieldAddr rfl rfl rfl ?_ | refine k_call rfl hcc rfl rfl rfl rfl ?_ | refine k_call rfl nd rfl rfl rfl rfl ?_ | (refine k_append rfl rfl rfl ?_ ?_ ?_ rfl ?_ rfl rfl rfl ?_; (first | rfl | exact trivial | (show 0 < _; omega)); (first | rfl | (simp <;> omega)); (first | rfl | (simp <;> omega)); (omega)) | (refine k_slice rfl rfl rfl rfl ⟨?_, ?_, ?_⟩ rfl rfl rfl ?_; (omega); (omega); (omega)) | (refine k_slice3 rfl rfl rfl rfl rfl ⟨?_, ?_, ?_⟩ rfl rfl rfl ?_; (omega); (omega); (omega)) | (refine k_sliceA rfl rfl rfl rfl ⟨?_, ?_, ?_, ?_⟩ rfl rfl ?_; (omega); (omega); (omega); (omega)) | (refine k_sliceE rfl rfl rfl rfl ⟨?_, ?_, ?_, ?_⟩ rfl rfl rfl rfl ?_; (omega); (omega); (omega); (omega)) | (refine k_indexAddr rfl rfl rfl ⟨?_, ?_⟩ ?_; (omega); (omega)) | (refine k_indexAddrs rfl rfl rfl ⟨?_, ?_⟩ rfl ?_; (omega); (omega)) | refine k_loade rfl rfl rfl ?_ | refine k_fieldAddre rfl rfl rfl rfl ?_ | refine k_len rfl rfl ?_ | refine k_pickT rfl rfl rfl ?_ | refine k_pickF rfl rfl rfl ?_ | (refine k_addi rfl rfl rfl ?_ ?_; (omega)) | (refine k_lssT rfl rfl rfl ?_ ?_; (omega)) | (refine k_lssF rfl rfl rfl ?_ ?_; (omega)) | (refine k_leqT rfl rfl rfl ?_ ?_; (omega)) | (refine k_leqF rfl rfl rfl ?_ ?_; (omega)) | (refine k_gtrT rfl rfl rfl ?_ ?_; (omega)) | (refine k_gtrF rfl rfl rfl ?_ ?_; (omega)) | (refine k_geqT rfl rfl rfl ?_ ?_; (omega)) | (refine k_geqF rfl rfl rfl ?_ ?_; (omega)) | (refine k_neqT rfl rfl rfl ?_ ?_; (omega)) | (refine k_neqF rfl rfl rfl ?_ ?_; (omega)) | refine k_nea rfl rfl rfl rfl rfl rfl ?_ | refine k_skip rfl ?_ | refine k_skip0 rfl ?_ | refine k_pick rfl rfl rfl rfl rfl ?_ | refine W_yes rfl ?_ | refine W_no rfl ?_)
  refine W_loop (fun n' ρ m nx => ∃ (j : Nat) (last : Int), j ≤ ne ∧ chkR last (es.drop j) = R ∧ n' = ne - j ∧ ρ = [(43, .int .i64 (j : Int)), (42, .int .i64 (ne : Int)), (41, .slice .frozen ne ez), (13, .int .i64 last), (10, .int .i64 (nk : Int)), (8, .int .i64 0), (6, .ptr 2 0), (5, .ptr 1 0), (4, .ptr 0 0)] ∧ m = [(2, some (.var 48 (bs l))), (1, some (.var 63 [.int .i64 ix, .slice .frozen nk kz, .int .i64 un])), (0, some (.var 28 (cv p 0 b n gx gy false)))] ∧ nx = 3)
    ⟨_, _, _, _, (by repeat (first | exact trivial | refine ⟨⟨rfl, rfl⟩, ?_⟩ | refine ⟨⟨rfl, bs_bel _ _⟩, ?_⟩ | refine ⟨⟨rfl, arr_bels _ _ _⟩, ?_⟩)), (by repeat (first | exact trivial | refine ⟨⟨rfl, rfl, rfl⟩, ?_⟩ | refine ⟨⟨rfl, rfl, bs_bels _ _⟩, ?_⟩ | refine ⟨⟨rfl, rfl, arr_bels _ _ _⟩, ?_⟩)), 0, -1, Nat.zero_le _, hR, rfl, rfl, rfl, rfl⟩ ?_
  rintro n' ρ m nx ⟨j, last, hj, hR', rfl, rfl, rfl, rfl⟩
  by_cases hlt : j < ne
  · obtain ⟨e, he⟩ : ∃ e, es[j]? = some e := ⟨_, List.getElem?_eq_getElem (by omega)⟩
    have hcut := ecut j e he
    obtain ⟨k, hk, hcase⟩ := hes e (List.mem_of_getElem? he)
    have hwk : e.w < nk := by rw [← hnk]; exact (List.getElem?_eq_some_iff.1 hk).1
    have hkc := kcut e.w k hk
    have hk20 := hK k (List.mem_of_getElem? hk)
    have hdr : es.drop j = e :: es.drop (j + 1) := by
      have hlt' := (List.getElem?_eq_some_iff.1 he).1
      rw [List.drop_eq_getElem_cons hlt', (List.getElem?_eq_some_iff.1 he).2]
    rw [hdr] at hR'
    have hR2 : (if (e.w : Int) ≤ last then 3 else if e.good then chkR e.w (es.drop (j + 1)) else 10) = R := hR'
    clear hR' hdr he hk hes ecut kcut hR
    obtain ⟨w, r, s, o, g⟩ := e
    simp only at hcut hwk hkc hR2 hcase
    replace hcut : ∀ ze, cut ⟨true, 10, ze⟩ 0 (ez.drop ((j : Int).toNat * 10)) = some (.agg (.int .i64 w :: sg r s o)) := hcut
    have h0 : decide ((w : Int) < 0) = false := by simp
    have hge : decide ((w : Int) ≥ nk) = false := by simp; omega
    by_cases hlw : (w : Int) ≤ last
    · rw [if_pos hlw] at hR2
      subst hR2
      have hle : decide ((w : Int) ≤ last) = true := by simpa using hlw
      repeat (first | with_reducible (first | refine W_seq ?_ | refine q_then ?_ | refine q_thenr ?_ | refine q_thenx ?_ | refine W_block ?_ | refine q_block ?_ | refine q_blockr ?_ | refine q_blockx ?_ | refine W_ret ?_ | refine W_skip ?_ | refine W_label ?_ | refine W_exit ?_ | refine W_scope ?_ | refine q_scope ?_ | refine q_scoper ?_ | refine q_scopex ?_) | (with_reducible refine R_nil ?_; try dsimp only [slots0, slots_ud, pt_all, pt_x, pt_y, cv_all, cv_p, cv_a, cv_b, cv_n, cv_g, cv_gx, pt_len, cv_len, rg_len, ren_rl, rl_all, rl_m, rl_len, rl_nil, pt_nil, ptD_all, ptD_nil, ptD_len, sg_all, sg_r, sg_s, sg_len, cells_U, agg_ud, drop0, dropS, takeS, take0, ud_nil, take_ud, take_ud0, drop_ud, drop_ud0, take_udk, D.cells, D.fz, D.fzs, List.take_succ_cons, List.take_zero, List.drop_succ_cons, List.drop_zero, List.cons_append, List.nil_append, List.append_eq, List.length_cons, List.length_nil, Nat.reduceAdd, Nat.reduceMul, Nat.reduceSub, Int.reduceAdd, Int.reduceSub, Int.reduceToNat, Int.reduceNeg, Int.reduceMul]) | refine q_blocky rfl ?_ | refine W_plain rfl ?_ | refine W_drawn mixed rfl ?_ | refine and_chk (by kernel_rfl) ?_ | (refine k_indexAddrs rfl rfl rfl ⟨?_, ?_⟩ hel ?_; (omega); (omega)) | refine k_loade rfl rfl (hcut _) ?_ | refine k_load rfl rfl rfl (hwl _) ?_ | refine k_move rfl rfl ?_ | refine k_assign rfl rfl ?_ | refine k_load rfl rfl rfl rfl ?_ | refine k_alloc rfl ?_ | refine k_box rfl rfl rfl ?_ | refine k_store rfl rfl rfl rfl rfl rfl rfl ?_ | refine k_extract rfl rfl rfl ?_ | refine k_fieldAddr rfl rfl rfl ?_ | refine k_lss rfl rfl rfl h0 ?_ | refine k_geq rfl rfl rfl hge ?_ | refine k_leq rfl rfl rfl hle ?_ | (refine k_append rfl rfl rfl ?_ ?_ ?_ rfl ?_ rfl rfl rfl ?_; (first | rfl | exact trivial | (show 0 < _; omega)); (first | rfl | (simp <;> omega)); (first | rfl | (simp <;> omega)); (omega)) | (refine k_slice rfl rfl rfl rfl ⟨?_, ?_, ?_⟩ rfl rfl rfl ?_; (omega); (omega); (omega)) | (refine k_slice3 rfl rfl rfl rfl rfl ⟨?_, ?_, ?_⟩ rfl rfl rfl ?_; (omega); (omega); (omega)) | (refine k_sliceA rfl rfl rfl rfl ⟨?_, ?_, ?_, ?_⟩ rfl rfl ?_; (omega); (omega); (omega); (omega)) | (refine k_sliceE rfl rfl rfl rfl ⟨?_, ?_, ?_, ?_⟩ rfl rfl rfl rfl ?_; (omega); (omega); (omega); (omega)) | (refine k_indexAddr rfl rfl rfl ⟨?_, ?_⟩ ?_; (omega); (omega)) | (refine k_indexAddrs rfl rfl rfl ⟨?_, ?_⟩ rfl ?_; (omega); (omega)) | refine k_loade rfl rfl rfl ?_ | refine k_fieldAddre rfl rfl rfl rfl ?_ | refine k_len rfl rfl ?_ | refine k_pickT rfl rfl rfl ?_ | refine k_pickF rfl rfl rfl ?_ | (refine k_addi rfl rfl rfl ?_ ?_; (omega)) | (refine k_lssT rfl rfl rfl ?_ ?_; (omega)) | (refine k_lssF rfl rfl rfl ?_ ?_; (omega)) | (refine k_leqT rfl rfl rfl ?_ ?_; (omega)) | (refine k_leqF rfl rfl rfl ?_ ?_; (omega)) | (refine k_gtrT rfl rfl rfl ?_ ?_; (omega)) | (refine k_gtrF rfl rfl rfl ?_ ?_; (omega)) | (refine k_geqT rfl rfl rfl ?_ ?_; (omega)) | (refine k_geqF rfl rfl rfl ?_ ?_; (omega)) | (refine k_neqT rfl rfl rfl ?_ ?_; (omega)) | (refine k_neqF rfl rfl rfl ?_ ?_; (omega)) | refine k_nea rfl rfl rfl rfl rfl rfl ?_ | refine k_skip rfl ?_ | refine k_skip0 rfl ?_ | refine k_pick rfl rfl rfl rfl rfl ?_ | refine W_yes rfl ?_ | refine W_no rfl ?_)
      (first | with_reducible refine q_endr ?_ | with_reducible refine q_endn ?_); refine rets1 Tryd.results27 (by first | exact RetV.tmp _ _ rfl | exact RetV.cell _ _ _ _ _ _ _ _ inferInstance rfl rfl rfl) ?_
      rfl
    · rw [if_neg hlw] at hR2
      have hle : decide ((w : Int) ≤ last) = false := by simpa using hlw
      have hf3 := fz3 (cv p 0 b n gx gy false) (sg r s o) l rfl rfl
      have hc3 := cl3 (cv p 0 b n gx gy false) (sg r s o) l rfl rfl
      rcases hcase with ⟨hg, hrc⟩ | ⟨x, y, f, hrc, hg⟩
      · subst hg
        simp only [Bool.false_eq_true, if_false] at hR2
        subst hR2
        repeat (first | with_reducible (first | refine W_seq ?_ | refine q_then ?_ | refine q_thenr ?_ | refine q_thenx ?_ | refine W_block ?_ | refine q_block ?_ | refine q_blockr ?_ | refine q_blockx ?_ | refine W_ret ?_ | refine W_skip ?_ | refine W_label ?_ | refine W_exit ?_ | refine W_scope ?_ | refine q_scope ?_ | refine q_scoper ?_ | refine q_scopex ?_) | (with_reducible refine R_nil ?_; try dsimp only [slots0, slots_ud, pt_all, pt_x, pt_y, cv_all, cv_p, cv_a, cv_b, cv_n, cv_g, cv_gx, pt_len, cv_len, rg_len, ren_rl, rl_all, rl_m, rl_len, rl_nil, pt_nil, ptD_all, ptD_nil, ptD_len, sg_all, sg_r, sg_s, sg_len, cells_U, agg_ud, drop0, dropS, takeS, take0, ud_nil, take_ud, take_ud0, drop_ud, drop_ud0, take_udk, D.cells, D.fz, D.fzs, List.take_succ_cons, List.take_zero, List.drop_succ_cons, List.drop_zero, List.cons_append, List.nil_append, List.append_eq, List.length_cons, List.length_nil, Nat.reduceAdd, Nat.reduceMul, Nat.reduceSub, Int.reduceAdd, Int.reduceSub, Int.reduceToNat, Int.reduceNeg, Int.reduceMul]) | refine q_blocky rfl ?_ | refine W_plain rfl ?_ | refine W_drawn mixed rfl ?_ | refine and_chk (by kernel_rfl) ?_ | (refine k_indexAddrs rfl rfl rfl ⟨?_, ?_⟩ hel ?_; (omega); (omega)) | refine k_loade rfl rfl (hcut _) ?_ | refine k_load rfl rfl rfl (hwl _) ?_ | refine k_move rfl rfl ?_ | refine k_assign rfl rfl ?_ | refine k_load rfl rfl rfl rfl ?_ | refine k_alloc rfl ?_ | refine k_box rfl rfl rfl ?_ | refine k_store rfl rfl rfl rfl rfl rfl rfl ?_ | refine k_extract rfl rfl rfl ?_ | refine k_fieldAddr rfl rfl rfl ?_ | refine k_lss rfl rfl rfl h0 ?_ | refine k_geq rfl rfl rfl hge ?_ | refine k_leq rfl rfl rfl hle ?_ | refine k_call rfl hrc rfl hf3 hc3 rfl ?_ | (refine k_append rfl rfl rfl ?_ ?_ ?_ rfl ?_ rfl rfl rfl ?_; (first | rfl | exact trivial | (show 0 < _; omega)); (first | rfl | (simp <;> omega)); (first | rfl | (simp <;> omega)); (omega)) | (refine k_slice rfl rfl rfl rfl ⟨?_, ?_, ?_⟩ rfl rfl rfl ?_; (omega); (omega); (omega)) | (refine k_slice3 rfl rfl rfl rfl rfl ⟨?_, ?_, ?_⟩ rfl rfl rfl ?_; (omega); (omega); (omega)) | (refine k_sliceA rfl rfl rfl rfl ⟨?_, ?_, ?_, ?_⟩ rfl rfl ?_; (omega); (omega); (omega); (omega)) | (refine k_sliceE rfl rfl rfl rfl ⟨?_, ?_, ?_, ?_⟩ rfl rfl rfl rfl ?_; (omega); (omega); (omega); (omega)) | (refine k_indexAddr rfl rfl rfl ⟨?_, ?_⟩ ?_; (omega); (omega)) | (refine k_indexAddrs rfl rfl rfl ⟨?_, ?_⟩ rfl ?_; (omega); (omega)) | refine k_loade rfl rfl rfl ?_ | refine k_fieldAddre rfl rfl rfl rfl ?_ | refine k_len rfl rfl ?_ | refine k_pickT rfl rfl rfl ?_ | refine k_pickF rfl rfl rfl ?_ | (refine k_addi rfl rfl rfl ?_ ?_; (omega)) | (refine k_lssT rfl rfl rfl ?_ ?_; (omega)) | (refine k_lssF rfl rfl rfl ?_ ?_; (omega)) | (refine k_leqT rfl rfl rfl ?_ ?_; (omega)) | (refine k_leqF rfl rfl rfl ?_ ?_; (omega)) | (refine k_gtrT rfl rfl rfl ?_ ?_; (omega)) | (refine k_gtrF rfl rfl rfl ?_ ?_; (omega)) | (refine k_geqT rfl rfl rfl ?_ ?_; (omega)) | (refine k_geqF rfl rfl rfl ?_ ?_; (omega)) | (refine k_neqT rfl rfl rfl ?_ ?_; (omega)) | (refine k_neqF rfl rfl rfl ?_ ?_; (omega)) | refine k_nea rfl rfl rfl rfl rfl rfl ?_ | refine k_skip rfl ?_ | refine k_skip0 rfl ?_ | refine k_pick rfl rfl rfl rfl rfl ?_ | refine W_yes rfl ?_ | refine W_no rfl ?_)
        (first | with_reducible refine q_endr ?_ | with_reducible refine q_endn ?_); refine rets1 Tryd.results27 (by first | exact RetV.tmp _ _ rfl | exact RetV.cell _ _ _ _ _ _ _ _ inferInstance rfl rfl rfl) ?_
        rfl
      · have hky := KeyOf_ok x y f
        have hZl := keyN_len x y
        have hdq' := deqs_bs (keyN x y) k (by rw [hZl, hk20])
        rw [← hg] at hdq'
        have lk1 := lks_bs 20 (keyN x y) hZl
        have lk2 := lks_bs 20 k hk20
        generalize keyN x y = Z at *
        clear hg
        cases g with
        | false =>
          simp only [Bool.false_eq_true, if_false] at hR2
          subst hR2
          have hdq : (!deqs (bs Z) (bs k)) = true := by rw [hdq']; rfl
          repeat (first | with_reducible (first | refine W_seq ?_ | refine q_then ?_ | refine q_thenr ?_ | refine q_thenx ?_ | refine W_block ?_ | refine q_block ?_ | refine q_blockr ?_ | refine q_blockx ?_ | refine W_ret ?_ | refine W_skip ?_ | refine W_label ?_ | refine W_exit ?_ | refine W_scope ?_ | refine q_scope ?_ | refine q_scoper ?_ | refine q_scopex ?_) | (with_reducible refine R_nil ?_; try dsimp only [slots0, slots_ud, pt_all, pt_x, pt_y, cv_all, cv_p, cv_a, cv_b, cv_n, cv_g, cv_gx, pt_len, cv_len, rg_len, ren_rl, rl_all, rl_m, rl_len, rl_nil, pt_nil, ptD_all, ptD_nil, ptD_len, sg_all, sg_r, sg_s, sg_len, cells_U, agg_ud, drop0, dropS, takeS, take0, ud_nil, take_ud, take_ud0, drop_ud, drop_ud0, take_udk, D.cells, D.fz, D.fzs, List.take_succ_cons, List.take_zero, List.drop_succ_cons, List.drop_zero, List.cons_append, List.nil_append, List.append_eq, List.length_cons, List.length_nil, Nat.reduceAdd, Nat.reduceMul, Nat.reduceSub, Int.reduceAdd, Int.reduceSub, Int.reduceToNat, Int.reduceNeg, Int.reduceMul]) | refine q_blocky rfl ?_ | refine W_plain rfl ?_ | refine W_drawn mixed rfl ?_ | refine and_chk (by kernel_rfl) ?_ | (refine k_indexAddrs rfl rfl rfl ⟨?_, ?_⟩ hel ?_; (omega); (omega)) | refine k_loade rfl rfl (hcut _) ?_ | refine k_load rfl rfl rfl (hwl _) ?_ | (refine k_indexAddrs rfl rfl rfl ⟨?_, ?_⟩ hkl ?_; (omega); (omega)) | refine k_loade rfl rfl (hkc _) ?_ | refine k_move rfl rfl ?_ | refine k_assign rfl rfl ?_ | refine k_load rfl rfl rfl rfl ?_ | refine k_alloc rfl ?_ | refine k_box rfl rfl rfl ?_ | refine k_store rfl rfl rfl rfl rfl rfl rfl ?_ | refine k_extract rfl rfl rfl ?_ | refine k_fieldAddr rfl rfl rfl ?_ | refine k_lss rfl rfl rfl h0 ?_ | refine k_geq rfl rfl rfl hge ?_ | refine k_leq rfl rfl rfl hle ?_ | refine k_call rfl hrc rfl hf3 hc3 rfl ?_ | refine k_call rfl hky rfl rfl rfl (bs_cl _) ?_ | refine k_nea rfl rfl rfl lk1 lk2 hdq ?_ | (refine k_append rfl rfl rfl ?_ ?_ ?_ rfl ?_ rfl rfl rfl ?_; (first | rfl | exact trivial | (show 0 < _; omega)); (first | rfl | (simp <;> omega)); (first | rfl | (simp <;> omega)); (omega)) | (refine k_slice rfl rfl rfl rfl ⟨?_, ?_, ?_⟩ rfl rfl rfl ?_; (omega); (omega); (omega)) | (refine k_slice3 rfl rfl rfl rfl rfl ⟨?_, ?_, ?_⟩ rfl rfl rfl ?_; (omega); (omega); (omega)) | (refine k_sliceA rfl rfl rfl rfl ⟨?_, ?_, ?_, ?_⟩ rfl rfl ?_; (omega); (omega); (omega); (omega)) | (refine k_sliceE rfl rfl rfl rfl ⟨?_, ?_, ?_, ?_⟩ rfl rfl rfl rfl ?_; (omega); (omega); (omega); (omega)) | (refine k_indexAddr rfl rfl rfl ⟨?_, ?_⟩ ?_; (omega); (omega)) | (refine k_indexAddrs rfl rfl rfl ⟨?_, ?_⟩ rfl ?_; (omega); (omega)) | refine k_loade rfl rfl rfl ?_ | refine k_fieldAddre rfl rfl rfl rfl ?_ | refine k_len rfl rfl ?_ | refine k_pickT rfl rfl rfl ?_ | refine k_pickF rfl rfl rfl ?_ | (refine k_addi rfl rfl rfl ?_ ?_; (omega)) | (refine k_lssT rfl rfl rfl ?_ ?_; (omega)) | (refine k_lssF rfl rfl rfl ?_ ?_; (omega)) | (refine k_leqT rfl rfl rfl ?_ ?_; (omega)) | (refine k_leqF rfl rfl rfl ?_ ?_; (omega)) | (refine k_gtrT rfl rfl rfl ?_ ?_; (omega)) | (refine k_gtrF rfl rfl rfl ?_ ?_; (omega)) | (refine k_geqT rfl rfl rfl ?_ ?_; (omega)) | (refine k_geqF rfl rfl rfl ?_ ?_; (omega)) | (refine k_neqT rfl rfl rfl ?_ ?_; (omega)) | (refine k_neqF rfl rfl rfl ?_ ?_; (omega)) | refine k_nea rfl rfl rfl rfl rfl rfl ?_ | refine k_skip rfl ?_ | refine k_skip0 rfl ?_ | refine k_pick rfl rfl rfl rfl rfl ?_ | refine W_yes rfl ?_ | refine W_no rfl ?_)
          (first | with_reducible refine q_endr ?_ | with_reducible refine q_endn ?_); refine rets1 Tryd.results27 (by first | exact RetV.tmp _ _ rfl | exact RetV.cell _ _ _ _ _ _ _ _ inferInstance rfl rfl rfl) ?_
          rfl
        | true =>
          simp only [if_true] at hR2
          have hdq : (!deqs (bs Z) (bs k)) = false := by rw [hdq']; rfl
          repeat (first | with_reducible (first | refine W_seq ?_ | refine q_then ?_ | refine q_thenr ?_ | refine q_thenx ?_ | refine W_block ?_ | refine q_block ?_ | refine q_blockr ?_ | refine q_blockx ?_ | refine W_ret ?_ | refine W_skip ?_ | refine W_label ?_ | refine W_exit ?_ | refine W_scope ?_ | refine q_scope ?_ | refine q_scoper ?_ | refine q_scopex ?_) | (with_reducible refine R_nil ?_; try dsimp only [slots0, slots_ud, pt_all, pt_x, pt_y, cv_all, cv_p, cv_a, cv_b, cv_n, cv_g, cv_gx, pt_len, cv_len, rg_len, ren_rl, rl_all, rl_m, rl_len, rl_nil, pt_nil, ptD_all, ptD_nil, ptD_len, sg_all, sg_r, sg_s, sg_len, cells_U, agg_ud, drop0, dropS, takeS, take0, ud_nil, take_ud, take_ud0, drop_ud, drop_ud0, take_udk, D.cells, D.fz, D.fzs, List.take_succ_cons, List.take_zero, List.drop_succ_cons, List.drop_zero, List.cons_append, List.nil_append, List.append_eq, List.length_cons, List.length_nil, Nat.reduceAdd, Nat.reduceMul, Nat.reduceSub, Int.reduceAdd, Int.reduceSub, Int.reduceToNat, Int.reduceNeg, Int.reduceMul]) | refine q_blocky rfl ?_ | refine W_plain rfl ?_ | refine W_drawn mixed rfl ?_ | refine and_chk (by kernel_rfl) ?_ | (refine k_indexAddrs rfl rfl rfl ⟨?_, ?_⟩ hel ?_; (omega); (omega)) | refine k_loade rfl rfl (hcut _) ?_ | refine k_load rfl rfl rfl (hwl _) ?_ | (refine k_indexAddrs rfl rfl rfl ⟨?_, ?_⟩ hkl ?_; (omega); (omega)) | refine k_loade rfl rfl (hkc _) ?_ | refine k_move rfl rfl ?_ | refine k_assign rfl rfl ?_ | refine k_load rfl rfl rfl rfl ?_ | refine k_alloc rfl ?_ | refine k_box rfl rfl rfl ?_ | refine k_store rfl rfl rfl rfl rfl rfl rfl ?_ | refine k_extract rfl rfl rfl ?_ | refine k_fieldAddr rfl rfl rfl ?_ | refine k_lss rfl rfl rfl h0 ?_ | refine k_geq rfl rfl rfl hge ?_ | refine k_leq rfl rfl rfl hle ?_ | refine k_call rfl hrc rfl hf3 hc3 rfl ?_ | refine k_call rfl hky rfl rfl rfl (bs_cl _) ?_ | refine k_nea rfl rfl rfl lk1 lk2 hdq ?_ | (refine k_append rfl rfl rfl ?_ ?_ ?_ rfl ?_ rfl rfl rfl ?_; (first | rfl | exact trivial | (show 0 < _; omega)); (first | rfl | (simp <;> omega)); (first | rfl | (simp <;> omega)); (omega)) | (refine k_slice rfl rfl rfl rfl ⟨?_, ?_, ?_⟩ rfl rfl rfl ?_; (omega); (omega); (omega)) | (refine k_slice3 rfl rfl rfl rfl rfl ⟨?_, ?_, ?_⟩ rfl rfl rfl ?_; (omega); (omega); (omega)) | (refine k_sliceA rfl rfl rfl rfl ⟨?_, ?_, ?_, ?_⟩ rfl rfl ?_; (omega); (omega); (omega); (omega)) | (refine k_sliceE rfl rfl rfl rfl ⟨?_, ?_, ?_, ?_⟩ rfl rfl rfl rfl ?_; (omega); (omega); (omega); (omega)) | (refine k_indexAddr rfl rfl rfl ⟨?_, ?_⟩ ?_; (omega); (omega)) | (refine k_indexAddrs rfl rfl rfl ⟨?_, ?_⟩ rfl ?_; (omega); (omega)) | refine k_loade rfl rfl rfl ?_ | refine k_fieldAddre rfl rfl rfl rfl ?_ | refine k_len rfl rfl ?_ | refine k_pickT rfl rfl rfl ?_ | refine k_pickF rfl rfl rfl ?_ | (refine k_addi rfl rfl rfl ?_ ?_; (omega)) | (refine k_lssT rfl rfl rfl ?_ ?_; (omega)) | (refine k_lssF rfl rfl rfl ?_ ?_; (omega)) | (refine k_leqT rfl rfl rfl ?_ ?_; (omega)) | (refine k_leqF rfl rfl rfl ?_ ?_; (omega)) | (refine k_gtrT rfl rfl rfl ?_ ?_; (omega)) | (refine k_gtrF rfl rfl rfl ?_ ?_; (omega)) | (refine k_geqT rfl rfl rfl ?_ ?_; (omega)) | (refine k_geqF rfl rfl rfl ?_ ?_; (omega)) | (refine k_neqT rfl rfl rfl ?_ ?_; (omega)) | (refine k_neqF rfl rfl rfl ?_ ?_; (omega)) | refine k_nea rfl rfl rfl rfl rfl rfl ?_ | refine k_skip rfl ?_ | refine k_skip0 rfl ?_ | refine k_pick rfl rfl rfl rfl rfl ?_ | refine W_yes rfl ?_ | refine W_no rfl ?_)
          exact ⟨ne - (j + 1), _, _, _, (by repeat (first | exact trivial | refine ⟨⟨rfl, rfl⟩, ?_⟩ | refine ⟨⟨rfl, bs_bel _ _⟩, ?_⟩ | refine ⟨⟨rfl, arr_bels _ _ _⟩, ?_⟩)), (by repeat (first | exact trivial | refine ⟨⟨rfl, rfl, rfl⟩, ?_⟩ | refine ⟨⟨rfl, rfl, bs_bels _ _⟩, ?_⟩ | refine ⟨⟨rfl, rfl, arr_bels _ _ _⟩, ?_⟩)), by omega, j + 1, _, by omega, hR2, rfl, rfl, rfl, rfl⟩
  · have ej : j = ne := by omega
    subst ej
    rw [List.drop_of_length_le (by omega)] at hR'
    have : R = 0 := hR'.symm
    subst this
    repeat (first | with_reducible (first | refine W_seq ?_ | refine q_then ?_ | refine q_thenr ?_ | refine q_thenx ?_ | refine W_block ?_ | refine q_block ?_ | refine q_blockr ?_ | refine q_blockx ?_ | refine W_ret ?_ | refine W_skip ?_ | refine W_label ?_ | refine W_exit ?_ | refine W_scope ?_ | refine q_scope ?_ | refine q_scoper ?_ | refine q_scopex ?_) | (with_reducible refine R_nil ?_; try dsimp only [slots0, slots_ud, pt_all, pt_x, pt_y, cv_all, cv_p, cv_a, cv_b, cv_n, cv_g, cv_gx, pt_len, cv_len, rg_len, ren_rl, rl_all, rl_m, rl_len, rl_nil, pt_nil, ptD_all, ptD_nil, ptD_len, sg_all, sg_r, sg_s, sg_len, cells_U, agg_ud, drop0, dropS, takeS, take0, ud_nil, take_ud, take_ud0, drop_ud, drop_ud0, take_udk, D.cells, D.fz, D.fzs, List.take_succ_cons, List.take_zero, List.drop_succ_cons, List.drop_zero, List.cons_append, List.nil_append, List.append_eq, List.length_cons, List.length_nil, Nat.reduceAdd, Nat.reduceMul, Nat.reduceSub, Int.reduceAdd, Int.reduceSub, Int.reduceToNat, Int.reduceNeg, Int.reduceMul]) | refine q_blocky rfl ?_ | refine W_plain rfl ?_ | refine W_drawn mixed rfl ?_ | refine and_chk (by kernel_rfl) ?_ | refine k_move rfl rfl ?_ | refine k_assign rfl rfl ?_ | refine k_load rfl rfl rfl rfl ?_ | refine k_alloc rfl ?_ | refine k_box rfl rfl rfl ?_ | refine k_store rfl rfl rfl rfl rfl rfl rfl ?_ | refine k_extract rfl rfl rfl ?_ | refine k_fieldAddr rfl rfl rfl ?_ | (refine k_append rfl rfl rfl ?_ ?_ ?_ rfl ?_ rfl rfl rfl ?_; (first | rfl | exact trivial | (show 0 < _; omega)); (first | rfl | (simp <;> omega)); (first | rfl | (simp <;> omega)); (omega)) | (refine k_slice rfl rfl rfl rfl ⟨?_, ?_, ?_⟩ rfl rfl rfl ?_; (omega); (omega); (omega)) | (refine k_slice3 rfl rfl rfl rfl rfl ⟨?_, ?_, ?_⟩ rfl rfl rfl ?_; (omega); (omega); (omega)) | (refine k_sliceA rfl rfl rfl rfl ⟨?_, ?_, ?_, ?_⟩ rfl rfl ?_; (omega); (omega); (omega); (omega)) | (refine k_sliceE rfl rfl rfl rfl ⟨?_, ?_, ?_, ?_⟩ rfl rfl rfl rfl ?_; (omega); (omega); (omega); (omega)) | (refine k_indexAddr rfl rfl rfl ⟨?_, ?_⟩ ?_; (omega); (omega)) | (refine k_indexAddrs rfl rfl rfl ⟨?_, ?_⟩ rfl ?_; (omega); (omega)) | refine k_loade rfl rfl rfl ?_ | refine k_fieldAddre rfl rfl rfl rfl ?_ | refine k_len rfl rfl ?_ | refine k_pickT rfl rfl rfl ?_ | refine k_pickF rfl rfl rfl ?_ | (refine k_addi rfl rfl rfl ?_ ?_; (omega)) | (refine k_lssT rfl rfl rfl ?_ ?_; (omega)) | (refine k_lssF rfl rfl rfl ?_ ?_; (omega)) | (refine k_leqT rfl rfl rfl ?_ ?_; (omega)) | (refine k_leqF rfl rfl rfl ?_ ?_; (omega)) | (refine k_gtrT rfl rfl rfl ?_ ?_; (omega)) | (refine k_gtrF rfl rfl rfl ?_ ?_; (omega)) | (refine k_geqT rfl rfl rfl ?_ ?_; (omega)) | (refine k_geqF rfl rfl rfl ?_ ?_; (omega)) | (refine k_neqT rfl rfl rfl ?_ ?_; (omega)) | (refine k_neqF rfl rfl rfl ?_ ?_; (omega)) | refine k_nea rfl rfl rfl rfl rfl rfl ?_ | refine k_skip rfl ?_ | refine k_skip0 rfl ?_ | refine k_pick rfl rfl rfl rfl rfl ?_ | refine W_yes rfl ?_ | refine W_no rfl ?_)
    (first | with_reducible refine q_endr ?_ | with_reducible refine q_endn ?_); refine rets1 Tryd.results27 (by first | exact RetV.tmp _ _ rfl | exact RetV.cell _ _ _ _ _ _ _ _ inferInstance rfl rfl rfl) ?_
    rfl
end
end Go.Proofs.YtpdhbddkcnffbaaDoor
