/- SignOne: of the two signatures that fit the lower one is right, and the other one isn't. Conditions: none but what the card says of the tables. -/
import Derived.Test.YtpdhbddkcnffbaaDoorSgn5
import Derived.Test.YtpdhbddkcnffbaaDoorRowD
import Derived.Test.YtpdhbddkcnffbaaDoorRowH
namespace Go.Proofs.YtpdhbddkcnffbaaDoor.signOne
open Go.ChangeShapes Go.WideShapes Go.RowKit Go.Joins Go.Lib
set_option linter.unusedVariables false
open Go.Proofs.YtpdhbddkcnffbaaDoor
set_option maxRecDepth 100000
--nrm pt_all pt_x pt_y cv_all cv_p cv_a cv_b cv_n cv_g cv_gx pt_len cv_len rg_len ren_rl rl_all rl_m rl_len rl_nil pt_nil ptD_all ptD_nil ptD_len sg_all sg_r sg_s sg_len

set_option maxHeartbeats 8000000 in
theorem pur (zn d' k a' b' : Int) (sx : ByteArray) : Pur Tryd.prog 6 [.int .i64 zn, .int .i64 d', .agg [.int .i64 k, .int .i64 a', .int .i64 b', .str sx]] (.bool true) := by
  obtain ⟨kk, p, cb, n, gx, gy, T, hz, hk, G, hn, h1, hp, E, C, hp2, h30, ⟨hodd, _⟩, t1, t2, t12⟩ := grps4 zn
  have hM : 2000 < M256 := by decide
  have hc := Curve_ok zn kk p cb n gx gy hz hk
  have q0 := Int.emod_nonneg d' (show (n : Int) - 1 ≠ 0 by omega)
  have q1 := Int.emod_lt_of_pos d' (show (0 : Int) < n - 1 by omega)
  obtain ⟨d, ed⟩ : ∃ d : Nat, d' % ((n : Int) - 1) + 1 = d := ⟨_, (Int.toNat_of_nonneg (by omega)).symm⟩
  have hd0 : d ≠ 0 := by omega
  have hdn : d < n := by omega
  have hdm : d % n ≠ 0 := by rw [Nat.mod_eq_of_lt hdn]; exact hd0
  have se := Secret_ok G hn h1 d' d ed
  obtain ⟨z, hzl, su⟩ := sum_ok k a' b' sx
  obtain ⟨r, s, o, i, x, y, sig, mk⟩ := Make_ok G E hn hp hp2 h30 t1 t2 t12 d hd0 hdn z hzl
  have s0 := sig.s0
  have sl := sig.sl
  have o4 : o < 4 := by have := sig.o3; omega
  have hxor := xor_i64 o o4
  obtain ⟨o2, ho2⟩ : ∃ o2, o ^^^ 1 = o2 := ⟨_, rfl⟩
  rw [ho2] at hxor
  obtain ⟨t, ht⟩ : ∃ t, n - s = t := ⟨_, rfl⟩
  have hsb := p_wsub n s t false (by omega) (by omega) (by rw [← ht, show n + M256 - s = (n - s) + M256 from by omega, Nat.add_mod_right, Nat.mod_eq_of_lt (by omega)]) (by simp; omega)
  have hf := formed_high (p := p) (b := cb) (gx := gx) (gy := gy) (n := n) r t (o2 : Int) (by omega) sig.r0 sig.rn (by omega) (by omega)
  have R := rec_form G z r t o2 hf
  have K := chk_form G z r t d o2 hdm hf
  have cm := p_cmp s t (-1) (by omega) (by omega) (cmp_m1 (by omega))
  have po := Point_ok G d hd0 hdn hn
  have st := s_tells
  have hfz3 := fz3 (cv p 0 cb n gx gy false) (sg r t (o2 : Int)) z rfl rfl
  have hcl3 := cl3 (cv p 0 cb n gx gy false) (sg r t (o2 : Int)) z rfl rfl
  have hfm := fzm (cv p 0 cb n gx gy false) (ud d) z rfl rfl
  have hcm := clm (cv p 0 cb n gx gy false) (ud d) z rfl rfl
  generalize T d = q at *
  have hfz4 := fz4 (cv p 0 cb n gx gy false) (ptD q) (sg r t (o2 : Int)) z rfl rfl rfl
  have hcl4 := cl4 (cv p 0 cb n gx gy false) (ptD q) (sg r t (o2 : Int)) z rfl rfl rfl
  refine pur_intro Tryd.func6 rfl Tryd.ntmps6 rfl (by first | rfl | assumption | exact bs_cl _) fun B => ?_
  repeat (first | with_reducible refine W_seq ?_ | with_reducible refine q_then ?_ | with_reducible refine q_thenr ?_ | with_reducible refine q_thenx ?_ | with_reducible refine W_block ?_ | with_reducible refine q_block ?_ | with_reducible refine q_blockr ?_ | with_reducible refine q_blockx ?_ | with_reducible refine W_ret ?_ | with_reducible refine W_skip ?_ | with_reducible refine W_label ?_ | with_reducible refine W_exit ?_ | with_reducible refine W_scope ?_ | with_reducible refine q_scope ?_ | with_reducible refine q_scoper ?_ | with_reducible refine q_scopex ?_ | (with_reducible refine R_nil ?_; try dsimp only [slots0, slots_ud, pt_all, pt_x, pt_y, cv_all, cv_p, cv_a, cv_b, cv_n, cv_g, cv_gx, pt_len, cv_len, rg_len, ren_rl, rl_all, rl_m, rl_len, rl_nil, pt_nil, ptD_all, ptD_nil, ptD_len, sg_all, sg_r, sg_s, sg_len, cells_U, agg_ud, drop0, dropS, takeS, take0, ud_nil, take_ud, take_ud0, drop_ud, drop_ud0, take_udk, D.cells, D.fz, D.fzs, List.take_succ_cons, List.take_zero, List.drop_succ_cons, List.drop_zero, List.cons_append, List.nil_append, List.append_eq, List.length_cons, List.length_nil, Nat.reduceAdd, Nat.reduceMul, Nat.reduceSub, Int.reduceAdd, Int.reduceSub, Int.reduceToNat, Int.reduceNeg, Int.reduceMul]) | refine q_blocky rfl ?_ | refine W_plain rfl ?_ | refine W_drawn mixed rfl ?_ | refine and_chk (by kernel_rfl) ?_ | refine k_move rfl rfl ?_ | refine k_assign rfl rfl ?_ | refine k_load rfl rfl rfl rfl ?_ | refine k_alloc rfl ?_ | refine k_box rfl rfl rfl ?_ | refine k_store rfl rfl rfl rfl rfl rfl rfl ?_ | refine k_extract rfl rfl rfl ?_ | refine k_fieldAddr rfl rfl rfl ?_ | refine k_field rfl rfl rfl ?_ | refine k_build rfl rfl rfl ?_ | refine k_call rfl hc rfl rfl rfl rfl ?_ | refine k_call rfl se rfl rfl rfl rfl ?_ | refine k_call rfl po rfl rfl rfl rfl ?_ | refine k_call rfl su rfl rfl rfl (bs_cl _) ?_ | refine k_call rfl mk rfl hfm hcm rfl ?_ | refine k_call rfl hsb rfl rfl rfl rfl ?_ | refine k_bits rfl rfl rfl rfl hxor ?_ | refine k_call rfl R rfl hfz3 hcl3 rfl ?_ | refine k_call rfl st rfl rfl rfl rfl ?_ | refine k_call rfl cm rfl rfl rfl rfl ?_ | refine k_call rfl K rfl hfz4 hcl4 rfl ?_ | refine k_buildSlice (cs := []) rfl rfl rfl rfl rfl rfl rfl ?_ | refine k_buildSlice rfl rfl rfl rfl rfl rfl rfl ?_ | refine k_indexAddr rfl rfl rfl ⟨by omega, by omega⟩ ?_ | refine k_indexAddrs rfl rfl rfl ⟨by omega, by omega⟩ rfl ?_ | refine k_index rfl rfl rfl ⟨by omega, by omega⟩ rfl ?_ | refine k_loade rfl rfl rfl ?_ | refine k_fieldAddre rfl rfl rfl rfl ?_ | refine k_len rfl rfl ?_ | refine k_nilCheck rfl rfl rfl ?_ | refine k_pickT rfl rfl rfl ?_ | refine k_pickF rfl rfl rfl ?_ | refine k_addi rfl rfl rfl (by omega) ?_ | refine k_subi rfl rfl rfl (by omega) ?_ | refine k_negi rfl rfl (by omega) ?_ | refine k_not rfl rfl rfl ?_ | refine k_lssT rfl rfl rfl (by omega) ?_ | refine k_lssF rfl rfl rfl (by omega) ?_ | refine k_leqT rfl rfl rfl (by omega) ?_ | refine k_leqF rfl rfl rfl (by omega) ?_ | refine k_gtrT rfl rfl rfl (by omega) ?_ | refine k_gtrF rfl rfl rfl (by omega) ?_ | refine k_geqT rfl rfl rfl (by omega) ?_ | refine k_geqF rfl rfl rfl (by omega) ?_ | refine k_eqlT rfl rfl rfl (by omega) ?_ | refine k_eqlF rfl rfl rfl (by omega) ?_ | refine k_neqT rfl rfl rfl (by omega) ?_ | refine k_neqF rfl rfl rfl (by omega) ?_ | refine k_eqa rfl rfl rfl rfl rfl rfl ?_ | refine k_nea rfl rfl rfl rfl rfl rfl ?_ | refine k_makeFunc rfl rfl rfl ?_ | refine k_skip rfl ?_ | refine k_skip0 rfl ?_ | refine k_pick rfl rfl rfl rfl rfl ?_ | refine W_yes rfl ?_ | refine W_no rfl ?_)
  (first | with_reducible refine q_endr ?_ | with_reducible refine q_endn ?_); refine rets1 Tryd.results6 (by first | exact RetV.tmp _ _ rfl | exact RetV.cell _ _ _ _ _ _ _ _ inferInstance rfl rfl rfl) ?_
  rfl

theorem walk (zn d k a' b' : Int) (sx : ByteArray) (w : World) (hG : GTab w []) : Calls Tryd.prog 6 #[.int .i64 zn, .int .i64 d, .agg #[.int .i64 k, .int .i64 a', .int .i64 b', .string sx]] w fun e w' => e = .returned (.bool true) ∧ New w w' :=
  calls_of_pur (vs := [.int .i64 zn, .int .i64 d, .agg #[.int .i64 k, .int .i64 a', .int .i64 b', .string sx]]) rfl rfl rfl (pur zn d k a' b' sx) w hG

set_option maxRecDepth 100000 in
theorem lifted (os : Os) (started : os.Started) (H : Type) (enc : TypeId × Value → H) :
    ReturnsInHanded {} Tryd.checked os 6 .any (fun w args => (Rows.signOneSpec.pre enc Tryd.prog Tryd.f6 [] false w args ∧ laidMetH Tryd.prog laidL w) ∧ sizedMet enc Tryd.prog Tryd.f6 (OpenSpec.ofChange Rows.signOneSpec) false w args) (Rows.signOneSpec.post enc Tryd.prog Tryd.f6 false true false false) := by
  refine returnsInHanded_of_change_and (C := Tryd.checked) (X := fun w _ => laidMetH Tryd.prog laidL w) (fun _ _ _ hh h => h.of_heap hh) own started (by kernel_rfl) Tryd.func6
    (ChangeSpec.witness_shaped (enc := enc) (C := Tryd.checked) (os := os) (X := fun w _ => laidMetH Tryd.prog laidL w) false (World.doorLaid Tryd.prog 400 os) #[.int .i64 0, .int .i64 0, .agg #[.int .i64 0, .int .i64 0, .int .i64 0, .string ⟨#[]⟩]] 8 rfl (World.shaped_of_RefB (by kernel_rfl) (by kernel_rfl)) (by kernel_rfl) (by kernel_rfl) (by kernel_rfl) (door_met os _)) ?_
  intro W base args ds gs before hval0 hW _ _ hL _
  have hG := tabs_of hL
  have hval : ∀ (j : Nat) t v, Tryd.f6.params[j]? = some t → args[j]? = some v → Value.okWide Tryd.prog W .any base t v := hval0
  have hW' := hW
  obtain ⟨p, q, hA0, hV, rfl, hfz, hnd⟩ := hW
  have hA : DataW.TrodAll enc Tryd.prog W 0 (fun _ => true) true Tryd.f6.params.toList args.toList ds p := hA0
  rw [Tryd.params6] at hA hval
  obtain ⟨v0, vs0, d0, ds0, p0, q0, hargs, rfl, rfl, h0, r0⟩ := trodAll_cons hA
  obtain ⟨v1, vs1, d1, ds1, p1, q1, rfl, rfl, rfl, h1, r1⟩ := trodAll_cons r0
  obtain ⟨v2, vs2, d2, ds2, p2, q2, rfl, rfl, rfl, h2, r2⟩ := trodAll_cons r1
  obtain ⟨rfl, rfl, rfl⟩ := trodAll_nil r2
  obtain rfl : args = #[v0, v1, v2] := by cases args; simp_all
  obtain ⟨rfl, rfl⟩ := trodVars_none hV
  obtain ⟨n1, rfl, rfl, rfl, wn1⟩ := open_int Tryd.underlying3 (hval 0 3 v0 rfl rfl) h0
  obtain ⟨n2, rfl, rfl, rfl, wn2⟩ := open_int Tryd.underlying3 (hval 1 3 v1 rfl rfl) h1
  obtain ⟨k3, a3, b3, s3, rfl, wk3, wa3, wb3, ws3⟩ := open_raw (hval 2 41 v2 rfl rfl) h2
  refine (walk n1 n2 k3 a3 b3 s3 W hG).mono fun e W' ⟨he, hN⟩ => ?_
  subst he
  exact ⟨_, rfl, law_post laidOut (by kernel_rfl) (by kernel_rfl) Tryd.underlying4 rfl hW' rfl hN⟩

theorem holds : Rows.SignOneSaid :=
  OpenClaim.holds_of_wide 6 Tryd.f6 rfl rfl rfl rfl rfl rfl rfl ⟨rfl, rfl, rfl, rfl, rfl⟩ rfl rfl rfl rfl rfl (by kernel_rfl) Tryd.func6 (by kernel_rfl)
    (of_decide_eq_true (by kernel_rfl)) (by unfold Func.isWrapper; first | (rw [if_pos (by decide +kernel)]; kernel_rfl) | (rw [if_neg (by decide +kernel)]; exact ⟨rfl, rfl⟩))
    (fun os started H enc _ => lifted os started H enc)

theorem card : Rows.SignOneCardSaid :=
  Claim7.holds_tied_plain_at .later [] [.data, .data] true (true, "29af32c4023fc41b5f8275659b6b95ffe93a7825744bc9c4c95444fa2dc7017c") false
    holds (fun _ h => by cases h) (by kernel_rfl) (fun _ h => by cases h) signOne_row_tie rfl ⟨rfl, rfl⟩ (by kernel_rfl) rfl
    (fun f fn hf hfn => by
      obtain rfl : f = 6 := Option.some.inj ((show Tryd.prog.funcNamed "bascule/basculekeep.SignOne" = some 6 by kernel_rfl).symm.trans hf) |>.symm
      obtain rfl : fn = Tryd.f6 := (Option.some.inj (Tryd.func6.symm.trans hfn)).symm
      exact ⟨by kernel_rfl, fun j t ht => by
        rw [Tryd.params6] at ht
        have hall : (Tryd.f6.params.all fun u => !Tryd.prog.wantsStandIn u) = true := by kernel_rfl
        have hm := Array.mem_of_getElem? ht
        rw [Tryd.params6] at hall
        exact (show Tryd.prog.wantsStandIn t = false by simpa using Array.all_eq_true_iff_forall_mem.1 hall t hm)⟩)
    (by kernel_rfl)
#print axioms card
end Go.Proofs.YtpdhbddkcnffbaaDoor.signOne
