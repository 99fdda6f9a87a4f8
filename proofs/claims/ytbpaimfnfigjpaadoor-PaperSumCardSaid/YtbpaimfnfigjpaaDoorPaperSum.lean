/- PaperSum: who signs is not in the sum, what is said is: two messages have one sum where their bytes are the same. Conditions: none but what the card says of the tables. -/
import Derived.Test.YtbpaimfnfigjpaaDoorGp
import Derived.Test.YtbpaimfnfigjpaaDoorRowD
import Derived.Test.YtbpaimfnfigjpaaDoorRowH
namespace Go.Proofs.YtbpaimfnfigjpaaDoor.paperSum
open Go.ChangeShapes Go.WideShapes Go.RowKit Go.Joins Go.Lib Go.IntWalk
set_option linter.unusedVariables false
open Go.Proofs.YtbpaimfnfigjpaaDoor
set_option maxRecDepth 100000

theorem cl_sl (n : Nat) (l : List UInt8) : D.cl (.tup [.slice .frozen n (bs l), .int .i64 0]) = true := rfl
theorem cl_ag (l : List UInt8) : D.cl (.tup [.agg (bs l), .int .i64 0]) = true := by
  show (D.cls (bs l) && true) = true
  rw [bs_cl]; rfl
theorem two {x y : List D} (hx : D.fzs [D.agg x] = [D.agg x]) (hy : D.fzs [D.agg y] = [D.agg y]) : D.fzs [D.agg x, D.agg y] = [D.agg x, D.agg y] := by
  have e1 : (D.agg x).fz = D.agg x := by have : [(D.agg x).fz] = [D.agg x] := hx; simpa using this
  show [(D.agg x).fz] ++ D.fzs [D.agg y] = _
  rw [e1, hy]; rfl
theorem twoc {x y : List D} (hx : D.cls [D.agg x] = true) (hy : D.cls [D.agg y] = true) : D.cls [D.agg x, D.agg y] = true := by
  have e1 : (D.agg x).cl = true := by have : ((D.agg x).cl && true) = true := hx; simpa using this
  show ((D.agg x).cl && D.cls [D.agg y]) = true
  rw [e1, hy]; rfl
set_option maxHeartbeats 8000000 in
theorem pur (k a b k2 a2 b2 : Int) (s s2 : ByteArray) : Pur Tryd.prog 3 [.agg [.int .i64 k, .int .i64 a, .int .i64 b, .str s], .agg [.int .i64 k2, .int .i64 a2, .int .i64 b2, .str s2]] (.bool true) := by
  obtain ⟨x, hx, r1⟩ := rbody_ok k a b s
  obtain ⟨y, hy, r2⟩ := rbody_ok k2 a2 b2 s2
  have b1 := pBytes_ok x hx _ rfl
  have b2' := pBytes_ok y hy _ rfl
  have s1 := pSum_ok x hx
  have s2' := pSum_ok y hy
  have hT := k_tells
  have ax := bd_all hx.e; have px := bd_put hx.e; have lx := bd_len hx.e; have fx := bd_fz x; have cx := bd_cl x
  have ay := bd_all hy.e; have py := bd_put hy.e; have ly := bd_len hy.e; have fy := bd_fz y; have cy := bd_cl y
  have zx := kec_len (kec x.out)
  have zy := kec_len (kec y.out)
  by_cases e : x = y
  · subst e
    have sm := same_ok x x hx.e hx.e true (by simp)
    have h7 : ((⟨x.out.toArray⟩ : ByteArray).toList == (⟨x.out.toArray⟩ : ByteArray).toList) = true := by simp
    have h8 : (!((⟨x.out.toArray⟩ : ByteArray).toList == (⟨x.out.toArray⟩ : ByteArray).toList)) = false := by simp
    have kz := lks_bs 32 _ zx
    have ez := b_eq (kec (kec x.out))
    have cz := b_cut zx
    have tf := two fx fx
    have tc := twoc cx cx
    generalize kec (kec x.out) = Z at *
    generalize x.out = o at *
    generalize x.cells = u at *
    refine pur_intro Tryd.func3 rfl Tryd.ntmps3 rfl (by first | rfl | assumption | exact bs_cl _) fun B => ?_
    repeat (first | with_reducible refine W_seq ?_ | with_reducible refine q_then ?_ | with_reducible refine q_thenr ?_ | with_reducible refine q_thenx ?_ | with_reducible refine W_block ?_ | with_reducible refine q_block ?_ | with_reducible refine q_blockr ?_ | with_reducible refine q_blockx ?_ | with_reducible refine W_ret ?_ | with_reducible refine W_skip ?_ | with_reducible refine W_label ?_ | with_reducible refine W_exit ?_ | with_reducible refine W_scope ?_ | with_reducible refine q_scope ?_ | with_reducible refine q_scoper ?_ | with_reducible refine q_scopex ?_ | (with_reducible refine R_nil ?_; try dsimp only [slots0, slots_ud, cells_U, agg_ud, drop0, dropS, takeS, take0, ud_nil, take_ud, take_ud0, drop_ud, drop_ud0, take_udk, D.cells, D.fz, D.fzs, List.take_succ_cons, List.take_zero, List.drop_succ_cons, List.drop_zero, List.cons_append, List.nil_append, List.append_eq, List.length_cons, List.length_nil, Nat.reduceAdd, Nat.reduceMul, Nat.reduceSub, Int.reduceAdd, Int.reduceSub, Int.reduceToNat, Int.reduceNeg, Int.reduceMul]) | refine q_blocky rfl ?_ | refine W_plain rfl ?_ | refine W_drawn mixed rfl ?_ | refine and_chk (by kernel_rfl) ?_ | refine k_store rfl rfl rfl rfl (by exact lx) rfl (by exact px _ rfl) ?_ | refine k_load rfl rfl rfl (by exact ax _) ?_ | refine k_call rfl b1 rfl fx cx (cl_sl _ _) ?_ | refine k_call rfl s1 rfl fx cx (cl_ag _) ?_ | refine k_store rfl rfl rfl rfl (b_len zx) (b_fits _) (by exact b_put zx _ rfl) ?_ | refine k_load rfl rfl rfl (by exact cz _) ?_ | refine k_move rfl rfl ?_ | refine k_assign rfl rfl ?_ | refine k_load rfl rfl rfl rfl ?_ | refine k_alloc rfl ?_ | refine k_box rfl rfl rfl ?_ | refine k_store rfl rfl rfl rfl rfl rfl rfl ?_ | refine k_extract rfl rfl rfl ?_ | refine k_fieldAddr rfl rfl rfl ?_ | refine k_field rfl rfl rfl ?_ | refine k_build rfl rfl rfl ?_ | refine k_call rfl r1 rfl rfl rfl (by simpa [D.cls] using cx) ?_ | refine k_call rfl r2 rfl rfl rfl (by simpa [D.cls] using cx) ?_ | refine k_b2s rfl Tryd.underlying9 Tryd.underlying5 rfl rfl ?_ | refine k_eqs rfl rfl rfl h7 ?_ | refine k_nes rfl rfl rfl h8 ?_ | refine k_call rfl sm rfl tf tc rfl ?_ | refine k_eqb rfl Tryd.underlying4 rfl rfl rfl ?_ | refine k_eqa rfl rfl rfl kz kz ez ?_ | refine k_call rfl hT rfl rfl rfl rfl ?_ | refine k_append rfl rfl rfl (by first | rfl | exact trivial | (show 0 < _; omega)) (by first | rfl | (simp <;> omega)) (by first | rfl | (simp <;> omega)) rfl (by omega) rfl rfl rfl ?_ | refine k_slice rfl rfl rfl rfl ⟨by omega, by omega, by omega⟩ rfl rfl rfl ?_ | refine k_slice3 rfl rfl rfl rfl rfl ⟨by omega, by omega, by omega⟩ rfl rfl rfl ?_ | refine k_sliceA rfl rfl rfl rfl ⟨by omega, by omega, by omega, by omega⟩ rfl rfl ?_ | refine k_sliceE rfl rfl rfl rfl ⟨by omega, by omega, by omega, by omega⟩ rfl rfl rfl rfl ?_ | refine k_buildSlice (cs := []) rfl rfl rfl rfl rfl rfl rfl ?_ | refine k_buildSlice rfl rfl rfl rfl rfl rfl rfl ?_ | refine k_indexAddr rfl rfl rfl ⟨by omega, by omega⟩ ?_ | refine k_indexAddrs rfl rfl rfl ⟨by omega, by omega⟩ rfl ?_ | refine k_index rfl rfl rfl ⟨by omega, by omega⟩ rfl ?_ | refine k_loade rfl rfl rfl ?_ | refine k_fieldAddre rfl rfl rfl rfl ?_ | refine k_len rfl rfl ?_ | refine k_nilCheck rfl rfl rfl ?_ | refine k_pickT rfl rfl rfl ?_ | refine k_pickF rfl rfl rfl ?_ | refine k_addi rfl rfl rfl (by omega) ?_ | refine k_subi rfl rfl rfl (by omega) ?_ | refine k_negi rfl rfl (by omega) ?_ | refine k_not rfl rfl rfl ?_ | refine k_lssT rfl rfl rfl (by omega) ?_ | refine k_lssF rfl rfl rfl (by omega) ?_ | refine k_leqT rfl rfl rfl (by omega) ?_ | refine k_leqF rfl rfl rfl (by omega) ?_ | refine k_gtrT rfl rfl rfl (by omega) ?_ | refine k_gtrF rfl rfl rfl (by omega) ?_ | refine k_geqT rfl rfl rfl (by omega) ?_ | refine k_geqF rfl rfl rfl (by omega) ?_ | refine k_eqlT rfl rfl rfl (by omega) ?_ | refine k_eqlF rfl rfl rfl (by omega) ?_ | refine k_neqT rfl rfl rfl (by omega) ?_ | refine k_neqF rfl rfl rfl (by omega) ?_ | refine k_eqa rfl rfl rfl rfl rfl rfl ?_ | refine k_nea rfl rfl rfl rfl rfl rfl ?_ | refine k_makeFunc rfl rfl rfl ?_ | refine k_skip rfl ?_ | refine k_skip0 rfl ?_ | refine k_pick rfl rfl rfl rfl rfl ?_ | refine W_yes rfl ?_ | refine W_no rfl ?_)
    (first | with_reducible refine q_endr ?_ | with_reducible refine q_endn ?_); refine rets1 Tryd.results3 (by first | exact RetV.tmp _ _ rfl | exact RetV.cell _ _ _ _ _ _ _ _ inferInstance rfl rfl rfl) ?_
    rfl
  · have sm := same_ok x y hx.e hy.e false (by simpa using e)
    have ho : x.out ≠ y.out := fun h => e (out_inj hx hy h)
    have h7 : ((⟨x.out.toArray⟩ : ByteArray).toList == (⟨y.out.toArray⟩ : ByteArray).toList) = false := by rw [ba_mk, ba_mk]; simpa using ho
    have h8 : (!((⟨x.out.toArray⟩ : ByteArray).toList == (⟨y.out.toArray⟩ : ByteArray).toList)) = true := by rw [h7]; rfl
    have c1 := b_cut zx
    have c2 := b_cut zy
    have tf := two fx fy
    have tc := twoc cx cy
    clear ho e
    generalize kec (kec x.out) = Z at *
    generalize kec (kec y.out) = Z2 at *
    generalize x.out = o at *
    generalize y.out = o2 at *
    generalize x.cells = u at *
    generalize y.cells = v at *
    refine pur_intro Tryd.func3 rfl Tryd.ntmps3 rfl (by first | rfl | assumption | exact bs_cl _) fun B => ?_
    repeat (first | with_reducible refine W_seq ?_ | with_reducible refine q_then ?_ | with_reducible refine q_thenr ?_ | with_reducible refine q_thenx ?_ | with_reducible refine W_block ?_ | with_reducible refine q_block ?_ | with_reducible refine q_blockr ?_ | with_reducible refine q_blockx ?_ | with_reducible refine W_ret ?_ | with_reducible refine W_skip ?_ | with_reducible refine W_label ?_ | with_reducible refine W_exit ?_ | with_reducible refine W_scope ?_ | with_reducible refine q_scope ?_ | with_reducible refine q_scoper ?_ | with_reducible refine q_scopex ?_ | (with_reducible refine R_nil ?_; try dsimp only [slots0, slots_ud, cells_U, agg_ud, drop0, dropS, takeS, take0, ud_nil, take_ud, take_ud0, drop_ud, drop_ud0, take_udk, D.cells, D.fz, D.fzs, List.take_succ_cons, List.take_zero, List.drop_succ_cons, List.drop_zero, List.cons_append, List.nil_append, List.append_eq, List.length_cons, List.length_nil, Nat.reduceAdd, Nat.reduceMul, Nat.reduceSub, Int.reduceAdd, Int.reduceSub, Int.reduceToNat, Int.reduceNeg, Int.reduceMul]) | refine q_blocky rfl ?_ | refine W_plain rfl ?_ | refine W_drawn mixed rfl ?_ | refine and_chk (by kernel_rfl) ?_ | refine k_store rfl rfl rfl rfl (by exact lx) rfl (by exact px _ rfl) ?_ | refine k_store rfl rfl rfl rfl (by exact ly) rfl (by exact py _ rfl) ?_ | refine k_load rfl rfl rfl (by exact ax _) ?_ | refine k_load rfl rfl rfl (by exact ay _) ?_ | refine k_call rfl b1 rfl fx cx (cl_sl _ _) ?_ | refine k_call rfl b2' rfl fy cy (cl_sl _ _) ?_ | refine k_call rfl s1 rfl fx cx (cl_ag _) ?_ | refine k_call rfl s2' rfl fy cy (cl_ag _) ?_ | refine k_store rfl rfl rfl rfl (b_len zx) (b_fits _) (by exact b_put zx _ rfl) ?_ | refine k_store rfl rfl rfl rfl (b_len zy) (b_fits _) (by exact b_put zy _ rfl) ?_ | refine k_load rfl rfl rfl (by exact c1 _) ?_ | refine k_load rfl rfl rfl (by exact c2 _) ?_ | refine k_move rfl rfl ?_ | refine k_assign rfl rfl ?_ | refine k_load rfl rfl rfl rfl ?_ | refine k_alloc rfl ?_ | refine k_box rfl rfl rfl ?_ | refine k_store rfl rfl rfl rfl rfl rfl rfl ?_ | refine k_extract rfl rfl rfl ?_ | refine k_fieldAddr rfl rfl rfl ?_ | refine k_field rfl rfl rfl ?_ | refine k_build rfl rfl rfl ?_ | refine k_call rfl r1 rfl rfl rfl (by simpa [D.cls] using cx) ?_ | refine k_call rfl r2 rfl rfl rfl (by simpa [D.cls] using cy) ?_ | refine k_b2s rfl Tryd.underlying9 Tryd.underlying5 rfl rfl ?_ | refine k_eqs rfl rfl rfl h7 ?_ | refine k_nes rfl rfl rfl h8 ?_ | refine k_call rfl sm rfl tf tc rfl ?_ | refine k_eqb rfl Tryd.underlying4 rfl rfl rfl ?_ | refine k_call rfl hT rfl rfl rfl rfl ?_ | refine k_append rfl rfl rfl (by first | rfl | exact trivial | (show 0 < _; omega)) (by first | rfl | (simp <;> omega)) (by first | rfl | (simp <;> omega)) rfl (by omega) rfl rfl rfl ?_ | refine k_slice rfl rfl rfl rfl ⟨by omega, by omega, by omega⟩ rfl rfl rfl ?_ | refine k_slice3 rfl rfl rfl rfl rfl ⟨by omega, by omega, by omega⟩ rfl rfl rfl ?_ | refine k_sliceA rfl rfl rfl rfl ⟨by omega, by omega, by omega, by omega⟩ rfl rfl ?_ | refine k_sliceE rfl rfl rfl rfl ⟨by omega, by omega, by omega, by omega⟩ rfl rfl rfl rfl ?_ | refine k_buildSlice (cs := []) rfl rfl rfl rfl rfl rfl rfl ?_ | refine k_buildSlice rfl rfl rfl rfl rfl rfl rfl ?_ | refine k_indexAddr rfl rfl rfl ⟨by omega, by omega⟩ ?_ | refine k_indexAddrs rfl rfl rfl ⟨by omega, by omega⟩ rfl ?_ | refine k_index rfl rfl rfl ⟨by omega, by omega⟩ rfl ?_ | refine k_loade rfl rfl rfl ?_ | refine k_fieldAddre rfl rfl rfl rfl ?_ | refine k_len rfl rfl ?_ | refine k_nilCheck rfl rfl rfl ?_ | refine k_pickT rfl rfl rfl ?_ | refine k_pickF rfl rfl rfl ?_ | refine k_addi rfl rfl rfl (by omega) ?_ | refine k_subi rfl rfl rfl (by omega) ?_ | refine k_negi rfl rfl (by omega) ?_ | refine k_not rfl rfl rfl ?_ | refine k_lssT rfl rfl rfl (by omega) ?_ | refine k_lssF rfl rfl rfl (by omega) ?_ | refine k_leqT rfl rfl rfl (by omega) ?_ | refine k_leqF rfl rfl rfl (by omega) ?_ | refine k_gtrT rfl rfl rfl (by omega) ?_ | refine k_gtrF rfl rfl rfl (by omega) ?_ | refine k_geqT rfl rfl rfl (by omega) ?_ | refine k_geqF rfl rfl rfl (by omega) ?_ | refine k_eqlT rfl rfl rfl (by omega) ?_ | refine k_eqlF rfl rfl rfl (by omega) ?_ | refine k_neqT rfl rfl rfl (by omega) ?_ | refine k_neqF rfl rfl rfl (by omega) ?_ | refine k_eqa rfl rfl rfl rfl rfl rfl ?_ | refine k_nea rfl rfl rfl rfl rfl rfl ?_ | refine k_makeFunc rfl rfl rfl ?_ | refine k_skip rfl ?_ | refine k_skip0 rfl ?_ | refine k_pick rfl rfl rfl rfl rfl ?_ | refine W_yes rfl ?_ | refine W_no rfl ?_)
    (first | with_reducible refine q_endr ?_ | with_reducible refine q_endn ?_); refine rets1 Tryd.results3 (by first | exact RetV.tmp _ _ rfl | exact RetV.cell _ _ _ _ _ _ _ _ inferInstance rfl rfl rfl) ?_
    rfl

theorem walk (k a b k2 a2 b2 : Int) (s s2 : ByteArray) (w : World) (hG : GTab w []) : Calls Tryd.prog 3 #[.agg #[.int .i64 k, .int .i64 a, .int .i64 b, .string s], .agg #[.int .i64 k2, .int .i64 a2, .int .i64 b2, .string s2]] w fun e w' => e = .returned (.bool true) ∧ New w w' :=
  calls_of_pur (vs := [.agg #[.int .i64 k, .int .i64 a, .int .i64 b, .string s], .agg #[.int .i64 k2, .int .i64 a2, .int .i64 b2, .string s2]]) rfl rfl rfl (pur k a b k2 a2 b2 s s2) w hG

set_option maxRecDepth 100000 in
theorem lifted (os : Os) (started : os.Started) (H : Type) (enc : TypeId × Value → H) :
    ReturnsInHanded {} Tryd.checked os 3 .any (fun w args => (Rows.paperSumSpec.pre enc Tryd.prog Tryd.f3 [] false w args ∧ laidMetH Tryd.prog laidL w) ∧ sizedMet enc Tryd.prog Tryd.f3 (OpenSpec.ofChange Rows.paperSumSpec) false w args) (Rows.paperSumSpec.post enc Tryd.prog Tryd.f3 false true false false) := by
  refine returnsInHanded_of_change_and (C := Tryd.checked) (X := fun w _ => laidMetH Tryd.prog laidL w) (fun _ _ _ hh h => h.of_heap hh) own started (by kernel_rfl) Tryd.func3
    (ChangeSpec.witness_shaped (enc := enc) (C := Tryd.checked) (os := os) (X := fun w _ => laidMetH Tryd.prog laidL w) false (World.doorLaid Tryd.prog 400 os) #[.agg #[.int .i64 0, .int .i64 0, .int .i64 0, .string ⟨#[]⟩], .agg #[.int .i64 0, .int .i64 0, .int .i64 0, .string ⟨#[]⟩]] 8 rfl (World.shaped_of_RefB (by kernel_rfl) (by kernel_rfl)) (by kernel_rfl) (by kernel_rfl) (by kernel_rfl) (door_met os _)) ?_
  intro W base args ds gs before hval0 hW _ _ hL _
  have hG := tabs_of hL
  have hval : ∀ (j : Nat) t v, Tryd.f3.params[j]? = some t → args[j]? = some v → Value.okWide Tryd.prog W .any base t v := hval0
  have hW' := hW
  obtain ⟨p, q, hA0, hV, rfl, hfz, hnd⟩ := hW
  have hA : DataW.TrodAll enc Tryd.prog W 0 (fun _ => true) true Tryd.f3.params.toList args.toList ds p := hA0
  rw [Tryd.params3] at hA hval
  obtain ⟨v0, vs0, d0, ds0, p0, q0, hargs, rfl, rfl, h0, r0⟩ := trodAll_cons hA
  obtain ⟨v1, vs1, d1, ds1, p1, q1, rfl, rfl, rfl, h1, r1⟩ := trodAll_cons r0
  obtain ⟨rfl, rfl, rfl⟩ := trodAll_nil r1
  obtain rfl : args = #[v0, v1] := by cases args; simp_all
  obtain ⟨rfl, rfl⟩ := trodVars_none hV
  obtain ⟨k1, a1, b1, s1, rfl, wk1, wa1, wb1, ws1⟩ := open_raw (hval 0 23 v0 rfl rfl) h0
  obtain ⟨k2, a2, b2, s2, rfl, wk2, wa2, wb2, ws2⟩ := open_raw (hval 1 23 v1 rfl rfl) h1
  refine (walk k1 a1 b1 k2 a2 b2 s1 s2 W hG).mono fun e W' ⟨he, hN⟩ => ?_
  subst he
  exact ⟨_, rfl, law_post laidOut (by kernel_rfl) (by kernel_rfl) Tryd.underlying4 rfl hW' rfl hN⟩

theorem holds : Rows.PaperSumSaid :=
  OpenClaim.holds_of_wide 3 Tryd.f3 rfl rfl rfl rfl rfl rfl rfl ⟨rfl, rfl, rfl, rfl, rfl⟩ rfl rfl rfl rfl rfl (by kernel_rfl) Tryd.func3 (by kernel_rfl)
    (of_decide_eq_true (by kernel_rfl)) (by unfold Func.isWrapper; first | (rw [if_pos (by decide +kernel)]; kernel_rfl) | (rw [if_neg (by decide +kernel)]; exact ⟨rfl, rfl⟩))
    (fun os started H enc _ => lifted os started H enc)

theorem card : Rows.PaperSumCardSaid :=
  Claim7.holds_tied_plain_at .later [] [.data, .data] true (true, "3eb50e981b613cfd346e30845c9af35d9be70386fffed596637c1183941c3494") false
    holds (fun _ h => by cases h) (by kernel_rfl) (fun _ h => by cases h) paperSum_row_tie rfl ⟨rfl, rfl⟩ (by kernel_rfl) rfl
    (fun f fn hf hfn => by
      obtain rfl : f = 3 := Option.some.inj ((show Tryd.prog.funcNamed "bascule/basculekeep.PaperSum" = some 3 by kernel_rfl).symm.trans hf) |>.symm
      obtain rfl : fn = Tryd.f3 := (Option.some.inj (Tryd.func3.symm.trans hfn)).symm
      exact ⟨by kernel_rfl, fun j t ht => by
        rw [Tryd.params3] at ht
        have hall : (Tryd.f3.params.all fun u => !Tryd.prog.wantsStandIn u) = true := by kernel_rfl
        have hm := Array.mem_of_getElem? ht
        rw [Tryd.params3] at hall
        exact (show Tryd.prog.wantsStandIn t = false by simpa using Array.all_eq_true_iff_forall_mem.1 hall t hm)⟩)
    (by kernel_rfl)
#print axioms card
end Go.Proofs.YtbpaimfnfigjpaaDoor.paperSum
