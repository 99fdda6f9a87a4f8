/- SetsCount: a set counts till a day after the next one came, and the last one always; its keys stay. No conditions. -/
import Derived.Test.YtokijcdanegooaaSets3
namespace Go.Proofs.Ytokijcdanegooaa.setsCount
open Go.ChangeShapes Go.WideShapes Go.RowKit Go.Joins Go.Lib Go.IntWalk
set_option linter.unusedVariables false
open Go.Proofs.Ytokijcdanegooaa
set_option maxRecDepth 100000

theorem ats_cut (l : List Nat) (j x : Nat) (h : l[j]? = some x) (ze : List D) : cut ⟨false, 1, ze⟩ 0 ((ats l).drop ((j : Int).toNat * 1)) = some (.int .i64 (x : Int)) := by
  unfold cut ats
  simp only [cond_false, Int.toNat_natCast, Nat.mul_one, List.getElem?_drop, Nat.add_zero]
  rw [List.getElem?_map, h]; rfl
theorem deqs_self (a : List UInt8) : deqs (bs a) (bs a) = true := by
  rw [deqs_bs _ _ rfl]; simp
set_option maxHeartbeats 16000000 in
theorem pur (l : List RawT) (wh nw : Int) : Pur Try.prog 5 [.slice .frozen l.length (rws l), .int .i64 wh, .int .i64 nw] (.bool true) := by
  obtain ⟨n, hn⟩ : ∃ n, (l.take 7).length = n := ⟨_, rfl⟩
  have n7 : n ≤ 7 := by rw [← hn, List.length_take]; omega
  obtain ⟨g, hg0⟩ : ∃ g, his (l.take 7) = g := ⟨_, rfl⟩
  obtain ⟨hg, hgl⟩ := his_good n (l.take 7) hn n7
  have td := turned_ok l g hg0 n hn
  rw [hg0] at hg hgl
  obtain ⟨i, hi, hin⟩ := natmod wh (n + 1) (by omega)
  have pi := p_picked wh ((n + 1 : Nat) : Int) i (by omega) (by omega) hi
  rw [show (((n + 1 : Nat)) : Int) = (n : Int) + 1 by omega] at pi
  obtain ⟨x, hx, hx500⟩ := natmod nw 500 (by decide)
  have px := p_picked nw 500 x (by decide) (by decide) hx
  have hpl := hg.pl
  have hlen : (g.p ++ [g.s]).length = n + 1 := by rw [List.length_append, hpl, hgl]; rfl
  obtain ⟨s, hs⟩ : ∃ s, (g.p ++ [g.s])[i]? = some s := ⟨_, List.getElem?_eq_getElem (by omega)⟩
  have ck := Check_ok _ hg.sets (n + 1) hlen
  have ln := Live_none _ hg.sets (n + 1) hlen x
  have hsi := (hg.sets.at_ i s hs).1
  obtain ⟨hkn, r, hkz⟩ := hg.keys i s hs
  have hzs := (hg.sets.at_ i s hs).2.1.z
  obtain ⟨late, hlate⟩ : ∃ b, decide (s.u ≠ 0 ∧ s.u ≤ x) = b := ⟨_, rfl⟩
  have lv := Live_ok _ hg.sets (n + 1) hlen i s hs x late hlate
  obtain ⟨c, hc⟩ : ∃ c, UInt8.ofNat (i + 1) = c := ⟨_, rfl⟩
  have e1 : IntKind.u8.wrap ((i : Int) + 1) = ((c.toNat : Nat) : Int) := by
    rw [← hc, kb_nat _ (by omega), IntKind.wrap_u8]; omega
  rw [hc] at hkz
  have kc : ∀ ze, cut ⟨true, 20, ze⟩ 0 (s.z.drop ((0 : Int).toNat * 20)) = some (.agg (bs (kk c))) := fun ze => by
    rw [hkz]; exact key_cut (kk c) [] (kk_len c) r ze
  have dq := deqs_self (kk c)
  have lk := lks_key (kk c) (kk_len c)
  have hnn : (n : Int) + 1 = ((n + 1 : Nat) : Int) := by omega
  -- the hour at which it turned, if it did
  have hcase : (i < n ∧ ∃ t : Nat, (∀ ze, cut ⟨false, 1, ze⟩ 0 ((ats g.ts).drop ((i : Int).toNat * 1)) = some (.int .i64 (t : Int))) ∧ t ≤ 1000 ∧ late = decide (t + 24 ≤ x)) ∨ (i = n ∧ late = false) := by
    rcases Nat.lt_or_ge i n with h | h
    · obtain ⟨t, ht⟩ : ∃ t, g.ts[i]? = some t := ⟨_, List.getElem?_eq_getElem (by omega)⟩
      refine .inl ⟨h, t, ats_cut _ _ _ ht, ?_, ?_⟩
      · have h1 := hg.le i t ht
        have h2 := hg.now.2
        rw [hgl] at h2; omega
      · rw [List.getElem?_append_left (by omega)] at hs
        have h3 := hg.u i s t hs ht
        rw [← hlate]
        simp only [decide_eq_decide]
        omega
    · refine .inr ⟨by omega, ?_⟩
      have e : i = n := by omega
      rw [List.getElem?_append_right (by omega), hpl, hgl, e, Nat.sub_self] at hs
      have e2 : g.s = s := Option.some.inj hs
      rw [← hlate, ← e2, hg.su]; rfl
  have hzal : n * 1 = (ats g.ts).length := by rw [ats_len, hgl]; omega
  obtain ⟨si, sn, sz, su⟩ := s
  dsimp only at hsi hkn hzs kc hlate
  subst hsi
  clear hg hg0 hs hlate hkz hpl hgl
  generalize ats g.ts = za at *
  generalize ssC (g.p ++ [g.s]) = zs' at *
  generalize l.length = L at *
  generalize rws l = zl at *
  have huse : late = true ∨ late = false := by cases late <;> simp
  rcases hcase with ⟨hlt, t, tc, ht, hlt'⟩ | ⟨rfl, hl0⟩
  · rcases huse with rfl | rfl
    · have htx := of_decide_eq_true hlt'.symm
      simp only [cond_true] at lv
      refine pur_intro Try.func5 rfl Try.ntmps5 rfl (by first | rfl | assumption | exact bs_cl _) fun B => ?_
      repeat (first | with_reducible (first | refine W_seq ?_ | refine q_then ?_ | refine q_thenr ?_ | refine q_thenx ?_ | refine W_block ?_ | refine q_block ?_ | refine q_blockr ?_ | refine q_blockx ?_ | refine W_ret ?_ | refine W_skip ?_ | refine W_label ?_ | refine W_exit ?_ | refine W_scope ?_ | refine q_scope ?_ | refine q_scoper ?_ | refine q_scopex ?_) | (with_reducible refine R_nil ?_; try dsimp only [slots0, slots_ud, cells_U, agg_ud, drop0, dropS, takeS, take0, ud_nil, take_ud, take_ud0, drop_ud, drop_ud0, take_udk, D.cells, D.fz, D.fzs, List.take_succ_cons, List.take_zero, List.drop_succ_cons, List.drop_zero, List.cons_append, List.nil_append, List.append_eq, List.length_cons, List.length_nil, Nat.reduceAdd, Nat.reduceMul, Nat.reduceSub, Int.reduceAdd, Int.reduceSub, Int.reduceToNat, Int.reduceNeg, Int.reduceMul]) | refine q_blocky rfl ?_ | refine W_plain rfl ?_ | refine W_drawn mixed rfl ?_ | refine and_chk (by kernel_rfl) ?_ | refine k_indexAddrs rfl rfl rfl ⟨by omega, by omega⟩ hzal ?_ | refine k_loade rfl rfl (by with_reducible exact tc _) ?_ | refine k_move rfl rfl ?_ | refine k_assign rfl rfl ?_ | refine k_load rfl rfl rfl rfl ?_ | refine k_alloc rfl ?_ | refine k_store rfl rfl rfl rfl rfl rfl rfl ?_ | refine k_extract rfl rfl rfl ?_ | refine k_fieldAddr rfl rfl rfl ?_ | refine k_build rfl rfl rfl ?_ | refine k_call rfl td rfl rfl rfl rfl ?_ | refine k_call rfl pi rfl rfl rfl rfl ?_ | refine k_call rfl px rfl rfl rfl rfl ?_ | refine k_call rfl lv rfl rfl rfl rfl ?_ | refine k_call rfl ln rfl rfl rfl rfl ?_ | refine k_call rfl ck rfl rfl rfl rfl ?_ | refine k_append rfl rfl rfl (by first | rfl | exact trivial | (show 0 < _; omega)) (by first | rfl | (simp <;> omega)) (by first | rfl | (simp <;> omega)) rfl (by omega) rfl rfl rfl ?_ | refine k_slice rfl rfl rfl rfl ⟨by omega, by omega, by omega⟩ rfl rfl rfl ?_ | refine k_slice3 rfl rfl rfl rfl rfl ⟨by omega, by omega, by omega⟩ rfl rfl rfl ?_ | refine k_sliceA rfl rfl rfl rfl ⟨by omega, by omega, by omega, by omega⟩ rfl rfl ?_ | refine k_sliceE rfl rfl rfl rfl ⟨by omega, by omega, by omega, by omega⟩ rfl rfl rfl rfl ?_ | refine k_indexAddr rfl rfl rfl ⟨by omega, by omega⟩ ?_ | refine k_indexAddrs rfl rfl rfl ⟨by omega, by omega⟩ rfl ?_ | refine k_loade rfl rfl rfl ?_ | refine k_fieldAddre rfl rfl rfl rfl ?_ | refine k_len rfl rfl ?_ | refine k_pickT rfl rfl rfl ?_ | refine k_pickF rfl rfl rfl ?_ | refine k_addi rfl rfl rfl (by omega) ?_ | refine k_not rfl rfl rfl ?_ | refine k_lssT rfl rfl rfl (by omega) ?_ | refine k_lssF rfl rfl rfl (by omega) ?_ | refine k_gtrT rfl rfl rfl (by omega) ?_ | refine k_gtrF rfl rfl rfl (by omega) ?_ | refine k_geqT rfl rfl rfl (by omega) ?_ | refine k_geqF rfl rfl rfl (by omega) ?_ | refine k_eqlT rfl rfl rfl (by omega) ?_ | refine k_eqlF rfl rfl rfl (by omega) ?_ | refine k_neqT rfl rfl rfl (by omega) ?_ | refine k_neqF rfl rfl rfl (by omega) ?_ | refine k_eqa rfl rfl rfl rfl rfl rfl ?_ | refine k_nea rfl rfl rfl rfl rfl rfl ?_ | refine k_skip rfl ?_ | refine k_skip0 rfl ?_ | refine k_pick rfl rfl rfl rfl rfl ?_ | refine W_yes rfl ?_ | refine W_no rfl ?_)
      (first | with_reducible refine q_endr ?_ | with_reducible refine q_endn ?_); refine rets1 Try.results5 (by first | exact RetV.tmp _ _ rfl | exact RetV.cell _ _ _ _ _ _ _ _ inferInstance rfl rfl rfl) ?_
      rfl
    · have htx := of_decide_eq_false hlt'.symm
      simp only [cond_false] at lv
      rw [show SeT.cells ⟨si, sn, sz, su⟩ = [.int .i64 si, .slice .frozen sn sz, .int .i64 su] from rfl] at lv
      refine pur_intro Try.func5 rfl Try.ntmps5 rfl (by first | rfl | assumption | exact bs_cl _) fun B => ?_
      repeat (first | with_reducible (first | refine W_seq ?_ | refine q_then ?_ | refine q_thenr ?_ | refine q_thenx ?_ | refine W_block ?_ | refine q_block ?_ | refine q_blockr ?_ | refine q_blockx ?_ | refine W_ret ?_ | refine W_skip ?_ | refine W_label ?_ | refine W_exit ?_ | refine W_scope ?_ | refine q_scope ?_ | refine q_scoper ?_ | refine q_scopex ?_) | (with_reducible refine R_nil ?_; try dsimp only [slots0, slots_ud, cells_U, agg_ud, drop0, dropS, takeS, take0, ud_nil, take_ud, take_ud0, drop_ud, drop_ud0, take_udk, D.cells, D.fz, D.fzs, List.take_succ_cons, List.take_zero, List.drop_succ_cons, List.drop_zero, List.cons_append, List.nil_append, List.append_eq, List.length_cons, List.length_nil, Nat.reduceAdd, Nat.reduceMul, Nat.reduceSub, Int.reduceAdd, Int.reduceSub, Int.reduceToNat, Int.reduceNeg, Int.reduceMul]) | refine q_blocky rfl ?_ | refine W_plain rfl ?_ | refine W_drawn mixed rfl ?_ | refine and_chk (by kernel_rfl) ?_ | refine k_indexAddrs rfl rfl rfl ⟨by omega, by omega⟩ hzal ?_ | refine k_indexAddrs rfl rfl rfl ⟨by omega, by omega⟩ hzs ?_ | refine k_loade rfl rfl (by with_reducible exact tc _) ?_ | refine k_loade rfl rfl (by exact kc _) ?_ | refine k_move rfl rfl ?_ | refine k_assign rfl rfl ?_ | refine k_load rfl rfl rfl rfl ?_ | refine k_alloc rfl ?_ | refine k_store rfl rfl rfl rfl rfl rfl rfl ?_ | refine k_extract rfl rfl rfl ?_ | refine k_fieldAddr rfl rfl rfl ?_ | refine k_build rfl rfl rfl ?_ | refine k_call rfl td rfl rfl rfl rfl ?_ | refine k_call rfl pi rfl rfl rfl rfl ?_ | refine k_call rfl px rfl rfl rfl rfl ?_ | refine k_call rfl lv rfl rfl rfl rfl ?_ | refine k_call rfl ln rfl rfl rfl rfl ?_ | refine k_call rfl ck rfl rfl rfl rfl ?_ | refine k_conv rfl rfl (by with_reducible exact e1) ?_ | refine k_eqa rfl rfl rfl lk lk dq ?_ | refine k_append rfl rfl rfl (by first | rfl | exact trivial | (show 0 < _; omega)) (by first | rfl | (simp <;> omega)) (by first | rfl | (simp <;> omega)) rfl (by omega) rfl rfl rfl ?_ | refine k_slice rfl rfl rfl rfl ⟨by omega, by omega, by omega⟩ rfl rfl rfl ?_ | refine k_slice3 rfl rfl rfl rfl rfl ⟨by omega, by omega, by omega⟩ rfl rfl rfl ?_ | refine k_sliceA rfl rfl rfl rfl ⟨by omega, by omega, by omega, by omega⟩ rfl rfl ?_ | refine k_sliceE rfl rfl rfl rfl ⟨by omega, by omega, by omega, by omega⟩ rfl rfl rfl rfl ?_ | refine k_indexAddr rfl rfl rfl ⟨by omega, by omega⟩ ?_ | refine k_indexAddrs rfl rfl rfl ⟨by omega, by omega⟩ rfl ?_ | refine k_loade rfl rfl rfl ?_ | refine k_fieldAddre rfl rfl rfl rfl ?_ | refine k_len rfl rfl ?_ | refine k_pickT rfl rfl rfl ?_ | refine k_pickF rfl rfl rfl ?_ | refine k_addi rfl rfl rfl (by omega) ?_ | refine k_not rfl rfl rfl ?_ | refine k_lssT rfl rfl rfl (by omega) ?_ | refine k_lssF rfl rfl rfl (by omega) ?_ | refine k_gtrT rfl rfl rfl (by omega) ?_ | refine k_gtrF rfl rfl rfl (by omega) ?_ | refine k_geqT rfl rfl rfl (by omega) ?_ | refine k_geqF rfl rfl rfl (by omega) ?_ | refine k_eqlT rfl rfl rfl (by omega) ?_ | refine k_eqlF rfl rfl rfl (by omega) ?_ | refine k_neqT rfl rfl rfl (by omega) ?_ | refine k_neqF rfl rfl rfl (by omega) ?_ | refine k_eqa rfl rfl rfl rfl rfl rfl ?_ | refine k_nea rfl rfl rfl rfl rfl rfl ?_ | refine k_skip rfl ?_ | refine k_skip0 rfl ?_ | refine k_pick rfl rfl rfl rfl rfl ?_ | refine W_yes rfl ?_ | refine W_no rfl ?_)
      (first | with_reducible refine q_endr ?_ | with_reducible refine q_endn ?_); refine rets1 Try.results5 (by first | exact RetV.tmp _ _ rfl | exact RetV.cell _ _ _ _ _ _ _ _ inferInstance rfl rfl rfl) ?_
      rfl
  · subst hl0
    simp only [cond_false] at lv
    rw [show SeT.cells ⟨si, sn, sz, su⟩ = [.int .i64 si, .slice .frozen sn sz, .int .i64 su] from rfl] at lv
    refine pur_intro Try.func5 rfl Try.ntmps5 rfl (by first | rfl | assumption | exact bs_cl _) fun B => ?_
    repeat (first | with_reducible (first | refine W_seq ?_ | refine q_then ?_ | refine q_thenr ?_ | refine q_thenx ?_ | refine W_block ?_ | refine q_block ?_ | refine q_blockr ?_ | refine q_blockx ?_ | refine W_ret ?_ | refine W_skip ?_ | refine W_label ?_ | refine W_exit ?_ | refine W_scope ?_ | refine q_scope ?_ | refine q_scoper ?_ | refine q_scopex ?_) | (with_reducible refine R_nil ?_; try dsimp only [slots0, slots_ud, cells_U, agg_ud, drop0, dropS, takeS, take0, ud_nil, take_ud, take_ud0, drop_ud, drop_ud0, take_udk, D.cells, D.fz, D.fzs, List.take_succ_cons, List.take_zero, List.drop_succ_cons, List.drop_zero, List.cons_append, List.nil_append, List.append_eq, List.length_cons, List.length_nil, Nat.reduceAdd, Nat.reduceMul, Nat.reduceSub, Int.reduceAdd, Int.reduceSub, Int.reduceToNat, Int.reduceNeg, Int.reduceMul]) | refine q_blocky rfl ?_ | refine W_plain rfl ?_ | refine W_drawn mixed rfl ?_ | refine and_chk (by kernel_rfl) ?_ | refine k_indexAddrs rfl rfl rfl ⟨by omega, by omega⟩ hzs ?_ | refine k_loade rfl rfl (by exact kc _) ?_ | refine k_move rfl rfl ?_ | refine k_assign rfl rfl ?_ | refine k_load rfl rfl rfl rfl ?_ | refine k_alloc rfl ?_ | refine k_store rfl rfl rfl rfl rfl rfl rfl ?_ | refine k_extract rfl rfl rfl ?_ | refine k_fieldAddr rfl rfl rfl ?_ | refine k_build rfl rfl rfl ?_ | refine k_call rfl td rfl rfl rfl rfl ?_ | refine k_call rfl pi rfl rfl rfl rfl ?_ | refine k_call rfl px rfl rfl rfl rfl ?_ | refine k_call rfl lv rfl rfl rfl rfl ?_ | refine k_call rfl ln rfl rfl rfl rfl ?_ | refine k_call rfl ck rfl rfl rfl rfl ?_ | refine k_conv rfl rfl (by with_reducible exact e1) ?_ | refine k_eqa rfl rfl rfl lk lk dq ?_ | refine k_append rfl rfl rfl (by first | rfl | exact trivial | (show 0 < _; omega)) (by first | rfl | (simp <;> omega)) (by first | rfl | (simp <;> omega)) rfl (by omega) rfl rfl rfl ?_ | refine k_slice rfl rfl rfl rfl ⟨by omega, by omega, by omega⟩ rfl rfl rfl ?_ | refine k_slice3 rfl rfl rfl rfl rfl ⟨by omega, by omega, by omega⟩ rfl rfl rfl ?_ | refine k_sliceA rfl rfl rfl rfl ⟨by omega, by omega, by omega, by omega⟩ rfl rfl ?_ | refine k_sliceE rfl rfl rfl rfl ⟨by omega, by omega, by omega, by omega⟩ rfl rfl rfl rfl ?_ | refine k_indexAddr rfl rfl rfl ⟨by omega, by omega⟩ ?_ | refine k_indexAddrs rfl rfl rfl ⟨by omega, by omega⟩ rfl ?_ | refine k_loade rfl rfl rfl ?_ | refine k_fieldAddre rfl rfl rfl rfl ?_ | refine k_len rfl rfl ?_ | refine k_pickT rfl rfl rfl ?_ | refine k_pickF rfl rfl rfl ?_ | refine k_addi rfl rfl rfl (by omega) ?_ | refine k_not rfl rfl rfl ?_ | refine k_lssT rfl rfl rfl (by omega) ?_ | refine k_lssF rfl rfl rfl (by omega) ?_ | refine k_gtrT rfl rfl rfl (by omega) ?_ | refine k_gtrF rfl rfl rfl (by omega) ?_ | refine k_geqT rfl rfl rfl (by omega) ?_ | refine k_geqF rfl rfl rfl (by omega) ?_ | refine k_eqlT rfl rfl rfl (by omega) ?_ | refine k_eqlF rfl rfl rfl (by omega) ?_ | refine k_neqT rfl rfl rfl (by omega) ?_ | refine k_neqF rfl rfl rfl (by omega) ?_ | refine k_eqa rfl rfl rfl rfl rfl rfl ?_ | refine k_nea rfl rfl rfl rfl rfl rfl ?_ | refine k_skip rfl ?_ | refine k_skip0 rfl ?_ | refine k_pick rfl rfl rfl rfl rfl ?_ | refine W_yes rfl ?_ | refine W_no rfl ?_)
    (first | with_reducible refine q_endr ?_ | with_reducible refine q_endn ?_); refine rets1 Try.results5 (by first | exact RetV.tmp _ _ rfl | exact RetV.cell _ _ _ _ _ _ _ _ inferInstance rfl rfl rfl) ?_
    rfl
theorem walk {w : World} {v : Value} (l : List RawT) (hr : Rep (bare (allhw w)) w (.slice .frozen l.length (rws l)) v) (a b : Int) : Calls Try.prog 5 #[v, .int .i64 a, .int .i64 b] w fun e w' => e = .returned (.bool true) ∧ New w w' :=
  calls_of_purS (pur l a b) (.cons hr (.cons (.int _ _) (.cons (.int _ _) .nil)))

set_option maxRecDepth 100000 in
theorem lifted (os : Os) (started : os.Started) (H : Type) (enc : TypeId × Value → H) :
    ReturnsInHanded {} Try.checked os 5 .any (Rows.setsCountSpec.pre6 enc Try.prog Try.f5 Rows.setsCountRow.domain false) (Rows.setsCountSpec.post enc Try.prog Try.f5 false true false false) := by
  refine returnsInHanded_of_change (C := Try.checked) own started (by kernel_rfl) Try.func5
    (ChangeSpec.witness6 (enc := enc) (C := Try.checked) false ⟨#[], #[.slice none 0 0, .int .i64 0, .int .i64 0], []⟩ 8 (by kernel_rfl) (by kernel_rfl) (by kernel_rfl) (by kernel_rfl)) ?_
  intro W base args ds gs before hval0 hW hcnd _
  have hval : ∀ (j : Nat) t v, Try.f5.params[j]? = some t → args[j]? = some v → Value.okWide Try.prog W .any base t v := hval0
  have hW' := hW
  obtain ⟨p, q, hA0, hV, rfl, hfz, hnd⟩ := hW
  have hA : DataW.TrodAll enc Try.prog W 0 (fun _ => true) true Try.f5.params.toList args.toList ds p := hA0
  rw [Try.params5] at hA hval
  obtain ⟨v0, vs0, d0, ds0, p0, q0, hargs, rfl, rfl, h0, r0⟩ := trodAll_cons hA
  obtain ⟨v1, vs1, d1, ds1, p1, q1, rfl, rfl, rfl, h1, r1⟩ := trodAll_cons r0
  obtain ⟨v2, vs2, d2, ds2, p2, q2, rfl, rfl, rfl, h2, r2⟩ := trodAll_cons r1
  obtain ⟨rfl, rfl, rfl⟩ := trodAll_nil r2
  obtain rfl : args = #[v0, v1, v2] := by cases args; simp_all
  obtain ⟨rfl, rfl⟩ := trodVars_none hV
  obtain ⟨l1, wl1, hl1⟩ := open_raws (hval 0 36 v0 rfl rfl) h0
  obtain ⟨n2, rfl, rfl, rfl, wn2⟩ := open_int Try.underlying3 (hval 1 3 v1 rfl rfl) h1
  obtain ⟨n3, rfl, rfl, rfl, wn3⟩ := open_int Try.underlying3 (hval 2 3 v2 rfl rfl) h2
  refine (walk l1 hl1 n2 n3).mono fun e W' ⟨he, hN⟩ => ?_
  subst he
  exact ⟨_, rfl, law_post laidOut (by kernel_rfl) (by kernel_rfl) Try.underlying4 rfl hW' rfl hN⟩

theorem holds : Rows.SetsCountSaid :=
  OpenClaim.holds_of_wide 5 Try.f5 rfl rfl rfl rfl rfl rfl rfl ⟨rfl, rfl, rfl, rfl, rfl⟩ rfl rfl rfl rfl rfl (by kernel_rfl) Try.func5 (by kernel_rfl)
    (of_decide_eq_true (by kernel_rfl)) (by unfold Func.isWrapper; first | (rw [if_pos (by decide +kernel)]; kernel_rfl) | (rw [if_neg (by decide +kernel)]; exact ⟨rfl, rfl⟩))
    (fun os started H enc _ => lifted os started H enc)

#print axioms holds
end Go.Proofs.Ytokijcdanegooaa.setsCount
