/- QuorumRight: enough signatures are enough, and fewer are not; out of order they count for nothing. Conditions: none but what the card says of the tables. -/
import Derived.Test.YtpdhbddkcnffbaaDoorQrm2
import Derived.Test.YtpdhbddkcnffbaaDoorRowD
import Derived.Test.YtpdhbddkcnffbaaDoorRowH
namespace Go.Proofs.YtpdhbddkcnffbaaDoor.quorumRight
open Go.ChangeShapes Go.WideShapes Go.RowKit Go.Joins Go.Lib
set_option linter.unusedVariables false
open Go.Proofs.YtpdhbddkcnffbaaDoor
set_option maxRecDepth 100000
--nrm pt_all pt_x pt_y cv_all cv_p cv_a cv_b cv_n cv_g cv_gx pt_len cv_len rg_len ren_rl rl_all rl_m rl_len rl_nil pt_nil ptD_all ptD_nil ptD_len sg_all sg_r sg_s sg_len

/-- who was the last one that signed -/
def lw (m : Nat) : Nat → Int
  | 0 => -1
  | k + 1 => if bitM m k then (k : Int) else lw m k
theorem lw_succ (m k : Nat) : lw m (k + 1) = if bitM m k then (k : Int) else lw m k := rfl
theorem lw_lt (m : Nat) : ∀ k : Nat, lw m k < (k : Int)
  | 0 => by show (-1 : Int) < 0; decide
  | k + 1 => by
    have := lw_lt m k
    rw [lw_succ]
    split <;> omega
theorem chk_sgnd (sr ss so : Nat → Nat) (m : Nat) : ∀ (k : Nat) (tail : List QE), chkR (-1) (sgnd sr ss so m k ++ tail) = chkR (lw m k) tail
  | 0, tail => rfl
  | k + 1, tail => by
    rw [sgnd_succ, List.append_assoc, chk_sgnd sr ss so m k, lw_succ]
    by_cases h : bitM m k
    · rw [if_pos h, if_pos h]
      have := lw_lt m k
      show (if (k : Int) ≤ lw m k then 3 else if true then chkR k ([] ++ tail) else 10) = _
      rw [if_neg (by omega), if_pos rfl]; rfl
    · rw [if_neg h, if_neg h]; rfl
theorem mem_lw (sr ss so : Nat → Nat) (m : Nat) : ∀ (k : Nat) (e : QE), e ∈ sgnd sr ss so m k → (e.w : Int) ≤ lw m k ∧ e.w < k ∧ e = ⟨e.w, sr e.w, ss e.w, so e.w, true⟩
  | 0, e, h => by unfold sgnd at h; simp at h
  | k + 1, e, h => by
    rw [sgnd_succ] at h
    have hl := lw_lt m k
    rw [lw_succ]
    rcases List.mem_append.1 h with h | h
    · obtain ⟨h1, h2, h3⟩ := mem_lw sr ss so m k e h
      refine ⟨?_, by omega, h3⟩
      split <;> omega
    · by_cases hb : bitM m k
      · rw [if_pos hb] at h ⊢
        rw [List.mem_singleton] at h
        subst h
        exact ⟨Int.le_refl _, by simp, rfl⟩
      · rw [if_neg hb] at h; simp at h
theorem fzq (cs z : List D) (l : List UInt8) (a u : Int) (m n j : Nat) (kz : List D) (hc : D.fzs cs = cs) : D.fzs [.agg cs, .agg [.int .i64 a, .slice .frozen m kz, .int .i64 u], .agg (bs l), .slice (.own j) n z] = [.agg cs, .agg [.int .i64 a, .slice .frozen m kz, .int .i64 u], .agg (bs l), .slice .frozen n z] := by
  show [D.agg (D.fzs cs), _, D.agg (D.fzs (bs l)), _] = _
  rw [bs_fzs, hc]; rfl
theorem fzf (cs z : List D) (l : List UInt8) (a u : Int) (m n : Nat) (kz : List D) (hc : D.fzs cs = cs) : D.fzs [.agg cs, .agg [.int .i64 a, .slice .frozen m kz, .int .i64 u], .agg (bs l), .slice .frozen n z] = [.agg cs, .agg [.int .i64 a, .slice .frozen m kz, .int .i64 u], .agg (bs l), .slice .frozen n z] := by
  show [D.agg (D.fzs cs), _, D.agg (D.fzs (bs l)), _] = _
  rw [bs_fzs, hc]; rfl
theorem clq (cs z : List D) (l : List UInt8) (a u : Int) (m n : Nat) (kz : List D) (hc : D.cls cs = true) : D.cls [.agg cs, .agg [.int .i64 a, .slice .frozen m kz, .int .i64 u], .agg (bs l), .slice .frozen n z] = true := by
  show (D.cls cs && (true && (D.cls (bs l) && true))) = true
  rw [bs_cl, hc]; rfl
theorem fz0 (cs z : List D) (l : List UInt8) (n : Nat) (hc : D.fzs cs = cs) : D.fzs [.agg cs, .agg [.int .i64 0, .slice .nil 0 [], .int .i64 0], .agg (bs l), .slice .frozen n z] = [.agg cs, .agg [.int .i64 0, .slice .nil 0 [], .int .i64 0], .agg (bs l), .slice .frozen n z] := by
  show [D.agg (D.fzs cs), _, D.agg (D.fzs (bs l)), _] = _
  rw [bs_fzs, hc]; rfl
theorem cl0 (cs z : List D) (l : List UInt8) (n : Nat) (hc : D.cls cs = true) : D.cls [.agg cs, .agg [.int .i64 0, .slice .nil 0 [], .int .i64 0], .agg (bs l), .slice .frozen n z] = true := by
  show (D.cls cs && (true && (D.cls (bs l) && true))) = true
  rw [bs_cl, hc]; rfl
theorem fzs4 (cs z : List D) (l : List UInt8) (k : Nat) (m : Int) (hc : D.fzs cs = cs) : D.fzs [.agg cs, .slice .frozen k z, .int .i64 m, .agg (bs l)] = [.agg cs, .slice .frozen k z, .int .i64 m, .agg (bs l)] := by
  show [D.agg (D.fzs cs), _, _, D.agg (D.fzs (bs l))] = _
  rw [bs_fzs, hc]; rfl
theorem cls4 (cs z : List D) (l : List UInt8) (k : Nat) (m : Int) (hc : D.cls cs = true) : D.cls [.agg cs, .slice .frozen k z, .int .i64 m, .agg (bs l)] = true := by
  show (D.cls cs && (true && (true && (D.cls (bs l) && true)))) = true
  rw [bs_cl, hc]; rfl
set_option maxHeartbeats 16000000 in
theorem pur (zn many mask k' a' b' : Int) (sx : ByteArray) : Pur Tryd.prog 7 [.int .i64 zn, .int .i64 many, .int .i64 mask, .agg [.int .i64 k', .int .i64 a', .int .i64 b', .str sx]] (.bool true) := by
  obtain ⟨kk, p, cb, n, gx, gy, T, hz, hk, G, hn, h1, hp, E, C, hp2, h30, _, t1, t2, t12⟩ := grps4 zn
  have hc := Curve_ok zn kk p cb n gx gy hz hk
  obtain ⟨z, hzl, su⟩ := sum_ok k' a' b' sx
  obtain ⟨kq, ekq, hkq⟩ : ∃ q : Nat, many % 5 = q ∧ q < 5 := ⟨(many % 5).toNat, by omega, by omega⟩
  have pk := p_picked many 5 kq (by decide) (by decide) ekq
  obtain ⟨k, hkk⟩ : ∃ k, kq + 1 = k := ⟨_, rfl⟩
  have hk1 : 1 + (kq : Int) = (k : Int) := by omega
  have hk1w : IntKind.i64.wrap (1 + (kq : Int)) = (k : Int) := by rw [hk1]; exact Go.IntWalk.i64_in _ (by omega)
  have hsh : IntKind.i64.wrap (1 * 2 ^ (min ((k : Int)).toNat IntKind.i64.bits)) = ((2 ^ k : Nat) : Int) := by
    have : ∀ v : Fin 6, IntKind.i64.wrap (1 * 2 ^ (min (((v.val : Nat) : Int)).toNat IntKind.i64.bits)) = ((2 ^ v.val : Nat) : Int) := by decide +kernel
    exact this ⟨k, by omega⟩
  have h2k : 2 ^ k ≤ 32 := by
    have : ∀ v : Fin 6, 2 ^ v.val ≤ 32 := by decide
    exact this ⟨k, by omega⟩
  have h2k0 : 0 < 2 ^ k := Nat.pow_pos (by decide)
  generalize 2 ^ k = pw at *
  obtain ⟨m, em, hm⟩ : ∃ q : Nat, mask % (pw : Int) = q ∧ q < pw := by
    have u0 := Int.emod_nonneg mask (show (pw : Int) ≠ 0 by omega)
    have u1 := Int.emod_lt_of_pos mask (show (0 : Int) < pw by omega)
    exact ⟨(mask % (pw : Int)).toNat, by omega, by omega⟩
  have pm := p_picked mask pw m (by omega) (by omega) em
  have mem := members_ok (p := p) (b := cb) (gx := gx) (gy := gy) (T := T) G hn h30 k (by omega)
  -- what each one signs
  have each : ∀ i, ∃ r s o : Nat, i < k → Pur Tryd.prog 15 [.agg (cv p 0 cb n gx gy false), U (3 * i + 2), .agg (bs z)] (.tup [.agg (sg r s o), .int .i64 0]) ∧ Pur Tryd.prog 19 [.agg (cv p 0 cb n gx gy false), .agg (bs z), .agg (sg r s o)] (.tup [.agg (ptD (T (3 * i + 2))), .int .i64 0]) := fun i => by
    by_cases hi : i < k
    · obtain ⟨r, s, o, ii, x, y, sig, mk⟩ := Make_ok G E hn hp hp2 h30 t1 t2 t12 (3 * i + 2) (by omega) (by omega) z hzl
      exact ⟨r, s, o, fun _ => ⟨mk, (rec_sig G E hn hp sig z hzl (m := 3 * i + 2) ⟨0, by grind⟩).1 (by rw [Nat.mod_eq_of_lt (by omega)]; omega)⟩⟩
    · exact ⟨0, 0, 0, fun h => absurd h hi⟩
  obtain ⟨sr, each⟩ := Classical.axiomOfChoice each
  obtain ⟨ss, each⟩ := Classical.axiomOfChoice each
  obtain ⟨so, each⟩ := Classical.axiomOfChoice each
  have sgd := signed_ok (p := p) (b := cb) (n := n) (gx := gx) (gy := gy) k (by omega) hn m (by omega) z hzl sr ss so fun i hi => (each i hi).1
  have hall : ∀ e ∈ sgnd sr ss so m k, EOk p cb n gx gy z (keysT T k) e := fun e he => by
    obtain ⟨_, hlt, heq⟩ := mem_lw sr ss so m k e he
    refine ⟨keyT T e.w, keysT_at T k e.w hlt, .inr ⟨(T (3 * e.w + 2)).1, (T (3 * e.w + 2)).2.1, (T (3 * e.w + 2)).2.2, ?_, ?_⟩⟩
    · have := (each e.w hlt).2
      rw [heq]; exact this
    · rw [heq]; show true = decide (keyT T e.w = keyT T e.w); simp
  have hes := sgnd_len sr ss so m k
  obtain ⟨ne, hne⟩ : ∃ ne, (sgnd sr ss so m k).length = ne := ⟨_, rfl⟩
  obtain ⟨nd, hnd⟩ : ∃ nd, 2 * k / 3 + 1 = nd := ⟨_, rfl⟩
  have need := Need_ok k nd (by omega) hnd
  have hmax : max (nd : Int) 1 = nd := by omega
  have hfs4 := fzs4 (cv p 0 cb n gx gy false) (secC k) z k m rfl
  have hcs4 := cls4 (cv p 0 cb n gx gy false) (secC k) z k m rfl
  rw [hne] at sgd hes
  rcases Nat.lt_or_ge ne nd with hfew | hen
  · have ck := QCheck_few G z (ksC (keysT T k)) (esC (sgnd sr ss so m k)) k (by omega) (by omega) ne (by omega) 0 0
    have hff := fzf (cv p 0 cb n gx gy false) (esC (sgnd sr ss so m k)) z 0 0 k ne (ksC (keysT T k)) rfl
    have hcf := clq (cv p 0 cb n gx gy false) (esC (sgnd sr ss so m k)) z 0 0 k ne (ksC (keysT T k)) rfl
    generalize esC (sgnd sr ss so m k) = ez at *
    generalize ksC (keysT T k) = kz at *
    generalize secC k = sz at *
    refine pur_intro Tryd.func7 rfl Tryd.ntmps7 rfl (by first | rfl | assumption | exact bs_cl _) fun B => ?_
    repeat (first | with_reducible (first | refine W_seq ?_ | refine q_then ?_ | refine q_thenr ?_ | refine q_thenx ?_ | refine W_block ?_ | refine q_block ?_ | refine q_blockr ?_ | refine q_blockx ?_ | refine W_ret ?_ | refine W_skip ?_ | refine W_label ?_ | refine W_exit ?_ | refine W_scope ?_ | refine q_scope ?_ | refine q_scoper ?_ | refine q_scopex ?_) | (with_reducible refine R_nil ?_; try dsimp only [slots0, slots_ud, pt_all, pt_x, pt_y, cv_all, cv_p, cv_a, cv_b, cv_n, cv_g, cv_gx, pt_len, cv_len, rg_len, ren_rl, rl_all, rl_m, rl_len, rl_nil, pt_nil, ptD_all, ptD_nil, ptD_len, sg_all, sg_r, sg_s, sg_len, cells_U, agg_ud, drop0, dropS, takeS, take0, ud_nil, take_ud, take_ud0, drop_ud, drop_ud0, take_udk, D.cells, D.fz, D.fzs, List.take_succ_cons, List.take_zero, List.drop_succ_cons, List.drop_zero, List.cons_append, List.nil_append, List.append_eq, List.length_cons, List.length_nil, Nat.reduceAdd, Nat.reduceMul, Nat.reduceSub, Int.reduceAdd, Int.reduceSub, Int.reduceToNat, Int.reduceNeg, Int.reduceMul]) | refine q_blocky rfl ?_ | refine W_plain rfl ?_ | refine W_drawn mixed rfl ?_ | refine and_chk (by kernel_rfl) ?_ | refine k_add rfl rfl rfl hk1w ?_ | refine k_move rfl rfl ?_ | refine k_assign rfl rfl ?_ | refine k_load rfl rfl rfl rfl ?_ | refine k_alloc rfl ?_ | refine k_box rfl rfl rfl ?_ | refine k_store rfl rfl rfl rfl rfl rfl rfl ?_ | refine k_extract rfl rfl rfl ?_ | refine k_build rfl rfl rfl ?_ | refine k_call rfl hc rfl rfl rfl rfl ?_ | refine k_call rfl pk rfl rfl rfl rfl ?_ | refine k_call rfl mem rfl rfl rfl rfl ?_ | refine k_shl rfl rfl rfl (by omega) hsh ?_ | refine k_call rfl pm rfl rfl rfl rfl ?_ | refine k_call rfl su rfl rfl rfl (bs_cl _) ?_ | refine k_call rfl sgd rfl hfs4 hcs4 rfl ?_ | refine k_call rfl need rfl rfl rfl rfl ?_ | refine k_call rfl ck rfl hff hcf rfl ?_ | refine k_max rfl rfl rfl hmax ?_ | refine k_append rfl rfl rfl (by first | rfl | exact trivial | (show 0 < _; omega)) (by first | rfl | (simp <;> omega)) (by first | rfl | (simp <;> omega)) rfl (by omega) rfl rfl rfl ?_ | refine k_slice rfl rfl rfl rfl ⟨by omega, by omega, by omega⟩ rfl rfl rfl ?_ | refine k_slice3 rfl rfl rfl rfl rfl ⟨by omega, by omega, by omega⟩ rfl rfl rfl ?_ | refine k_sliceA rfl rfl rfl rfl ⟨by omega, by omega, by omega, by omega⟩ rfl rfl ?_ | refine k_sliceE rfl rfl rfl rfl ⟨by omega, by omega, by omega, by omega⟩ rfl rfl rfl rfl ?_ | refine k_buildSlice (cs := []) rfl rfl rfl rfl rfl rfl rfl ?_ | refine k_buildSlice rfl rfl rfl rfl rfl rfl rfl ?_ | refine k_indexAddr rfl rfl rfl ⟨by omega, by omega⟩ ?_ | refine k_indexAddrs rfl rfl rfl ⟨by omega, by omega⟩ rfl ?_ | refine k_loade rfl rfl rfl ?_ | refine k_len rfl rfl ?_ | refine k_pickT rfl rfl rfl ?_ | refine k_pickF rfl rfl rfl ?_ | refine k_addi rfl rfl rfl (by omega) ?_ | refine k_subi rfl rfl rfl (by omega) ?_ | refine k_lssT rfl rfl rfl (by omega) ?_ | refine k_lssF rfl rfl rfl (by omega) ?_ | refine k_eqlT rfl rfl rfl (by omega) ?_ | refine k_eqlF rfl rfl rfl (by omega) ?_ | refine k_neqT rfl rfl rfl (by omega) ?_ | refine k_neqF rfl rfl rfl (by omega) ?_ | refine k_eqa rfl rfl rfl rfl rfl rfl ?_ | refine k_nea rfl rfl rfl rfl rfl rfl ?_ | refine k_skip rfl ?_ | refine k_skip0 rfl ?_ | refine k_pick rfl rfl rfl rfl rfl ?_ | refine W_yes rfl ?_ | refine W_no rfl ?_)
    (first | with_reducible refine q_endr ?_ | with_reducible refine q_endn ?_); refine rets1 Tryd.results7 (by first | exact RetV.tmp _ _ rfl | exact RetV.cell _ _ _ _ _ _ _ _ inferInstance rfl rfl rfl) ?_
    rfl
  · have hR : chkR (-1) (sgnd sr ss so m k) = 0 := by
      have := chk_sgnd sr ss so m k []
      rw [List.append_nil] at this
      rw [this]; rfl
    have ck := QCheck_ok G z hzl (keysT T k) (keysT_20 T k) k (keysT_len T k) (by omega) (by omega) (sgnd sr ss so m k) hall ne hne (by omega) (by omega) 0 0 0 hR
    obtain ⟨e, he⟩ : ∃ e, (sgnd sr ss so m k)[ne - 1]? = some e := ⟨_, List.getElem?_eq_getElem (by omega)⟩
    have hem := List.mem_of_getElem? he
    have hR2 : chkR (-1) (sgnd sr ss so m k ++ [e]) = 3 := by
      rw [chk_sgnd]
      show (if (e.w : Int) ≤ lw m k then 3 else _) = 3
      rw [if_pos (mem_lw sr ss so m k e hem).1]
    have ck2 := QCheck_ok G z hzl (keysT T k) (keysT_20 T k) k (keysT_len T k) (by omega) (by omega) (sgnd sr ss so m k ++ [e]) (fun x hx => by
      rcases List.mem_append.1 hx with h | h
      · exact hall x h
      · rw [List.mem_singleton] at h; rw [h]; exact hall e hem) (ne + 1) (by rw [List.length_append, hne]; rfl) (by omega) (by omega) 0 0 3 hR2
    have ck3 := QCheck_size G z (esC (sgnd sr ss so m k)) ne
    have hcut := esC_cut (sgnd sr ss so m k) (ne - 1) e he
    have hne1 : ((ne : Int) - 1) = ((ne - 1 : Nat) : Int) := by omega
    have hsubw : IntKind.i64.wrap ((ne : Int) - 1) = ((ne - 1 : Nat) : Int) := by rw [hne1]; exact Go.IntWalk.i64_in _ (by omega)
    have hel : ne * 10 = (esC (sgnd sr ss so m k)).length := by rw [esC_len, hne]
    have happ : esC (sgnd sr ss so m k) ++ e.cells = esC (sgnd sr ss so m k ++ [e]) := by unfold esC; rw [List.flatMap_append]; simp
    have hff := fzf (cv p 0 cb n gx gy false) (esC (sgnd sr ss so m k)) z 0 0 k ne (ksC (keysT T k)) rfl
    have hcf := clq (cv p 0 cb n gx gy false) (esC (sgnd sr ss so m k)) z 0 0 k ne (ksC (keysT T k)) rfl
    have hff2 := fun j => fzq (cv p 0 cb n gx gy false) (esC (sgnd sr ss so m k ++ [e])) z 0 0 k (ne + 1) j (ksC (keysT T k)) rfl
    have hcf2 := clq (cv p 0 cb n gx gy false) (esC (sgnd sr ss so m k ++ [e])) z 0 0 k (ne + 1) (ksC (keysT T k)) rfl
    have hff3 := fz0 (cv p 0 cb n gx gy false) (esC (sgnd sr ss so m k)) z ne rfl
    have hcf3 := cl0 (cv p 0 cb n gx gy false) (esC (sgnd sr ss so m k)) z ne rfl
    clear hall hR hR2 hem he each
    generalize esC (sgnd sr ss so m k ++ [e]) = ez2 at *
    generalize esC (sgnd sr ss so m k) = ez at *
    generalize ksC (keysT T k) = kz at *
    generalize secC k = sz at *
    obtain ⟨w, r, s, o, g⟩ := e
    replace hcut : ∀ ze, cut ⟨true, 10, ze⟩ 0 (ez.drop ((((ne - 1 : Nat) : Int)).toNat * 10)) = some (.agg (.int .i64 w :: sg r s o)) := hcut
    replace happ : ez ++ (.int .i64 w :: sg r s o) = ez2 := happ
    have hw1 : ne - 1 < ne := by omega
    generalize ne - 1 = n1 at *
    refine pur_intro Tryd.func7 rfl Tryd.ntmps7 rfl (by first | rfl | assumption | exact bs_cl _) fun B => ?_
    repeat (first | with_reducible (first | refine W_seq ?_ | refine q_then ?_ | refine q_thenr ?_ | refine q_thenx ?_ | refine W_block ?_ | refine q_block ?_ | refine q_blockr ?_ | refine q_blockx ?_ | refine W_ret ?_ | refine W_skip ?_ | refine W_label ?_ | refine W_exit ?_ | refine W_scope ?_ | refine q_scope ?_ | refine q_scoper ?_ | refine q_scopex ?_) | (with_reducible refine R_nil ?_; try dsimp only [slots0, slots_ud, pt_all, pt_x, pt_y, cv_all, cv_p, cv_a, cv_b, cv_n, cv_g, cv_gx, pt_len, cv_len, rg_len, ren_rl, rl_all, rl_m, rl_len, rl_nil, pt_nil, ptD_all, ptD_nil, ptD_len, sg_all, sg_r, sg_s, sg_len, cells_U, agg_ud, drop0, dropS, takeS, take0, ud_nil, take_ud, take_ud0, drop_ud, drop_ud0, take_udk, D.cells, D.fz, D.fzs, List.take_succ_cons, List.take_zero, List.drop_succ_cons, List.drop_zero, List.cons_append, List.nil_append, List.append_eq, List.length_cons, List.length_nil, Nat.reduceAdd, Nat.reduceMul, Nat.reduceSub, Int.reduceAdd, Int.reduceSub, Int.reduceToNat, Int.reduceNeg, Int.reduceMul]) | refine q_blocky rfl ?_ | refine W_plain rfl ?_ | refine W_drawn mixed rfl ?_ | refine and_chk (by kernel_rfl) ?_ | refine k_add rfl rfl rfl hk1w ?_ | refine k_sub rfl rfl rfl hsubw ?_ | refine k_indexAddrs rfl rfl rfl ⟨by omega, by omega⟩ hel ?_ | refine k_loade rfl rfl (by exact hcut _) ?_ | refine k_buildSlice (cs := .int .i64 w :: sg r s o) rfl rfl rfl rfl rfl rfl rfl ?_ | refine k_append (cs3 := ez) rfl rfl rfl (by rfl) rfl hel rfl (by omega) rfl (Nat.zero_add _) rfl ?_ | refine k_append rfl rfl rfl (by rfl) hel rfl rfl (by omega) rfl rfl happ ?_ | refine k_move rfl rfl ?_ | refine k_assign rfl rfl ?_ | refine k_load rfl rfl rfl rfl ?_ | refine k_alloc rfl ?_ | refine k_box rfl rfl rfl ?_ | refine k_store rfl rfl rfl rfl rfl rfl rfl ?_ | refine k_extract rfl rfl rfl ?_ | refine k_build rfl rfl rfl ?_ | refine k_call rfl hc rfl rfl rfl rfl ?_ | refine k_call rfl pk rfl rfl rfl rfl ?_ | refine k_call rfl mem rfl rfl rfl rfl ?_ | refine k_shl rfl rfl rfl (by omega) hsh ?_ | refine k_call rfl pm rfl rfl rfl rfl ?_ | refine k_call rfl su rfl rfl rfl (bs_cl _) ?_ | refine k_call rfl sgd rfl hfs4 hcs4 rfl ?_ | refine k_call rfl need rfl rfl rfl rfl ?_ | refine k_call rfl ck rfl hff hcf rfl ?_ | refine k_max rfl rfl rfl hmax ?_ | refine k_call rfl ck2 rfl (hff2 _) hcf2 rfl ?_ | refine k_call rfl ck3 rfl hff3 hcf3 rfl ?_ | refine k_append rfl rfl rfl (by first | rfl | exact trivial | (show 0 < _; omega)) (by first | rfl | (simp <;> omega)) (by first | rfl | (simp <;> omega)) rfl (by omega) rfl rfl rfl ?_ | refine k_slice rfl rfl rfl rfl ⟨by omega, by omega, by omega⟩ rfl rfl rfl ?_ | refine k_slice3 rfl rfl rfl rfl rfl ⟨by omega, by omega, by omega⟩ rfl rfl rfl ?_ | refine k_sliceA rfl rfl rfl rfl ⟨by omega, by omega, by omega, by omega⟩ rfl rfl ?_ | refine k_sliceE rfl rfl rfl rfl ⟨by omega, by omega, by omega, by omega⟩ rfl rfl rfl rfl ?_ | refine k_buildSlice (cs := []) rfl rfl rfl rfl rfl rfl rfl ?_ | refine k_buildSlice rfl rfl rfl rfl rfl rfl rfl ?_ | refine k_indexAddr rfl rfl rfl ⟨by omega, by omega⟩ ?_ | refine k_indexAddrs rfl rfl rfl ⟨by omega, by omega⟩ rfl ?_ | refine k_loade rfl rfl rfl ?_ | refine k_len rfl rfl ?_ | refine k_pickT rfl rfl rfl ?_ | refine k_pickF rfl rfl rfl ?_ | refine k_addi rfl rfl rfl (by omega) ?_ | refine k_subi rfl rfl rfl (by omega) ?_ | refine k_lssT rfl rfl rfl (by omega) ?_ | refine k_lssF rfl rfl rfl (by omega) ?_ | refine k_eqlT rfl rfl rfl (by omega) ?_ | refine k_eqlF rfl rfl rfl (by omega) ?_ | refine k_neqT rfl rfl rfl (by omega) ?_ | refine k_neqF rfl rfl rfl (by omega) ?_ | refine k_eqa rfl rfl rfl rfl rfl rfl ?_ | refine k_nea rfl rfl rfl rfl rfl rfl ?_ | refine k_skip rfl ?_ | refine k_skip0 rfl ?_ | refine k_pick rfl rfl rfl rfl rfl ?_ | refine W_yes rfl ?_ | refine W_no rfl ?_)
    (first | with_reducible refine q_endr ?_ | with_reducible refine q_endn ?_); refine rets1 Tryd.results7 (by first | exact RetV.tmp _ _ rfl | exact RetV.cell _ _ _ _ _ _ _ _ inferInstance rfl rfl rfl) ?_
    rfl

set_option maxHeartbeats 4000000 in
theorem walk (zn many mask k a' b' : Int) (sx : ByteArray) (w : World) (hG : GTab w []) : Calls Tryd.prog 7 #[.int .i64 zn, .int .i64 many, .int .i64 mask, .agg #[.int .i64 k, .int .i64 a', .int .i64 b', .string sx]] w fun e w' => e = .returned (.bool true) ∧ New w w' :=
  calls_of_pur (vs := [.int .i64 zn, .int .i64 many, .int .i64 mask, .agg #[.int .i64 k, .int .i64 a', .int .i64 b', .string sx]]) rfl rfl rfl (pur zn many mask k a' b' sx) w hG

set_option maxRecDepth 100000 in
theorem lifted (os : Os) (started : os.Started) (H : Type) (enc : TypeId × Value → H) :
    ReturnsInHanded {} Tryd.checked os 7 .any (fun w args => (Rows.quorumRightSpec.pre enc Tryd.prog Tryd.f7 [] false w args ∧ laidMetH Tryd.prog laidL w) ∧ sizedMet enc Tryd.prog Tryd.f7 (OpenSpec.ofChange Rows.quorumRightSpec) false w args) (Rows.quorumRightSpec.post enc Tryd.prog Tryd.f7 false true false false) := by
  refine returnsInHanded_of_change_and (C := Tryd.checked) (X := fun w _ => laidMetH Tryd.prog laidL w) (fun _ _ _ hh h => h.of_heap hh) own started (by kernel_rfl) Tryd.func7
    (ChangeSpec.witness_shaped (enc := enc) (C := Tryd.checked) (os := os) (X := fun w _ => laidMetH Tryd.prog laidL w) false (World.doorLaid Tryd.prog 400 os) #[.int .i64 0, .int .i64 0, .int .i64 0, .agg #[.int .i64 0, .int .i64 0, .int .i64 0, .string ⟨#[]⟩]] 8 rfl (World.shaped_of_RefB (by kernel_rfl) (by kernel_rfl)) (by kernel_rfl) (by kernel_rfl) (by kernel_rfl) (door_met os _)) ?_
  intro W base args ds gs before hval0 hW _ _ hL _
  have hG := tabs_of hL
  have hval : ∀ (j : Nat) t v, Tryd.f7.params[j]? = some t → args[j]? = some v → Value.okWide Tryd.prog W .any base t v := hval0
  have hW' := hW
  obtain ⟨p, q, hA0, hV, rfl, hfz, hnd⟩ := hW
  have hA : DataW.TrodAll enc Tryd.prog W 0 (fun _ => true) true Tryd.f7.params.toList args.toList ds p := hA0
  rw [Tryd.params7] at hA hval
  obtain ⟨v0, vs0, d0, ds0, p0, q0, hargs, rfl, rfl, h0, r0⟩ := trodAll_cons hA
  obtain ⟨v1, vs1, d1, ds1, p1, q1, rfl, rfl, rfl, h1, r1⟩ := trodAll_cons r0
  obtain ⟨v2, vs2, d2, ds2, p2, q2, rfl, rfl, rfl, h2, r2⟩ := trodAll_cons r1
  obtain ⟨v3, vs3, d3, ds3, p3, q3, rfl, rfl, rfl, h3, r3⟩ := trodAll_cons r2
  obtain ⟨rfl, rfl, rfl⟩ := trodAll_nil r3
  obtain rfl : args = #[v0, v1, v2, v3] := by cases args; simp_all
  obtain ⟨rfl, rfl⟩ := trodVars_none hV
  obtain ⟨n1, rfl, rfl, rfl, wn1⟩ := open_int Tryd.underlying3 (hval 0 3 v0 rfl rfl) h0
  obtain ⟨n2, rfl, rfl, rfl, wn2⟩ := open_int Tryd.underlying3 (hval 1 3 v1 rfl rfl) h1
  obtain ⟨n3, rfl, rfl, rfl, wn3⟩ := open_int Tryd.underlying3 (hval 2 3 v2 rfl rfl) h2
  obtain ⟨k4, a4, b4, s4, rfl, wk4, wa4, wb4, ws4⟩ := open_raw (hval 3 41 v3 rfl rfl) h3
  refine (walk n1 n2 n3 k4 a4 b4 s4 W hG).mono fun e W' ⟨he, hN⟩ => ?_
  subst he
  exact ⟨_, rfl, law_post laidOut (by kernel_rfl) (by kernel_rfl) Tryd.underlying4 rfl hW' rfl hN⟩

theorem holds : Rows.QuorumRightSaid :=
  OpenClaim.holds_of_wide 7 Tryd.f7 rfl rfl rfl rfl rfl rfl rfl ⟨rfl, rfl, rfl, rfl, rfl⟩ rfl rfl rfl rfl rfl (by kernel_rfl) Tryd.func7 (by kernel_rfl)
    (of_decide_eq_true (by kernel_rfl)) (by unfold Func.isWrapper; first | (rw [if_pos (by decide +kernel)]; kernel_rfl) | (rw [if_neg (by decide +kernel)]; exact ⟨rfl, rfl⟩))
    (fun os started H enc _ => lifted os started H enc)

theorem card : Rows.QuorumRightCardSaid :=
  Claim7.holds_tied_plain_at .later [] [.data, .data] true (true, "29af32c4023fc41b5f8275659b6b95ffe93a7825744bc9c4c95444fa2dc7017c") false
    holds (fun _ h => by cases h) (by kernel_rfl) (fun _ h => by cases h) quorumRight_row_tie rfl ⟨rfl, rfl⟩ (by kernel_rfl) rfl
    (fun f fn hf hfn => by
      obtain rfl : f = 7 := Option.some.inj ((show Tryd.prog.funcNamed "bascule/basculekeep.QuorumRight" = some 7 by kernel_rfl).symm.trans hf) |>.symm
      obtain rfl : fn = Tryd.f7 := (Option.some.inj (Tryd.func7.symm.trans hfn)).symm
      exact ⟨by kernel_rfl, fun j t ht => by
        rw [Tryd.params7] at ht
        have hall : (Tryd.f7.params.all fun u => !Tryd.prog.wantsStandIn u) = true := by kernel_rfl
        have hm := Array.mem_of_getElem? ht
        rw [Tryd.params7] at hall
        exact (show Tryd.prog.wantsStandIn t = false by simpa using Array.all_eq_true_iff_forall_mem.1 hall t hm)⟩)
    (by kernel_rfl)
#print axioms card
end Go.Proofs.YtpdhbddkcnffbaaDoor.quorumRight
