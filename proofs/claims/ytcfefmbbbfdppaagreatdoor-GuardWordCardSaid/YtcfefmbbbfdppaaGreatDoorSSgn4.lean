/- nonce, KeyOf and Make. Conditions: a small curve; its points' table; numbers below the order. -/
import Derived.Test.YtcfefmbbbfdppaaGreatDoorSBytes
import Derived.Test.YtcfefmbbbfdppaaGreatDoorSSgn3
import Derived.Test.YtcfefmbbbfdppaaGreatDoorSBx
import Derived.Test.YtcfefmbbbfdppaaGreatDoorSDFix
import Derived.Test.YtcfefmbbbfdppaaGreatDoorSDCpy
namespace Go.Proofs.YtcfefmbbbfdppaaGreatDoor
open Go.RowKit Go.Lib
set_option linter.unusedVariables false
set_option maxRecDepth 100000
--nrm pt_all pt_x pt_y cv_all cv_p cv_a cv_b cv_n cv_g cv_gx pt_len cv_len rg_len ren_rl rl_all rl_m rl_len rl_nil pt_nil ptD_all ptD_nil ptD_len sg_all sg_r sg_s sg_len
def nonN (n d : Nat) (h : List UInt8) (i : Nat) : Nat := if 256 ≤ i then (i - 255) % n else nm (kec (b32 d ++ h ++ [UInt8.ofNat i])) % n
theorem bs_app2 (a b : List UInt8) : bs a ++ bs b = bs (a ++ b) := by unfold bs; rw [List.map_append]
section
variable {p b n gx gy : Nat} {T : Nat → P3}
set_option maxHeartbeats 4000000 in
theorem nonce_plain (hn : n < 1000) (h0 : 0 < n) (d : Nat) (h : List UInt8) (hl : h.length = 32) (i : Nat) (hi : 256 ≤ i) (hi2 : i < 272) : Pur Tryz.prog 55 [.agg (cv p 0 b n gx gy false), U d, .agg (bs h), .int .i64 i] (U (nonN n d h i)) := by
  have hM : 2000 < M256 := by decide
  have hg : decide ((i : Int) ≥ 256) = true := by simp; omega
  have hc : IntKind.u64.wrap ((i : Int) - 256 + 1) = ((i - 255 : Nat) : Int) := by rw [Go.IntWalk.u64_in _ (by omega)]; omega
  have re := rest_ok (i - 255) n ((i - 255) % n) (by omega) (by omega) h0 rfl
  rw [← U_lit (i - 255) (by omega)] at re
  have e : nonN n d h i = (i - 255) % n := by unfold nonN; rw [if_pos hi]
  rw [e]
  generalize (i - 255) % n = r at *
  refine pur_intro Tryz.func55 rfl Tryz.ntmps55 rfl (by first | rfl | assumption | exact bs_cl _) fun B => ?_
  repeat (first | (with_reducible refine R_nil ?_; try dsimp only [slots0, slots_ud, pt_all, pt_x, pt_y, cv_all, cv_p, cv_a, cv_b, cv_n, cv_g, cv_gx, pt_len, cv_len, rg_len, ren_rl, rl_all, rl_m, rl_len, rl_nil, pt_nil, ptD_all, ptD_nil, ptD_len, sg_all, sg_r, sg_s, sg_len, cells_U, agg_ud, drop0, dropS, takeS, take0, ud_nil, take_ud, take_ud0, drop_ud, drop_ud0, take_udk, D.cells, D.fz, D.fzs, List.take_succ_cons, List.take_zero, List.drop_succ_cons, List.drop_zero, List.cons_append, List.nil_append, List.append_eq, List.length_cons, List.length_nil, Nat.reduceAdd, Nat.reduceMul, Nat.reduceSub, Int.reduceAdd, Int.reduceSub, Int.reduceToNat, Int.reduceNeg, Int.reduceMul]) | refine zC ?_ | refine zA ?_ | refine k_geq rfl rfl rfl hg ?_ | refine k_conv rfl rfl hc ?_ | refine k_call rfl re rfl rfl rfl rfl ?_ | refine zB ?_)
  (first | with_reducible refine q_endr ?_); refine rets1 Tryz.results55 (by exact zv) ?_
  rfl
set_option maxHeartbeats 4000000 in
theorem nonce_kec (hn : n < 1000) (h0 : 0 < n) (d : Nat) (h : List UInt8) (hl : h.length = 32) (i : Nat) (hi : i < 256) : Pur Tryz.prog 55 [.agg (cv p 0 b n gx gy false), U d, .agg (bs h), .int .i64 i] (U (nonN n d h i)) := by
  have hM : 2000 < M256 := by decide
  have hg : decide ((i : Int) ≥ 256) = false := by simp; omega
  have hc : IntKind.u8.wrap (i : Int) = ((UInt8.ofNat i).toNat : Int) := by rw [IntKind.wrap_u8, UInt8.toNat_ofNat']; omega
  have by_ := Bytes_ok d
  have hbl := b32_len d
  have hK := Sum_ok (b32 d ++ h ++ [UInt8.ofNat i]) 65 (by simp [hbl, hl]) (by decide)
  have hKl := kec_len (b32 d ++ h ++ [UInt8.ofNat i])
  have fr := From_ok _ hKl
  have re := rest_ok _ n _ (nm_lt32 _ hKl) (by omega) h0 rfl
  have e : nonN n d h i = nm (kec (b32 d ++ h ++ [UInt8.ofNat i])) % n := by unfold nonN; rw [if_neg (by omega)]
  rw [e]
  have ha1 := bs_app2 (b32 d) h
  have ha2 : bs (b32 d ++ h) ++ [D.int .u8 ((UInt8.ofNat i).toNat : Int)] = bs (b32 d ++ h ++ [UInt8.ofNat i]) := bs_app2 _ [_]
  have hl1 : 64 * 1 = (bs (b32 d ++ h)).length := by rw [bs_len, List.length_append, hbl, hl]
  generalize kec (b32 d ++ h ++ [UInt8.ofNat i]) = Z at *
  generalize nm Z % n = r at *
  generalize nm Z = v at *
  have hm1 : 32 * 1 = (bs (b32 d)).length := by rw [bs_len, hbl]
  have hm2 : 32 * 1 = (bs h).length := by rw [bs_len, hl]
  have t1 : ((bs (b32 d)).drop ((0 : Int).toNat * 1)).take (32 * 1) = bs (b32 d) := by rw [hm1]; exact List.take_length
  have t2 : ((bs h).drop ((0 : Int).toNat * 1)).take (32 * 1) = bs h := by rw [hm2]; exact List.take_length
  have n1 : Nat.ble (32 * 1) (bs (b32 d)).length = true := by rw [hm1]; exact Nat.ble_self_eq_true _
  have n2 : Nat.ble (32 * 1) (bs h).length = true := by rw [hm2]; exact Nat.ble_self_eq_true _
  generalize bs (b32 d ++ h ++ [UInt8.ofNat i]) = z3 at *
  generalize b32 d = Bd at *
  generalize bs (Bd ++ h) = z2 at *
  generalize (UInt8.ofNat i).toNat = c at *
  have hclB : D.cls (bs Bd) = true := bs_cl _
  have hclh : D.cls (bs h) = true := bs_cl _
  refine pur_intro Tryz.func55 rfl Tryz.ntmps55 rfl (by first | rfl | assumption | exact bs_cl _) fun B => ?_
  iterate 26 (first | (with_reducible refine R_nil ?_; try dsimp only [slots0, slots_ud, pt_all, pt_x, pt_y, cv_all, cv_p, cv_a, cv_b, cv_n, cv_g, cv_gx, pt_len, cv_len, rg_len, ren_rl, rl_all, rl_m, rl_len, rl_nil, pt_nil, ptD_all, ptD_nil, ptD_len, sg_all, sg_r, sg_s, sg_len, cells_U, agg_ud, drop0, dropS, takeS, take0, ud_nil, take_ud, take_ud0, drop_ud, drop_ud0, take_udk, D.cells, D.fz, D.fzs, List.take_succ_cons, List.take_zero, List.drop_succ_cons, List.drop_zero, List.cons_append, List.nil_append, List.append_eq, List.length_cons, List.length_nil, Nat.reduceAdd, Nat.reduceMul, Nat.reduceSub, Int.reduceAdd, Int.reduceSub, Int.reduceToNat, Int.reduceNeg, Int.reduceMul]) | refine zC ?_ | refine k_store rfl rfl rfl rfl (b_len hbl) (b_fits _) (by exact b_put hbl _ rfl) ?_ | refine zA ?_ | refine k_geq rfl rfl rfl hg ?_ | refine k_call rfl by_ rfl rfl rfl (bs_cl _) ?_ | refine zB ?_)
  refine W_of_weak (weak_fix 2 (bs h) rfl hclh (by exact zsx) (by exact zmx) (ρ1 := [(9, .ptr 4 0), (8, .ptr 3 0), (6, .eptr (bs h)), (4, .ptr 0 0), (3, .int .i64 i)]) (m1 := [(4, some (.var 48 (bs Bd))), (3, some (.var 27 (ud 0))), (0, some (.var 43 (cv p 0 b n gx gy false)))])) ?_
  refine W_of_weak (weak_fix 4 (bs Bd) rfl hclB (by exact zsx) (by exact zmx) (ρ1 := [(9, .eptr (bs Bd)), (8, .ptr 3 0), (6, .eptr (bs h)), (4, .ptr 0 0), (3, .int .i64 i)]) (m1 := [(3, some (.var 27 (ud 0))), (0, some (.var 43 (cv p 0 b n gx gy false)))])) ?_
  have hwK := b_cut hKl
  repeat (first | (with_reducible refine R_nil ?_; try dsimp only [slots0, slots_ud, pt_all, pt_x, pt_y, cv_all, cv_p, cv_a, cv_b, cv_n, cv_g, cv_gx, pt_len, cv_len, rg_len, ren_rl, rl_all, rl_m, rl_len, rl_nil, pt_nil, ptD_all, ptD_nil, ptD_len, sg_all, sg_r, sg_s, sg_len, cells_U, agg_ud, drop0, dropS, takeS, take0, ud_nil, take_ud, take_ud0, drop_ud, drop_ud0, take_udk, D.cells, D.fz, D.fzs, List.take_succ_cons, List.take_zero, List.drop_succ_cons, List.drop_zero, List.cons_append, List.nil_append, List.append_eq, List.length_cons, List.length_nil, Nat.reduceAdd, Nat.reduceMul, Nat.reduceSub, Int.reduceAdd, Int.reduceSub, Int.reduceToNat, Int.reduceNeg, Int.reduceMul]) | refine zC ?_ | (refine k_sliceEt (nn := 32) rfl rfl rfl ⟨?_, ?_⟩ rfl (by exact n1) rfl (by exact t1) ?_; (decide); (decide)) | (refine k_sliceEt (nn := 32) rfl rfl rfl ⟨?_, ?_⟩ rfl (by exact n2) rfl (by exact t2) ?_; (decide); (decide)) | (refine k_append rfl rfl rfl trivial hm1 hm2 rfl ?_ rfl rfl ha1 ?_; (decide)) | refine k_buildSlice (cs := [.int .u8 (c : Int)]) rfl rfl rfl rfl rfl rfl rfl ?_ | (refine k_append rfl rfl rfl ?_ hl1 rfl rfl ?_ rfl rfl ha2 ?_; (rfl); (decide)) | refine k_load rfl rfl rfl (hwK _) ?_ | refine zA ?_ | refine k_conv rfl rfl hc ?_ | refine k_call rfl hK rfl rfl rfl (bs_cl _) ?_ | refine k_store rfl rfl rfl rfl (b_len hKl) (b_fits _) (by exact b_put hKl _ rfl) ?_ | refine k_call rfl fr rfl (b_fz1 _) (b_cl1 _) rfl ?_ | refine k_call rfl re rfl rfl rfl rfl ?_ | refine zB ?_)
  (first | with_reducible refine q_endr ?_); refine rets1 Tryz.results55 (by exact zv) ?_
  rfl
theorem nonce_ok (hn : n < 1000) (h0 : 0 < n) (d : Nat) (h : List UInt8) (hl : h.length = 32) (i : Nat) (hi : i < 272) : Pur Tryz.prog 55 [.agg (cv p 0 b n gx gy false), U d, .agg (bs h), .int .i64 i] (U (nonN n d h i)) := by
  rcases Nat.lt_or_ge i 256 with h | h
  · exact nonce_kec hn h0 d _ hl i h
  · exact nonce_plain hn h0 d _ hl i h hi
theorem nonN_lt (h0 : 0 < n) (d : Nat) (h : List UInt8) (i : Nat) : nonN n d h i < n := by
  unfold nonN
  split <;> exact Nat.mod_lt _ h0
set_option maxHeartbeats 4000000 in
theorem Make_at (G : Grp p b n gx gy T) (E : Extra p b n T) (hn : n < 1000) (hp : p < 1000) {iv : Nat → Nat} (hiv : Ivs n iv) (d z : Nat) (hd0 : d ≠ 0) (hd : d < n) (h : List UInt8) (hl : h.length = 32) (hz : nm h % n = z) (i0 : Nat) (hi0 : i0 < 272) (hno : ∀ j, j < i0 → trS n T iv d z (nonN n d h j) = none) (r s o : Nat) (hyes : trS n T iv d z (nonN n d h i0) = some (r, s, o)) :
    Pur Tryz.prog 24 [.agg (cv p 0 b n gx gy false), U d, .agg (bs h)] (.tup [.agg (sg r s o), .int .i64 0]) := by
  have hM := G.good.hp
  have h1 := G.good.h1
  have h0 : 0 < n := by omega
  have hM2 : 2000 < M256 := by decide
  have hse := secret_ok p 0 b n gx gy d false true (by omega) (by omega) (by simp; omega)
  have fr := From_ok h hl
  have re := rest_ok (nm h) n z (nm_lt32 h hl) (by omega) h0 hz
  have hzn : z < n := by rw [← hz]; exact Nat.mod_lt _ h0
  have hwh := b_cut hl
  generalize nm h = v at *
  refine pur_intro Tryz.func24 rfl Tryz.ntmps24 rfl (by first | rfl | assumption | exact bs_cl _) fun B => ?_
  repeat (first | (with_reducible refine R_nil ?_; try dsimp only [slots0, slots_ud, pt_all, pt_x, pt_y, cv_all, cv_p, cv_a, cv_b, cv_n, cv_g, cv_gx, pt_len, cv_len, rg_len, ren_rl, rl_all, rl_m, rl_len, rl_nil, pt_nil, ptD_all, ptD_nil, ptD_len, sg_all, sg_r, sg_s, sg_len, cells_U, agg_ud, drop0, dropS, takeS, take0, ud_nil, take_ud, take_ud0, drop_ud, drop_ud0, take_udk, D.cells, D.fz, D.fzs, List.take_succ_cons, List.take_zero, List.drop_succ_cons, List.drop_zero, List.cons_append, List.nil_append, List.append_eq, List.length_cons, List.length_nil, Nat.reduceAdd, Nat.reduceMul, Nat.reduceSub, Int.reduceAdd, Int.reduceSub, Int.reduceToNat, Int.reduceNeg, Int.reduceMul]) | refine zC ?_ | refine k_load rfl rfl rfl (hwh _) ?_ | refine zA ?_ | refine k_call rfl (Check_ok G.good) rfl rfl rfl rfl ?_ | refine k_call rfl hse rfl rfl rfl rfl ?_ | refine k_call rfl fr rfl (b_fz1 _) (b_cl1 _) rfl ?_ | refine k_call rfl re rfl rfl rfl rfl ?_ | refine zB ?_)
  refine W_loop (fun n' ρ m nx => ∃ i : Nat, i ≤ i0 ∧ n' = 272 - i ∧ ρ = [(30, .int .i64 (i : Int)), (9, .ptr 4 0), (7, .int .i64 0), (6, .ptr 3 0), (5, .ptr 2 0), (4, .ptr 1 0), (3, .ptr 0 0)] ∧ m = [(4, some (.var 27 (ud z))), (3, some (.var 52 (sg 0 0 0))), (2, some (.var 48 (bs h))), (1, some (.var 27 (ud d))), (0, some (.var 43 (cv p 0 b n gx gy false)))] ∧ nx = 5)
    ⟨_, _, _, _, (by exact zs), (by exact zm), 0, Nat.zero_le _, rfl, rfl, rfl, rfl⟩ ?_
  rintro n' ρ m nx ⟨i, hi, rfl, rfl, rfl, rfl⟩
  have ni := nonce_ok (p := p) (b := b) (gx := gx) (gy := gy) hn h0 d h hl i (by omega)
  have ti := try_ok G E hn hp hiv d z (nonN n d h i) hd hzn (nonN_lt h0 d h i)
  have hf4 : D.fzs [.agg (cv p 0 b n gx gy false), U d, .agg (bs h), .int .i64 i] = [.agg (cv p 0 b n gx gy false), U d, .agg (bs h), .int .i64 i] := by
    show D.agg (cv p 0 b n gx gy false) :: U d :: D.agg (D.fzs (bs h)) :: _ = _
    rw [bs_fzs]; rfl
  have hc4 : D.cls [.agg (cv p 0 b n gx gy false), U d, .agg (bs h), .int .i64 i] = true := by
    show (true && (true && (D.cls (bs h) && true))) = true
    rw [bs_cl]; rfl
  rcases Nat.lt_or_ge i i0 with hlt | hge
  · rw [hno i hlt] at ti
    have ti : Pur Tryz.prog 54 [.agg (cv p 0 b n gx gy false), U d, U z, U (nonN n d h i)] (.tup [.agg (sg 0 0 0), .bool false, .int .i64 0]) := ti
    generalize nonN n d h i = k at *
    repeat (first | (with_reducible refine R_nil ?_; try dsimp only [slots0, slots_ud, pt_all, pt_x, pt_y, cv_all, cv_p, cv_a, cv_b, cv_n, cv_g, cv_gx, pt_len, cv_len, rg_len, ren_rl, rl_all, rl_m, rl_len, rl_nil, pt_nil, ptD_all, ptD_nil, ptD_len, sg_all, sg_r, sg_s, sg_len, cells_U, agg_ud, drop0, dropS, takeS, take0, ud_nil, take_ud, take_ud0, drop_ud, drop_ud0, take_udk, D.cells, D.fz, D.fzs, List.take_succ_cons, List.take_zero, List.drop_succ_cons, List.drop_zero, List.cons_append, List.nil_append, List.append_eq, List.length_cons, List.length_nil, Nat.reduceAdd, Nat.reduceMul, Nat.reduceSub, Int.reduceAdd, Int.reduceSub, Int.reduceToNat, Int.reduceNeg, Int.reduceMul]) | refine zC ?_ | refine k_load rfl rfl rfl (hwh _) ?_ | refine zA ?_ | refine k_call rfl ni rfl hf4 hc4 rfl ?_ | refine k_call rfl ti rfl rfl rfl rfl ?_ | refine zB ?_)
    exact ⟨272 - (i + 1), _, _, _, (by exact zs), (by exact zm), by omega, i + 1, by omega, rfl, rfl, rfl, rfl⟩
  · have : i = i0 := by omega
    subst this
    rw [hyes] at ti
    have ti : Pur Tryz.prog 54 [.agg (cv p 0 b n gx gy false), U d, U z, U (nonN n d h i)] (.tup [.agg (sg r s o), .bool true, .int .i64 0]) := ti
    generalize nonN n d h i = k at *
    repeat (first | (with_reducible refine R_nil ?_; try dsimp only [slots0, slots_ud, pt_all, pt_x, pt_y, cv_all, cv_p, cv_a, cv_b, cv_n, cv_g, cv_gx, pt_len, cv_len, rg_len, ren_rl, rl_all, rl_m, rl_len, rl_nil, pt_nil, ptD_all, ptD_nil, ptD_len, sg_all, sg_r, sg_s, sg_len, cells_U, agg_ud, drop0, dropS, takeS, take0, ud_nil, take_ud, take_ud0, drop_ud, drop_ud0, take_udk, D.cells, D.fz, D.fzs, List.take_succ_cons, List.take_zero, List.drop_succ_cons, List.drop_zero, List.cons_append, List.nil_append, List.append_eq, List.length_cons, List.length_nil, Nat.reduceAdd, Nat.reduceMul, Nat.reduceSub, Int.reduceAdd, Int.reduceSub, Int.reduceToNat, Int.reduceNeg, Int.reduceMul]) | refine zC ?_ | refine k_load rfl rfl rfl (hwh _) ?_ | refine zA ?_ | refine k_call rfl ni rfl hf4 hc4 rfl ?_ | refine k_call rfl ti rfl rfl rfl rfl ?_ | refine zB ?_)
    (first | with_reducible refine q_endr ?_); refine rets2 Tryz.results24 (by exact zv) (by exact zv) ?_ ?_
    · rfl
    · rfl
theorem first_ {q : Nat → Prop} : ∀ (k : Nat), q k → ∃ i, i ≤ k ∧ q i ∧ ∀ j, j < i → ¬ q j := by
  intro k
  induction k using Nat.strongRecOn with
  | ind k ih =>
    intro hk
    by_cases h : ∃ j, j < k ∧ q j
    · obtain ⟨j, hj, hq⟩ := h
      obtain ⟨i, h1, h2, h3⟩ := ih j hj hq
      exact ⟨i, by omega, h2, h3⟩
    · exact ⟨k, Nat.le_refl _, hk, fun j hj hq => h ⟨j, hj, hq⟩⟩
theorem Make_ok (G : Grp p b n gx gy T) (E : Extra p b n T) (hn : n < 1000) (hp : p < 1000) (hp2 : p < 2 * n) (h30 : 30 < n) (t1 : (T 1).1 % n ≠ 0) (t2 : (T 2).1 % n ≠ 0) (t12 : (T 1).1 % n ≠ (T 2).1 % n) (d : Nat) (hd0 : d ≠ 0) (hd : d < n) (h : List UInt8) (hl : h.length = 32) :
    ∃ r s o i x y, SigOk n p d (nm h % n) T r s (o : Nat) i x y ∧ Pur Tryz.prog 24 [.agg (cv p 0 b n gx gy false), U d, .agg (bs h)] (.tup [.agg (sg r s o), .int .i64 0]) := by
  obtain ⟨iv, hiv⟩ := ivs_of E
  obtain ⟨k, hk, hs⟩ := tr_some (z := nm h % n) G E hiv hd hd0 (by omega) t1 t2 t12
  have hq : trS n T iv d (nm h % n) (nonN n d h (255 + k)) ≠ none := by
    have e : nonN n d h (255 + k) = k := by
      unfold nonN
      rw [if_pos (by omega), show 255 + k - 255 = k from by omega, Nat.mod_eq_of_lt (by omega)]
    rw [e]; exact hs
  obtain ⟨i0, h1, h2, h3⟩ := first_ (q := fun i => trS n T iv d (nm h % n) (nonN n d h i) ≠ none) (255 + k) hq
  obtain ⟨⟨r, s, o⟩, hyes⟩ := Option.ne_none_iff_exists'.1 h2
  obtain ⟨i, x, y, hsig⟩ := trS_ok G E hp2 hiv (nonN_lt (by omega) d h i0) hyes
  exact ⟨r, s, o, i, x, y, hsig, Make_at G E hn hp hiv d _ hd0 hd h hl rfl i0 (by omega) (fun j hj => Classical.byContradiction fun hc => h3 j hj hc) r s o hyes⟩
end
end Go.Proofs.YtcfefmbbbfdppaaGreatDoor
