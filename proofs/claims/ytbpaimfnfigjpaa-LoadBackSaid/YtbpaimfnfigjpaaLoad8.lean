/- load: put of meta and of turn. Conditions: as said. -/
import Derived.Test.YtbpaimfnfigjpaaLoad7
namespace Go.Proofs.Ytbpaimfnfigjpaa
open Go.RowKit Go.Lib Go.IntWalk
set_option linter.unusedVariables false
set_option maxRecDepth 100000
set_option maxHeartbeats 8000000 in
theorem me_put (l : LoadT) (h1 : l.tk.length = 32) (h2 : l.tp.length = 32) (hn dn : Nat) (hh : l.ho = (hn : Int)) (hd : l.de = (dn : Int)) (hh9 : hn ≤ 65535) (hd9 : dn ≤ 255) (sl : List UInt8) (hsl : l.sy.data.toList = sl) (hs9 : sl.length ≤ 32)
    (z : List D) (hz : bs (l.tk ++ (toB 2 hn ++ ([UInt8.ofNat dn] ++ pad sl))) = z) : Pur Try.prog 65 [.agg [], .agg l.cells] (.slice .frozen 67 z) := by
  unfold LoadT.cells
  have fa := ldC_all (k := l.k) (am := l.am) (fe := l.fe) (ho := l.ho) h1 h2 l.tl rfl
  have f0 := ldC_k l.k l.am l.fe l.tk l.ho l.tp l.tl
  have f1 := ldC_am l.k l.am l.fe l.tk l.ho l.tp l.tl
  have f2 := ldC_fe l.k l.am l.fe l.tk l.ho l.tp l.tl
  have f3 := ldC_tk (k := l.k) (am := l.am) (fe := l.fe) (ho := l.ho) (tp := l.tp) h1 l.tl
  have f4 := ldC_ho (k := l.k) (am := l.am) (fe := l.fe) (ho := l.ho) (tp := l.tp) h1 l.tl
  have f5 := ldC_tp (k := l.k) (am := l.am) (fe := l.fe) (ho := l.ho) h1 h2 l.tl
  have f6 := ldC_tl (k := l.k) (am := l.am) (fe := l.fe) (ho := l.ho) h1 h2 0 _ l.tl rfl 74 rfl
  have f7 := ldC_tl (k := l.k) (am := l.am) (fe := l.fe) (ho := l.ho) h1 h2 1 _ l.tl rfl 75 rfl
  have f8 := ldC_tl (k := l.k) (am := l.am) (fe := l.fe) (ho := l.ho) h1 h2 2 _ l.tl rfl 76 rfl
  have f9 := ldC_tl (k := l.k) (am := l.am) (fe := l.fe) (ho := l.ho) h1 h2 3 _ l.tl rfl 77 rfl
  have f10 := ldC_tl (k := l.k) (am := l.am) (fe := l.fe) (ho := l.ho) h1 h2 4 _ l.tl rfl 78 rfl
  have f11 := ldC_tl (k := l.k) (am := l.am) (fe := l.fe) (ho := l.ho) h1 h2 5 _ l.tl rfl 79 rfl
  have hl := ldC_len (k := l.k) (am := l.am) (fe := l.fe) (ho := l.ho) h1 h2 l.tl rfl
  have hcl : D.cls (ldC l.k l.am l.fe l.tk l.ho l.tp l.tl) = true := ldC_cl _ _ _ _ _ _ _ (by unfold LoadT.tl; simp [D.cls, D.cl])
  have hle : ∀ off, off ≤ 80 → Nat.ble off (ldC l.k l.am l.fe l.tk l.ho l.tp l.tl).length = true := fun off h => Nat.ble_eq_true_of_le (by rw [hl]; exact h)
  have g3 := cut_drop0 (ty := ⟨true, 32, []⟩) (f3 _)
  have g4 := fun ze => cut_drop0 (ty := ⟨false, 1, ze⟩) (f4 ze)
  have g5 := cut_drop0 (ty := ⟨true, 32, []⟩) (f5 _)
  have g6 := fun ze => cut_drop0 (ty := ⟨false, 1, ze⟩) (f6 ze)
  have g7 := fun ze => cut_drop0 (ty := ⟨false, 1, ze⟩) (f7 ze)
  have g9 := fun ze => cut_drop0 (ty := ⟨false, 1, ze⟩) (f9 ze)
  have g10 := fun ze => cut_drop0 (ty := ⟨false, 1, ze⟩) (f10 ze)
  have g11 := fun ze => cut_drop0 (ty := ⟨false, 1, ze⟩) (f11 ze)
  obtain ⟨s3l, s3⟩ := cut_part g3
  obtain ⟨s5l, s5⟩ := cut_part g5
  clear g3 g5
  obtain ⟨n, hn'⟩ : ∃ n, sl.length = n := ⟨_, rfl⟩
  have q1 := lword_ok sl hs9 n hn'
  have q3 := two_ok hn hh9
  have lP := pad_len sl hs9
  have q5 := join_4 _ _ _ _ h1 (toB_2 hn) rfl lP z hz
  generalize pad sl = S at *
  generalize toB 2 hn = HB at *
  have hdv : IntKind.u8.wrap (dn : Int) = (((UInt8.ofNat dn).toNat : Nat) : Int) := by
    rw [UInt8.toNat_ofNat', IntKind.wrap_u8]; omega
  generalize UInt8.ofNat dn = db at *
  obtain ⟨sal, sa⟩ := bs_part 32 S lP
  generalize ldC l.k l.am l.fe l.tk l.ho l.tp l.tl = X at *
  obtain ⟨k, am, fe, tk, ho, tp, tc, de, sy, da, ix, kn, kz⟩ := l
  dsimp only at *
  simp only [hh] at g4
  simp only [hd] at g7
  clear f0 f1 f2 f3 f4 f5 f6 f7 f9 f10 f11 g6 g9 g10 g11
  refine pur_intro Try.func65 rfl Try.ntmps65 rfl (by first | rfl | assumption | exact bs_cl _) fun B => ?_
  repeat (first | refine W_join (x := .region 1 _ _) (fun ρ m nx => ρ = [(5, .ptr 2 0), (3, .ptr 1 0)] ∧ m = [(2, some (.var 26 (bs S))), (1, some (.var 51 X))] ∧ nx = 3) ?_ ?_ | with_reducible (first | refine W_seq ?_ | refine q_then ?_ | refine q_thenr ?_ | refine q_thenx ?_ | refine W_block ?_ | refine q_block ?_ | refine q_blockr ?_ | refine q_blockx ?_ | refine W_ret ?_ | refine W_skip ?_ | refine W_label ?_ | refine W_exit ?_ | refine W_scope ?_ | refine q_scope ?_ | refine q_scoper ?_ | refine q_scopex ?_) | (with_reducible refine R_nil ?_; try dsimp only [slots0, slots_ud, cells_U, agg_ud, drop0, dropS, takeS, take0, ud_nil, take_ud, take_ud0, drop_ud, drop_ud0, take_udk, D.cells, D.fz, D.fzs, List.take_succ_cons, List.take_zero, List.drop_succ_cons, List.drop_zero, List.cons_append, List.nil_append, List.append_eq, List.length_cons, List.length_nil, Nat.reduceAdd, Nat.reduceMul, Nat.reduceSub, Int.reduceAdd, Int.reduceSub, Int.reduceToNat, Int.reduceNeg, Int.reduceMul]) | refine q_blocky rfl ?_ | refine W_plain rfl ?_ | refine W_drawn mixed rfl ?_ | refine and_chk (by kernel_rfl) ?_ | refine k_load rfl rfl rfl (f8 _) ?_ | refine k_store rfl rfl rfl rfl (b_len lP) (b_fits _) (by exact b_put lP _ rfl) ?_ | refine k_assign rfl rfl ?_ | refine k_load rfl rfl rfl rfl ?_ | refine k_alloc rfl ?_ | refine k_box rfl rfl rfl ?_ | refine k_store rfl rfl rfl rfl rfl rfl rfl ?_ | refine k_fieldAddr rfl rfl rfl ?_ | refine k_s2b rfl Try.underlying9 Try.underlying5 rfl hsl hn' ?_ | refine k_call rfl q1 rfl rfl rfl (bs_cl _) ?_ | (refine k_append rfl rfl rfl ?_ ?_ ?_ rfl ?_ rfl rfl rfl ?_; (first | rfl | exact trivial | (show 0 < _; omega)); (first | rfl | (simp <;> omega)); (first | rfl | (simp <;> omega)); (omega)) | (refine k_slice rfl rfl rfl rfl ⟨?_, ?_, ?_⟩ rfl rfl rfl ?_; (omega); (omega); (omega)) | (refine k_slice3 rfl rfl rfl rfl rfl ⟨?_, ?_, ?_⟩ rfl rfl rfl ?_; (omega); (omega); (omega)) | (refine k_sliceA rfl rfl rfl rfl ⟨?_, ?_, ?_, ?_⟩ rfl rfl ?_; (omega); (omega); (omega); (omega)) | (refine k_sliceE rfl rfl rfl rfl ⟨?_, ?_, ?_, ?_⟩ rfl rfl rfl rfl ?_; (omega); (omega); (omega); (omega)) | refine k_buildSlice (cs := []) rfl rfl rfl rfl rfl rfl rfl ?_ | refine k_buildSlice rfl rfl rfl rfl rfl rfl rfl ?_ | refine k_loade rfl rfl rfl ?_ | refine k_fieldAddre rfl rfl rfl rfl ?_ | refine W_yes rfl ?_ | refine W_no rfl ?_)
  · exact ⟨_, _, _, weak_sub (by repeat (first | exact trivial | refine ⟨⟨rfl, rfl⟩, ?_⟩ | refine ⟨⟨rfl, bs_bel _ _⟩, ?_⟩ | refine ⟨⟨rfl, arr_bels _ _ _⟩, ?_⟩)) (by exact ⟨⟨rfl, rfl, bels_cls _ _ (bs_cl _)⟩, ⟨rfl, rfl, bels_cls _ _ hcl⟩, trivial⟩) (Nat.zero_le _), rfl, rfl, rfl⟩
  rintro ρ m nx ⟨rfl, rfl, rfl⟩
  refine W_of_weak (weak_fix 1 X rfl hcl (by repeat (first | exact trivial | refine ⟨⟨_, rfl, .ptr0⟩, ?_⟩ | refine ⟨⟨_, rfl, .refl _⟩, ?_⟩ | refine ⟨⟨_, rfl, .ptr _ rfl⟩, ?_⟩ | refine ⟨⟨_, rfl, .ms _ _ _ rfl⟩, ?_⟩)) (by repeat (first | exact trivial | refine ⟨⟨rfl, rfl, rfl⟩, ?_⟩)) (ρ1 := [(5, .ptr 2 0), (3, .eptr X)]) (m1 := [(2, some (.var 26 (bs S)))])) ?_
  refine W_of_weak (weak_fix 2 (bs S) rfl (bs_cl _) (by repeat (first | exact trivial | refine ⟨⟨_, rfl, .ptr0⟩, ?_⟩ | refine ⟨⟨_, rfl, .refl _⟩, ?_⟩ | refine ⟨⟨_, rfl, .ptr _ rfl⟩, ?_⟩ | refine ⟨⟨_, rfl, .ms _ _ _ rfl⟩, ?_⟩)) (by repeat (first | exact trivial | refine ⟨⟨rfl, rfl, rfl⟩, ?_⟩)) (ρ1 := [(5, .eptr (bs S)), (3, .eptr X)]) (m1 := [])) ?_
  repeat (first | with_reducible (first | refine W_seq ?_ | refine q_then ?_ | refine q_thenr ?_ | refine q_thenx ?_ | refine W_block ?_ | refine q_block ?_ | refine q_blockr ?_ | refine q_blockx ?_ | refine W_ret ?_ | refine W_skip ?_ | refine W_label ?_ | refine W_exit ?_ | refine W_scope ?_ | refine q_scope ?_ | refine q_scoper ?_ | refine q_scopex ?_) | (with_reducible refine R_nil ?_; try dsimp only [slots0, slots_ud, cells_U, agg_ud, drop0, dropS, takeS, take0, ud_nil, take_ud, take_ud0, drop_ud, drop_ud0, take_udk, D.cells, D.fz, D.fzs, List.take_succ_cons, List.take_zero, List.drop_succ_cons, List.drop_zero, List.cons_append, List.nil_append, List.append_eq, List.length_cons, List.length_nil, Nat.reduceAdd, Nat.reduceMul, Nat.reduceSub, Int.reduceAdd, Int.reduceSub, Int.reduceToNat, Int.reduceNeg, Int.reduceMul]) | refine q_blocky rfl ?_ | refine W_plain rfl ?_ | refine W_drawn mixed rfl ?_ | refine and_chk (by kernel_rfl) ?_ | refine k_fieldAddre rfl rfl rfl (hle _ (by decide)) ?_ | refine k_loade rfl rfl (g4 _) ?_ | refine k_loade rfl rfl (g7 _) ?_ | (refine k_sliceE (nn := 32) rfl rfl rfl rfl ⟨?_, ?_, ?_, ?_⟩ rfl sal rfl sa ?_; (omega); (omega); (omega); (omega)) | (refine k_sliceE (nn := 32) rfl rfl rfl rfl ⟨?_, ?_, ?_, ?_⟩ rfl s3l rfl s3 ?_; (omega); (omega); (omega); (omega)) | refine k_buildSlice rfl rfl rfl rfl rfl rfl rfl ?_ | refine k_assign rfl rfl ?_ | refine k_load rfl rfl rfl rfl ?_ | refine k_alloc rfl ?_ | refine k_box rfl rfl rfl ?_ | refine k_store rfl rfl rfl rfl rfl rfl rfl ?_ | refine k_fieldAddr rfl rfl rfl ?_ | refine k_conv rfl rfl hdv ?_ | refine k_call rfl q3 rfl rfl rfl rfl ?_ | refine k_call rfl q5 rfl rfl rfl rfl ?_ | (refine k_append rfl rfl rfl ?_ ?_ ?_ rfl ?_ rfl rfl rfl ?_; (first | rfl | exact trivial | (show 0 < _; omega)); (first | rfl | (simp <;> omega)); (first | rfl | (simp <;> omega)); (omega)) | (refine k_slice rfl rfl rfl rfl ⟨?_, ?_, ?_⟩ rfl rfl rfl ?_; (omega); (omega); (omega)) | (refine k_slice3 rfl rfl rfl rfl rfl ⟨?_, ?_, ?_⟩ rfl rfl rfl ?_; (omega); (omega); (omega)) | (refine k_sliceA rfl rfl rfl rfl ⟨?_, ?_, ?_, ?_⟩ rfl rfl ?_; (omega); (omega); (omega); (omega)) | (refine k_sliceE rfl rfl rfl rfl ⟨?_, ?_, ?_, ?_⟩ rfl rfl rfl rfl ?_; (omega); (omega); (omega); (omega)) | refine k_buildSlice (cs := []) rfl rfl rfl rfl rfl rfl rfl ?_ | refine k_buildSlice rfl rfl rfl rfl rfl rfl rfl ?_ | refine k_loade rfl rfl rfl ?_ | refine k_fieldAddre rfl rfl rfl rfl ?_ | refine W_yes rfl ?_ | refine W_no rfl ?_)
  (first | with_reducible refine q_endr ?_ | with_reducible refine q_endn ?_); refine rets1 Try.results65 (by first | exact RetV.tmp _ _ rfl | exact RetV.cell _ _ _ _ _ _ _ _ inferInstance rfl rfl rfl) ?_
  rfl
theorem toB_4 (n : Nat) : toB 4 n = [UInt8.ofNat (n / 16777216), UInt8.ofNat (n / 65536), UInt8.ofNat (n / 256), UInt8.ofNat n] := by
  simp only [toB, List.nil_append, List.cons_append, Nat.div_div_eq_div_mul]
theorem ofNat_w (n : Nat) : IntKind.u8.wrap (n : Int) = (((UInt8.ofNat n).toNat : Nat) : Int) := by
  rw [UInt8.toNat_ofNat', IntKind.wrap_u8]; omega
theorem shr_8 (n k p : Nat) (hk : k ≤ 64) (hp : 2 ^ k = p) : (n : Int).fdiv (2 ^ (min ((k : Int)).toNat IntKind.i64.bits)) = ((n / p : Nat) : Int) := by
  have : min ((k : Int)).toNat IntKind.i64.bits = k := by rw [Int.toNat_natCast]; exact Nat.min_eq_left hk
  rw [this, Int.fdiv_eq_ediv_of_nonneg _ (by exact Int.le_of_lt (Int.pow_pos (by decide))), ← hp]
  norm_cast
theorem kn_put {z : List UInt8} {n : Nat} (h : z.length = n) (cs : List D) (hc : cs.length = n) : splice 0 (bs z) cs = some (bs z) := by
  unfold splice
  rw [Nat.ble_eq_true_of_le (by rw [bs_len, h, hc]; omega), cond_true, Nat.zero_add, List.drop_of_length_le (by rw [bs_len, h, hc]; exact Nat.le_refl _)]
  simp
theorem kn_len {z : List UInt8} {n : Nat} (h : z.length = n) : (D.agg (bs z)).cells.length = n := by show (bs z).length = n; rw [bs_len, h]
theorem keys_at : ∀ (ks : List (List UInt8)), (∀ k ∈ ks, k.length = 20) → ks.flatten.length = ks.length * 20 ∧ ∀ (j : Nat) (k : List UInt8), ks[j]? = some k → (ks.flatten.drop (j * 20)).take 20 = k ∧ j * 20 + 20 ≤ ks.flatten.length
  | [], _ => ⟨rfl, fun j k h => by simp at h⟩
  | a :: ks, h => by
    have ha := h a (by simp)
    obtain ⟨h1, h2⟩ := keys_at ks fun k hk => h k (by simp [hk])
    refine ⟨by rw [List.flatten_cons, List.length_append, h1, ha, List.length_cons]; omega, fun j k hj => ?_⟩
    rw [List.flatten_cons, List.length_append]
    cases j with
    | zero =>
      simp only [List.getElem?_cons_zero, Option.some.injEq] at hj
      subst hj
      refine ⟨?_, by omega⟩
      rw [Nat.zero_mul, List.drop_zero, List.take_append, ha, Nat.sub_self, List.take_zero, List.append_nil, List.take_of_length_le (by omega)]
    | succ j =>
      rw [List.getElem?_cons_succ] at hj
      obtain ⟨h3, h4⟩ := h2 j k hj
      refine ⟨?_, by omega⟩
      rw [show (j + 1) * 20 = a.length + j * 20 from by omega, List.drop_append, List.drop_eq_nil_of_le (by omega), Nat.add_sub_cancel_left, List.nil_append, h3]
theorem keys_cut (ks : List (List UInt8)) (hk : ∀ k ∈ ks, k.length = 20) (j : Nat) (k : List UInt8) (h : ks[j]? = some k) (ze : List D) : cut ⟨true, 20, ze⟩ 0 ((bs ks.flatten).drop ((j : Int).toNat * 20)) = some (.agg (bs k)) := by
  obtain ⟨h1, h2⟩ := (keys_at ks hk).2 j k h
  rw [Int.toNat_natCast]
  unfold cut
  simp only [cond_true, Nat.zero_add, List.drop_zero]
  rw [Nat.ble_eq_true_of_le (by rw [List.length_drop, bs_len]; omega), cond_true]
  conv => rhs; rw [← h1]
  unfold bs
  rw [List.map_take, List.map_drop]
set_option maxHeartbeats 8000000 in
theorem tu_put (l : LoadT) (h1 : l.tk.length = 32) (h2 : l.tp.length = 32) (xn : Nat) (hx : l.ix = (xn : Int)) (ks : List (List UInt8)) (hk : ∀ k ∈ ks, k.length = 20) (n : Nat) (hn : ks.length = n) (hkn : l.kn = n) (hkz : l.kz = bs ks.flatten) (hn9 : n ≤ 255) (no : Nat) (hno : 5 + 20 * n = no)
    (z : List D) (hz : bs (toB 4 xn ++ ([UInt8.ofNat n] ++ ks.flatten)) = z) : Pur Try.prog 69 [.agg [], .agg l.cells] (.slice .frozen no z) := by
  unfold LoadT.cells
  have fa := ldC_all (k := l.k) (am := l.am) (fe := l.fe) (ho := l.ho) h1 h2 l.tl rfl
  have f0 := ldC_k l.k l.am l.fe l.tk l.ho l.tp l.tl
  have f1 := ldC_am l.k l.am l.fe l.tk l.ho l.tp l.tl
  have f2 := ldC_fe l.k l.am l.fe l.tk l.ho l.tp l.tl
  have f3 := ldC_tk (k := l.k) (am := l.am) (fe := l.fe) (ho := l.ho) (tp := l.tp) h1 l.tl
  have f4 := ldC_ho (k := l.k) (am := l.am) (fe := l.fe) (ho := l.ho) (tp := l.tp) h1 l.tl
  have f5 := ldC_tp (k := l.k) (am := l.am) (fe := l.fe) (ho := l.ho) h1 h2 l.tl
  have f6 := ldC_tl (k := l.k) (am := l.am) (fe := l.fe) (ho := l.ho) h1 h2 0 _ l.tl rfl 74 rfl
  have f7 := ldC_tl (k := l.k) (am := l.am) (fe := l.fe) (ho := l.ho) h1 h2 1 _ l.tl rfl 75 rfl
  have f8 := ldC_tl (k := l.k) (am := l.am) (fe := l.fe) (ho := l.ho) h1 h2 2 _ l.tl rfl 76 rfl
  have f9 := ldC_tl (k := l.k) (am := l.am) (fe := l.fe) (ho := l.ho) h1 h2 3 _ l.tl rfl 77 rfl
  have f10 := ldC_tl (k := l.k) (am := l.am) (fe := l.fe) (ho := l.ho) h1 h2 4 _ l.tl rfl 78 rfl
  have f11 := ldC_tl (k := l.k) (am := l.am) (fe := l.fe) (ho := l.ho) h1 h2 5 _ l.tl rfl 79 rfl
  have hl := ldC_len (k := l.k) (am := l.am) (fe := l.fe) (ho := l.ho) h1 h2 l.tl rfl
  have hcl : D.cls (ldC l.k l.am l.fe l.tk l.ho l.tp l.tl) = true := ldC_cl _ _ _ _ _ _ _ (by unfold LoadT.tl; simp [D.cls, D.cl])
  have hle : ∀ off, off ≤ 80 → Nat.ble off (ldC l.k l.am l.fe l.tk l.ho l.tp l.tl).length = true := fun off h => Nat.ble_eq_true_of_le (by rw [hl]; exact h)
  have g3 := cut_drop0 (ty := ⟨true, 32, []⟩) (f3 _)
  have g4 := fun ze => cut_drop0 (ty := ⟨false, 1, ze⟩) (f4 ze)
  have g5 := cut_drop0 (ty := ⟨true, 32, []⟩) (f5 _)
  have g6 := fun ze => cut_drop0 (ty := ⟨false, 1, ze⟩) (f6 ze)
  have g7 := fun ze => cut_drop0 (ty := ⟨false, 1, ze⟩) (f7 ze)
  have g9 := fun ze => cut_drop0 (ty := ⟨false, 1, ze⟩) (f9 ze)
  have g10 := fun ze => cut_drop0 (ty := ⟨false, 1, ze⟩) (f10 ze)
  have g11 := fun ze => cut_drop0 (ty := ⟨false, 1, ze⟩) (f11 ze)
  obtain ⟨s3l, s3⟩ := cut_part g3
  obtain ⟨s5l, s5⟩ := cut_part g5
  clear g3 g5
  have e1 := shr_8 xn 24 16777216 (by decide) (by decide)
  have e2 := shr_8 xn 16 65536 (by decide) (by decide)
  have e3 := shr_8 xn 8 256 (by decide) (by decide)
  have w1 := ofNat_w (xn / 16777216)
  have w2 := ofNat_w (xn / 65536)
  have w3 := ofNat_w (xn / 256)
  have w4 := ofNat_w xn
  have w5 := ofNat_w n
  rw [toB_4] at hz
  have hat : ∀ (j : Nat) (k : List UInt8), ks[j]? = some k → ∀ ze, cut ⟨true, 20, ze⟩ 0 (l.kz.drop ((j : Int).toNat * 20)) = some (.agg (bs k)) := fun j k h ze => by
    rw [hkz]; exact keys_cut ks hk j k h ze
  have hkl : l.kn * 20 = l.kz.length := by rw [hkz, bs_len, (keys_at ks hk).1, hkn, hn]
  have hsn : ∀ (j : Nat) (k : List UInt8), ks[j]? = some k → (ks.take (j + 1)).flatten = (ks.take j).flatten ++ k := flat_snoc ks
  have hfn : ∀ j, j ≤ ks.length → (ks.take j).flatten.length = 20 * j := fun j hj => by
    rw [(keys_at _ fun k hk' => hk k (List.mem_of_mem_take hk')).1, List.length_take, Nat.min_eq_left hj]; omega
  generalize ldC l.k l.am l.fe l.tk l.ho l.tp l.tl = X at *
  obtain ⟨k, am, fe, tk, ho, tp, tc, de, sy, da, ix, kn, kz⟩ := l
  dsimp only at *
  subst hx hkn
  clear f1 f2 f3 f4 f5 f6 f7 f8 f9
  refine pur_intro Try.func69 rfl Try.ntmps69 rfl (by first | rfl | assumption | exact bs_cl _) fun B => ?_
  repeat (first | with_reducible (first | refine W_seq ?_ | refine q_then ?_ | refine q_thenr ?_ | refine q_thenx ?_ | refine W_block ?_ | refine q_block ?_ | refine q_blockr ?_ | refine q_blockx ?_ | refine W_ret ?_ | refine W_skip ?_ | refine W_label ?_ | refine W_exit ?_ | refine W_scope ?_ | refine q_scope ?_ | refine q_scoper ?_ | refine q_scopex ?_) | (with_reducible refine R_nil ?_; try dsimp only [slots0, slots_ud, cells_U, agg_ud, drop0, dropS, takeS, take0, ud_nil, take_ud, take_ud0, drop_ud, drop_ud0, take_udk, D.cells, D.fz, D.fzs, List.take_succ_cons, List.take_zero, List.drop_succ_cons, List.drop_zero, List.cons_append, List.nil_append, List.append_eq, List.length_cons, List.length_nil, Nat.reduceAdd, Nat.reduceMul, Nat.reduceSub, Int.reduceAdd, Int.reduceSub, Int.reduceToNat, Int.reduceNeg, Int.reduceMul]) | refine q_blocky rfl ?_ | refine W_plain rfl ?_ | refine W_drawn mixed rfl ?_ | refine and_chk (by kernel_rfl) ?_ | refine k_load rfl rfl rfl (f10 _) ?_ | refine k_load rfl rfl rfl (f11 _) ?_ | refine k_buildSlice rfl rfl rfl rfl rfl rfl rfl ?_ | refine k_move rfl rfl ?_ | refine k_assign rfl rfl ?_ | refine k_load rfl rfl rfl rfl ?_ | refine k_alloc rfl ?_ | refine k_box rfl rfl rfl ?_ | refine k_store rfl rfl rfl rfl rfl rfl rfl ?_ | refine k_fieldAddr rfl rfl rfl ?_ | (refine k_shr rfl rfl rfl ?_ e1 ?_; (decide)) | (refine k_shr rfl rfl rfl ?_ e2 ?_; (decide)) | (refine k_shr rfl rfl rfl ?_ e3 ?_; (decide)) | refine k_conv rfl rfl w1 ?_ | refine k_conv rfl rfl w2 ?_ | refine k_conv rfl rfl w3 ?_ | refine k_conv rfl rfl w4 ?_ | refine k_conv rfl rfl w5 ?_ | (refine k_append rfl rfl rfl ?_ ?_ ?_ rfl ?_ rfl rfl rfl ?_; (first | rfl | exact trivial | (show 0 < _; omega)); (first | rfl | (simp <;> omega)); (first | rfl | (simp <;> omega)); (omega)) | (refine k_slice rfl rfl rfl rfl ⟨?_, ?_, ?_⟩ rfl rfl rfl ?_; (omega); (omega); (omega)) | (refine k_slice3 rfl rfl rfl rfl rfl ⟨?_, ?_, ?_⟩ rfl rfl rfl ?_; (omega); (omega); (omega)) | (refine k_sliceA rfl rfl rfl rfl ⟨?_, ?_, ?_, ?_⟩ rfl rfl ?_; (omega); (omega); (omega); (omega)) | (refine k_sliceE rfl rfl rfl rfl ⟨?_, ?_, ?_, ?_⟩ rfl rfl rfl rfl ?_; (omega); (omega); (omega); (omega)) | refine k_buildSlice (cs := []) rfl rfl rfl rfl rfl rfl rfl ?_ | refine k_buildSlice rfl rfl rfl rfl rfl rfl rfl ?_ | (refine k_indexAddr rfl rfl rfl ⟨?_, ?_⟩ ?_; (omega); (omega)) | (refine k_indexAddrs rfl rfl rfl ⟨?_, ?_⟩ rfl ?_; (omega); (omega)) | refine k_loade rfl rfl rfl ?_ | refine k_fieldAddre rfl rfl rfl rfl ?_ | refine k_len rfl rfl ?_ | (refine k_addi rfl rfl rfl ?_ ?_; (omega)) | (refine k_lssT rfl rfl rfl ?_ ?_; (omega)) | (refine k_lssF rfl rfl rfl ?_ ?_; (omega)) | refine W_yes rfl ?_ | refine W_no rfl ?_)
  refine W_loopW (fun n' ρ m nx => ∃ (j q : Nat) (z : List D), j ≤ kn ∧ q = 5 + 20 * j ∧ z = bs ([UInt8.ofNat (xn / 16777216), UInt8.ofNat (xn / 65536), UInt8.ofNat (xn / 256), UInt8.ofNat xn, UInt8.ofNat kn] ++ (ks.take j).flatten) ∧ n' = kn - j ∧ ρ = [(31, .int .i64 (j : Int)), (30, .int .i64 (kn : Int)), (29, .slice .frozen kn kz), (5, .slice (.own 2) q z)] ∧ m = [(2, some (.tok 5 1))] ∧ nx = 3)
    ⟨_, _, _, _, (weak_ren (fun l => l) (by repeat (first | exact trivial | refine ⟨⟨_, rfl, (by first | exact Up.refl _ | exact Up.fz _ _ _ | exact Up.nil _ | exact Up.nrs _ | assumption), rfl⟩, ?_⟩)) (by repeat (first | exact trivial | refine ⟨⟨rfl, _, rfl, (by first | exact Ups.refl _ | assumption | ((repeat refine Ups.cons (by first | exact Up.refl _ | exact Up.nil _ | exact Up.fz _ _ _) ?_); exact Ups.nil)), rfl⟩, ?_⟩ | refine ⟨⟨rfl, rfl⟩, ?_⟩ | refine ⟨⟨rfl, _, rfl, bs_ups _ _, bs_lalls _ _⟩, ?_⟩ | refine ⟨⟨rfl, _, rfl, cls_ups _ _ (by assumption), cls_lalls _ _ (by assumption)⟩, ?_⟩)) (by first | decide | simp) (Nat.zero_le _) (fun _ h => absurd h (Nat.not_lt_zero _))), 0, 5, _, Nat.zero_le _, rfl, rfl, rfl, rfl, rfl, rfl⟩ ?_
  rintro n' ρ m nx ⟨j, q, z', hj, hq, hz', rfl, rfl, rfl, rfl⟩
  by_cases hlt : j < kn
  · obtain ⟨k, hk'⟩ : ∃ k, ks[j]? = some k := ⟨_, List.getElem?_eq_getElem (by omega)⟩
    have lk : k.length = 20 := hk k (List.mem_of_getElem? hk')
    have h1 := hat j k hk'
    have h2 := hsn j k hk'
    have h3 := hfn j (by omega)
    have hzz : z' ++ bs k = bs ([UInt8.ofNat (xn / 16777216), UInt8.ofNat (xn / 65536), UInt8.ofNat (xn / 256), UInt8.ofNat xn, UInt8.ofNat kn] ++ (ks.take (j + 1)).flatten) := by
      rw [hz', h2, ← List.append_assoc]; unfold bs; rw [← List.map_append]
    have hqz : q * 1 = z'.length := by rw [hz', hq, bs_len, List.length_append, h3]; simp
    obtain ⟨skl, sk⟩ := bs_part 20 k lk
    have h20 : 20 * 1 = (bs k).length := by rw [bs_len, lk]
    have hsm : q + 20 ≤ 16777216 := by omega
    have hq2 : q + 20 = 5 + 20 * (j + 1) := by omega
    generalize hZ : bs ([UInt8.ofNat (xn / 16777216), UInt8.ofNat (xn / 65536), UInt8.ofNat (xn / 256), UInt8.ofNat xn, UInt8.ofNat kn] ++ (ks.take (j + 1)).flatten) = Z at *
    repeat (first | refine W_join (x := .region 4 _ _) (fun ρ m nx => ρ = [(7, .ptr 3 0), (31, .int .i64 (j : Int)), (30, .int .i64 (kn : Int)), (29, .slice .frozen kn kz), (5, .slice (.own 2) q z')] ∧ m = [(3, some (.var 89 (bs k))), (2, some (.tok 5 1))] ∧ nx = 4) ?_ ?_ | with_reducible (first | refine W_seq ?_ | refine q_then ?_ | refine q_thenr ?_ | refine q_thenx ?_ | refine W_block ?_ | refine q_block ?_ | refine q_blockr ?_ | refine q_blockx ?_ | refine W_ret ?_ | refine W_skip ?_ | refine W_label ?_ | refine W_exit ?_ | refine W_scope ?_ | refine q_scope ?_ | refine q_scoper ?_ | refine q_scopex ?_) | (with_reducible refine R_nil ?_; try dsimp only [slots0, slots_ud, cells_U, agg_ud, drop0, dropS, takeS, take0, ud_nil, take_ud, take_ud0, drop_ud, drop_ud0, take_udk, D.cells, D.fz, D.fzs, List.take_succ_cons, List.take_zero, List.drop_succ_cons, List.drop_zero, List.cons_append, List.nil_append, List.append_eq, List.length_cons, List.length_nil, Nat.reduceAdd, Nat.reduceMul, Nat.reduceSub, Int.reduceAdd, Int.reduceSub, Int.reduceToNat, Int.reduceNeg, Int.reduceMul]) | refine q_blocky rfl ?_ | refine W_plain rfl ?_ | refine W_drawn mixed rfl ?_ | refine and_chk (by kernel_rfl) ?_ | (refine k_indexAddrs rfl rfl rfl ⟨?_, ?_⟩ hkl ?_; (omega); (omega)) | refine k_loade rfl rfl (h1 _) ?_ | refine k_store rfl rfl rfl rfl (kn_len lk) (b_fits _) (by exact kn_put lk _ rfl) ?_ | refine k_move rfl rfl ?_ | refine k_assign rfl rfl ?_ | refine k_load rfl rfl rfl rfl ?_ | refine k_alloc rfl ?_ | refine k_box rfl rfl rfl ?_ | refine k_store rfl rfl rfl rfl rfl rfl rfl ?_ | refine k_fieldAddr rfl rfl rfl ?_ | (refine k_append rfl rfl rfl ?_ ?_ ?_ rfl ?_ rfl rfl rfl ?_; (first | rfl | exact trivial | (show 0 < _; omega)); (first | rfl | (simp <;> omega)); (first | rfl | (simp <;> omega)); (omega)) | (refine k_slice rfl rfl rfl rfl ⟨?_, ?_, ?_⟩ rfl rfl rfl ?_; (omega); (omega); (omega)) | (refine k_slice3 rfl rfl rfl rfl rfl ⟨?_, ?_, ?_⟩ rfl rfl rfl ?_; (omega); (omega); (omega)) | (refine k_sliceA rfl rfl rfl rfl ⟨?_, ?_, ?_, ?_⟩ rfl rfl ?_; (omega); (omega); (omega); (omega)) | (refine k_sliceE rfl rfl rfl rfl ⟨?_, ?_, ?_, ?_⟩ rfl rfl rfl rfl ?_; (omega); (omega); (omega); (omega)) | refine k_buildSlice (cs := []) rfl rfl rfl rfl rfl rfl rfl ?_ | refine k_buildSlice rfl rfl rfl rfl rfl rfl rfl ?_ | (refine k_indexAddr rfl rfl rfl ⟨?_, ?_⟩ ?_; (omega); (omega)) | (refine k_indexAddrs rfl rfl rfl ⟨?_, ?_⟩ rfl ?_; (omega); (omega)) | refine k_loade rfl rfl rfl ?_ | refine k_fieldAddre rfl rfl rfl rfl ?_ | refine k_len rfl rfl ?_ | (refine k_addi rfl rfl rfl ?_ ?_; (omega)) | (refine k_lssT rfl rfl rfl ?_ ?_; (omega)) | (refine k_lssF rfl rfl rfl ?_ ?_; (omega)) | refine W_yes rfl ?_ | refine W_no rfl ?_)
    · exact ⟨_, _, _, weak_sub (by repeat (first | exact trivial | refine ⟨⟨rfl, rfl⟩, ?_⟩ | refine ⟨⟨rfl, bs_bel _ _⟩, ?_⟩ | refine ⟨⟨rfl, arr_bels _ _ _⟩, ?_⟩)) (by exact ⟨⟨rfl, rfl, bels_cls _ _ (bs_cl _)⟩, ⟨rfl, rfl, rfl⟩, trivial⟩) (Nat.zero_le _), rfl, rfl, rfl⟩
    rintro ρ m nx ⟨rfl, rfl, rfl⟩
    refine W_of_weak (weak_fix 3 (bs k) rfl (bs_cl _) (by repeat (first | exact trivial | refine ⟨⟨_, rfl, .ptr0⟩, ?_⟩ | refine ⟨⟨_, rfl, .refl _⟩, ?_⟩ | refine ⟨⟨_, rfl, .ptr _ rfl⟩, ?_⟩ | refine ⟨⟨_, rfl, .ms _ _ _ rfl⟩, ?_⟩)) (by repeat (first | exact trivial | refine ⟨⟨rfl, rfl, rfl⟩, ?_⟩)) (ρ1 := [(7, .eptr (bs k)), (31, .int .i64 (j : Int)), (30, .int .i64 (kn : Int)), (29, .slice .frozen kn kz), (5, .slice (.own 2) q z')]) (m1 := [(2, some (.tok 5 1))])) ?_
    repeat (first | with_reducible (first | refine W_seq ?_ | refine q_then ?_ | refine q_thenr ?_ | refine q_thenx ?_ | refine W_block ?_ | refine q_block ?_ | refine q_blockr ?_ | refine q_blockx ?_ | refine W_ret ?_ | refine W_skip ?_ | refine W_label ?_ | refine W_exit ?_ | refine W_scope ?_ | refine q_scope ?_ | refine q_scoper ?_ | refine q_scopex ?_) | (with_reducible refine R_nil ?_; try dsimp only [slots0, slots_ud, cells_U, agg_ud, drop0, dropS, takeS, take0, ud_nil, take_ud, take_ud0, drop_ud, drop_ud0, take_udk, D.cells, D.fz, D.fzs, List.take_succ_cons, List.take_zero, List.drop_succ_cons, List.drop_zero, List.cons_append, List.nil_append, List.append_eq, List.length_cons, List.length_nil, Nat.reduceAdd, Nat.reduceMul, Nat.reduceSub, Int.reduceAdd, Int.reduceSub, Int.reduceToNat, Int.reduceNeg, Int.reduceMul]) | refine q_blocky rfl ?_ | refine W_plain rfl ?_ | refine W_drawn mixed rfl ?_ | refine and_chk (by kernel_rfl) ?_ | (refine k_sliceE (nn := 20) rfl rfl rfl rfl ⟨?_, ?_, ?_, ?_⟩ rfl skl rfl sk ?_; (omega); (omega); (omega); (omega)) | (refine k_append rfl rfl rfl ?_ hqz h20 rfl hsm rfl hq2 hzz ?_; (rfl)) | refine k_move rfl rfl ?_ | refine k_assign rfl rfl ?_ | refine k_load rfl rfl rfl rfl ?_ | refine k_alloc rfl ?_ | refine k_box rfl rfl rfl ?_ | refine k_store rfl rfl rfl rfl rfl rfl rfl ?_ | refine k_fieldAddr rfl rfl rfl ?_ | (refine k_append rfl rfl rfl ?_ ?_ ?_ rfl ?_ rfl rfl rfl ?_; (first | rfl | exact trivial | (show 0 < _; omega)); (first | rfl | (simp <;> omega)); (first | rfl | (simp <;> omega)); (omega)) | (refine k_slice rfl rfl rfl rfl ⟨?_, ?_, ?_⟩ rfl rfl rfl ?_; (omega); (omega); (omega)) | (refine k_slice3 rfl rfl rfl rfl rfl ⟨?_, ?_, ?_⟩ rfl rfl rfl ?_; (omega); (omega); (omega)) | (refine k_sliceA rfl rfl rfl rfl ⟨?_, ?_, ?_, ?_⟩ rfl rfl ?_; (omega); (omega); (omega); (omega)) | (refine k_sliceE rfl rfl rfl rfl ⟨?_, ?_, ?_, ?_⟩ rfl rfl rfl rfl ?_; (omega); (omega); (omega); (omega)) | refine k_buildSlice (cs := []) rfl rfl rfl rfl rfl rfl rfl ?_ | refine k_buildSlice rfl rfl rfl rfl rfl rfl rfl ?_ | (refine k_indexAddr rfl rfl rfl ⟨?_, ?_⟩ ?_; (omega); (omega)) | (refine k_indexAddrs rfl rfl rfl ⟨?_, ?_⟩ rfl ?_; (omega); (omega)) | refine k_loade rfl rfl rfl ?_ | refine k_fieldAddre rfl rfl rfl rfl ?_ | refine k_len rfl rfl ?_ | (refine k_addi rfl rfl rfl ?_ ?_; (omega)) | (refine k_lssT rfl rfl rfl ?_ ?_; (omega)) | (refine k_lssF rfl rfl rfl ?_ ?_; (omega)) | refine W_yes rfl ?_ | refine W_no rfl ?_)
    subst hZ
    exact ⟨kn - (j + 1), _, _, _, (weak_ren (fun l => if l = 2 then 4 else l) (by repeat (first | exact trivial | refine ⟨⟨_, rfl, (by first | exact Up.refl _ | exact Up.fz _ _ _ | exact Up.nil _ | exact Up.nrs _ | assumption), rfl⟩, ?_⟩)) (by repeat (first | exact trivial | refine ⟨⟨rfl, _, rfl, (by first | exact Ups.refl _ | assumption | ((repeat refine Ups.cons (by first | exact Up.refl _ | exact Up.nil _ | exact Up.fz _ _ _) ?_); exact Ups.nil)), rfl⟩, ?_⟩ | refine ⟨⟨rfl, rfl⟩, ?_⟩ | refine ⟨⟨rfl, _, rfl, bs_ups _ _, bs_lalls _ _⟩, ?_⟩ | refine ⟨⟨rfl, _, rfl, cls_ups _ _ (by assumption), cls_lalls _ _ (by assumption)⟩, ?_⟩)) (by first | decide | simp) (Nat.zero_le _) (fun _ h => absurd h (Nat.not_lt_zero _))), by omega, j + 1, _, _, by omega, rfl, rfl, rfl, rfl, rfl, rfl⟩
  · have ej : j = kn := by omega
    subst ej
    rw [List.take_of_length_le (by omega)] at hz'
    have : z' = z := by rw [hz', ← hz]; rfl
    subst this
    rw [hno] at hq
    subst hq
    repeat (first | with_reducible (first | refine W_seq ?_ | refine q_then ?_ | refine q_thenr ?_ | refine q_thenx ?_ | refine W_block ?_ | refine q_block ?_ | refine q_blockr ?_ | refine q_blockx ?_ | refine W_ret ?_ | refine W_skip ?_ | refine W_label ?_ | refine W_exit ?_ | refine W_scope ?_ | refine q_scope ?_ | refine q_scoper ?_ | refine q_scopex ?_) | (with_reducible refine R_nil ?_; try dsimp only [slots0, slots_ud, cells_U, agg_ud, drop0, dropS, takeS, take0, ud_nil, take_ud, take_ud0, drop_ud, drop_ud0, take_udk, D.cells, D.fz, D.fzs, List.take_succ_cons, List.take_zero, List.drop_succ_cons, List.drop_zero, List.cons_append, List.nil_append, List.append_eq, List.length_cons, List.length_nil, Nat.reduceAdd, Nat.reduceMul, Nat.reduceSub, Int.reduceAdd, Int.reduceSub, Int.reduceToNat, Int.reduceNeg, Int.reduceMul]) | refine q_blocky rfl ?_ | refine W_plain rfl ?_ | refine W_drawn mixed rfl ?_ | refine and_chk (by kernel_rfl) ?_ | refine k_move rfl rfl ?_ | refine k_assign rfl rfl ?_ | refine k_load rfl rfl rfl rfl ?_ | refine k_alloc rfl ?_ | refine k_box rfl rfl rfl ?_ | refine k_store rfl rfl rfl rfl rfl rfl rfl ?_ | refine k_fieldAddr rfl rfl rfl ?_ | (refine k_append rfl rfl rfl ?_ ?_ ?_ rfl ?_ rfl rfl rfl ?_; (first | rfl | exact trivial | (show 0 < _; omega)); (first | rfl | (simp <;> omega)); (first | rfl | (simp <;> omega)); (omega)) | (refine k_slice rfl rfl rfl rfl ⟨?_, ?_, ?_⟩ rfl rfl rfl ?_; (omega); (omega); (omega)) | (refine k_slice3 rfl rfl rfl rfl rfl ⟨?_, ?_, ?_⟩ rfl rfl rfl ?_; (omega); (omega); (omega)) | (refine k_sliceA rfl rfl rfl rfl ⟨?_, ?_, ?_, ?_⟩ rfl rfl ?_; (omega); (omega); (omega); (omega)) | (refine k_sliceE rfl rfl rfl rfl ⟨?_, ?_, ?_, ?_⟩ rfl rfl rfl rfl ?_; (omega); (omega); (omega); (omega)) | refine k_buildSlice (cs := []) rfl rfl rfl rfl rfl rfl rfl ?_ | refine k_buildSlice rfl rfl rfl rfl rfl rfl rfl ?_ | (refine k_indexAddr rfl rfl rfl ⟨?_, ?_⟩ ?_; (omega); (omega)) | (refine k_indexAddrs rfl rfl rfl ⟨?_, ?_⟩ rfl ?_; (omega); (omega)) | refine k_loade rfl rfl rfl ?_ | refine k_fieldAddre rfl rfl rfl rfl ?_ | refine k_len rfl rfl ?_ | (refine k_addi rfl rfl rfl ?_ ?_; (omega)) | (refine k_lssT rfl rfl rfl ?_ ?_; (omega)) | (refine k_lssF rfl rfl rfl ?_ ?_; (omega)) | refine W_yes rfl ?_ | refine W_no rfl ?_)
    (first | with_reducible refine q_endr ?_ | with_reducible refine q_endn ?_); refine rets1 Try.results69 (by first | exact RetV.tmp _ _ rfl | exact RetV.cell _ _ _ _ _ _ _ _ inferInstance rfl rfl rfl) ?_
    rfl
end Go.Proofs.Ytbpaimfnfigjpaa
