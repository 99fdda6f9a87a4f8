/- load: put of the kinds. Conditions: as said. -/
import Derived.Test.YtbpaimfnfigjpaaLoad6
import Derived.Test.YtbpaimfnfigjpaaDFix
import Derived.Test.YtbpaimfnfigjpaaFlat
import Derived.Test.YtbpaimfnfigjpaaGb
namespace Go.Proofs.Ytbpaimfnfigjpaa
open Go.RowKit Go.Lib Go.IntWalk
set_option linter.unusedVariables false
set_option maxRecDepth 100000
theorem cut_drop0 {ty : Ty} {off : Nat} {X : List D} {d : D} (h : cut ty off X = some d) : cut ty 0 (X.drop off) = some d := by
  obtain ⟨a, n, ze⟩ := ty
  unfold cut at h ⊢
  cases a with
  | false => simp only [cond_false] at h ⊢; rw [List.getElem?_drop]; exact h
  | true =>
    simp only [cond_true] at h ⊢
    rw [Nat.zero_add, List.drop_zero]
    cases hb : Nat.ble (off + n) X.length with
    | false => rw [hb] at h; cases h
    | true =>
      rw [hb, cond_true] at h
      rw [Nat.ble_eq_true_of_le (by have := Nat.le_of_ble_eq_true hb; rw [List.length_drop]; omega), cond_true]; exact h
theorem cut_part {n : Nat} {X c ze : List D} (h : cut ⟨true, n, ze⟩ 0 X = some (.agg c)) : Nat.ble (n * 1) X.length = true ∧ (X.drop ((0 : Int).toNat * 1)).take (n * 1) = c := by
  unfold cut at h
  simp only [cond_true, Nat.zero_add, List.drop_zero] at h
  cases hb : Nat.ble n X.length with
  | false => rw [hb] at h; cases h
  | true =>
    rw [hb, cond_true] at h
    rw [Nat.mul_one]
    exact ⟨hb, by injection h with h; injection h⟩
theorem bs_part (n : Nat) (l : List UInt8) (h : l.length = n) : Nat.ble (n * 1) (bs l).length = true ∧ ((bs l).drop ((0 : Int).toNat * 1)).take (n * 1) = bs l := by
  rw [Nat.mul_one]
  exact ⟨Nat.ble_eq_true_of_le (by rw [bs_len, h]; exact Nat.le_refl _), List.take_of_length_le (by rw [Nat.mul_one]; simp [bs_len, h])⟩
theorem toB_2 (n : Nat) : (toB 2 n).length = 2 := toB_len 2 n
theorem join_7 (a b c d e f g : List UInt8) (ha : a.length = 32) (hb : b.length = 32) (hc : c.length = 2) (hd : d.length = 32) (he : e.length = 2) (hf : f.length = 32) (n no : Nat) (hg : g.length = n) (hn : n ≤ 1000) (hno : 132 + n = no) (z : List D) (hz : bs (a ++ (b ++ (c ++ (d ++ (e ++ (f ++ g)))))) = z) :
    Pur Try.prog 60 [.slice .frozen 7 [.slice .frozen 32 (bs a), .slice .frozen 32 (bs b), .slice .frozen 2 (bs c), .slice .frozen 32 (bs d), .slice .frozen 2 (bs e), .slice .frozen 32 (bs f), .slice .frozen n (bs g)]] (.slice .frozen no z) := by
  have hfl : ([a, b, c, d, e, f, g] : List (List UInt8)).flatten = a ++ (b ++ (c ++ (d ++ (e ++ (f ++ g))))) := by simp
  have := join_ok [a, b, c, d, e, f, g] 7 rfl (by decide) (by rw [hfl]; simp [ha, hb, hc, hd, he, hf, hg]; omega) no (by rw [hfl]; simp [ha, hb, hc, hd, he, hf, hg]; omega)
  rw [hfl, hz] at this
  simp only [slsC, List.map_cons, List.map_nil, ha, hb, hc, hd, he, hf, hg] at this
  exact this
theorem join_4 (a b c d : List UInt8) (ha : a.length = 32) (hb : b.length = 2) (hc : c.length = 1) (hd : d.length = 32) (z : List D) (hz : bs (a ++ (b ++ (c ++ d))) = z) :
    Pur Try.prog 60 [.slice .frozen 4 [.slice .frozen 32 (bs a), .slice .frozen 2 (bs b), .slice .frozen 1 (bs c), .slice .frozen 32 (bs d)]] (.slice .frozen 67 z) := by
  have hfl : ([a, b, c, d] : List (List UInt8)).flatten = a ++ (b ++ (c ++ d)) := by simp
  have := join_ok [a, b, c, d] 4 rfl (by decide) (by rw [hfl]; simp [ha, hb, hc, hd]) 67 (by rw [hfl]; simp [ha, hb, hc, hd])
  rw [hfl, hz] at this
  simp only [slsC, List.map_cons, List.map_nil, ha, hb, hc, hd] at this
  exact this
set_option maxHeartbeats 8000000 in
theorem tr_put (p : Bool) (l : LoadT) (h1 : l.tk.length = 32) (h2 : l.tp.length = 32) (hn tn : Nat) (hh : l.ho = (hn : Int)) (ht : l.tc = (tn : Int)) (hh9 : hn ≤ 65535) (ht9 : tn ≤ 65535) (n no : Nat) (hd : l.da.length = n) (hd9 : n ≤ 1000) (hno : 132 + n = no)
    (z : List D) (hz : bs (b32 l.am ++ (l.tk ++ (toB 2 hn ++ (l.tp ++ (toB 2 tn ++ (b32 l.fe ++ l.da)))))) = z) : Pur Try.prog 57 [.agg [.bool p], .agg l.cells] (.slice .frozen no z) := by
  unfold LoadT.cells
  have fa := ldC_all (k := l.k) (am := l.am) (fe := l.fe) (ho := l.ho) h1 h2 l.tl rfl
  have f0 := ldC_k l.k l.am l.fe l.tk l.ho l.tp l.tl
  have f1 := ldC_am l.k l.am l.fe l.tk l.ho l.tp l.tl
  have f2 := ldC_fe l.k l.am l.fe l.tk l.ho l.tp l.tl
  have f3 := ldC_tk (k := l.k) (am := l.am) (fe := l.fe) (ho := l.ho) (tp := l.tp) h1 l.tl
  have f4 := ldC_ho (k := l.k) (am := l.am) (fe := l.fe) (ho := l.ho) (tp := l.tp) h1 l.tl
  have f5 := ldC_tp (k := l.k) (am := l.am) (fe := l.fe) (ho := l.ho) h1 h2 l.tl
  have f6 := ldC_tl (k := l.k) (am := l.am) (fe := l.fe) (ho := l.ho) h1 h2 0 _ l.tl rfl 74 rfl
  have f7 := ldC_tl (k := l.k) (am := l.am) (fe := l.fe) (ho := l.ho) h1 h2 1 _ l.tl rfl 75 rfl
  have f8 := ldC_tl (k := l.k) (am := l.am) (fe := l.fe) (ho := l.ho) h1 h2 2 _ l.tl rfl 76 rfl
  have f9 := ldC_tl (k := l.k) (am := l.am) (fe := l.fe) (ho := l.ho) h1 h2 3 _ l.tl rfl 77 rfl
  have f10 := ldC_tl (k := l.k) (am := l.am) (fe := l.fe) (ho := l.ho) h1 h2 4 _ l.tl rfl 78 rfl
  have f11 := ldC_tl (k := l.k) (am := l.am) (fe := l.fe) (ho := l.ho) h1 h2 5 _ l.tl rfl 79 rfl
  have hl := ldC_len (k := l.k) (am := l.am) (fe := l.fe) (ho := l.ho) h1 h2 l.tl rfl
  have hcl : D.cls (ldC l.k l.am l.fe l.tk l.ho l.tp l.tl) = true := ldC_cl _ _ _ _ _ _ _ (by unfold LoadT.tl; simp [D.cls, D.cl])
  have hle : ∀ off, off ≤ 80 → Nat.ble off (ldC l.k l.am l.fe l.tk l.ho l.tp l.tl).length = true := fun off h => Nat.ble_eq_true_of_le (by rw [hl]; exact h)
  have g3 := cut_drop0 (ty := ⟨true, 32, []⟩) (f3 _)
  have g4 := fun ze => cut_drop0 (ty := ⟨false, 1, ze⟩) (f4 ze)
  have g5 := cut_drop0 (ty := ⟨true, 32, []⟩) (f5 _)
  have g6 := fun ze => cut_drop0 (ty := ⟨false, 1, ze⟩) (f6 ze)
  --g7 := fun ze => cut_drop0 (ty := ⟨false, 1, ze⟩) (f7 ze)
  have g9 := fun ze => cut_drop0 (ty := ⟨false, 1, ze⟩) (f9 ze)
  -- := fun ze => cut_drop0 (ty := ⟨false, 1, ze⟩) (f10 ze)
  -- := fun ze => cut_drop0 (ty := ⟨false, 1, ze⟩) (f11 ze)
  obtain ⟨s3l, s3⟩ := cut_part g3
  obtain ⟨s5l, s5⟩ := cut_part g5
  clear g3 g5
  have q1 := Bytes_ok l.am
  have q2 := Bytes_ok l.fe
  have q3 := two_ok hn hh9
  have q4 := two_ok tn ht9
  have q5 := join_7 _ _ _ _ _ _ _ (b32_len l.am) h1 (toB_2 hn) h2 (toB_2 tn) (b32_len l.fe) n no hd hd9 hno z hz
  have lA := b32_len l.am
  have lF := b32_len l.fe
  generalize b32 l.am = A at *
  generalize b32 l.fe = F at *
  generalize toB 2 hn = HB at *
  generalize toB 2 tn = TB at *
  obtain ⟨sal, sa⟩ := bs_part 32 A lA
  obtain ⟨sfl, sf⟩ := bs_part 32 F lF
  generalize ldC l.k l.am l.fe l.tk l.ho l.tp l.tl = X at *
  obtain ⟨k, am, fe, tk, ho, tp, tc, de, sy, da, ix, kn, kz⟩ := l
  dsimp only at *
  simp only [hh] at g4
  simp only [ht] at g6
  simp only [hd] at g9
  clear f0 f3 f4 f5 f6 f7 f8 f9 f10 f11
  refine pur_intro Try.func57 rfl Try.ntmps57 rfl (by first | rfl | assumption | exact bs_cl _) fun B => ?_
  repeat (first | refine W_join (x := .region 1 _ _) (fun ρ m nx => ρ = [(6, .ptr 3 0), (5, .ptr 2 0), (3, .ptr 1 0)] ∧ m = [(3, some (.var 26 (bs F))), (2, some (.var 26 (bs A))), (1, some (.var 51 X))] ∧ nx = 4) ?_ ?_ | with_reducible (first | refine W_seq ?_ | refine q_then ?_ | refine q_thenr ?_ | refine q_thenx ?_ | refine W_block ?_ | refine q_block ?_ | refine q_blockr ?_ | refine q_blockx ?_ | refine W_ret ?_ | refine W_skip ?_ | refine W_label ?_ | refine W_exit ?_ | refine W_scope ?_ | refine q_scope ?_ | refine q_scoper ?_ | refine q_scopex ?_) | (with_reducible refine R_nil ?_; try dsimp only [slots0, slots_ud, cells_U, agg_ud, drop0, dropS, takeS, take0, ud_nil, take_ud, take_ud0, drop_ud, drop_ud0, take_udk, D.cells, D.fz, D.fzs, List.take_succ_cons, List.take_zero, List.drop_succ_cons, List.drop_zero, List.cons_append, List.nil_append, List.append_eq, List.length_cons, List.length_nil, Nat.reduceAdd, Nat.reduceMul, Nat.reduceSub, Int.reduceAdd, Int.reduceSub, Int.reduceToNat, Int.reduceNeg, Int.reduceMul]) | refine q_blocky rfl ?_ | refine W_plain rfl ?_ | refine W_drawn mixed rfl ?_ | refine and_chk (by kernel_rfl) ?_ | refine k_load rfl rfl rfl (f1 _) ?_ | refine k_load rfl rfl rfl (f2 _) ?_ | refine k_store rfl rfl rfl rfl (b_len lA) (b_fits _) (by exact b_put lA _ rfl) ?_ | refine k_store rfl rfl rfl rfl (b_len lF) (b_fits _) (by exact b_put lF _ rfl) ?_ | refine k_assign rfl rfl ?_ | refine k_load rfl rfl rfl rfl ?_ | refine k_alloc rfl ?_ | refine k_box rfl rfl rfl ?_ | refine k_store rfl rfl rfl rfl rfl rfl rfl ?_ | refine k_fieldAddr rfl rfl rfl ?_ | refine k_call rfl q1 rfl rfl rfl (bs_cl _) ?_ | refine k_call rfl q2 rfl rfl rfl (bs_cl _) ?_ | (refine k_append rfl rfl rfl ?_ ?_ ?_ rfl ?_ rfl rfl rfl ?_; (first | rfl | exact trivial | (show 0 < _; omega)); (first | rfl | (simp <;> omega)); (first | rfl | (simp <;> omega)); (omega)) | (refine k_slice rfl rfl rfl rfl ⟨?_, ?_, ?_⟩ rfl rfl rfl ?_; (omega); (omega); (omega)) | (refine k_slice3 rfl rfl rfl rfl rfl ⟨?_, ?_, ?_⟩ rfl rfl rfl ?_; (omega); (omega); (omega)) | (refine k_sliceA rfl rfl rfl rfl ⟨?_, ?_, ?_, ?_⟩ rfl rfl ?_; (omega); (omega); (omega); (omega)) | (refine k_sliceE rfl rfl rfl rfl ⟨?_, ?_, ?_, ?_⟩ rfl rfl rfl rfl ?_; (omega); (omega); (omega); (omega)) | refine k_buildSlice (cs := []) rfl rfl rfl rfl rfl rfl rfl ?_ | refine k_buildSlice rfl rfl rfl rfl rfl rfl rfl ?_ | refine k_loade rfl rfl rfl ?_ | refine k_fieldAddre rfl rfl rfl rfl ?_ | refine W_yes rfl ?_ | refine W_no rfl ?_)
  · exact ⟨_, _, _, weak_sub (by repeat (first | exact trivial | refine ⟨⟨rfl, rfl⟩, ?_⟩ | refine ⟨⟨rfl, bs_bel _ _⟩, ?_⟩ | refine ⟨⟨rfl, arr_bels _ _ _⟩, ?_⟩)) (by exact ⟨⟨rfl, rfl, bels_cls _ _ (bs_cl _)⟩, ⟨rfl, rfl, bels_cls _ _ (bs_cl _)⟩, ⟨rfl, rfl, bels_cls _ _ hcl⟩, trivial⟩) (Nat.zero_le _), rfl, rfl, rfl⟩
  rintro ρ m nx ⟨rfl, rfl, rfl⟩
  refine W_of_weak (weak_fix 1 X rfl hcl (by repeat (first | exact trivial | refine ⟨⟨_, rfl, .ptr0⟩, ?_⟩ | refine ⟨⟨_, rfl, .refl _⟩, ?_⟩ | refine ⟨⟨_, rfl, .ptr _ rfl⟩, ?_⟩ | refine ⟨⟨_, rfl, .ms _ _ _ rfl⟩, ?_⟩)) (by repeat (first | exact trivial | refine ⟨⟨rfl, rfl, rfl⟩, ?_⟩)) (ρ1 := [(6, .ptr 3 0), (5, .ptr 2 0), (3, .eptr X)]) (m1 := [(3, some (.var 26 (bs F))), (2, some (.var 26 (bs A)))])) ?_
  refine W_of_weak (weak_fix 2 (bs A) rfl (bs_cl _) (by repeat (first | exact trivial | refine ⟨⟨_, rfl, .ptr0⟩, ?_⟩ | refine ⟨⟨_, rfl, .refl _⟩, ?_⟩ | refine ⟨⟨_, rfl, .ptr _ rfl⟩, ?_⟩ | refine ⟨⟨_, rfl, .ms _ _ _ rfl⟩, ?_⟩)) (by repeat (first | exact trivial | refine ⟨⟨rfl, rfl, rfl⟩, ?_⟩)) (ρ1 := [(6, .ptr 3 0), (5, .eptr (bs A)), (3, .eptr X)]) (m1 := [(3, some (.var 26 (bs F)))])) ?_
  refine W_of_weak (weak_fix 3 (bs F) rfl (bs_cl _) (by repeat (first | exact trivial | refine ⟨⟨_, rfl, .ptr0⟩, ?_⟩ | refine ⟨⟨_, rfl, .refl _⟩, ?_⟩ | refine ⟨⟨_, rfl, .ptr _ rfl⟩, ?_⟩ | refine ⟨⟨_, rfl, .ms _ _ _ rfl⟩, ?_⟩)) (by repeat (first | exact trivial | refine ⟨⟨rfl, rfl, rfl⟩, ?_⟩)) (ρ1 := [(6, .eptr (bs F)), (5, .eptr (bs A)), (3, .eptr X)]) (m1 := [])) ?_
  repeat (first | with_reducible (first | refine W_seq ?_ | refine q_then ?_ | refine q_thenr ?_ | refine q_thenx ?_ | refine W_block ?_ | refine q_block ?_ | refine q_blockr ?_ | refine q_blockx ?_ | refine W_ret ?_ | refine W_skip ?_ | refine W_label ?_ | refine W_exit ?_ | refine W_scope ?_ | refine q_scope ?_ | refine q_scoper ?_ | refine q_scopex ?_) | (with_reducible refine R_nil ?_; try dsimp only [slots0, slots_ud, cells_U, agg_ud, drop0, dropS, takeS, take0, ud_nil, take_ud, take_ud0, drop_ud, drop_ud0, take_udk, D.cells, D.fz, D.fzs, List.take_succ_cons, List.take_zero, List.drop_succ_cons, List.drop_zero, List.cons_append, List.nil_append, List.append_eq, List.length_cons, List.length_nil, Nat.reduceAdd, Nat.reduceMul, Nat.reduceSub, Int.reduceAdd, Int.reduceSub, Int.reduceToNat, Int.reduceNeg, Int.reduceMul]) | refine q_blocky rfl ?_ | refine W_plain rfl ?_ | refine W_drawn mixed rfl ?_ | refine and_chk (by kernel_rfl) ?_ | refine k_fieldAddre rfl rfl rfl (hle _ (by decide)) ?_ | refine k_loade rfl rfl (g4 _) ?_ | refine k_loade rfl rfl (g6 _) ?_ | refine k_loade rfl rfl (g9 _) ?_ | (refine k_sliceE (nn := 32) rfl rfl rfl rfl ⟨?_, ?_, ?_, ?_⟩ rfl sal rfl sa ?_; (omega); (omega); (omega); (omega)) | (refine k_sliceE (nn := 32) rfl rfl rfl rfl ⟨?_, ?_, ?_, ?_⟩ rfl sfl rfl sf ?_; (omega); (omega); (omega); (omega)) | (refine k_sliceE (nn := 32) rfl rfl rfl rfl ⟨?_, ?_, ?_, ?_⟩ rfl s3l rfl s3 ?_; (omega); (omega); (omega); (omega)) | (refine k_sliceE (nn := 32) rfl rfl rfl rfl ⟨?_, ?_, ?_, ?_⟩ rfl s5l rfl s5 ?_; (omega); (omega); (omega); (omega)) | refine k_buildSlice rfl rfl rfl rfl rfl rfl rfl ?_ | refine k_assign rfl rfl ?_ | refine k_load rfl rfl rfl rfl ?_ | refine k_alloc rfl ?_ | refine k_box rfl rfl rfl ?_ | refine k_store rfl rfl rfl rfl rfl rfl rfl ?_ | refine k_fieldAddr rfl rfl rfl ?_ | refine k_call rfl q3 rfl rfl rfl rfl ?_ | refine k_call rfl q4 rfl rfl rfl rfl ?_ | refine k_call rfl q5 rfl rfl rfl rfl ?_ | (refine k_append rfl rfl rfl ?_ ?_ ?_ rfl ?_ rfl rfl rfl ?_; (first | rfl | exact trivial | (show 0 < _; omega)); (first | rfl | (simp <;> omega)); (first | rfl | (simp <;> omega)); (omega)) | (refine k_slice rfl rfl rfl rfl ⟨?_, ?_, ?_⟩ rfl rfl rfl ?_; (omega); (omega); (omega)) | (refine k_slice3 rfl rfl rfl rfl rfl ⟨?_, ?_, ?_⟩ rfl rfl rfl ?_; (omega); (omega); (omega)) | (refine k_sliceA rfl rfl rfl rfl ⟨?_, ?_, ?_, ?_⟩ rfl rfl ?_; (omega); (omega); (omega); (omega)) | (refine k_sliceE rfl rfl rfl rfl ⟨?_, ?_, ?_, ?_⟩ rfl rfl rfl rfl ?_; (omega); (omega); (omega); (omega)) | refine k_buildSlice (cs := []) rfl rfl rfl rfl rfl rfl rfl ?_ | refine k_buildSlice rfl rfl rfl rfl rfl rfl rfl ?_ | refine k_loade rfl rfl rfl ?_ | refine k_fieldAddre rfl rfl rfl rfl ?_ | refine W_yes rfl ?_ | refine W_no rfl ?_)
  (first | with_reducible refine q_endr ?_ | with_reducible refine q_endn ?_); refine rets1 Try.results57 (by first | exact RetV.tmp _ _ rfl | exact RetV.cell _ _ _ _ _ _ _ _ inferInstance rfl rfl rfl) ?_
  rfl
end Go.Proofs.Ytbpaimfnfigjpaa
