/- BytesBack: a number is its bytes, and stands as they stand. No conditions. -/
import Derived.Test.YtcgdcnhggejgbaaBy32D
import Derived.Test.YtcgdcnhggejgbaaWide2
import Derived.Test.YtcgdcnhggejgbaaTells
import Derived.Test.YtcgdcnhggejgbaaRow
import Derived.Test.YtcgdcnhggejgbaaLaw
namespace Go.Proofs.Ytcgdcnhggejgbaa.bytesBack
open Go.ChangeShapes Go.WideShapes Go.RowKit Go.Joins Go.IntWalk
set_option linter.unusedVariables false
open Go.Proofs.Ytcgdcnhggejgbaa
set_option maxRecDepth 100000

theorem num_p (k a b : Int) (s : ByteArray) (x : Nat) (h : num k a b = x) : Pur Try.prog 16 [.agg [.int .i64 k, .int .i64 a, .int .i64 b, .str s]] (U x) :=
  pur_of_calls (vs := [.agg #[.int .i64 k, .int .i64 a, .int .i64 b, .string s]]) rfl rfl rfl fun w => h ▸ number_any k a b s w
theorem p_tells : Pur Try.prog 18 [] (.bool true) := pur_of_calls (vs := []) rfl rfl rfl fun w => tells_any w
theorem u8_of (x : Int) : ∃ c : UInt8, IntKind.u8.wrap x = ((c.toNat : Nat) : Int) := by
  have h : 0 ≤ IntKind.u8.wrap x ∧ IntKind.u8.wrap x < 256 := by rw [IntKind.wrap_u8]; omega
  refine ⟨UInt8.ofNat (IntKind.u8.wrap x).toNat, ?_⟩
  rw [UInt8.toNat_ofNat']; omega
/-- 32 bytes, one by one -/
theorem list32 (l : List UInt8) (h : l.length = 32) : ∃ (i : List UInt8) (a b : UInt8), i.length = 30 ∧ l = i ++ [a, b] := by
  refine ⟨l.take 30, l[30], l[31], by rw [List.length_take]; omega, ?_⟩
  conv => lhs; rw [← List.take_append_drop 30 l]
  congr 1
  rw [List.drop_eq_getElem_cons (by omega), List.drop_eq_getElem_cons (by omega), List.drop_of_length_le (by omega)]
theorem z32 : (List.replicate 32 (D.int .u8 0)) = bs (List.replicate 32 0) := rfl
set_option maxHeartbeats 8000000 in
theorem word_ok (k a b : Int) (s : ByteArray) : ∃ z : List UInt8, z.length = 32 ∧ Pur Try.prog 23 [.agg [.int .i64 k, .int .i64 a, .int .i64 b, .str s]] (.agg (bs z)) := by
  obtain ⟨c, hc⟩ := u8_of a
  obtain ⟨d, hd⟩ := u8_of b
  have hsl : s.data.toList.length = s.size := by rw [Array.length_toList]; rfl
  obtain ⟨q, hq⟩ : ∃ q, Nat.min s.size 32 = q := ⟨_, rfl⟩
  have hq32 : q ≤ 32 := by rw [← hq]; exact Nat.min_le_right _ _
  obtain ⟨t, ht⟩ : ∃ t, s.data.toList.take q = t := ⟨_, rfl⟩
  have htl : t.length = q := by
    have : q ≤ s.size := by rw [← hq]; exact Nat.min_le_left _ _
    rw [← ht, List.length_take]; omega
  obtain ⟨i, x, y, hi, hz⟩ := list32 (t ++ (List.replicate 32 0).drop q) (by simp [htl]; omega)
  have hil : (bs i).length = 30 := by rw [bs_len, hi]
  have hsp : splice 0 (bs t) (bs (List.replicate 32 0)) = some (bs i ++ [.int .u8 (x.toNat : Int), .int .u8 (y.toNat : Int)]) := by
    unfold splice
    rw [Nat.ble_eq_true_of_le (by rw [bs_len, bs_len, htl, List.length_replicate]; omega), cond_true]
    congr 1
    have e : (bs (List.replicate 32 0)).drop (0 + (bs t).length) = bs ((List.replicate 32 0).drop q) := by
      rw [Nat.zero_add, bs_len, htl]; simp [bs, List.map_drop]
    rw [e, List.take_zero, List.nil_append]
    have e2 : bs t ++ bs ((List.replicate 32 0).drop q) = bs (t ++ (List.replicate 32 0).drop q) := by simp [bs]
    rw [e2, hz]; simp [bs]
  have hp1 : splice 30 [D.int .u8 (c.toNat : Int)] (bs i ++ [.int .u8 (x.toNat : Int), .int .u8 (y.toNat : Int)]) = some (bs i ++ [.int .u8 (c.toNat : Int), .int .u8 (y.toNat : Int)]) := by
    unfold splice
    rw [Nat.ble_eq_true_of_le (by simp [hil]), cond_true, ← hil, List.take_left, List.drop_append, List.drop_of_length_le (by simp)]
    simp
  have hp2 : splice 31 [D.int .u8 (d.toNat : Int)] (bs i ++ [.int .u8 (c.toNat : Int), .int .u8 (y.toNat : Int)]) = some (bs i ++ [.int .u8 (c.toNat : Int), .int .u8 (d.toNat : Int)]) := by
    unfold splice
    have e31 : 31 = (bs i).length + 1 := by omega
    rw [Nat.ble_eq_true_of_le (by simp [hil]), cond_true, e31, List.take_append, List.take_of_length_le (by omega), List.drop_append, List.drop_of_length_le (by simp; omega)]
    simp [Nat.add_sub_cancel_left]
    omega
  refine ⟨i ++ [c, d], by simp [hi], ?_⟩
  have hres : bs i ++ [.int .u8 (c.toNat : Int), .int .u8 (d.toNat : Int)] = bs (i ++ [c, d]) := by simp [bs]
  rw [hres] at hp2
  have hZ : (i ++ [c, d]).length = 32 := by simp [hi]
  generalize i ++ [c, d] = Z at *
  refine pur_intro Try.func23 rfl Try.ntmps23 rfl (by first | rfl | assumption | exact bs_cl _) fun B => ?_
  repeat (first | with_reducible refine W_seq ?_ | with_reducible refine q_then ?_ | with_reducible refine q_thenr ?_ | with_reducible refine q_thenx ?_ | with_reducible refine W_block ?_ | with_reducible refine q_block ?_ | with_reducible refine q_blockr ?_ | with_reducible refine q_blockx ?_ | with_reducible refine W_ret ?_ | with_reducible refine W_skip ?_ | with_reducible refine W_label ?_ | with_reducible refine W_exit ?_ | with_reducible refine W_scope ?_ | with_reducible refine q_scope ?_ | with_reducible refine q_scoper ?_ | with_reducible refine q_scopex ?_ | (with_reducible refine R_nil ?_; try dsimp only [slots0, slots_ud, cells_U, agg_ud, drop0, dropS, takeS, take0, ud_nil, take_ud, take_ud0, drop_ud, drop_ud0, take_udk, D.cells, D.fz, D.fzs, List.take_succ_cons, List.take_zero, List.drop_succ_cons, List.drop_zero, List.cons_append, List.nil_append, List.append_eq, List.length_cons, List.length_nil, Nat.reduceAdd, Nat.reduceMul, Nat.reduceSub, Int.reduceAdd, Int.reduceSub, Int.reduceToNat, Int.reduceNeg, Int.reduceMul]) | refine q_blocky rfl ?_ | refine W_plain rfl ?_ | refine W_drawn mixed rfl ?_ | refine and_chk (by kernel_rfl) ?_ | refine k_move rfl rfl ?_ | refine k_assign rfl rfl ?_ | refine k_load rfl rfl rfl rfl ?_ | refine k_alloc rfl ?_ | refine k_box rfl rfl rfl ?_ | refine k_store rfl rfl rfl rfl rfl rfl rfl ?_ | refine k_extract rfl rfl rfl ?_ | refine k_fieldAddr rfl rfl rfl ?_ | refine k_field rfl rfl rfl ?_ | refine k_build rfl rfl rfl ?_ | refine k_copys rfl rfl rfl rfl rfl hq ht (by exact hsp) ?_ | refine k_conv rfl rfl hc ?_ | refine k_conv rfl rfl hd ?_ | refine k_store rfl rfl rfl rfl rfl rfl (by exact hp1) ?_ | refine k_store rfl rfl rfl rfl rfl rfl (by exact hp2) ?_ | refine k_load rfl rfl rfl (by exact b_cut hZ _) ?_ | refine k_store rfl rfl rfl rfl (b_len hZ) (b_fits _) (b_put hZ _ rfl) ?_ | refine W_unroll (WL_round ?_) | refine WL_round ?_ | refine k_append rfl rfl rfl (by first | rfl | exact trivial | (show 0 < _; omega)) (by first | rfl | (simp <;> omega)) (by first | rfl | (simp <;> omega)) rfl (by omega) rfl rfl rfl ?_ | refine k_slice rfl rfl rfl rfl ⟨by omega, by omega, by omega⟩ rfl rfl rfl ?_ | refine k_slice3 rfl rfl rfl rfl rfl ⟨by omega, by omega, by omega⟩ rfl rfl rfl ?_ | refine k_sliceA rfl rfl rfl rfl ⟨by omega, by omega, by omega, by omega⟩ rfl rfl ?_ | refine k_sliceE rfl rfl rfl rfl ⟨by omega, by omega, by omega, by omega⟩ rfl rfl rfl rfl ?_ | refine k_buildSlice (cs := []) rfl rfl rfl rfl rfl rfl rfl ?_ | refine k_buildSlice rfl rfl rfl rfl rfl rfl rfl ?_ | refine k_indexAddr rfl rfl rfl ⟨by omega, by omega⟩ ?_ | refine k_indexAddrs rfl rfl rfl ⟨by omega, by omega⟩ rfl ?_ | refine k_index rfl rfl rfl ⟨by omega, by omega⟩ rfl ?_ | refine k_loade rfl rfl rfl ?_ | refine k_fieldAddre rfl rfl rfl rfl ?_ | refine k_len rfl rfl ?_ | refine k_nilCheck rfl rfl rfl ?_ | refine k_pickT rfl rfl rfl ?_ | refine k_pickF rfl rfl rfl ?_ | refine k_addi rfl rfl rfl (by omega) ?_ | refine k_subi rfl rfl rfl (by omega) ?_ | refine k_negi rfl rfl (by omega) ?_ | refine k_not rfl rfl rfl ?_ | refine k_lssT rfl rfl rfl (by omega) ?_ | refine k_lssF rfl rfl rfl (by omega) ?_ | refine k_leqT rfl rfl rfl (by omega) ?_ | refine k_leqF rfl rfl rfl (by omega) ?_ | refine k_gtrT rfl rfl rfl (by omega) ?_ | refine k_gtrF rfl rfl rfl (by omega) ?_ | refine k_geqT rfl rfl rfl (by omega) ?_ | refine k_geqF rfl rfl rfl (by omega) ?_ | refine k_eqlT rfl rfl rfl (by omega) ?_ | refine k_eqlF rfl rfl rfl (by omega) ?_ | refine k_neqT rfl rfl rfl (by omega) ?_ | refine k_neqF rfl rfl rfl (by omega) ?_ | refine k_eqa rfl rfl rfl rfl rfl rfl ?_ | refine k_nea rfl rfl rfl rfl rfl rfl ?_ | refine k_makeFunc rfl rfl rfl ?_ | refine k_skip rfl ?_ | refine k_skip0 rfl ?_ | refine k_pick rfl rfl rfl rfl rfl ?_ | refine W_yes rfl ?_ | refine W_no rfl ?_)
  (first | with_reducible refine q_endr ?_ | with_reducible refine q_endn ?_); refine rets1 Try.results23 (RetV.cell _ _ _ _ _ _ _ _ inferInstance rfl rfl (by exact b_cut hZ _)) ?_
  exact b_fz _

set_option maxHeartbeats 8000000 in
theorem pur (k a b k1 a1 b1 : Int) (s s1 : ByteArray) : Pur Try.prog 6 [.agg [.int .i64 k, .int .i64 a, .int .i64 b, .str s], .agg [.int .i64 k1, .int .i64 a1, .int .i64 b1, .str s1]] (.bool true) := by
  obtain ⟨z, hz, wo⟩ := word_ok k a b s
  have n1 := num_p k a b s _ rfl
  have n2 := num_p k1 a1 b1 s1 _ rfl
  have hx := num_lt k a b
  have hy := num_lt k1 a1 b1
  generalize num k a b = x at *
  generalize num k1 a1 b1 = y at *
  have b1_ := Bytes_ok x
  have b2_ := Bytes_ok y
  have f1 := From_ok (b32 x) (b32_len x)
  rw [nm_b32 x hx] at f1
  have f2 := From_ok z hz
  have b3 := Bytes_ok (nm z)
  rw [b32_nm z hz] at b3
  have lx := b32_len x
  have ly := b32_len y
  have hls := b32_less x y hx hy
  have d1 := deqs_ud x x hx hx
  simp only [decide_true] at d1
  have dz := b_eq z
  have hlk : ∀ z : List UInt8, z.length = 32 → lks (bs z) = lks (bs (List.replicate 32 0)) := by
    intro z hz
    have key : ∀ (n : Nat) (z : List UInt8), z.length = n → lks (bs z) = lks (bs (List.replicate n 0)) := by
      intro n
      induction n with
      | zero => intro z h; rw [List.eq_nil_of_length_eq_zero h]; rfl
      | succ n ih =>
        intro z h
        cases z with
        | nil => cases h
        | cons c z =>
          have := ih z (by simpa using h)
          show lks (D.int .u8 (c.toNat : Int) :: bs z) = lks (D.int .u8 _ :: bs (List.replicate n 0))
          unfold lks
          rw [this]; rfl
    exact key 32 z hz
  have hk := hlk z hz
  obtain ⟨c, hc, cm⟩ : ∃ c : Int, (c < 0 ↔ x < y) ∧ Pur Try.prog 20 [U x, U y] (.int .i64 c) := by
    refine ⟨_, ?_, p_cmp x y _ hx hy rfl⟩
    unfold cmpI
    split
    · constructor <;> intro <;> omega
    · split <;> constructor <;> intro <;> omega
  generalize b32 x = p at *
  generalize b32 y = q at *
  by_cases hlt : x < y
  · have hc0 := hc.2 hlt
    rw [decide_eq_true hlt] at hls
    refine pur_intro Try.func6 rfl Try.ntmps6 rfl (by first | rfl | assumption | exact bs_cl _) fun B => ?_
    repeat (first | with_reducible refine W_seq ?_ | with_reducible refine q_then ?_ | with_reducible refine q_thenr ?_ | with_reducible refine q_thenx ?_ | with_reducible refine W_block ?_ | with_reducible refine q_block ?_ | with_reducible refine q_blockr ?_ | with_reducible refine q_blockx ?_ | with_reducible refine W_ret ?_ | with_reducible refine W_skip ?_ | with_reducible refine W_label ?_ | with_reducible refine W_exit ?_ | with_reducible refine W_scope ?_ | with_reducible refine q_scope ?_ | with_reducible refine q_scoper ?_ | with_reducible refine q_scopex ?_ | (with_reducible refine R_nil ?_; try dsimp only [slots0, slots_ud, cells_U, agg_ud, drop0, dropS, takeS, take0, ud_nil, take_ud, take_ud0, drop_ud, drop_ud0, take_udk, D.cells, D.fz, D.fzs, List.take_succ_cons, List.take_zero, List.drop_succ_cons, List.drop_zero, List.cons_append, List.nil_append, List.append_eq, List.length_cons, List.length_nil, Nat.reduceAdd, Nat.reduceMul, Nat.reduceSub, Int.reduceAdd, Int.reduceSub, Int.reduceToNat, Int.reduceNeg, Int.reduceMul]) | refine q_blocky rfl ?_ | refine W_plain rfl ?_ | refine W_drawn mixed rfl ?_ | refine and_chk (by kernel_rfl) ?_ | refine k_move rfl rfl ?_ | refine k_assign rfl rfl ?_ | refine k_load rfl rfl rfl rfl ?_ | refine k_alloc rfl ?_ | refine k_box rfl rfl rfl ?_ | refine k_store rfl rfl rfl rfl rfl rfl rfl ?_ | refine k_extract rfl rfl rfl ?_ | refine k_fieldAddr rfl rfl rfl ?_ | refine k_field rfl rfl rfl ?_ | refine k_build rfl rfl rfl ?_ | refine k_call rfl n1 rfl rfl rfl rfl ?_ | refine k_call rfl n2 rfl rfl rfl rfl ?_ | refine k_call rfl b1_ rfl rfl rfl (bs_cl _) ?_ | refine k_call rfl b2_ rfl rfl rfl (bs_cl _) ?_ | refine k_call rfl cm rfl rfl rfl rfl ?_ | refine k_call rfl p_tells rfl rfl rfl rfl ?_ | refine k_call rfl wo rfl rfl rfl (bs_cl _) ?_ | refine k_call rfl f1 rfl (b_fz1 _) (b_cl1 _) rfl ?_ | refine k_call rfl f2 rfl (b_fz1 _) (b_cl1 _) rfl ?_ | refine k_call rfl b3 rfl rfl rfl (bs_cl _) ?_ | refine k_load rfl rfl rfl (by exact b_cut lx _) ?_ | refine k_load rfl rfl rfl (by exact b_cut ly _) ?_ | refine k_store rfl rfl rfl rfl (b_len lx) (b_fits _) (b_put lx _ rfl) ?_ | refine k_store rfl rfl rfl rfl (b_len ly) (b_fits _) (b_put ly _ rfl) ?_ | refine k_eqa rfl rfl rfl rfl rfl d1 ?_ | refine k_eqa rfl rfl rfl (by exact hk) (by exact hk) dz ?_ | refine k_b2sm rfl Try.underlying9 Try.underlying5 rfl rfl (by exact b_ms lx _ _ rfl rfl) (by exact lx) ?_ | refine k_b2sm rfl Try.underlying9 Try.underlying5 rfl rfl (by exact b_ms ly _ _ rfl rfl) (by exact ly) ?_ | refine k_lts rfl rfl rfl hls ?_ | refine k_eqb rfl Try.underlying4 rfl rfl rfl ?_ | refine W_unroll (WL_round ?_) | refine WL_round ?_ | refine k_append rfl rfl rfl (by first | rfl | exact trivial | (show 0 < _; omega)) (by first | rfl | (simp <;> omega)) (by first | rfl | (simp <;> omega)) rfl (by omega) rfl rfl rfl ?_ | refine k_slice rfl rfl rfl rfl ⟨by omega, by omega, by omega⟩ rfl rfl rfl ?_ | refine k_slice3 rfl rfl rfl rfl rfl ⟨by omega, by omega, by omega⟩ rfl rfl rfl ?_ | refine k_sliceA rfl rfl rfl rfl ⟨by omega, by omega, by omega, by omega⟩ rfl rfl ?_ | refine k_sliceE rfl rfl rfl rfl ⟨by omega, by omega, by omega, by omega⟩ rfl rfl rfl rfl ?_ | refine k_buildSlice (cs := []) rfl rfl rfl rfl rfl rfl rfl ?_ | refine k_buildSlice rfl rfl rfl rfl rfl rfl rfl ?_ | refine k_indexAddr rfl rfl rfl ⟨by omega, by omega⟩ ?_ | refine k_indexAddrs rfl rfl rfl ⟨by omega, by omega⟩ rfl ?_ | refine k_index rfl rfl rfl ⟨by omega, by omega⟩ rfl ?_ | refine k_loade rfl rfl rfl ?_ | refine k_fieldAddre rfl rfl rfl rfl ?_ | refine k_len rfl rfl ?_ | refine k_nilCheck rfl rfl rfl ?_ | refine k_pickT rfl rfl rfl ?_ | refine k_pickF rfl rfl rfl ?_ | refine k_addi rfl rfl rfl (by omega) ?_ | refine k_subi rfl rfl rfl (by omega) ?_ | refine k_negi rfl rfl (by omega) ?_ | refine k_not rfl rfl rfl ?_ | refine k_lssT rfl rfl rfl (by omega) ?_ | refine k_lssF rfl rfl rfl (by omega) ?_ | refine k_leqT rfl rfl rfl (by omega) ?_ | refine k_leqF rfl rfl rfl (by omega) ?_ | refine k_gtrT rfl rfl rfl (by omega) ?_ | refine k_gtrF rfl rfl rfl (by omega) ?_ | refine k_geqT rfl rfl rfl (by omega) ?_ | refine k_geqF rfl rfl rfl (by omega) ?_ | refine k_eqlT rfl rfl rfl (by omega) ?_ | refine k_eqlF rfl rfl rfl (by omega) ?_ | refine k_neqT rfl rfl rfl (by omega) ?_ | refine k_neqF rfl rfl rfl (by omega) ?_ | refine k_eqa rfl rfl rfl rfl rfl rfl ?_ | refine k_nea rfl rfl rfl rfl rfl rfl ?_ | refine k_makeFunc rfl rfl rfl ?_ | refine k_skip rfl ?_ | refine k_skip0 rfl ?_ | refine k_pick rfl rfl rfl rfl rfl ?_ | refine W_yes rfl ?_ | refine W_no rfl ?_)
    (first | with_reducible refine q_endr ?_ | with_reducible refine q_endn ?_); refine rets1 Try.results6 (by first | exact RetV.tmp _ _ rfl | exact RetV.cell _ _ _ _ _ _ _ _ inferInstance rfl rfl rfl) ?_
    rfl
  · have hc0 : ¬ c < 0 := fun h => hlt (hc.1 h)
    rw [decide_eq_false hlt] at hls
    refine pur_intro Try.func6 rfl Try.ntmps6 rfl (by first | rfl | assumption | exact bs_cl _) fun B => ?_
    repeat (first | with_reducible refine W_seq ?_ | with_reducible refine q_then ?_ | with_reducible refine q_thenr ?_ | with_reducible refine q_thenx ?_ | with_reducible refine W_block ?_ | with_reducible refine q_block ?_ | with_reducible refine q_blockr ?_ | with_reducible refine q_blockx ?_ | with_reducible refine W_ret ?_ | with_reducible refine W_skip ?_ | with_reducible refine W_label ?_ | with_reducible refine W_exit ?_ | with_reducible refine W_scope ?_ | with_reducible refine q_scope ?_ | with_reducible refine q_scoper ?_ | with_reducible refine q_scopex ?_ | (with_reducible refine R_nil ?_; try dsimp only [slots0, slots_ud, cells_U, agg_ud, drop0, dropS, takeS, take0, ud_nil, take_ud, take_ud0, drop_ud, drop_ud0, take_udk, D.cells, D.fz, D.fzs, List.take_succ_cons, List.take_zero, List.drop_succ_cons, List.drop_zero, List.cons_append, List.nil_append, List.append_eq, List.length_cons, List.length_nil, Nat.reduceAdd, Nat.reduceMul, Nat.reduceSub, Int.reduceAdd, Int.reduceSub, Int.reduceToNat, Int.reduceNeg, Int.reduceMul]) | refine q_blocky rfl ?_ | refine W_plain rfl ?_ | refine W_drawn mixed rfl ?_ | refine and_chk (by kernel_rfl) ?_ | refine k_move rfl rfl ?_ | refine k_assign rfl rfl ?_ | refine k_load rfl rfl rfl rfl ?_ | refine k_alloc rfl ?_ | refine k_box rfl rfl rfl ?_ | refine k_store rfl rfl rfl rfl rfl rfl rfl ?_ | refine k_extract rfl rfl rfl ?_ | refine k_fieldAddr rfl rfl rfl ?_ | refine k_field rfl rfl rfl ?_ | refine k_build rfl rfl rfl ?_ | refine k_call rfl n1 rfl rfl rfl rfl ?_ | refine k_call rfl n2 rfl rfl rfl rfl ?_ | refine k_call rfl b1_ rfl rfl rfl (bs_cl _) ?_ | refine k_call rfl b2_ rfl rfl rfl (bs_cl _) ?_ | refine k_call rfl cm rfl rfl rfl rfl ?_ | refine k_call rfl p_tells rfl rfl rfl rfl ?_ | refine k_call rfl wo rfl rfl rfl (bs_cl _) ?_ | refine k_call rfl f1 rfl (b_fz1 _) (b_cl1 _) rfl ?_ | refine k_call rfl f2 rfl (b_fz1 _) (b_cl1 _) rfl ?_ | refine k_call rfl b3 rfl rfl rfl (bs_cl _) ?_ | refine k_load rfl rfl rfl (by exact b_cut lx _) ?_ | refine k_load rfl rfl rfl (by exact b_cut ly _) ?_ | refine k_store rfl rfl rfl rfl (b_len lx) (b_fits _) (b_put lx _ rfl) ?_ | refine k_store rfl rfl rfl rfl (b_len ly) (b_fits _) (b_put ly _ rfl) ?_ | refine k_eqa rfl rfl rfl rfl rfl d1 ?_ | refine k_eqa rfl rfl rfl (by exact hk) (by exact hk) dz ?_ | refine k_b2sm rfl Try.underlying9 Try.underlying5 rfl rfl (by exact b_ms lx _ _ rfl rfl) (by exact lx) ?_ | refine k_b2sm rfl Try.underlying9 Try.underlying5 rfl rfl (by exact b_ms ly _ _ rfl rfl) (by exact ly) ?_ | refine k_lts rfl rfl rfl hls ?_ | refine k_eqb rfl Try.underlying4 rfl rfl rfl ?_ | refine W_unroll (WL_round ?_) | refine WL_round ?_ | refine k_append rfl rfl rfl (by first | rfl | exact trivial | (show 0 < _; omega)) (by first | rfl | (simp <;> omega)) (by first | rfl | (simp <;> omega)) rfl (by omega) rfl rfl rfl ?_ | refine k_slice rfl rfl rfl rfl ⟨by omega, by omega, by omega⟩ rfl rfl rfl ?_ | refine k_slice3 rfl rfl rfl rfl rfl ⟨by omega, by omega, by omega⟩ rfl rfl rfl ?_ | refine k_sliceA rfl rfl rfl rfl ⟨by omega, by omega, by omega, by omega⟩ rfl rfl ?_ | refine k_sliceE rfl rfl rfl rfl ⟨by omega, by omega, by omega, by omega⟩ rfl rfl rfl rfl ?_ | refine k_buildSlice (cs := []) rfl rfl rfl rfl rfl rfl rfl ?_ | refine k_buildSlice rfl rfl rfl rfl rfl rfl rfl ?_ | refine k_indexAddr rfl rfl rfl ⟨by omega, by omega⟩ ?_ | refine k_indexAddrs rfl rfl rfl ⟨by omega, by omega⟩ rfl ?_ | refine k_index rfl rfl rfl ⟨by omega, by omega⟩ rfl ?_ | refine k_loade rfl rfl rfl ?_ | refine k_fieldAddre rfl rfl rfl rfl ?_ | refine k_len rfl rfl ?_ | refine k_nilCheck rfl rfl rfl ?_ | refine k_pickT rfl rfl rfl ?_ | refine k_pickF rfl rfl rfl ?_ | refine k_addi rfl rfl rfl (by omega) ?_ | refine k_subi rfl rfl rfl (by omega) ?_ | refine k_negi rfl rfl (by omega) ?_ | refine k_not rfl rfl rfl ?_ | refine k_lssT rfl rfl rfl (by omega) ?_ | refine k_lssF rfl rfl rfl (by omega) ?_ | refine k_leqT rfl rfl rfl (by omega) ?_ | refine k_leqF rfl rfl rfl (by omega) ?_ | refine k_gtrT rfl rfl rfl (by omega) ?_ | refine k_gtrF rfl rfl rfl (by omega) ?_ | refine k_geqT rfl rfl rfl (by omega) ?_ | refine k_geqF rfl rfl rfl (by omega) ?_ | refine k_eqlT rfl rfl rfl (by omega) ?_ | refine k_eqlF rfl rfl rfl (by omega) ?_ | refine k_neqT rfl rfl rfl (by omega) ?_ | refine k_neqF rfl rfl rfl (by omega) ?_ | refine k_eqa rfl rfl rfl rfl rfl rfl ?_ | refine k_nea rfl rfl rfl rfl rfl rfl ?_ | refine k_makeFunc rfl rfl rfl ?_ | refine k_skip rfl ?_ | refine k_skip0 rfl ?_ | refine k_pick rfl rfl rfl rfl rfl ?_ | refine W_yes rfl ?_ | refine W_no rfl ?_)
    (first | with_reducible refine q_endr ?_ | with_reducible refine q_endn ?_); refine rets1 Try.results6 (by first | exact RetV.tmp _ _ rfl | exact RetV.cell _ _ _ _ _ _ _ _ inferInstance rfl rfl rfl) ?_
    rfl

theorem walk (k a b k1 a1 b1 : Int) (s s1 : ByteArray) (w : World) : Calls Try.prog 6 #[.agg (raw k a b s), .agg (raw k1 a1 b1 s1)] w fun e w' => e = .returned (.bool true) ∧ New w w' :=
  calls_of_pur (vs := [.agg #[.int .i64 k, .int .i64 a, .int .i64 b, .string s], .agg #[.int .i64 k1, .int .i64 a1, .int .i64 b1, .string s1]]) rfl rfl rfl (pur k a b k1 a1 b1 s s1) w

set_option maxRecDepth 100000 in
theorem lifted (os : Os) (started : os.Started) (H : Type) (enc : TypeId × Value → H) :
    ReturnsInHanded {} Try.checked os 6 .any (Rows.bytesBackSpec.pre6 enc Try.prog Try.f6 Rows.bytesBackRow.domain false) (Rows.bytesBackSpec.post enc Try.prog Try.f6 false true false false) := by
  refine returnsInHanded_of_change (C := Try.checked) own started (by kernel_rfl) Try.func6
    (ChangeSpec.witness6 (enc := enc) (C := Try.checked) false ⟨#[], #[.agg #[.int .i64 0, .int .i64 0, .int .i64 0, .string ⟨#[]⟩], .agg #[.int .i64 0, .int .i64 0, .int .i64 0, .string ⟨#[]⟩]], []⟩ 8 (by kernel_rfl) (by kernel_rfl) (by kernel_rfl) (by kernel_rfl)) ?_
  intro W base args ds gs before hval0 hW hcnd _
  have hval : ∀ (j : Nat) t v, Try.f6.params[j]? = some t → args[j]? = some v → Value.okWide Try.prog W .any base t v := hval0
  have hW' := hW
  obtain ⟨p, q, hA0, hV, rfl, hfz, hnd⟩ := hW
  have hA : DataW.TrodAll enc Try.prog W 0 (fun _ => true) true Try.f6.params.toList args.toList ds p := hA0
  rw [Try.params6] at hA hval
  obtain ⟨v0, vs0, d0, ds0, p0, q0, hargs, rfl, rfl, h0, r0⟩ := trodAll_cons hA
  obtain ⟨v1, vs1, d1, ds1, p1, q1, rfl, rfl, rfl, h1, r1⟩ := trodAll_cons r0
  obtain ⟨rfl, rfl, rfl⟩ := trodAll_nil r1
  obtain rfl : args = #[v0, v1] := by cases args; simp_all
  obtain ⟨rfl, rfl⟩ := trodVars_none hV
  obtain ⟨k1, a1, b1, s1, rfl, wk1, wa1, wb1, ws1⟩ := open_raw (hval 0 23 v0 rfl rfl) h0
  obtain ⟨k2, a2, b2, s2, rfl, wk2, wa2, wb2, ws2⟩ := open_raw (hval 1 23 v1 rfl rfl) h1
  refine (walk k1 a1 b1 k2 a2 b2 s1 s2 W).mono fun e W' ⟨he, hN⟩ => ?_
  subst he
  exact ⟨_, rfl, law_post laidOut (by kernel_rfl) (by kernel_rfl) Try.underlying4 rfl hW' rfl hN⟩

theorem holds : Rows.BytesBackSaid :=
  OpenClaim.holds_of_wide 6 Try.f6 rfl rfl rfl rfl rfl rfl rfl ⟨rfl, rfl, rfl, rfl, rfl⟩ rfl rfl rfl rfl rfl (by kernel_rfl) Try.func6 (by kernel_rfl)
    (of_decide_eq_true (by kernel_rfl)) (by unfold Func.isWrapper; first | (rw [if_pos (by decide +kernel)]; kernel_rfl) | (rw [if_neg (by decide +kernel)]; exact ⟨rfl, rfl⟩))
    (fun os started H enc _ => lifted os started H enc)

#print axioms holds
end Go.Proofs.Ytcgdcnhggejgbaa.bytesBack
