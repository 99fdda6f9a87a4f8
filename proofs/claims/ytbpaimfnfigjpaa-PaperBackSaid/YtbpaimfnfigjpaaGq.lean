/- The laws' messages: body, sameBody; two have the same bytes just if they are the same. Conditions: none. -/
import Derived.Test.YtbpaimfnfigjpaaKit
import Derived.Test.YtbpaimfnfigjpaaDCode
import Derived.Test.YtbpaimfnfigjpaaGp
import Derived.Test.YtbpaimfnfigjpaaWord
import Derived.Test.YtbpaimfnfigjpaaDMore
import Derived.Test.YtbpaimfnfigjpaaRowS
import Derived.Test.YtbpaimfnfigjpaaDInst
import Derived.Test.YtbpaimfnfigjpaaDK2
import Derived.Test.YtbpaimfnfigjpaaDMs
import Derived.Test.YtbpaimfnfigjpaaEq
import Derived.Test.YtbpaimfnfigjpaaDNum
import Derived.Test.YtbpaimfnfigjpaaBytes
namespace Go.Proofs.Ytbpaimfnfigjpaa
open Go.RowKit
set_option linter.unusedVariables false

theorem picked_any (n m : Int) (hm : 0 < m) (hm' : m ≤ 4611686018427387904) (w : World) :
    Calls Try.prog 10 #[.int .i64 n, .int .i64 m] w fun e w' => e = .returned (.int .i64 (n % m)) ∧ w = w' := by
  have h1 := hide (tmod_emod n m hm)
  have h2 := hide (Int.emod_nonneg n (by omega : m ≠ 0))
  have h3 := hide (Int.emod_lt_of_pos n hm)
  go_enter Try.func10, Try.ntmps10
  go_wp2
  · have h : n.tmod m < 0 := by assumption
    go_ret
    refine ⟨ret_int ?_, rfl⟩
    have h1 := h1.out; have h2 := h2.out; have h3 := h3.out
    rw [if_pos h] at h1
    rw [wrap64, ← h1]; omega
  · have h : 0 ≤ n.tmod m := by assumption
    go_ret
    refine ⟨ret_int ?_, rfl⟩
    have h1 := h1.out
    rw [if_neg (by omega)] at h1
    exact h1.symm
theorem picked_q (n m : Int) (hm : 0 < m) (hm' : m ≤ 4611686018427387904) (w : World) :
    Calls Try.prog 10 #[.int .i64 n, .int .i64 m] w fun e w' => e = .returned (.int .i64 (n % m)) ∧ w' = w := (picked_any n m hm hm' w).mono fun _ _ h => ⟨h.1, h.2.symm⟩

end Go.Proofs.Ytbpaimfnfigjpaa

namespace Go.Proofs.Ytbpaimfnfigjpaa
open Go.RowKit
set_option linter.unusedVariables false
theorem p_picked (n m q : Int) (hm : 0 < m) (hm' : m ≤ 4611686018427387904) (hq : n % m = q) : Pur Try.prog 10 [.int .i64 n, .int .i64 m] (.int .i64 q) :=
  pur_of_calls (vs := [.int .i64 n, .int .i64 m]) rfl rfl rfl fun w => (picked_q n m hm hm' w).mono fun e w' h => by
    obtain ⟨h1, h2⟩ := h
    subst h2
    exact ⟨by rw [h1, hq], new_refl _⟩
end Go.Proofs.Ytbpaimfnfigjpaa

namespace Go.Proofs.Ytbpaimfnfigjpaa
open Go.RowKit Go.Lib Go.IntWalk
set_option linter.unusedVariables false
set_option maxRecDepth 100000

/-- the first bytes of a text -/
def cutL (s : ByteArray) (k : Nat) : List UInt8 := s.data.toList.take k
theorem cut_ok (s : ByteArray) (k : Nat) : ∃ s' : ByteArray, s'.data.toList = cutL s k ∧ Pur Try.prog 32 [.str s, .int .i64 k] (.str s') := by
  have hsl : s.data.toList.length = s.size := by rw [Array.length_toList]; rfl
  obtain ⟨q, hq⟩ : ∃ q, Nat.min s.size k = q := ⟨_, rfl⟩
  have hmin : min (s.size : Int) (k : Int) = (q : Int) := by rw [← hq]; show min _ _ = ((min s.size k : Nat) : Int); omega
  have hq1 : q ≤ s.size := by rw [← hq]; exact Nat.min_le_left _ _
  refine ⟨s.extract 0 q, ?_, ?_⟩
  · unfold cutL
    rw [ByteArray.data_extract, Array.toList_extract]
    simp only [List.extract_eq_take_drop, List.drop_zero, Nat.sub_zero]
    rw [← hq, show Nat.min s.size k = min k s.data.toList.length from by rw [hsl]; exact Nat.min_comm _ _]
    rcases Nat.le_total k s.data.toList.length with h | h
    · rw [Nat.min_eq_left h]
    · rw [Nat.min_eq_right h, List.take_of_length_le (Nat.le_refl _), List.take_of_length_le h]
  · have h2 : s.extract (0 : Int).toNat ((q : Int)).toNat = s.extract 0 q := by rw [Int.toNat_natCast]; rfl
    refine pur_intro Try.func32 rfl Try.ntmps32 rfl (by first | rfl | assumption | exact bs_cl _) fun B => ?_
    repeat (first | with_reducible (first | refine W_seq ?_ | refine q_then ?_ | refine q_thenr ?_ | refine q_thenx ?_ | refine W_block ?_ | refine q_block ?_ | refine q_blockr ?_ | refine q_blockx ?_ | refine W_ret ?_ | refine W_skip ?_ | refine W_label ?_ | refine W_exit ?_ | refine W_scope ?_ | refine q_scope ?_ | refine q_scoper ?_ | refine q_scopex ?_) | (with_reducible refine R_nil ?_; try dsimp only [slots0, slots_ud, cells_U, agg_ud, drop0, dropS, takeS, take0, ud_nil, take_ud, take_ud0, drop_ud, drop_ud0, take_udk, D.cells, D.fz, D.fzs, List.take_succ_cons, List.take_zero, List.drop_succ_cons, List.drop_zero, List.cons_append, List.nil_append, List.append_eq, List.length_cons, List.length_nil, Nat.reduceAdd, Nat.reduceMul, Nat.reduceSub, Int.reduceAdd, Int.reduceSub, Int.reduceToNat, Int.reduceNeg, Int.reduceMul]) | refine q_blocky rfl ?_ | refine W_plain rfl ?_ | refine W_drawn mixed rfl ?_ | refine and_chk (by kernel_rfl) ?_ | refine k_move rfl rfl ?_ | refine k_assign rfl rfl ?_ | refine k_lens rfl Try.underlying9 rfl ?_ | refine k_min rfl rfl rfl hmin ?_ | refine k_slices rfl Try.underlying9 rfl rfl rfl ⟨by omega, by omega, by omega⟩ h2 ?_ | refine k_len rfl rfl ?_ | refine W_yes rfl ?_ | refine W_no rfl ?_)
    (first | with_reducible refine q_endr ?_ | with_reducible refine q_endn ?_); refine rets1 Try.results32 (by first | exact RetV.tmp _ _ rfl | exact RetV.cell _ _ _ _ _ _ _ _ inferInstance rfl rfl rfl) ?_
    rfl
theorem cutL_len (s : ByteArray) (k : Nat) : (cutL s k).length ≤ k := by unfold cutL; rw [List.length_take]; omega

theorem mod_nat (a : Int) (m : Nat) (h : 0 < m) : ∃ q : Nat, a % (m : Int) = q ∧ q < m := by
  have h0 := Int.emod_nonneg a (show (m : Int) ≠ 0 by omega)
  have h1 := Int.emod_lt_of_pos a (show (0 : Int) < m by omega)
  exact ⟨(a % (m : Int)).toNat, by omega, by omega⟩
set_option maxHeartbeats 4000000 in
theorem rbody_ok (k a b : Int) (s : ByteArray) : ∃ y : BodyT, y.ok ∧ Pur Try.prog 17 [.agg [.int .i64 k, .int .i64 a, .int .i64 b, .str s]] (.agg y.cells) := by
  obtain ⟨t, e1, h1⟩ := mod_nat a 1000 (by decide)
  obtain ⟨n, e2, h2⟩ := mod_nat b 4294967296 (by decide)
  obtain ⟨c, e3, h3⟩ := mod_nat k 65536 (by decide)
  obtain ⟨u, e4, h4⟩ := mod_nat (IntKind.i64.wrap (a * b)) 1099511627776 (by decide)
  obtain ⟨v, e5, h5⟩ := mod_nat k 256 (by decide)
  obtain ⟨e, he, hw⟩ := word_ok k a b s
  obtain ⟨s', hs', hc⟩ := cut_ok s 60
  obtain ⟨l, hl⟩ : ∃ l, cutL s 60 = l := ⟨_, rfl⟩
  have hll := cutL_len s 60
  rw [hl] at hs' hll
  have p1 := p_picked a 1000 t (by decide) (by decide) e1
  have p2 := p_picked b 4294967296 n (by decide) (by decide) e2
  have p3 := p_picked k 65536 c (by decide) (by decide) e3
  have p4 := p_picked (IntKind.i64.wrap (a * b)) 1099511627776 u (by decide) (by decide) e4
  have p5 := p_picked k 256 v (by decide) (by decide) e5
  refine ⟨⟨t, n, c, e, u, v, l⟩, ⟨by simp; omega, by simp; omega, by simp; omega, he, by simp; omega, by simp; omega, by simp; omega⟩, ?_⟩
  have hall := bd_all (b := ⟨t, n, c, e, u, v, l⟩) he
  have hput := bd_put (b := ⟨t, n, c, e, u, v, l⟩) he
  have hlen := bd_len (b := ⟨t, n, c, e, u, v, l⟩) he
  have hcl : D.cl (.agg (BodyT.cells ⟨t, n, c, e, u, v, l⟩)) = true := bd_cls _
  have hfz : D.fzs (BodyT.cells ⟨t, n, c, e, u, v, l⟩) = BodyT.cells ⟨t, n, c, e, u, v, l⟩ := by
    have := bd_fz ⟨t, n, c, e, u, v, l⟩
    simpa [D.fzs, D.fz] using this
  have hsp : splice 3 (bs e) (.int .i64 t :: .int .i64 n :: .int .i64 c :: (List.replicate 32 (.int .u8 0) ++ [.int .i64 u, .int .i64 v, .slice .frozen l.length (bs l)])) = some (BodyT.cells ⟨t, n, c, e, u, v, l⟩) := by
    unfold splice BodyT.cells
    rw [Nat.ble_eq_true_of_le (by rw [bs_len, he]; exact (by decide : 3 + 32 ≤ 38)), cond_true, bs_len, he]
    rfl
  generalize BodyT.cells ⟨t, n, c, e, u, v, l⟩ = x at *
  refine pur_intro Try.func17 rfl Try.ntmps17 rfl hcl fun B => ?_
  repeat (first | with_reducible (first | refine W_seq ?_ | refine q_then ?_ | refine q_thenr ?_ | refine q_thenx ?_ | refine W_block ?_ | refine q_block ?_ | refine q_blockr ?_ | refine q_blockx ?_ | refine W_ret ?_ | refine W_skip ?_ | refine W_label ?_ | refine W_exit ?_ | refine W_scope ?_ | refine q_scope ?_ | refine q_scoper ?_ | refine q_scopex ?_) | (with_reducible refine R_nil ?_; try dsimp only [slots0, slots_ud, cells_U, agg_ud, drop0, dropS, takeS, take0, ud_nil, take_ud, take_ud0, drop_ud, drop_ud0, take_udk, D.cells, D.fz, D.fzs, List.take_succ_cons, List.take_zero, List.drop_succ_cons, List.drop_zero, List.cons_append, List.nil_append, List.append_eq, List.length_cons, List.length_nil, Nat.reduceAdd, Nat.reduceMul, Nat.reduceSub, Int.reduceAdd, Int.reduceSub, Int.reduceToNat, Int.reduceNeg, Int.reduceMul]) | refine q_blocky rfl ?_ | refine W_plain rfl ?_ | refine W_drawn mixed rfl ?_ | refine and_chk (by kernel_rfl) ?_ | refine k_build (cs := .int .i64 t :: .int .i64 n :: .int .i64 c :: (List.replicate 32 (.int .u8 0) ++ [.int .i64 u, .int .i64 v, .slice .frozen l.length (bs l)])) rfl rfl rfl ?_ | refine k_load rfl rfl rfl rfl ?_ | refine k_alloc rfl ?_ | refine k_box rfl rfl rfl ?_ | refine k_store rfl rfl rfl rfl rfl rfl rfl ?_ | refine k_fieldAddr rfl rfl rfl ?_ | refine k_build rfl rfl rfl ?_ | refine k_call rfl p1 rfl rfl rfl rfl ?_ | refine k_call rfl p2 rfl rfl rfl rfl ?_ | refine k_call rfl p3 rfl rfl rfl rfl ?_ | refine k_mul rfl rfl rfl rfl ?_ | refine k_call rfl p4 rfl rfl rfl rfl ?_ | refine k_call rfl p5 rfl rfl rfl rfl ?_ | refine k_call rfl hc rfl rfl rfl rfl ?_ | refine k_s2b rfl Try.underlying9 Try.underlying5 rfl hs' rfl ?_ | refine k_call rfl hw rfl rfl rfl (bs_cl _) ?_ | refine k_store rfl rfl rfl rfl (b_len he) (b_fits _) (by exact hsp) ?_ | refine k_load rfl rfl rfl (by exact hall _) ?_ | refine k_store rfl rfl rfl rfl (by exact hlen) rfl (by exact hput _ rfl) ?_ | refine k_append rfl rfl rfl (by first | rfl | exact trivial | (show 0 < _; omega)) (by first | rfl | (simp <;> omega)) (by first | rfl | (simp <;> omega)) rfl (by omega) rfl rfl rfl ?_ | refine k_slice rfl rfl rfl rfl ⟨by omega, by omega, by omega⟩ rfl rfl rfl ?_ | refine k_slice3 rfl rfl rfl rfl rfl ⟨by omega, by omega, by omega⟩ rfl rfl rfl ?_ | refine k_sliceA rfl rfl rfl rfl ⟨by omega, by omega, by omega, by omega⟩ rfl rfl ?_ | refine k_sliceE rfl rfl rfl rfl ⟨by omega, by omega, by omega, by omega⟩ rfl rfl rfl rfl ?_ | refine k_loade rfl rfl rfl ?_ | refine k_fieldAddre rfl rfl rfl rfl ?_ | refine W_yes rfl ?_ | refine W_no rfl ?_)
  (first | with_reducible refine q_endr ?_ | with_reducible refine q_endn ?_); refine rets1 Try.results17 (RetV.cell _ _ _ _ _ _ _ _ inferInstance rfl rfl (by exact hall _)) ?_
  show D.agg (D.fzs x) = _
  rw [hfz]
end Go.Proofs.Ytbpaimfnfigjpaa

namespace Go.Proofs.Ytbpaimfnfigjpaa
open Go.RowKit Go.Lib
set_option linter.unusedVariables false
set_option maxRecDepth 100000

theorem some_ok (l : List RawT) (m : Nat) (hm : m ≤ 1000) : Pur Try.prog 18 [.slice .frozen l.length (rws l), .int .i64 m] (.slice .frozen (l.take m).length (rws (l.take m))) := by
  have hl := rws_len l
  have h1 : min (l.length : Int) (m : Int) = ((l.take m).length : Int) := by rw [List.length_take]; omega
  have h2 : (((l.take m).length : Int) - 0).toNat = (l.take m).length := by omega
  have h3 : ((rws l).drop ((0 : Int).toNat * 4)).take ((l.take m).length * 4) = rws (l.take m) := by
    show (rws l).take _ = _
    unfold rws
    rw [fl_take (f := RawT.cells) (s := 4) (fun _ => rfl), List.length_take]
    congr 1
    rcases Nat.le_total m l.length with h | h
    · rw [Nat.min_eq_left h]
    · rw [Nat.min_eq_right h, List.take_length, List.take_of_length_le h]
  have h4 : (l.take m).length ≤ l.length := by rw [List.length_take]; omega
  generalize l.take m = l' at *
  refine pur_intro Try.func18 rfl Try.ntmps18 rfl (by first | rfl | assumption | exact bs_cl _) fun B => ?_
  repeat (first | with_reducible (first | refine W_seq ?_ | refine q_then ?_ | refine q_thenr ?_ | refine q_thenx ?_ | refine W_block ?_ | refine q_block ?_ | refine q_blockr ?_ | refine q_blockx ?_ | refine W_ret ?_ | refine W_skip ?_ | refine W_label ?_ | refine W_exit ?_ | refine W_scope ?_ | refine q_scope ?_ | refine q_scoper ?_ | refine q_scopex ?_) | (with_reducible refine R_nil ?_; try dsimp only [slots0, slots_ud, cells_U, agg_ud, drop0, dropS, takeS, take0, ud_nil, take_ud, take_ud0, drop_ud, drop_ud0, take_udk, D.cells, D.fz, D.fzs, List.take_succ_cons, List.take_zero, List.drop_succ_cons, List.drop_zero, List.cons_append, List.nil_append, List.append_eq, List.length_cons, List.length_nil, Nat.reduceAdd, Nat.reduceMul, Nat.reduceSub, Int.reduceAdd, Int.reduceSub, Int.reduceToNat, Int.reduceNeg, Int.reduceMul]) | refine q_blocky rfl ?_ | refine W_plain rfl ?_ | refine W_drawn mixed rfl ?_ | refine and_chk (by kernel_rfl) ?_ | refine k_move rfl rfl ?_ | refine k_assign rfl rfl ?_ | refine k_min rfl rfl rfl h1 ?_ | refine k_slice rfl rfl rfl rfl ⟨by omega, by omega, by omega⟩ (by exact hl.symm) (by exact h2) (by exact h3) ?_ | refine W_unroll (WL_round ?_) | refine WL_round ?_ | refine k_append rfl rfl rfl (by first | rfl | exact trivial | (show 0 < _; omega)) (by first | rfl | (simp <;> omega)) (by first | rfl | (simp <;> omega)) rfl (by omega) rfl rfl rfl ?_ | refine k_slice rfl rfl rfl rfl ⟨by omega, by omega, by omega⟩ rfl rfl rfl ?_ | refine k_slice3 rfl rfl rfl rfl rfl ⟨by omega, by omega, by omega⟩ rfl rfl rfl ?_ | refine k_sliceA rfl rfl rfl rfl ⟨by omega, by omega, by omega, by omega⟩ rfl rfl ?_ | refine k_sliceE rfl rfl rfl rfl ⟨by omega, by omega, by omega, by omega⟩ rfl rfl rfl rfl ?_ | refine k_len rfl rfl ?_ | refine W_yes rfl ?_ | refine W_no rfl ?_)
  (first | with_reducible refine q_endr ?_ | with_reducible refine q_endn ?_); refine rets1 Try.results18 (by first | exact RetV.tmp _ _ rfl | exact RetV.cell _ _ _ _ _ _ _ _ inferInstance rfl rfl rfl) ?_
  rfl
theorem rws_cut (z : List RawT) (k : Nat) (r : RawT) (hget : z[k]? = some r) (ze : List D) : cut ⟨true, 4, ze⟩ 0 ((rws z).drop ((k : Int).toNat * 4)) = some (.agg r.cells) := by
  have hl := rws_len z
  have hlt := (List.getElem?_eq_some_iff.1 hget).1
  unfold cut
  simp only [cond_true, Int.toNat_natCast, Nat.zero_add, List.length_drop, hl, List.drop_zero]
  rw [Nat.ble_eq_true_of_le (by omega), cond_true]
  unfold rws
  rw [fl_at (f := RawT.cells) (s := 4) (fun _ => rfl) z k r hget]
theorem rt_all (r : RawT) : List.take 4 r.cells = r.cells := rfl
theorem rep_raw (G : Gh) (w : World) (k a b : Int) (s : ByteArray) : Rep G w (.agg [.int .i64 k, .int .i64 a, .int .i64 b, .str s]) (.agg #[.int .i64 k, .int .i64 a, .int .i64 b, .string s]) := by
  obtain ⟨u, h1, h2⟩ := D.ok_val G w (.agg [.int .i64 k, .int .i64 a, .int .i64 b, .str s]) rfl
  cases h1
  exact h2
end Go.Proofs.Ytbpaimfnfigjpaa

namespace Go.Proofs.Ytbpaimfnfigjpaa
open Go.RowKit Go.Lib Go.IntWalk
set_option linter.unusedVariables false
set_option maxRecDepth 100000

theorem lim_mk (a b c d : Nat) (ha : a < 18446744073709551616) (hb : b < 18446744073709551616) (hc : c < 18446744073709551616) (hd : d < 18446744073709551616) : ∃ x, x < M256 ∧ lim x 0 = a ∧ lim x 1 = b ∧ lim x 2 = c ∧ lim x 3 = d := by
  refine ⟨a + 18446744073709551616 * (b + 18446744073709551616 * (c + 18446744073709551616 * d)), by unfold M256; omega, ?_, ?_, ?_, ?_⟩
  · rw [lim0, Nat.add_mul_mod_self_left, Nat.mod_eq_of_lt ha]
  · rw [lim1, Nat.add_mul_div_left _ _ (by decide), Nat.div_eq_of_lt ha, Nat.zero_add, Nat.add_mul_mod_self_left, Nat.mod_eq_of_lt hb]
  · rw [lim2, show (340282366920938463463374607431768211456 : Nat) = 18446744073709551616 * 18446744073709551616 from by decide, ← Nat.div_div_eq_div_mul, Nat.add_mul_div_left _ _ (by decide), Nat.div_eq_of_lt ha, Nat.zero_add, Nat.add_mul_div_left _ _ (by decide), Nat.div_eq_of_lt hb, Nat.zero_add, Nat.add_mul_mod_self_left, Nat.mod_eq_of_lt hc]
  · unfold lim
    rw [show (18446744073709551616 ^ 3 : Nat) = 18446744073709551616 * (18446744073709551616 * 18446744073709551616) from by decide, ← Nat.div_div_eq_div_mul, ← Nat.div_div_eq_div_mul, Nat.add_mul_div_left _ _ (by decide), Nat.div_eq_of_lt ha, Nat.zero_add, Nat.add_mul_div_left _ _ (by decide), Nat.div_eq_of_lt hb, Nat.zero_add, Nat.add_mul_div_left _ _ (by decide), Nat.div_eq_of_lt hc, Nat.zero_add, Nat.mod_eq_of_lt hd]
theorem U_of (v0 v1 v2 v3 : Int) (h0 : 0 ≤ v0 ∧ v0 < 18446744073709551616) (h1 : 0 ≤ v1 ∧ v1 < 18446744073709551616) (h2 : 0 ≤ v2 ∧ v2 < 18446744073709551616) (h3 : 0 ≤ v3 ∧ v3 < 18446744073709551616) : ∃ x, x < M256 ∧ [D.int .u64 v0, .int .u64 v1, .int .u64 v2, .int .u64 v3] = ud x := by
  obtain ⟨x, hx, e0, e1, e2, e3⟩ := lim_mk v0.toNat v1.toNat v2.toNat v3.toNat (by omega) (by omega) (by omega) (by omega)
  refine ⟨x, hx, ?_⟩
  unfold ud
  rw [e0, e1, e2, e3, Int.toNat_of_nonneg h0.1, Int.toNat_of_nonneg h1.1, Int.toNat_of_nonneg h2.1, Int.toNat_of_nonneg h3.1]
theorem wru (x : Int) : 0 ≤ IntKind.u64.wrap x ∧ IntKind.u64.wrap x < 18446744073709551616 := by rw [IntKind.wrap_u64]; omega
set_option maxHeartbeats 4000000 in
theorem numberD (k a b : Int) (s : ByteArray) : ∃ x, x < M256 ∧ Pur Try.prog 19 [.agg [.int .i64 k, .int .i64 a, .int .i64 b, .str s]] (U x) := by
  have wa := wru a
  have wb := wru b
  obtain ⟨va, hva⟩ : ∃ v, IntKind.u64.wrap a = v := ⟨_, rfl⟩
  obtain ⟨vb, hvb⟩ : ∃ v, IntKind.u64.wrap b = v := ⟨_, rfl⟩
  rw [hva] at wa
  rw [hvb] at wb
  have z0 : (0 : Int) ≤ 0 ∧ (0 : Int) < 18446744073709551616 := by decide
  have zm : (0 : Int) ≤ 18446744073709551615 ∧ (18446744073709551615 : Int) < 18446744073709551616 := by decide
  obtain ⟨c, hc⟩ : ∃ c, k % 5 = c := ⟨_, rfl⟩
  have pk := p_picked k 5 c (by decide) (by decide) hc
  have h5 : c = 0 ∨ c = 1 ∨ c = 2 ∨ c = 3 ∨ c = 4 := by omega
  rcases h5 with rfl | rfl | rfl | rfl | rfl
  · obtain ⟨t, ht⟩ : ∃ t, a % 1000 = t := ⟨_, rfl⟩
    have pt := p_picked a 1000 t (by decide) (by decide) ht
    have wt : IntKind.u64.wrap t = t := u64_in _ (by omega)
    obtain ⟨x, hx, e⟩ := U_of t 0 0 0 (by omega) z0 z0 z0
    refine ⟨x, hx, ?_⟩
    rw [show U x = .agg (ud x) from rfl, ← e]
    refine pur_intro Try.func19 rfl Try.ntmps19 rfl (by first | rfl | assumption | exact bs_cl _) fun B => ?_
    repeat (first | with_reducible (first | refine W_seq ?_ | refine q_then ?_ | refine q_thenr ?_ | refine q_thenx ?_ | refine W_block ?_ | refine q_block ?_ | refine q_blockr ?_ | refine q_blockx ?_ | refine W_ret ?_ | refine W_skip ?_ | refine W_label ?_ | refine W_exit ?_ | refine W_scope ?_ | refine q_scope ?_ | refine q_scoper ?_ | refine q_scopex ?_) | (with_reducible refine R_nil ?_; try dsimp only [slots0, slots_ud, cells_U, agg_ud, drop0, dropS, takeS, take0, ud_nil, take_ud, take_ud0, drop_ud, drop_ud0, take_udk, D.cells, D.fz, D.fzs, List.take_succ_cons, List.take_zero, List.drop_succ_cons, List.drop_zero, List.cons_append, List.nil_append, List.append_eq, List.length_cons, List.length_nil, Nat.reduceAdd, Nat.reduceMul, Nat.reduceSub, Int.reduceAdd, Int.reduceSub, Int.reduceToNat, Int.reduceNeg, Int.reduceMul]) | refine q_blocky rfl ?_ | refine W_plain rfl ?_ | refine W_drawn mixed rfl ?_ | refine and_chk (by kernel_rfl) ?_ | refine k_move rfl rfl ?_ | refine k_assign rfl rfl ?_ | refine k_load rfl rfl rfl rfl ?_ | refine k_alloc rfl ?_ | refine k_box rfl rfl rfl ?_ | refine k_store rfl rfl rfl rfl rfl rfl rfl ?_ | refine k_fieldAddr rfl rfl rfl ?_ | refine k_build rfl rfl rfl ?_ | refine k_conv rfl rfl hva ?_ | refine k_conv rfl rfl hvb ?_ | refine k_call rfl pk rfl rfl rfl rfl ?_ | refine k_call rfl pt rfl rfl rfl rfl ?_ | refine k_conv rfl rfl wt ?_ | refine k_loade rfl rfl rfl ?_ | refine k_fieldAddre rfl rfl rfl rfl ?_ | refine k_eqlT rfl rfl rfl (by omega) ?_ | refine k_eqlF rfl rfl rfl (by omega) ?_ | refine k_eqa rfl rfl rfl rfl rfl rfl ?_ | refine W_yes rfl ?_ | refine W_no rfl ?_)
    (first | with_reducible refine q_endr ?_ | with_reducible refine q_endn ?_); refine rets1 Try.results19 (by first | exact RetV.tmp _ _ rfl | exact RetV.cell _ _ _ _ _ _ _ _ inferInstance rfl rfl rfl) ?_
    rfl
  · obtain ⟨x, hx, e⟩ := U_of va 0 0 0 wa z0 z0 z0
    refine ⟨x, hx, ?_⟩
    rw [show U x = .agg (ud x) from rfl, ← e]
    refine pur_intro Try.func19 rfl Try.ntmps19 rfl (by first | rfl | assumption | exact bs_cl _) fun B => ?_
    repeat (first | with_reducible (first | refine W_seq ?_ | refine q_then ?_ | refine q_thenr ?_ | refine q_thenx ?_ | refine W_block ?_ | refine q_block ?_ | refine q_blockr ?_ | refine q_blockx ?_ | refine W_ret ?_ | refine W_skip ?_ | refine W_label ?_ | refine W_exit ?_ | refine W_scope ?_ | refine q_scope ?_ | refine q_scoper ?_ | refine q_scopex ?_) | (with_reducible refine R_nil ?_; try dsimp only [slots0, slots_ud, cells_U, agg_ud, drop0, dropS, takeS, take0, ud_nil, take_ud, take_ud0, drop_ud, drop_ud0, take_udk, D.cells, D.fz, D.fzs, List.take_succ_cons, List.take_zero, List.drop_succ_cons, List.drop_zero, List.cons_append, List.nil_append, List.append_eq, List.length_cons, List.length_nil, Nat.reduceAdd, Nat.reduceMul, Nat.reduceSub, Int.reduceAdd, Int.reduceSub, Int.reduceToNat, Int.reduceNeg, Int.reduceMul]) | refine q_blocky rfl ?_ | refine W_plain rfl ?_ | refine W_drawn mixed rfl ?_ | refine and_chk (by kernel_rfl) ?_ | refine k_move rfl rfl ?_ | refine k_assign rfl rfl ?_ | refine k_load rfl rfl rfl rfl ?_ | refine k_alloc rfl ?_ | refine k_box rfl rfl rfl ?_ | refine k_store rfl rfl rfl rfl rfl rfl rfl ?_ | refine k_fieldAddr rfl rfl rfl ?_ | refine k_build rfl rfl rfl ?_ | refine k_conv rfl rfl hva ?_ | refine k_conv rfl rfl hvb ?_ | refine k_call rfl pk rfl rfl rfl rfl ?_ | refine k_loade rfl rfl rfl ?_ | refine k_fieldAddre rfl rfl rfl rfl ?_ | refine k_eqlT rfl rfl rfl (by omega) ?_ | refine k_eqlF rfl rfl rfl (by omega) ?_ | refine k_eqa rfl rfl rfl rfl rfl rfl ?_ | refine W_yes rfl ?_ | refine W_no rfl ?_)
    (first | with_reducible refine q_endr ?_ | with_reducible refine q_endn ?_); refine rets1 Try.results19 (by first | exact RetV.tmp _ _ rfl | exact RetV.cell _ _ _ _ _ _ _ _ inferInstance rfl rfl rfl) ?_
    rfl
  · obtain ⟨x, hx, e⟩ := U_of va vb 0 0 wa wb z0 z0
    refine ⟨x, hx, ?_⟩
    rw [show U x = .agg (ud x) from rfl, ← e]
    refine pur_intro Try.func19 rfl Try.ntmps19 rfl (by first | rfl | assumption | exact bs_cl _) fun B => ?_
    repeat (first | with_reducible (first | refine W_seq ?_ | refine q_then ?_ | refine q_thenr ?_ | refine q_thenx ?_ | refine W_block ?_ | refine q_block ?_ | refine q_blockr ?_ | refine q_blockx ?_ | refine W_ret ?_ | refine W_skip ?_ | refine W_label ?_ | refine W_exit ?_ | refine W_scope ?_ | refine q_scope ?_ | refine q_scoper ?_ | refine q_scopex ?_) | (with_reducible refine R_nil ?_; try dsimp only [slots0, slots_ud, cells_U, agg_ud, drop0, dropS, takeS, take0, ud_nil, take_ud, take_ud0, drop_ud, drop_ud0, take_udk, D.cells, D.fz, D.fzs, List.take_succ_cons, List.take_zero, List.drop_succ_cons, List.drop_zero, List.cons_append, List.nil_append, List.append_eq, List.length_cons, List.length_nil, Nat.reduceAdd, Nat.reduceMul, Nat.reduceSub, Int.reduceAdd, Int.reduceSub, Int.reduceToNat, Int.reduceNeg, Int.reduceMul]) | refine q_blocky rfl ?_ | refine W_plain rfl ?_ | refine W_drawn mixed rfl ?_ | refine and_chk (by kernel_rfl) ?_ | refine k_move rfl rfl ?_ | refine k_assign rfl rfl ?_ | refine k_load rfl rfl rfl rfl ?_ | refine k_alloc rfl ?_ | refine k_box rfl rfl rfl ?_ | refine k_store rfl rfl rfl rfl rfl rfl rfl ?_ | refine k_fieldAddr rfl rfl rfl ?_ | refine k_build rfl rfl rfl ?_ | refine k_conv rfl rfl hva ?_ | refine k_conv rfl rfl hvb ?_ | refine k_call rfl pk rfl rfl rfl rfl ?_ | refine k_loade rfl rfl rfl ?_ | refine k_fieldAddre rfl rfl rfl rfl ?_ | refine k_eqlT rfl rfl rfl (by omega) ?_ | refine k_eqlF rfl rfl rfl (by omega) ?_ | refine k_eqa rfl rfl rfl rfl rfl rfl ?_ | refine W_yes rfl ?_ | refine W_no rfl ?_)
    (first | with_reducible refine q_endr ?_ | with_reducible refine q_endn ?_); refine rets1 Try.results19 (by first | exact RetV.tmp _ _ rfl | exact RetV.cell _ _ _ _ _ _ _ _ inferInstance rfl rfl rfl) ?_
    rfl
  · have w1 := wru (va * 11400714819323198485)
    have w2 := wru (vb * 14029467366897019727)
    have w3 : 0 ≤ bitw .xor .u64 va vb ∧ bitw .xor .u64 va vb < 18446744073709551616 := by unfold bitw; exact wru _
    obtain ⟨x, hx, e⟩ := U_of _ _ _ _ w1 wb w3 w2
    refine ⟨x, hx, ?_⟩
    rw [show U x = .agg (ud x) from rfl, ← e]
    refine pur_intro Try.func19 rfl Try.ntmps19 rfl (by first | rfl | assumption | exact bs_cl _) fun B => ?_
    repeat (first | with_reducible (first | refine W_seq ?_ | refine q_then ?_ | refine q_thenr ?_ | refine q_thenx ?_ | refine W_block ?_ | refine q_block ?_ | refine q_blockr ?_ | refine q_blockx ?_ | refine W_ret ?_ | refine W_skip ?_ | refine W_label ?_ | refine W_exit ?_ | refine W_scope ?_ | refine q_scope ?_ | refine q_scoper ?_ | refine q_scopex ?_) | (with_reducible refine R_nil ?_; try dsimp only [slots0, slots_ud, cells_U, agg_ud, drop0, dropS, takeS, take0, ud_nil, take_ud, take_ud0, drop_ud, drop_ud0, take_udk, D.cells, D.fz, D.fzs, List.take_succ_cons, List.take_zero, List.drop_succ_cons, List.drop_zero, List.cons_append, List.nil_append, List.append_eq, List.length_cons, List.length_nil, Nat.reduceAdd, Nat.reduceMul, Nat.reduceSub, Int.reduceAdd, Int.reduceSub, Int.reduceToNat, Int.reduceNeg, Int.reduceMul]) | refine q_blocky rfl ?_ | refine W_plain rfl ?_ | refine W_drawn mixed rfl ?_ | refine and_chk (by kernel_rfl) ?_ | refine k_move rfl rfl ?_ | refine k_assign rfl rfl ?_ | refine k_load rfl rfl rfl rfl ?_ | refine k_alloc rfl ?_ | refine k_box rfl rfl rfl ?_ | refine k_store rfl rfl rfl rfl rfl rfl rfl ?_ | refine k_fieldAddr rfl rfl rfl ?_ | refine k_build rfl rfl rfl ?_ | refine k_conv rfl rfl hva ?_ | refine k_conv rfl rfl hvb ?_ | refine k_call rfl pk rfl rfl rfl rfl ?_ | refine k_mul rfl rfl rfl rfl ?_ | refine k_bits rfl rfl rfl rfl rfl ?_ | refine k_loade rfl rfl rfl ?_ | refine k_fieldAddre rfl rfl rfl rfl ?_ | refine k_eqlT rfl rfl rfl (by omega) ?_ | refine k_eqlF rfl rfl rfl (by omega) ?_ | refine k_eqa rfl rfl rfl rfl rfl rfl ?_ | refine W_yes rfl ?_ | refine W_no rfl ?_)
    (first | with_reducible refine q_endr ?_ | with_reducible refine q_endn ?_); refine rets1 Try.results19 (by first | exact RetV.tmp _ _ rfl | exact RetV.cell _ _ _ _ _ _ _ _ inferInstance rfl rfl rfl) ?_
    rfl
  · obtain ⟨c1, hc1⟩ : ∃ c, bitw .xor .u64 (if IntKind.u64.signed then -1 else IntKind.u64.max) va = c := ⟨_, rfl⟩
    obtain ⟨c2, hc2⟩ : ∃ c, bitw .xor .u64 (if IntKind.u64.signed then -1 else IntKind.u64.max) vb = c := ⟨_, rfl⟩
    have w1 : 0 ≤ c1 ∧ c1 < 18446744073709551616 := by rw [← hc1]; unfold bitw; exact wru _
    have w2 : 0 ≤ c2 ∧ c2 < 18446744073709551616 := by rw [← hc2]; unfold bitw; exact wru _
    obtain ⟨x, hx, e⟩ := U_of c1 c2 _ _ w1 w2 zm zm
    refine ⟨x, hx, ?_⟩
    rw [show U x = .agg (ud x) from rfl, ← e]
    refine pur_intro Try.func19 rfl Try.ntmps19 rfl (by first | rfl | assumption | exact bs_cl _) fun B => ?_
    repeat (first | with_reducible (first | refine W_seq ?_ | refine q_then ?_ | refine q_thenr ?_ | refine q_thenx ?_ | refine W_block ?_ | refine q_block ?_ | refine q_blockr ?_ | refine q_blockx ?_ | refine W_ret ?_ | refine W_skip ?_ | refine W_label ?_ | refine W_exit ?_ | refine W_scope ?_ | refine q_scope ?_ | refine q_scoper ?_ | refine q_scopex ?_) | (with_reducible refine R_nil ?_; try dsimp only [slots0, slots_ud, cells_U, agg_ud, drop0, dropS, takeS, take0, ud_nil, take_ud, take_ud0, drop_ud, drop_ud0, take_udk, D.cells, D.fz, D.fzs, List.take_succ_cons, List.take_zero, List.drop_succ_cons, List.drop_zero, List.cons_append, List.nil_append, List.append_eq, List.length_cons, List.length_nil, Nat.reduceAdd, Nat.reduceMul, Nat.reduceSub, Int.reduceAdd, Int.reduceSub, Int.reduceToNat, Int.reduceNeg, Int.reduceMul]) | refine q_blocky rfl ?_ | refine W_plain rfl ?_ | refine W_drawn mixed rfl ?_ | refine and_chk (by kernel_rfl) ?_ | refine k_move rfl rfl ?_ | refine k_assign rfl rfl ?_ | refine k_load rfl rfl rfl rfl ?_ | refine k_alloc rfl ?_ | refine k_box rfl rfl rfl ?_ | refine k_store rfl rfl rfl rfl rfl rfl rfl ?_ | refine k_fieldAddr rfl rfl rfl ?_ | refine k_build rfl rfl rfl ?_ | refine k_conv rfl rfl hva ?_ | refine k_conv rfl rfl hvb ?_ | refine k_call rfl pk rfl rfl rfl rfl ?_ | refine k_com rfl rfl hc1 ?_ | refine k_com rfl rfl hc2 ?_ | refine k_loade rfl rfl rfl ?_ | refine k_fieldAddre rfl rfl rfl rfl ?_ | refine k_eqlT rfl rfl rfl (by omega) ?_ | refine k_eqlF rfl rfl rfl (by omega) ?_ | refine k_eqa rfl rfl rfl rfl rfl rfl ?_ | refine W_yes rfl ?_ | refine W_no rfl ?_)
    (first | with_reducible refine q_endr ?_ | with_reducible refine q_endn ?_); refine rets1 Try.results19 (by first | exact RetV.tmp _ _ rfl | exact RetV.cell _ _ _ _ _ _ _ _ inferInstance rfl rfl rfl) ?_
    rfl
end Go.Proofs.Ytbpaimfnfigjpaa

namespace Go.Proofs.Ytbpaimfnfigjpaa
open Go.RowKit Go.Lib Go.IntWalk
set_option linter.unusedVariables false
set_option maxRecDepth 100000

theorem up2 (f : Nat → Nat) {x : List D} (h : D.cls x = true) {a a' c c' : D} (ha : Up a (a'.ren f)) (hc : Up c (c'.ren f)) : Ups (a :: c :: x) (D.rens f (a' :: c' :: x)) := by
  show Ups _ (_ :: _ :: D.rens f x)
  rw [(D.cls_ren f (fun _ => true) x h).1]
  exact .cons ha (.cons hc (Ups.refl _))
theorem la2 (p : Nat → Bool) {x : List D} (h : D.cls x = true) {a c : D} (ha : a.lall p = true) (hc : c.lall p = true) : D.lalls p (a :: c :: x) = true := by
  show (a.lall p && (c.lall p && D.lalls p x)) = true
  rw [ha, hc, (D.cls_ren (fun l => l) p x h).2]; rfl
theorem sgsC_succ (l : List RawT) (F : RawT → SgT) (j : Nat) (r : RawT) (h : l[j]? = some r) : sgsC ((l.take (j + 1)).map F) = sgsC ((l.take j).map F) ++ (F r).cells := by
  unfold sgsC
  rw [List.take_add_one, h, List.map_append, List.flatMap_append]
  simp
set_option maxHeartbeats 16000000 in
theorem written_ok (l : List RawT) (set k a b : Int) (s : ByteArray) : ∃ q : PapT, q.ok ∧ q.sg.length = (l.take 19).length ∧ Pur Try.prog 7 [.slice .frozen l.length (rws l), .int .i64 set, .agg [.int .i64 k, .int .i64 a, .int .i64 b, .str s]] (.agg q.cells) := by
  obtain ⟨y, hy, rb⟩ := rbody_ok k a b s
  obtain ⟨st, est, hst⟩ := mod_nat set 4294967296 (by decide)
  have ps := p_picked set 4294967296 st (by decide) (by decide) est
  have sm := some_ok l 19 (by decide)
  have hl19 : (l.take 19).length ≤ 19 := by rw [List.length_take]; omega
  have hrl := rws_len (l.take 19)
  have hrc := rws_cut (l.take 19)
  generalize l.take 19 = l' at *
  -- what is made of each raw thing
  have each : ∀ r : RawT, ∃ e : SgT, e.ok ∧ Pur Try.prog 19 [.agg r.cells] (U e.r) ∧ Pur Try.prog 19 [.agg [.int .i64 r.b, .int .i64 r.b, .int .i64 r.a, .str ⟨#[]⟩]] (U e.s) ∧ r.k % 256 = e.w ∧ r.a % 256 = e.o := fun r => by
    obtain ⟨x, hx, px⟩ := numberD r.k r.a r.b r.s
    obtain ⟨z, hz, pz⟩ := numberD r.b r.b r.a ⟨#[]⟩
    obtain ⟨w, ew, hw⟩ := mod_nat r.k 256 (by decide)
    obtain ⟨o, eo, ho⟩ := mod_nat r.a 256 (by decide)
    exact ⟨⟨w, x, z, o⟩, ⟨by simp; omega, hx, hz, by simp; omega⟩, px, pz, ew, eo⟩
  let F : RawT → SgT := fun r => Classical.choose (each r)
  have hF : ∀ r, (F r).ok ∧ Pur Try.prog 19 [.agg r.cells] (U (F r).r) ∧ Pur Try.prog 19 [.agg [.int .i64 r.b, .int .i64 r.b, .int .i64 r.a, .str ⟨#[]⟩]] (U (F r).s) ∧ r.k % 256 = (F r).w ∧ r.a % 256 = (F r).o := fun r => Classical.choose_spec (each r)
  refine ⟨⟨st, l'.map F, y⟩, ⟨by simp; omega, by simpa using hl19, fun e he => ?_, hy⟩, by simp, ?_⟩
  · obtain ⟨r, _, rfl⟩ := List.mem_map.1 he
    exact (hF r).1
  generalize F = F at hF
  have hbl := bd_len hy.e
  have hbc : D.cl (.agg y.cells) = true := bd_cls y
  have hbf : D.fzs y.cells = y.cells := by have := bd_fz y; simpa [D.fzs, D.fz] using this
  unfold PapT.cells
  dsimp only
  obtain ⟨L, hL⟩ : ∃ L, l'.length = L := ⟨_, rfl⟩
  rw [hL] at hrl sm hl19
  rw [List.length_map, hL]
  generalize y.cells = x at *
  obtain ⟨zr, hzr⟩ : ∃ z, rws l' = z := ⟨_, rfl⟩
  rw [hzr] at hrl hrc sm
  have hcl : D.cl (.agg (ppC st L (sgsC (l'.map F)) x)) = true := pp_cl _ _ _ _ hbc
  have hwa : ∀ (a c : D) ze, cut ⟨true, 40, ze⟩ 0 (a :: c :: x) = some (.agg (a :: c :: x)) := fun a c ze => wh_all hbl a c ze
  have hwl : ∀ a c : D, (D.agg (a :: c :: x)).cells.length = 40 := fun a c => by show (a :: c :: x).length = 40; simp [hbl]
  have hws : ∀ (a c : D) (cs : List D), cs.length = 40 → splice 0 (a :: c :: x) cs = some (a :: c :: x) := fun a c cs hc => wh_lay hbl a c cs hc
  have hbu : dfill [(0, 1), (1, 1), (2, 38)] pp0 [(0, .int .i64 st), (2, .agg x)] = some (.int .i64 st :: .slice .nil 0 [] :: x) := by
    have e1 : splice 2 x (.int .i64 st :: .slice .nil 0 [] :: bx0) = some (.int .i64 st :: .slice .nil 0 [] :: x) := wh_put hbl bx0 rfl _ _
    show cond (Nat.beq x.length 38 && true) (match splice 2 x (.int .i64 st :: .slice .nil 0 [] :: bx0) with | some cs' => some cs' | none => none) none = _
    rw [e1, hbl]; rfl
  have hbx : D.bels 4 x = true := bels_cls _ _ hbc
  refine pur_intro Try.func7 rfl Try.ntmps7 rfl hcl fun B => ?_
  repeat (first | with_reducible (first | refine W_seq ?_ | refine q_then ?_ | refine q_thenr ?_ | refine q_thenx ?_ | refine W_block ?_ | refine q_block ?_ | refine q_blockr ?_ | refine q_blockx ?_ | refine W_ret ?_ | refine W_skip ?_ | refine W_label ?_ | refine W_exit ?_ | refine W_scope ?_ | refine q_scope ?_ | refine q_scoper ?_ | refine q_scopex ?_) | (with_reducible refine R_nil ?_; try dsimp only [slots0, slots_ud, cells_U, agg_ud, drop0, dropS, takeS, take0, ud_nil, take_ud, take_ud0, drop_ud, drop_ud0, take_udk, D.cells, D.fz, D.fzs, List.take_succ_cons, List.take_zero, List.drop_succ_cons, List.drop_zero, List.cons_append, List.nil_append, List.append_eq, List.length_cons, List.length_nil, Nat.reduceAdd, Nat.reduceMul, Nat.reduceSub, Int.reduceAdd, Int.reduceSub, Int.reduceToNat, Int.reduceNeg, Int.reduceMul]) | refine q_blocky rfl ?_ | refine W_plain rfl ?_ | refine W_drawn mixed rfl ?_ | refine and_chk (by kernel_rfl) ?_ | refine k_build rfl rfl (by exact hbu) ?_ | refine k_store rfl rfl rfl rfl (hwl _ _) rfl (by exact hws _ _ _ rfl) ?_ | refine k_move rfl rfl ?_ | refine k_load rfl rfl rfl rfl ?_ | refine k_alloc rfl ?_ | refine k_box rfl rfl rfl ?_ | refine k_store rfl rfl rfl rfl rfl rfl rfl ?_ | refine k_fieldAddr rfl rfl rfl ?_ | refine k_build rfl rfl rfl ?_ | refine k_call rfl ps rfl rfl rfl rfl ?_ | refine k_call rfl rb rfl rfl rfl hbc ?_ | refine k_call rfl sm rfl rfl rfl rfl ?_ | refine k_append rfl rfl rfl (by first | rfl | exact trivial | (show 0 < _; omega)) (by first | rfl | (simp <;> omega)) (by first | rfl | (simp <;> omega)) rfl (by omega) rfl rfl rfl ?_ | refine k_slice rfl rfl rfl rfl ⟨by omega, by omega, by omega⟩ rfl rfl rfl ?_ | refine k_slice3 rfl rfl rfl rfl rfl ⟨by omega, by omega, by omega⟩ rfl rfl rfl ?_ | refine k_sliceA rfl rfl rfl rfl ⟨by omega, by omega, by omega, by omega⟩ rfl rfl ?_ | refine k_sliceE rfl rfl rfl rfl ⟨by omega, by omega, by omega, by omega⟩ rfl rfl rfl rfl ?_ | refine k_buildSlice (cs := []) rfl rfl rfl rfl rfl rfl rfl ?_ | refine k_buildSlice rfl rfl rfl rfl rfl rfl rfl ?_ | refine k_indexAddr rfl rfl rfl ⟨by omega, by omega⟩ ?_ | refine k_indexAddrs rfl rfl rfl ⟨by omega, by omega⟩ rfl ?_ | refine k_loade rfl rfl rfl ?_ | refine k_fieldAddre rfl rfl rfl rfl ?_ | refine k_len rfl rfl ?_ | refine k_addi rfl rfl rfl (by omega) ?_ | refine k_lssT rfl rfl rfl (by omega) ?_ | refine k_lssF rfl rfl rfl (by omega) ?_ | refine W_yes rfl ?_ | refine W_no rfl ?_)
  have hbc' : D.cls x = true := hbc
  refine W_of_weak (weak_tok 46 10) ?_
  refine W_loopW (fun n' ρ m nx => ∃ (j q : Nat) (zz : List D), j ≤ L ∧ q = j ∧ zz = sgsC ((l'.take j).map F) ∧ n' = L - j ∧ ρ = [(18, .int .i64 (j : Int)), (17, .int .i64 (L : Int)), (16, .slice .frozen L zr), (7, .ptr 2 0), (6, .ptr 1 0)] ∧ m = [(2, some (.var 31 (.int .i64 st :: .slice (.own 3) q zz :: x))), (1, some (.var 31 pp0)), (3, some (.tok 46 10))] ∧ nx = 4)
    ⟨_, _, _, _, (weak_ren (fun l => l) (by repeat (first | exact trivial | refine ⟨⟨_, rfl, (by first | exact Up.refl _ | exact Up.nil _ | exact Up.fz _ _ _), rfl⟩, ?_⟩)) (by exact ⟨⟨rfl, _, rfl, up2 _ hbc' (Up.refl _) (by first | exact Up.refl _ | exact Up.nil _), la2 _ hbc' rfl rfl⟩, ⟨rfl, _, rfl, Ups.refl _, rfl⟩, ⟨rfl, rfl⟩, trivial⟩) (by first | decide | simp) (Nat.zero_le _) (fun _ h => absurd h (Nat.not_lt_zero _))), 0, 0, [], Nat.zero_le _, rfl, rfl, rfl, rfl, rfl, rfl⟩ ?_
  rintro n' ρ m nx ⟨j, q, zz, hj, rfl, hzz, rfl, rfl, rfl, rfl⟩
  by_cases hlt : q < L
  · obtain ⟨r, hr⟩ : ∃ r, l'[q]? = some r := ⟨_, List.getElem?_eq_getElem (by omega)⟩
    have hc := hrc q r hr
    obtain ⟨_, n1, n2, w1, w2⟩ := hF r
    have hs := sgsC_succ l' F q r hr
    rw [← hzz] at hs
    have hzl : q * 10 = zz.length := by rw [hzz, sgsC_len, List.length_map, List.length_take]; omega
    obtain ⟨rk, ra, rb', rs⟩ := r
    generalize F ⟨rk, ra, rb', rs⟩ = e at *
    obtain ⟨w, rr, ss, o⟩ := e
    dsimp only at n1 n2 w1 w2 hs
    have hs : zz ++ sgC w rr ss o = sgsC ((l'.take (q + 1)).map F) := hs.symm
    have n1 : Pur Try.prog 19 [.agg [.int .i64 rk, .int .i64 ra, .int .i64 rb', .str rs]] (U rr) := n1
    replace hc : ∀ ze, cut ⟨true, 4, ze⟩ 0 (zr.drop ((q : Int).toNat * 4)) = some (.agg [.int .i64 rk, .int .i64 ra, .int .i64 rb', .str rs]) := hc
    have p1 := p_picked rk 256 w (by decide) (by decide) w1
    have p2 := p_picked ra 256 o (by decide) (by decide) w2
    generalize hgf : sgsC ((l'.take (q + 1)).map F) = zf at *
    repeat (first | with_reducible (first | refine W_seq ?_ | refine q_then ?_ | refine q_thenr ?_ | refine q_thenx ?_ | refine W_block ?_ | refine q_block ?_ | refine q_blockr ?_ | refine q_blockx ?_ | refine W_ret ?_ | refine W_skip ?_ | refine W_label ?_ | refine W_exit ?_ | refine W_scope ?_ | refine q_scope ?_ | refine q_scoper ?_ | refine q_scopex ?_) | (with_reducible refine R_nil ?_; try dsimp only [slots0, slots_ud, cells_U, agg_ud, drop0, dropS, takeS, take0, ud_nil, take_ud, take_ud0, drop_ud, drop_ud0, take_udk, D.cells, D.fz, D.fzs, List.take_succ_cons, List.take_zero, List.drop_succ_cons, List.drop_zero, List.cons_append, List.nil_append, List.append_eq, List.length_cons, List.length_nil, Nat.reduceAdd, Nat.reduceMul, Nat.reduceSub, Int.reduceAdd, Int.reduceSub, Int.reduceToNat, Int.reduceNeg, Int.reduceMul]) | refine q_blocky rfl ?_ | refine W_plain rfl ?_ | refine W_drawn mixed rfl ?_ | refine and_chk (by kernel_rfl) ?_ | refine k_indexAddrs rfl rfl rfl ⟨by omega, by omega⟩ hrl.symm ?_ | refine k_loade rfl rfl (by exact hc _) ?_ | refine k_buildSlice (cs := sgC w rr ss o) rfl rfl rfl rfl rfl rfl rfl ?_ | refine k_append rfl rfl rfl (by rfl) hzl rfl rfl (by omega) rfl rfl hs ?_ | refine k_move rfl rfl ?_ | refine k_load rfl rfl rfl rfl ?_ | refine k_alloc rfl ?_ | refine k_box rfl rfl rfl ?_ | refine k_store rfl rfl rfl rfl rfl rfl rfl ?_ | refine k_fieldAddr rfl rfl rfl ?_ | refine k_build rfl rfl rfl ?_ | refine k_call rfl p1 rfl rfl rfl rfl ?_ | refine k_call rfl p2 rfl rfl rfl rfl ?_ | refine k_call rfl n1 rfl rfl rfl rfl ?_ | refine k_call rfl n2 rfl rfl rfl rfl ?_ | refine k_append rfl rfl rfl (by first | rfl | exact trivial | (show 0 < _; omega)) (by first | rfl | (simp <;> omega)) (by first | rfl | (simp <;> omega)) rfl (by omega) rfl rfl rfl ?_ | refine k_slice rfl rfl rfl rfl ⟨by omega, by omega, by omega⟩ rfl rfl rfl ?_ | refine k_slice3 rfl rfl rfl rfl rfl ⟨by omega, by omega, by omega⟩ rfl rfl rfl ?_ | refine k_sliceA rfl rfl rfl rfl ⟨by omega, by omega, by omega, by omega⟩ rfl rfl ?_ | refine k_sliceE rfl rfl rfl rfl ⟨by omega, by omega, by omega, by omega⟩ rfl rfl rfl rfl ?_ | refine k_buildSlice (cs := []) rfl rfl rfl rfl rfl rfl rfl ?_ | refine k_buildSlice rfl rfl rfl rfl rfl rfl rfl ?_ | refine k_indexAddr rfl rfl rfl ⟨by omega, by omega⟩ ?_ | refine k_indexAddrs rfl rfl rfl ⟨by omega, by omega⟩ rfl ?_ | refine k_loade rfl rfl rfl ?_ | refine k_fieldAddre rfl rfl rfl rfl ?_ | refine k_len rfl rfl ?_ | refine k_addi rfl rfl rfl (by omega) ?_ | refine k_lssT rfl rfl rfl (by omega) ?_ | refine k_lssF rfl rfl rfl (by omega) ?_ | refine W_yes rfl ?_ | refine W_no rfl ?_)
    exact ⟨L - (q + 1), _, _, _, (weak_ren (fun l => if l = 3 then 6 else l) (by repeat (first | exact trivial | refine ⟨⟨_, rfl, (by first | exact Up.refl _ | exact Up.nil _ | exact Up.fz _ _ _), rfl⟩, ?_⟩)) (by exact ⟨⟨rfl, _, rfl, up2 _ hbc' (Up.refl _) (by first | exact Up.refl _ | exact Up.nil _), la2 _ hbc' rfl rfl⟩, ⟨rfl, _, rfl, Ups.refl _, rfl⟩, ⟨rfl, rfl⟩, trivial⟩) (by first | decide | simp) (Nat.zero_le _) (fun _ h => absurd h (Nat.not_lt_zero _))), by omega, q + 1, q + 1, zf, by omega, rfl, hgf.symm, rfl, rfl, rfl, rfl⟩
  · have eq : q = L := by omega
    subst eq
    have hzz' : zz = sgsC (l'.map F) := by rw [hzz, List.take_of_length_le (by omega)]
    subst hzz'
    repeat (first | with_reducible (first | refine W_seq ?_ | refine q_then ?_ | refine q_thenr ?_ | refine q_thenx ?_ | refine W_block ?_ | refine q_block ?_ | refine q_blockr ?_ | refine q_blockx ?_ | refine W_ret ?_ | refine W_skip ?_ | refine W_label ?_ | refine W_exit ?_ | refine W_scope ?_ | refine q_scope ?_ | refine q_scoper ?_ | refine q_scopex ?_) | (with_reducible refine R_nil ?_; try dsimp only [slots0, slots_ud, cells_U, agg_ud, drop0, dropS, takeS, take0, ud_nil, take_ud, take_ud0, drop_ud, drop_ud0, take_udk, D.cells, D.fz, D.fzs, List.take_succ_cons, List.take_zero, List.drop_succ_cons, List.drop_zero, List.cons_append, List.nil_append, List.append_eq, List.length_cons, List.length_nil, Nat.reduceAdd, Nat.reduceMul, Nat.reduceSub, Int.reduceAdd, Int.reduceSub, Int.reduceToNat, Int.reduceNeg, Int.reduceMul]) | refine q_blocky rfl ?_ | refine W_plain rfl ?_ | refine W_drawn mixed rfl ?_ | refine and_chk (by kernel_rfl) ?_ | refine k_load rfl rfl rfl (by exact hwa _ _ _) ?_ | refine k_store rfl rfl rfl rfl (by exact hwl _ _) rfl (by exact hws _ _ _ rfl) ?_ | refine k_move rfl rfl ?_ | refine k_load rfl rfl rfl rfl ?_ | refine k_alloc rfl ?_ | refine k_box rfl rfl rfl ?_ | refine k_store rfl rfl rfl rfl rfl rfl rfl ?_ | refine k_fieldAddr rfl rfl rfl ?_ | refine k_build rfl rfl rfl ?_ | refine k_append rfl rfl rfl (by first | rfl | exact trivial | (show 0 < _; omega)) (by first | rfl | (simp <;> omega)) (by first | rfl | (simp <;> omega)) rfl (by omega) rfl rfl rfl ?_ | refine k_slice rfl rfl rfl rfl ⟨by omega, by omega, by omega⟩ rfl rfl rfl ?_ | refine k_slice3 rfl rfl rfl rfl rfl ⟨by omega, by omega, by omega⟩ rfl rfl rfl ?_ | refine k_sliceA rfl rfl rfl rfl ⟨by omega, by omega, by omega, by omega⟩ rfl rfl ?_ | refine k_sliceE rfl rfl rfl rfl ⟨by omega, by omega, by omega, by omega⟩ rfl rfl rfl rfl ?_ | refine k_buildSlice (cs := []) rfl rfl rfl rfl rfl rfl rfl ?_ | refine k_buildSlice rfl rfl rfl rfl rfl rfl rfl ?_ | refine k_indexAddr rfl rfl rfl ⟨by omega, by omega⟩ ?_ | refine k_indexAddrs rfl rfl rfl ⟨by omega, by omega⟩ rfl ?_ | refine k_loade rfl rfl rfl ?_ | refine k_fieldAddre rfl rfl rfl rfl ?_ | refine k_len rfl rfl ?_ | refine k_addi rfl rfl rfl (by omega) ?_ | refine k_lssT rfl rfl rfl (by omega) ?_ | refine k_lssF rfl rfl rfl (by omega) ?_ | refine W_yes rfl ?_ | refine W_no rfl ?_)
    (first | with_reducible refine q_endr ?_ | with_reducible refine q_endn ?_); refine rets1 Try.results7 (RetV.cell _ _ _ _ _ _ _ _ inferInstance rfl rfl (by exact hwa _ _ _)) ?_
    show D.agg (_ :: _ :: D.fzs x) = _
    rw [hbf]; rfl
end Go.Proofs.Ytbpaimfnfigjpaa

namespace Go.Proofs.Ytbpaimfnfigjpaa
open Go.RowKit Go.Lib Go.IntWalk
set_option linter.unusedVariables false
set_option maxRecDepth 100000

theorem toB_inj {k a b : Nat} (ha : a < 256 ^ k) (hb : b < 256 ^ k) (h : toB k a = toB k b) : a = b := by
  have h1 := nm_toB k a
  have h2 := nm_toB k b
  rw [h, h2, Nat.mod_eq_of_lt ha, Nat.mod_eq_of_lt hb] at h1
  exact h1.symm
theorem app_inj {a b c d : List UInt8} (h : a ++ b = c ++ d) (hl : a.length = c.length) : a = c ∧ b = d := List.append_inj h hl
theorem out_inj {a b : BodyT} (ha : a.ok) (hb : b.ok) (h : a.out = b.out) : a = b := by
  unfold BodyT.out at h
  simp only [List.append_assoc] at h
  obtain ⟨h1, h⟩ := app_inj h (by rw [toB_len, toB_len])
  obtain ⟨h2, h⟩ := app_inj h (by rw [toB_len, toB_len])
  obtain ⟨h3, h⟩ := app_inj h (by rw [toB_len, toB_len])
  obtain ⟨h4, h⟩ := app_inj h (by rw [ha.e, hb.e])
  obtain ⟨h5, h⟩ := app_inj h (by rw [toB_len, toB_len])
  obtain ⟨h6, h7⟩ := app_inj h (by rw [toB_len, toB_len])
  have e1 := toB_inj (by have := ha.t; omega) (by have := hb.t; omega) h1
  have e2 := toB_inj (by have := ha.n; omega) (by have := hb.n; omega) h2
  have e3 := toB_inj (by have := ha.c; omega) (by have := hb.c; omega) h3
  have e5 := toB_inj (by have := ha.u; omega) (by have := hb.u; omega) h5
  have e6 := toB_inj (by have := ha.v; omega) (by have := hb.v; omega) h6
  cases a; cases b
  simp_all
theorem deqs_bs : ∀ (x y : List UInt8), x.length = y.length → deqs (bs x) (bs y) = decide (x = y)
  | [], [], _ => rfl
  | [], b :: y, h => by simp at h
  | a :: x, [], h => by simp at h
  | a :: x, b :: y, h => by
    show (deq1 (.int .u8 _) (.int .u8 _) && deqs (bs x) (bs y)) = _
    rw [deqs_bs x y (by simpa using h)]
    simp only [deq1]
    rw [Bool.eq_iff_iff]
    simp only [Bool.and_eq_true, decide_eq_true_eq, beq_iff_eq, List.cons.injEq]
    constructor
    · rintro ⟨h1, h2⟩; exact ⟨UInt8.toNat_inj.1 (by omega), h2⟩
    · rintro ⟨rfl, rfl⟩; simp
theorem lks_bs : ∀ (n : Nat) (z : List UInt8), z.length = n → lks (bs z) = lks (bs (List.replicate n 0))
  | 0, [], _ => rfl
  | n + 1, c :: z, h => by
    have ih := lks_bs n z (by simpa using h)
    rw [List.replicate_succ]
    show lks (D.int .u8 (c.toNat : Int) :: bs z) = lks (D.int .u8 _ :: bs (List.replicate n 0))
    unfold lks
    rw [ih]
    rfl
set_option maxHeartbeats 8000000 in
theorem same_ok (a b : BodyT) (ha : a.e.length = 32) (hb : b.e.length = 32) (c : Bool) (hc : c = true ↔ a = b) : Pur Try.prog 11 [.agg a.cells, .agg b.cells] (.bool c) := by
  obtain ⟨c1, h1⟩ : ∃ c1, decide ((a.t : Int) = b.t) = c1 := ⟨_, rfl⟩
  obtain ⟨c2, h2⟩ : ∃ c1, decide ((a.n : Int) = b.n) = c1 := ⟨_, rfl⟩
  obtain ⟨c3, h3⟩ : ∃ c1, decide ((a.c : Int) = b.c) = c1 := ⟨_, rfl⟩
  obtain ⟨c4, h4⟩ : ∃ c1, deqs (bs a.e) (bs b.e) = c1 := ⟨_, rfl⟩
  obtain ⟨c5, h5⟩ : ∃ c1, decide ((a.u : Int) = b.u) = c1 := ⟨_, rfl⟩
  obtain ⟨c6, h6⟩ : ∃ c1, decide ((a.v : Int) = b.v) = c1 := ⟨_, rfl⟩
  obtain ⟨c7, h7⟩ : ∃ c1, ((⟨a.l.toArray⟩ : ByteArray).toList == (⟨b.l.toArray⟩ : ByteArray).toList) = c1 := ⟨_, rfl⟩
  have hcc : c = (c1 && c2 && c3 && c4 && c5 && c6 && c7) := by
    rw [← h1, ← h2, ← h3, ← h4, ← h5, ← h6, ← h7, ba_mk, ba_mk, deqs_bs _ _ (by rw [ha, hb])]
    rw [Bool.eq_iff_iff, hc]
    cases a; cases b
    simp only [decide_eq_true_eq, BodyT.mk.injEq, Bool.and_eq_true, beq_iff_eq, Int.natCast_inj]
    grind
  clear hc
  subst hcc
  have k1 := lks_bs 32 a.e ha
  have k2 := lks_bs 32 b.e hb
  have la := bd_len ha
  have lb := bd_len hb
  have pa := bd_put ha
  have pb := bd_put hb
  have ua := bd_at ha 0 _ rfl
  have va := bd_at ha 1 _ rfl
  have da := bd_at ha 2 _ rfl
  have ea := bd_e ha
  have ub := bd_at hb 0 _ rfl
  have vb := bd_at hb 1 _ rfl
  have db := bd_at hb 2 _ rfl
  have eb := bd_e hb
  have t_ : ∀ (b : BodyT) ze, cut ⟨false, 1, ze⟩ 0 b.cells = some (.int .i64 b.t) := fun _ _ => rfl
  have n_ : ∀ (b : BodyT) ze, cut ⟨false, 1, ze⟩ 1 b.cells = some (.int .i64 b.n) := fun _ _ => rfl
  have c_ : ∀ (b : BodyT) ze, cut ⟨false, 1, ze⟩ 2 b.cells = some (.int .i64 b.c) := fun _ _ => rfl
  have ta := t_ a; have tb := t_ b; have na := n_ a; have nb := n_ b; have ca := c_ a; have cb := c_ b
  clear t_ n_ c_
  generalize a.cells = x at *
  generalize b.cells = y at *
  refine pur_intro Try.func11 rfl Try.ntmps11 rfl (by first | rfl | assumption | exact bs_cl _) fun B => ?_
  repeat (first | with_reducible (first | refine W_seq ?_ | refine q_then ?_ | refine q_thenr ?_ | refine q_thenx ?_ | refine W_block ?_ | refine q_block ?_ | refine q_blockr ?_ | refine q_blockx ?_ | refine W_ret ?_ | refine W_skip ?_ | refine W_label ?_ | refine W_exit ?_ | refine W_scope ?_ | refine q_scope ?_ | refine q_scoper ?_ | refine q_scopex ?_) | (with_reducible refine R_nil ?_; try dsimp only [slots0, slots_ud, cells_U, agg_ud, drop0, dropS, takeS, take0, ud_nil, take_ud, take_ud0, drop_ud, drop_ud0, take_udk, D.cells, D.fz, D.fzs, List.take_succ_cons, List.take_zero, List.drop_succ_cons, List.drop_zero, List.cons_append, List.nil_append, List.append_eq, List.length_cons, List.length_nil, Nat.reduceAdd, Nat.reduceMul, Nat.reduceSub, Int.reduceAdd, Int.reduceSub, Int.reduceToNat, Int.reduceNeg, Int.reduceMul]) | refine q_blocky rfl ?_ | refine W_plain rfl ?_ | refine W_drawn mixed rfl ?_ | refine and_chk (by kernel_rfl) ?_ | refine k_load rfl rfl rfl (by exact ta _) ?_ | refine k_load rfl rfl rfl (by exact tb _) ?_ | refine k_move rfl rfl ?_ | refine k_assign rfl rfl ?_ | refine k_load rfl rfl rfl rfl ?_ | refine k_box rfl rfl rfl ?_ | refine k_fieldAddr rfl rfl rfl ?_ | refine k_eql rfl rfl rfl h1 ?_ | refine k_loade rfl rfl rfl ?_ | refine k_fieldAddre rfl rfl rfl rfl ?_ | refine k_pickT rfl rfl rfl ?_ | refine k_pickF rfl rfl rfl ?_ | refine k_eqlT rfl rfl rfl (by omega) ?_ | refine k_eqlF rfl rfl rfl (by omega) ?_ | refine k_eqa rfl rfl rfl rfl rfl rfl ?_ | refine k_skip rfl ?_ | refine k_skip0 rfl ?_ | refine k_pick rfl rfl rfl rfl rfl ?_ | refine W_yes rfl ?_ | refine W_no rfl ?_)
  cases c1
  · repeat (first | with_reducible (first | refine W_seq ?_ | refine q_then ?_ | refine q_thenr ?_ | refine q_thenx ?_ | refine W_block ?_ | refine q_block ?_ | refine q_blockr ?_ | refine q_blockx ?_ | refine W_ret ?_ | refine W_skip ?_ | refine W_label ?_ | refine W_exit ?_ | refine W_scope ?_ | refine q_scope ?_ | refine q_scoper ?_ | refine q_scopex ?_) | (with_reducible refine R_nil ?_; try dsimp only [slots0, slots_ud, cells_U, agg_ud, drop0, dropS, takeS, take0, ud_nil, take_ud, take_ud0, drop_ud, drop_ud0, take_udk, D.cells, D.fz, D.fzs, List.take_succ_cons, List.take_zero, List.drop_succ_cons, List.drop_zero, List.cons_append, List.nil_append, List.append_eq, List.length_cons, List.length_nil, Nat.reduceAdd, Nat.reduceMul, Nat.reduceSub, Int.reduceAdd, Int.reduceSub, Int.reduceToNat, Int.reduceNeg, Int.reduceMul]) | refine q_blocky rfl ?_ | refine W_plain rfl ?_ | refine W_drawn mixed rfl ?_ | refine and_chk (by kernel_rfl) ?_ | refine k_move rfl rfl ?_ | refine k_assign rfl rfl ?_ | refine k_load rfl rfl rfl rfl ?_ | refine k_box rfl rfl rfl ?_ | refine k_fieldAddr rfl rfl rfl ?_ | refine k_loade rfl rfl rfl ?_ | refine k_fieldAddre rfl rfl rfl rfl ?_ | refine k_pickT rfl rfl rfl ?_ | refine k_pickF rfl rfl rfl ?_ | refine k_eqlT rfl rfl rfl (by omega) ?_ | refine k_eqlF rfl rfl rfl (by omega) ?_ | refine k_eqa rfl rfl rfl rfl rfl rfl ?_ | refine k_skip rfl ?_ | refine k_skip0 rfl ?_ | refine k_pick rfl rfl rfl rfl rfl ?_ | refine W_yes rfl ?_ | refine W_no rfl ?_)
    (first | with_reducible refine q_endr ?_ | with_reducible refine q_endn ?_); refine rets1 Try.results11 (by first | exact RetV.tmp _ _ rfl | exact RetV.cell _ _ _ _ _ _ _ _ inferInstance rfl rfl rfl) ?_
    rfl
  repeat (first | with_reducible (first | refine W_seq ?_ | refine q_then ?_ | refine q_thenr ?_ | refine q_thenx ?_ | refine W_block ?_ | refine q_block ?_ | refine q_blockr ?_ | refine q_blockx ?_ | refine W_ret ?_ | refine W_skip ?_ | refine W_label ?_ | refine W_exit ?_ | refine W_scope ?_ | refine q_scope ?_ | refine q_scoper ?_ | refine q_scopex ?_) | (with_reducible refine R_nil ?_; try dsimp only [slots0, slots_ud, cells_U, agg_ud, drop0, dropS, takeS, take0, ud_nil, take_ud, take_ud0, drop_ud, drop_ud0, take_udk, D.cells, D.fz, D.fzs, List.take_succ_cons, List.take_zero, List.drop_succ_cons, List.drop_zero, List.cons_append, List.nil_append, List.append_eq, List.length_cons, List.length_nil, Nat.reduceAdd, Nat.reduceMul, Nat.reduceSub, Int.reduceAdd, Int.reduceSub, Int.reduceToNat, Int.reduceNeg, Int.reduceMul]) | refine q_blocky rfl ?_ | refine W_plain rfl ?_ | refine W_drawn mixed rfl ?_ | refine and_chk (by kernel_rfl) ?_ | refine k_load rfl rfl rfl (by exact na _) ?_ | refine k_load rfl rfl rfl (by exact nb _) ?_ | refine k_move rfl rfl ?_ | refine k_assign rfl rfl ?_ | refine k_load rfl rfl rfl rfl ?_ | refine k_box rfl rfl rfl ?_ | refine k_fieldAddr rfl rfl rfl ?_ | refine k_eql rfl rfl rfl h2 ?_ | refine k_loade rfl rfl rfl ?_ | refine k_fieldAddre rfl rfl rfl rfl ?_ | refine k_pickT rfl rfl rfl ?_ | refine k_pickF rfl rfl rfl ?_ | refine k_eqlT rfl rfl rfl (by omega) ?_ | refine k_eqlF rfl rfl rfl (by omega) ?_ | refine k_eqa rfl rfl rfl rfl rfl rfl ?_ | refine k_skip rfl ?_ | refine k_skip0 rfl ?_ | refine k_pick rfl rfl rfl rfl rfl ?_ | refine W_yes rfl ?_ | refine W_no rfl ?_)
  cases c2
  · repeat (first | with_reducible (first | refine W_seq ?_ | refine q_then ?_ | refine q_thenr ?_ | refine q_thenx ?_ | refine W_block ?_ | refine q_block ?_ | refine q_blockr ?_ | refine q_blockx ?_ | refine W_ret ?_ | refine W_skip ?_ | refine W_label ?_ | refine W_exit ?_ | refine W_scope ?_ | refine q_scope ?_ | refine q_scoper ?_ | refine q_scopex ?_) | (with_reducible refine R_nil ?_; try dsimp only [slots0, slots_ud, cells_U, agg_ud, drop0, dropS, takeS, take0, ud_nil, take_ud, take_ud0, drop_ud, drop_ud0, take_udk, D.cells, D.fz, D.fzs, List.take_succ_cons, List.take_zero, List.drop_succ_cons, List.drop_zero, List.cons_append, List.nil_append, List.append_eq, List.length_cons, List.length_nil, Nat.reduceAdd, Nat.reduceMul, Nat.reduceSub, Int.reduceAdd, Int.reduceSub, Int.reduceToNat, Int.reduceNeg, Int.reduceMul]) | refine q_blocky rfl ?_ | refine W_plain rfl ?_ | refine W_drawn mixed rfl ?_ | refine and_chk (by kernel_rfl) ?_ | refine k_move rfl rfl ?_ | refine k_assign rfl rfl ?_ | refine k_load rfl rfl rfl rfl ?_ | refine k_box rfl rfl rfl ?_ | refine k_fieldAddr rfl rfl rfl ?_ | refine k_loade rfl rfl rfl ?_ | refine k_fieldAddre rfl rfl rfl rfl ?_ | refine k_pickT rfl rfl rfl ?_ | refine k_pickF rfl rfl rfl ?_ | refine k_eqlT rfl rfl rfl (by omega) ?_ | refine k_eqlF rfl rfl rfl (by omega) ?_ | refine k_eqa rfl rfl rfl rfl rfl rfl ?_ | refine k_skip rfl ?_ | refine k_skip0 rfl ?_ | refine k_pick rfl rfl rfl rfl rfl ?_ | refine W_yes rfl ?_ | refine W_no rfl ?_)
    (first | with_reducible refine q_endr ?_ | with_reducible refine q_endn ?_); refine rets1 Try.results11 (by first | exact RetV.tmp _ _ rfl | exact RetV.cell _ _ _ _ _ _ _ _ inferInstance rfl rfl rfl) ?_
    rfl
  repeat (first | with_reducible (first | refine W_seq ?_ | refine q_then ?_ | refine q_thenr ?_ | refine q_thenx ?_ | refine W_block ?_ | refine q_block ?_ | refine q_blockr ?_ | refine q_blockx ?_ | refine W_ret ?_ | refine W_skip ?_ | refine W_label ?_ | refine W_exit ?_ | refine W_scope ?_ | refine q_scope ?_ | refine q_scoper ?_ | refine q_scopex ?_) | (with_reducible refine R_nil ?_; try dsimp only [slots0, slots_ud, cells_U, agg_ud, drop0, dropS, takeS, take0, ud_nil, take_ud, take_ud0, drop_ud, drop_ud0, take_udk, D.cells, D.fz, D.fzs, List.take_succ_cons, List.take_zero, List.drop_succ_cons, List.drop_zero, List.cons_append, List.nil_append, List.append_eq, List.length_cons, List.length_nil, Nat.reduceAdd, Nat.reduceMul, Nat.reduceSub, Int.reduceAdd, Int.reduceSub, Int.reduceToNat, Int.reduceNeg, Int.reduceMul]) | refine q_blocky rfl ?_ | refine W_plain rfl ?_ | refine W_drawn mixed rfl ?_ | refine and_chk (by kernel_rfl) ?_ | refine k_load rfl rfl rfl (by exact ca _) ?_ | refine k_load rfl rfl rfl (by exact cb _) ?_ | refine k_move rfl rfl ?_ | refine k_assign rfl rfl ?_ | refine k_load rfl rfl rfl rfl ?_ | refine k_box rfl rfl rfl ?_ | refine k_fieldAddr rfl rfl rfl ?_ | refine k_eql rfl rfl rfl h3 ?_ | refine k_loade rfl rfl rfl ?_ | refine k_fieldAddre rfl rfl rfl rfl ?_ | refine k_pickT rfl rfl rfl ?_ | refine k_pickF rfl rfl rfl ?_ | refine k_eqlT rfl rfl rfl (by omega) ?_ | refine k_eqlF rfl rfl rfl (by omega) ?_ | refine k_eqa rfl rfl rfl rfl rfl rfl ?_ | refine k_skip rfl ?_ | refine k_skip0 rfl ?_ | refine k_pick rfl rfl rfl rfl rfl ?_ | refine W_yes rfl ?_ | refine W_no rfl ?_)
  cases c3
  · repeat (first | with_reducible (first | refine W_seq ?_ | refine q_then ?_ | refine q_thenr ?_ | refine q_thenx ?_ | refine W_block ?_ | refine q_block ?_ | refine q_blockr ?_ | refine q_blockx ?_ | refine W_ret ?_ | refine W_skip ?_ | refine W_label ?_ | refine W_exit ?_ | refine W_scope ?_ | refine q_scope ?_ | refine q_scoper ?_ | refine q_scopex ?_) | (with_reducible refine R_nil ?_; try dsimp only [slots0, slots_ud, cells_U, agg_ud, drop0, dropS, takeS, take0, ud_nil, take_ud, take_ud0, drop_ud, drop_ud0, take_udk, D.cells, D.fz, D.fzs, List.take_succ_cons, List.take_zero, List.drop_succ_cons, List.drop_zero, List.cons_append, List.nil_append, List.append_eq, List.length_cons, List.length_nil, Nat.reduceAdd, Nat.reduceMul, Nat.reduceSub, Int.reduceAdd, Int.reduceSub, Int.reduceToNat, Int.reduceNeg, Int.reduceMul]) | refine q_blocky rfl ?_ | refine W_plain rfl ?_ | refine W_drawn mixed rfl ?_ | refine and_chk (by kernel_rfl) ?_ | refine k_move rfl rfl ?_ | refine k_assign rfl rfl ?_ | refine k_load rfl rfl rfl rfl ?_ | refine k_box rfl rfl rfl ?_ | refine k_fieldAddr rfl rfl rfl ?_ | refine k_loade rfl rfl rfl ?_ | refine k_fieldAddre rfl rfl rfl rfl ?_ | refine k_pickT rfl rfl rfl ?_ | refine k_pickF rfl rfl rfl ?_ | refine k_eqlT rfl rfl rfl (by omega) ?_ | refine k_eqlF rfl rfl rfl (by omega) ?_ | refine k_eqa rfl rfl rfl rfl rfl rfl ?_ | refine k_skip rfl ?_ | refine k_skip0 rfl ?_ | refine k_pick rfl rfl rfl rfl rfl ?_ | refine W_yes rfl ?_ | refine W_no rfl ?_)
    (first | with_reducible refine q_endr ?_ | with_reducible refine q_endn ?_); refine rets1 Try.results11 (by first | exact RetV.tmp _ _ rfl | exact RetV.cell _ _ _ _ _ _ _ _ inferInstance rfl rfl rfl) ?_
    rfl
  repeat (first | with_reducible (first | refine W_seq ?_ | refine q_then ?_ | refine q_thenr ?_ | refine q_thenx ?_ | refine W_block ?_ | refine q_block ?_ | refine q_blockr ?_ | refine q_blockx ?_ | refine W_ret ?_ | refine W_skip ?_ | refine W_label ?_ | refine W_exit ?_ | refine W_scope ?_ | refine q_scope ?_ | refine q_scoper ?_ | refine q_scopex ?_) | (with_reducible refine R_nil ?_; try dsimp only [slots0, slots_ud, cells_U, agg_ud, drop0, dropS, takeS, take0, ud_nil, take_ud, take_ud0, drop_ud, drop_ud0, take_udk, D.cells, D.fz, D.fzs, List.take_succ_cons, List.take_zero, List.drop_succ_cons, List.drop_zero, List.cons_append, List.nil_append, List.append_eq, List.length_cons, List.length_nil, Nat.reduceAdd, Nat.reduceMul, Nat.reduceSub, Int.reduceAdd, Int.reduceSub, Int.reduceToNat, Int.reduceNeg, Int.reduceMul]) | refine q_blocky rfl ?_ | refine W_plain rfl ?_ | refine W_drawn mixed rfl ?_ | refine and_chk (by kernel_rfl) ?_ | refine k_load rfl rfl rfl (by exact ea _) ?_ | refine k_load rfl rfl rfl (by exact eb _) ?_ | refine k_move rfl rfl ?_ | refine k_assign rfl rfl ?_ | refine k_load rfl rfl rfl rfl ?_ | refine k_box rfl rfl rfl ?_ | refine k_fieldAddr rfl rfl rfl ?_ | refine k_eqa rfl rfl rfl k1 k2 h4 ?_ | refine k_loade rfl rfl rfl ?_ | refine k_fieldAddre rfl rfl rfl rfl ?_ | refine k_pickT rfl rfl rfl ?_ | refine k_pickF rfl rfl rfl ?_ | refine k_eqlT rfl rfl rfl (by omega) ?_ | refine k_eqlF rfl rfl rfl (by omega) ?_ | refine k_eqa rfl rfl rfl rfl rfl rfl ?_ | refine k_skip rfl ?_ | refine k_skip0 rfl ?_ | refine k_pick rfl rfl rfl rfl rfl ?_ | refine W_yes rfl ?_ | refine W_no rfl ?_)
  cases c4
  · repeat (first | with_reducible (first | refine W_seq ?_ | refine q_then ?_ | refine q_thenr ?_ | refine q_thenx ?_ | refine W_block ?_ | refine q_block ?_ | refine q_blockr ?_ | refine q_blockx ?_ | refine W_ret ?_ | refine W_skip ?_ | refine W_label ?_ | refine W_exit ?_ | refine W_scope ?_ | refine q_scope ?_ | refine q_scoper ?_ | refine q_scopex ?_) | (with_reducible refine R_nil ?_; try dsimp only [slots0, slots_ud, cells_U, agg_ud, drop0, dropS, takeS, take0, ud_nil, take_ud, take_ud0, drop_ud, drop_ud0, take_udk, D.cells, D.fz, D.fzs, List.take_succ_cons, List.take_zero, List.drop_succ_cons, List.drop_zero, List.cons_append, List.nil_append, List.append_eq, List.length_cons, List.length_nil, Nat.reduceAdd, Nat.reduceMul, Nat.reduceSub, Int.reduceAdd, Int.reduceSub, Int.reduceToNat, Int.reduceNeg, Int.reduceMul]) | refine q_blocky rfl ?_ | refine W_plain rfl ?_ | refine W_drawn mixed rfl ?_ | refine and_chk (by kernel_rfl) ?_ | refine k_move rfl rfl ?_ | refine k_assign rfl rfl ?_ | refine k_load rfl rfl rfl rfl ?_ | refine k_box rfl rfl rfl ?_ | refine k_fieldAddr rfl rfl rfl ?_ | refine k_loade rfl rfl rfl ?_ | refine k_fieldAddre rfl rfl rfl rfl ?_ | refine k_pickT rfl rfl rfl ?_ | refine k_pickF rfl rfl rfl ?_ | refine k_eqlT rfl rfl rfl (by omega) ?_ | refine k_eqlF rfl rfl rfl (by omega) ?_ | refine k_eqa rfl rfl rfl rfl rfl rfl ?_ | refine k_skip rfl ?_ | refine k_skip0 rfl ?_ | refine k_pick rfl rfl rfl rfl rfl ?_ | refine W_yes rfl ?_ | refine W_no rfl ?_)
    (first | with_reducible refine q_endr ?_ | with_reducible refine q_endn ?_); refine rets1 Try.results11 (by first | exact RetV.tmp _ _ rfl | exact RetV.cell _ _ _ _ _ _ _ _ inferInstance rfl rfl rfl) ?_
    rfl
  repeat (first | with_reducible (first | refine W_seq ?_ | refine q_then ?_ | refine q_thenr ?_ | refine q_thenx ?_ | refine W_block ?_ | refine q_block ?_ | refine q_blockr ?_ | refine q_blockx ?_ | refine W_ret ?_ | refine W_skip ?_ | refine W_label ?_ | refine W_exit ?_ | refine W_scope ?_ | refine q_scope ?_ | refine q_scoper ?_ | refine q_scopex ?_) | (with_reducible refine R_nil ?_; try dsimp only [slots0, slots_ud, cells_U, agg_ud, drop0, dropS, takeS, take0, ud_nil, take_ud, take_ud0, drop_ud, drop_ud0, take_udk, D.cells, D.fz, D.fzs, List.take_succ_cons, List.take_zero, List.drop_succ_cons, List.drop_zero, List.cons_append, List.nil_append, List.append_eq, List.length_cons, List.length_nil, Nat.reduceAdd, Nat.reduceMul, Nat.reduceSub, Int.reduceAdd, Int.reduceSub, Int.reduceToNat, Int.reduceNeg, Int.reduceMul]) | refine q_blocky rfl ?_ | refine W_plain rfl ?_ | refine W_drawn mixed rfl ?_ | refine and_chk (by kernel_rfl) ?_ | refine k_load rfl rfl rfl (by exact ua _ _ rfl) ?_ | refine k_load rfl rfl rfl (by exact ub _ _ rfl) ?_ | refine k_move rfl rfl ?_ | refine k_assign rfl rfl ?_ | refine k_load rfl rfl rfl rfl ?_ | refine k_box rfl rfl rfl ?_ | refine k_fieldAddr rfl rfl rfl ?_ | refine k_eql rfl rfl rfl h5 ?_ | refine k_loade rfl rfl rfl ?_ | refine k_fieldAddre rfl rfl rfl rfl ?_ | refine k_pickT rfl rfl rfl ?_ | refine k_pickF rfl rfl rfl ?_ | refine k_eqlT rfl rfl rfl (by omega) ?_ | refine k_eqlF rfl rfl rfl (by omega) ?_ | refine k_eqa rfl rfl rfl rfl rfl rfl ?_ | refine k_skip rfl ?_ | refine k_skip0 rfl ?_ | refine k_pick rfl rfl rfl rfl rfl ?_ | refine W_yes rfl ?_ | refine W_no rfl ?_)
  cases c5
  · repeat (first | with_reducible (first | refine W_seq ?_ | refine q_then ?_ | refine q_thenr ?_ | refine q_thenx ?_ | refine W_block ?_ | refine q_block ?_ | refine q_blockr ?_ | refine q_blockx ?_ | refine W_ret ?_ | refine W_skip ?_ | refine W_label ?_ | refine W_exit ?_ | refine W_scope ?_ | refine q_scope ?_ | refine q_scoper ?_ | refine q_scopex ?_) | (with_reducible refine R_nil ?_; try dsimp only [slots0, slots_ud, cells_U, agg_ud, drop0, dropS, takeS, take0, ud_nil, take_ud, take_ud0, drop_ud, drop_ud0, take_udk, D.cells, D.fz, D.fzs, List.take_succ_cons, List.take_zero, List.drop_succ_cons, List.drop_zero, List.cons_append, List.nil_append, List.append_eq, List.length_cons, List.length_nil, Nat.reduceAdd, Nat.reduceMul, Nat.reduceSub, Int.reduceAdd, Int.reduceSub, Int.reduceToNat, Int.reduceNeg, Int.reduceMul]) | refine q_blocky rfl ?_ | refine W_plain rfl ?_ | refine W_drawn mixed rfl ?_ | refine and_chk (by kernel_rfl) ?_ | refine k_move rfl rfl ?_ | refine k_assign rfl rfl ?_ | refine k_load rfl rfl rfl rfl ?_ | refine k_box rfl rfl rfl ?_ | refine k_fieldAddr rfl rfl rfl ?_ | refine k_loade rfl rfl rfl ?_ | refine k_fieldAddre rfl rfl rfl rfl ?_ | refine k_pickT rfl rfl rfl ?_ | refine k_pickF rfl rfl rfl ?_ | refine k_eqlT rfl rfl rfl (by omega) ?_ | refine k_eqlF rfl rfl rfl (by omega) ?_ | refine k_eqa rfl rfl rfl rfl rfl rfl ?_ | refine k_skip rfl ?_ | refine k_skip0 rfl ?_ | refine k_pick rfl rfl rfl rfl rfl ?_ | refine W_yes rfl ?_ | refine W_no rfl ?_)
    (first | with_reducible refine q_endr ?_ | with_reducible refine q_endn ?_); refine rets1 Try.results11 (by first | exact RetV.tmp _ _ rfl | exact RetV.cell _ _ _ _ _ _ _ _ inferInstance rfl rfl rfl) ?_
    rfl
  repeat (first | with_reducible (first | refine W_seq ?_ | refine q_then ?_ | refine q_thenr ?_ | refine q_thenx ?_ | refine W_block ?_ | refine q_block ?_ | refine q_blockr ?_ | refine q_blockx ?_ | refine W_ret ?_ | refine W_skip ?_ | refine W_label ?_ | refine W_exit ?_ | refine W_scope ?_ | refine q_scope ?_ | refine q_scoper ?_ | refine q_scopex ?_) | (with_reducible refine R_nil ?_; try dsimp only [slots0, slots_ud, cells_U, agg_ud, drop0, dropS, takeS, take0, ud_nil, take_ud, take_ud0, drop_ud, drop_ud0, take_udk, D.cells, D.fz, D.fzs, List.take_succ_cons, List.take_zero, List.drop_succ_cons, List.drop_zero, List.cons_append, List.nil_append, List.append_eq, List.length_cons, List.length_nil, Nat.reduceAdd, Nat.reduceMul, Nat.reduceSub, Int.reduceAdd, Int.reduceSub, Int.reduceToNat, Int.reduceNeg, Int.reduceMul]) | refine q_blocky rfl ?_ | refine W_plain rfl ?_ | refine W_drawn mixed rfl ?_ | refine and_chk (by kernel_rfl) ?_ | refine k_load rfl rfl rfl (by exact va _ _ rfl) ?_ | refine k_load rfl rfl rfl (by exact vb _ _ rfl) ?_ | refine k_move rfl rfl ?_ | refine k_assign rfl rfl ?_ | refine k_load rfl rfl rfl rfl ?_ | refine k_box rfl rfl rfl ?_ | refine k_fieldAddr rfl rfl rfl ?_ | refine k_eql rfl rfl rfl h6 ?_ | refine k_loade rfl rfl rfl ?_ | refine k_fieldAddre rfl rfl rfl rfl ?_ | refine k_pickT rfl rfl rfl ?_ | refine k_pickF rfl rfl rfl ?_ | refine k_eqlT rfl rfl rfl (by omega) ?_ | refine k_eqlF rfl rfl rfl (by omega) ?_ | refine k_eqa rfl rfl rfl rfl rfl rfl ?_ | refine k_skip rfl ?_ | refine k_skip0 rfl ?_ | refine k_pick rfl rfl rfl rfl rfl ?_ | refine W_yes rfl ?_ | refine W_no rfl ?_)
  cases c6
  · repeat (first | with_reducible (first | refine W_seq ?_ | refine q_then ?_ | refine q_thenr ?_ | refine q_thenx ?_ | refine W_block ?_ | refine q_block ?_ | refine q_blockr ?_ | refine q_blockx ?_ | refine W_ret ?_ | refine W_skip ?_ | refine W_label ?_ | refine W_exit ?_ | refine W_scope ?_ | refine q_scope ?_ | refine q_scoper ?_ | refine q_scopex ?_) | (with_reducible refine R_nil ?_; try dsimp only [slots0, slots_ud, cells_U, agg_ud, drop0, dropS, takeS, take0, ud_nil, take_ud, take_ud0, drop_ud, drop_ud0, take_udk, D.cells, D.fz, D.fzs, List.take_succ_cons, List.take_zero, List.drop_succ_cons, List.drop_zero, List.cons_append, List.nil_append, List.append_eq, List.length_cons, List.length_nil, Nat.reduceAdd, Nat.reduceMul, Nat.reduceSub, Int.reduceAdd, Int.reduceSub, Int.reduceToNat, Int.reduceNeg, Int.reduceMul]) | refine q_blocky rfl ?_ | refine W_plain rfl ?_ | refine W_drawn mixed rfl ?_ | refine and_chk (by kernel_rfl) ?_ | refine k_move rfl rfl ?_ | refine k_assign rfl rfl ?_ | refine k_load rfl rfl rfl rfl ?_ | refine k_box rfl rfl rfl ?_ | refine k_fieldAddr rfl rfl rfl ?_ | refine k_loade rfl rfl rfl ?_ | refine k_fieldAddre rfl rfl rfl rfl ?_ | refine k_pickT rfl rfl rfl ?_ | refine k_pickF rfl rfl rfl ?_ | refine k_eqlT rfl rfl rfl (by omega) ?_ | refine k_eqlF rfl rfl rfl (by omega) ?_ | refine k_eqa rfl rfl rfl rfl rfl rfl ?_ | refine k_skip rfl ?_ | refine k_skip0 rfl ?_ | refine k_pick rfl rfl rfl rfl rfl ?_ | refine W_yes rfl ?_ | refine W_no rfl ?_)
    (first | with_reducible refine q_endr ?_ | with_reducible refine q_endn ?_); refine rets1 Try.results11 (by first | exact RetV.tmp _ _ rfl | exact RetV.cell _ _ _ _ _ _ _ _ inferInstance rfl rfl rfl) ?_
    rfl
  repeat (first | with_reducible (first | refine W_seq ?_ | refine q_then ?_ | refine q_thenr ?_ | refine q_thenx ?_ | refine W_block ?_ | refine q_block ?_ | refine q_blockr ?_ | refine q_blockx ?_ | refine W_ret ?_ | refine W_skip ?_ | refine W_label ?_ | refine W_exit ?_ | refine W_scope ?_ | refine q_scope ?_ | refine q_scoper ?_ | refine q_scopex ?_) | (with_reducible refine R_nil ?_; try dsimp only [slots0, slots_ud, cells_U, agg_ud, drop0, dropS, takeS, take0, ud_nil, take_ud, take_ud0, drop_ud, drop_ud0, take_udk, D.cells, D.fz, D.fzs, List.take_succ_cons, List.take_zero, List.drop_succ_cons, List.drop_zero, List.cons_append, List.nil_append, List.append_eq, List.length_cons, List.length_nil, Nat.reduceAdd, Nat.reduceMul, Nat.reduceSub, Int.reduceAdd, Int.reduceSub, Int.reduceToNat, Int.reduceNeg, Int.reduceMul]) | refine q_blocky rfl ?_ | refine W_plain rfl ?_ | refine W_drawn mixed rfl ?_ | refine and_chk (by kernel_rfl) ?_ | refine k_load rfl rfl rfl (by exact da _ _ rfl) ?_ | refine k_load rfl rfl rfl (by exact db _ _ rfl) ?_ | refine k_move rfl rfl ?_ | refine k_assign rfl rfl ?_ | refine k_load rfl rfl rfl rfl ?_ | refine k_box rfl rfl rfl ?_ | refine k_fieldAddr rfl rfl rfl ?_ | refine k_b2s rfl Try.underlying9 Try.underlying5 rfl rfl ?_ | refine k_eqs rfl rfl rfl h7 ?_ | refine k_loade rfl rfl rfl ?_ | refine k_fieldAddre rfl rfl rfl rfl ?_ | refine k_pickT rfl rfl rfl ?_ | refine k_pickF rfl rfl rfl ?_ | refine k_eqlT rfl rfl rfl (by omega) ?_ | refine k_eqlF rfl rfl rfl (by omega) ?_ | refine k_eqa rfl rfl rfl rfl rfl rfl ?_ | refine k_skip rfl ?_ | refine k_skip0 rfl ?_ | refine k_pick rfl rfl rfl rfl rfl ?_ | refine W_yes rfl ?_ | refine W_no rfl ?_)
  (first | with_reducible refine q_endr ?_ | with_reducible refine q_endn ?_); refine rets1 Try.results11 (by first | exact RetV.tmp _ _ rfl | exact RetV.cell _ _ _ _ _ _ _ _ inferInstance rfl rfl rfl) ?_
  rfl
end Go.Proofs.Ytbpaimfnfigjpaa
