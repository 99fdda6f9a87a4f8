/- basculekeep's picked and some, over data. Conditions: numbers of 64 bits. -/
import Derived.Test.YtnlacdclnhoghaaRowS
import Derived.Test.YtnlacdclnhoghaaDMore
import Derived.Test.YtnlacdclnhoghaaDInst
import Derived.Test.YtnlacdclnhoghaaDK2
import Derived.Test.YtnlacdclnhoghaaDMs
import Derived.Test.YtnlacdclnhoghaaPickP
namespace Go.Proofs.Ytnlacdclnhoghaa
open Go.RowKit Go.Lib
set_option linter.unusedVariables false
set_option maxRecDepth 100000

theorem some_ok (l : List RawT) (m : Nat) (hm : m ≤ 1000) : Pur Try.prog 19 [.slice .frozen l.length (rws l), .int .i64 m] (.slice .frozen (l.take m).length (rws (l.take m))) := by
  have hl := rws_len l
  have h1 : min (l.length : Int) (m : Int) = ((l.take m).length : Int) := by rw [List.length_take]; omega
  have h2 : (((l.take m).length : Int) - 0).toNat = (l.take m).length := by omega
  have h3 : ((rws l).drop ((0 : Int).toNat * 4)).take ((l.take m).length * 4) = rws (l.take m) := by
    show (rws l).take _ = _
    unfold rws
    rw [fl_take (f := RawT.cells) (s := 4) (fun _ => rfl), List.length_take]
    congr 1
    rcases Nat.le_total m l.length with h | h
    · rw [Nat.min_eq_left h]
    · rw [Nat.min_eq_right h, List.take_length, List.take_of_length_le h]
  have h4 : (l.take m).length ≤ l.length := by rw [List.length_take]; omega
  generalize l.take m = l' at *
  refine pur_intro Try.func19 rfl Try.ntmps19 rfl (by first | rfl | assumption | exact bs_cl _) fun B => ?_
  repeat (first | with_reducible (first | refine W_seq ?_ | refine q_then ?_ | refine q_thenr ?_ | refine q_thenx ?_ | refine W_block ?_ | refine q_block ?_ | refine q_blockr ?_ | refine q_blockx ?_ | refine W_ret ?_ | refine W_skip ?_ | refine W_label ?_ | refine W_exit ?_ | refine W_scope ?_ | refine q_scope ?_ | refine q_scoper ?_ | refine q_scopex ?_) | (with_reducible refine R_nil ?_; try dsimp only [slots0, slots_ud, cells_U, agg_ud, drop0, dropS, takeS, take0, ud_nil, take_ud, take_ud0, drop_ud, drop_ud0, take_udk, D.cells, D.fz, D.fzs, List.take_succ_cons, List.take_zero, List.drop_succ_cons, List.drop_zero, List.cons_append, List.nil_append, List.append_eq, List.length_cons, List.length_nil, Nat.reduceAdd, Nat.reduceMul, Nat.reduceSub, Int.reduceAdd, Int.reduceSub, Int.reduceToNat, Int.reduceNeg, Int.reduceMul]) | refine q_blocky rfl ?_ | refine W_plain rfl ?_ | refine W_drawn mixed rfl ?_ | refine and_chk (by kernel_rfl) ?_ | refine k_move rfl rfl ?_ | refine k_assign rfl rfl ?_ | refine k_min rfl rfl rfl h1 ?_ | (refine k_slice rfl rfl rfl rfl ⟨?_, ?_, ?_⟩ (by exact hl.symm) (by exact h2) (by exact h3) ?_; (omega); (omega); (omega)) | refine W_unroll (WL_round ?_) | refine WL_round ?_ | (refine k_append rfl rfl rfl ?_ ?_ ?_ rfl ?_ rfl rfl rfl ?_; (first | rfl | exact trivial | (show 0 < _; omega)); (first | rfl | (simp <;> omega)); (first | rfl | (simp <;> omega)); (omega)) | (refine k_slice rfl rfl rfl rfl ⟨?_, ?_, ?_⟩ rfl rfl rfl ?_; (omega); (omega); (omega)) | (refine k_slice3 rfl rfl rfl rfl rfl ⟨?_, ?_, ?_⟩ rfl rfl rfl ?_; (omega); (omega); (omega)) | (refine k_sliceA rfl rfl rfl rfl ⟨?_, ?_, ?_, ?_⟩ rfl rfl ?_; (omega); (omega); (omega); (omega)) | (refine k_sliceE rfl rfl rfl rfl ⟨?_, ?_, ?_, ?_⟩ rfl rfl rfl rfl ?_; (omega); (omega); (omega); (omega)) | refine k_len rfl rfl ?_ | refine W_yes rfl ?_ | refine W_no rfl ?_)
  (first | with_reducible refine q_endr ?_ | with_reducible refine q_endn ?_); refine rets1 Try.results19 (by first | exact RetV.tmp _ _ rfl | exact RetV.cell _ _ _ _ _ _ _ _ inferInstance rfl rfl rfl) ?_
  rfl
theorem rws_cut (z : List RawT) (k : Nat) (r : RawT) (hget : z[k]? = some r) (ze : List D) : cut ⟨true, 4, ze⟩ 0 ((rws z).drop ((k : Int).toNat * 4)) = some (.agg r.cells) := by
  have hl := rws_len z
  have hlt := (List.getElem?_eq_some_iff.1 hget).1
  unfold cut
  simp only [cond_true, Int.toNat_natCast, Nat.zero_add, List.length_drop, hl, List.drop_zero]
  rw [Nat.ble_eq_true_of_le (by omega), cond_true]
  unfold rws
  rw [fl_at (f := RawT.cells) (s := 4) (fun _ => rfl) z k r hget]
theorem rt_all (r : RawT) : List.take 4 r.cells = r.cells := rfl
theorem rep_raw (G : Gh) (w : World) (k a b : Int) (s : ByteArray) : Rep G w (.agg [.int .i64 k, .int .i64 a, .int .i64 b, .str s]) (.agg #[.int .i64 k, .int .i64 a, .int .i64 b, .string s]) := by
  obtain ⟨u, h1, h2⟩ := D.ok_val G w (.agg [.int .i64 k, .int .i64 a, .int .i64 b, .str s]) rfl
  cases h1
  exact h2
end Go.Proofs.Ytnlacdclnhoghaa
