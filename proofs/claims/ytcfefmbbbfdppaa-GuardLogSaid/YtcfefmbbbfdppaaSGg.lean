/- Bytes as data: one of them, read or laid. No conditions. -/
import Derived.Test.YtcfefmbbbfdppaaSGa
import Derived.Test.YtcfefmbbbfdppaaSDCode
import Derived.Test.YtcfefmbbbfdppaaSRowS
import Derived.Test.YtcfefmbbbfdppaaSDMore
import Derived.Test.YtcfefmbbbfdppaaSDInst
import Derived.Test.YtcfefmbbbfdppaaSDK2
import Derived.Test.YtcfefmbbbfdppaaSDFun
import Derived.Test.YtcfefmbbbfdppaaSGd
namespace Go.Proofs.Ytcfefmbbbfdppaa
open Go.RowKit
set_option linter.unusedVariables false
theorem picked_any (n m : Int) (hm : 0 < m) (hm' : m ≤ 4611686018427387904) (w : World) :
    Calls Try.prog 9 #[.int .i64 n, .int .i64 m] w fun e w' => e = .returned (.int .i64 (n % m)) ∧ w = w' := by
  have h1 := hide (tmod_emod n m hm)
  have h2 := hide (Int.emod_nonneg n (by omega : m ≠ 0))
  have h3 := hide (Int.emod_lt_of_pos n hm)
  go_enter Try.func9, Try.ntmps9
  go_wp2
  · have h : n.tmod m < 0 := by assumption
    go_ret
    refine ⟨ret_int ?_, rfl⟩
    have h1 := h1.out; have h2 := h2.out; have h3 := h3.out
    rw [if_pos h] at h1
    rw [wrap64, ← h1]; omega
  · have h : 0 ≤ n.tmod m := by assumption
    go_ret
    refine ⟨ret_int ?_, rfl⟩
    have h1 := h1.out
    rw [if_neg (by omega)] at h1
    exact h1.symm
theorem picked_q (n m : Int) (hm : 0 < m) (hm' : m ≤ 4611686018427387904) (w : World) :
    Calls Try.prog 9 #[.int .i64 n, .int .i64 m] w fun e w' => e = .returned (.int .i64 (n % m)) ∧ w' = w := (picked_any n m hm hm' w).mono fun _ _ h => ⟨h.1, h.2.symm⟩
end Go.Proofs.Ytcfefmbbbfdppaa
namespace Go.Proofs.Ytcfefmbbbfdppaa
open Go.RowKit
set_option linter.unusedVariables false
theorem p_picked (n m q : Int) (hm : 0 < m) (hm' : m ≤ 4611686018427387904) (hq : n % m = q) : Pur Try.prog 9 [.int .i64 n, .int .i64 m] (.int .i64 q) :=
  pur_of_calls (vs := [.int .i64 n, .int .i64 m]) rfl rfl rfl fun w => (picked_q n m hm hm' w).mono fun e w' h => by
    obtain ⟨h1, h2⟩ := h
    subst h2
    exact ⟨by rw [h1, hq], new_refl _⟩
end Go.Proofs.Ytcfefmbbbfdppaa
namespace Go.Proofs.Ytcfefmbbbfdppaa
open Go.RowKit Go.Lib
set_option linter.unusedVariables false
set_option maxRecDepth 100000
theorem some_ok (l : List RawT) (m : Nat) (hm : m ≤ 1000) : Pur Try.prog 8 [.slice .frozen l.length (rws l), .int .i64 m] (.slice .frozen (l.take m).length (rws (l.take m))) := by
  have hl := rws_len l
  have h1 : min (l.length : Int) (m : Int) = ((l.take m).length : Int) := by rw [List.length_take]; omega
  have h2 : (((l.take m).length : Int) - 0).toNat = (l.take m).length := by omega
  have h3 : ((rws l).drop ((0 : Int).toNat * 4)).take ((l.take m).length * 4) = rws (l.take m) := by
    show (rws l).take _ = _
    unfold rws
    rw [fl_take (f := RawT.cells) (s := 4) (fun _ => rfl), List.length_take]
    congr 1
    rcases Nat.le_total m l.length with h | h
    · rw [Nat.min_eq_left h]
    · rw [Nat.min_eq_right h, List.take_length, List.take_of_length_le h]
  have h4 : (l.take m).length ≤ l.length := by rw [List.length_take]; omega
  generalize l.take m = l' at *
  refine pur_intro Try.func8 rfl Try.ntmps8 rfl (by first | rfl | assumption | exact bs_cl _) fun B => ?_
  repeat (first | with_reducible (first | refine W_seq ?_ | refine q_then ?_ | refine W_ret ?_) | (with_reducible refine R_nil ?_; try dsimp only [slots0, slots_ud, cells_U, agg_ud, drop0, dropS, takeS, take0, ud_nil, take_ud, take_ud0, drop_ud, drop_ud0, take_udk, D.cells, D.fz, D.fzs, List.take_succ_cons, List.take_zero, List.drop_succ_cons, List.drop_zero, List.cons_append, List.nil_append, List.append_eq, List.length_cons, List.length_nil, Nat.reduceAdd, Nat.reduceMul, Nat.reduceSub, Int.reduceAdd, Int.reduceSub, Int.reduceToNat, Int.reduceNeg, Int.reduceMul]) | refine W_plain rfl ?_ | refine and_chk (by kernel_rfl) ?_ | refine k_move rfl rfl ?_ | refine k_assign rfl rfl ?_ | refine k_min rfl rfl rfl h1 ?_ | (refine k_slice rfl rfl rfl rfl ⟨?_, ?_, ?_⟩ (by exact hl.symm) (by exact h2) (by exact h3) ?_; (omega); (omega); (omega)) | (refine k_append rfl rfl rfl ?_ ?_ ?_ rfl ?_ rfl rfl rfl ?_; (first | rfl | exact trivial | (show 0 < _; omega)); (first | rfl | (simp <;> omega)); (first | rfl | (simp <;> omega)); (omega)) | (refine k_slice rfl rfl rfl rfl ⟨?_, ?_, ?_⟩ rfl rfl rfl ?_; (omega); (omega); (omega)) | refine k_len rfl rfl ?_)
  (first | with_reducible refine q_endr ?_); refine rets1 Try.results8 (by first | exact RetV.tmp _ _ rfl | exact RetV.cell _ _ _ _ _ _ _ _ inferInstance rfl rfl rfl) ?_
  rfl
theorem rws_cut (z : List RawT) (k : Nat) (r : RawT) (hget : z[k]? = some r) (ze : List D) : cut ⟨true, 4, ze⟩ 0 ((rws z).drop ((k : Int).toNat * 4)) = some (.agg r.cells) := by
  have hl := rws_len z
  have hlt := (List.getElem?_eq_some_iff.1 hget).1
  unfold cut
  simp only [cond_true, Int.toNat_natCast, Nat.zero_add, List.length_drop, hl, List.drop_zero]
  rw [Nat.ble_eq_true_of_le (by omega), cond_true]
  unfold rws
  rw [fl_at (f := RawT.cells) (s := 4) (fun _ => rfl) z k r hget]
theorem rt_all (r : RawT) : List.take 4 r.cells = r.cells := rfl
theorem rep_raw (G : Gh) (w : World) (k a b : Int) (s : ByteArray) : Rep G w (.agg [.int .i64 k, .int .i64 a, .int .i64 b, .str s]) (.agg #[.int .i64 k, .int .i64 a, .int .i64 b, .string s]) := by
  obtain ⟨u, h1, h2⟩ := D.ok_val G w (.agg [.int .i64 k, .int .i64 a, .int .i64 b, .str s]) rfl
  cases h1
  exact h2
end Go.Proofs.Ytcfefmbbbfdppaa
namespace Go.Proofs.Ytcfefmbbbfdppaa
open Go.RowKit Go.Lib Go.IntWalk
set_option linter.unusedVariables false
set_option maxRecDepth 100000
end Go.Proofs.Ytcfefmbbbfdppaa
