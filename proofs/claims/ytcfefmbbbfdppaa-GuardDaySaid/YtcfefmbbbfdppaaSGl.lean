/- log's Mend. Conditions: few bytes. -/
import Derived.Test.YtcfefmbbbfdppaaSGd
import Derived.Test.YtcfefmbbbfdppaaSGg
namespace Go.Proofs.Ytcfefmbbbfdppaa
open Go.RowKit Go.Lib
set_option linter.unusedVariables false
abbrev By := List UInt8
def tl8 (r : By) : UInt8 := r.foldl (fun s c => s + c) 0
def rec8 (r : By) : By := UInt8.ofNat (r.length / 256) :: UInt8.ofNat r.length :: (r ++ [tl8 r])
theorem rec8_len (r : By) : (rec8 r).length = r.length + 3 := by simp [rec8]
def hdr (b : By) : Nat := (b[0]?.getD 0).toNat * 256 + (b[1]?.getD 0).toNat
def lg (a b : By) : List D := [.slice .frozen a.length (bs a), .slice .frozen b.length (bs b)]
theorem bs_app (a b : By) : bs (a ++ b) = bs a ++ bs b := by simp [bs]
end Go.Proofs.Ytcfefmbbbfdppaa
namespace Go.Proofs.Ytcfefmbbbfdppaa
open Go.RowKit Go.Lib Go.IntWalk
set_option linter.unusedVariables false
set_option maxRecDepth 100000
--nrm lg_all
theorem lg_all (a b : By) : List.take 2 (lg a b) = lg a b := rfl
theorem one_cut (cs : List D) (j : Nat) (d : D) (h : cs[j]? = some d) (z : List D) : cut ⟨false, 1, z⟩ 0 (cs.drop j) = some d := by
  have hlt := (List.getElem?_eq_some_iff.1 h).1
  unfold cut
  simp only [cond_false, List.drop_zero]
  rw [List.getElem?_drop]
  simpa using h
theorem bs_cut (l : By) (i : Nat) (x : UInt8) (h : l[i]? = some x) (z : List D) : cut ⟨false, 1, z⟩ 0 ((bs l).drop ((i : Int).toNat * 1)) = some (.int .u8 (x.toNat : Int)) := by
  rw [Int.toNat_natCast, Nat.mul_one]
  exact one_cut _ _ _ (bs_get l i x h) z
theorem tl8_take (l : By) (i : Nat) (x : UInt8) (h : l[i]? = some x) : tl8 (l.take (i + 1)) = tl8 (l.take i) + x := by
  unfold tl8
  rw [List.take_add_one, h]
  simp [List.foldl_append]
theorem u8_add (a b : UInt8) : IntKind.u8.wrap ((a.toNat : Int) + (b.toNat : Int)) = (((a + b).toNat : Nat) : Int) := by
  rw [IntKind.wrap_u8, UInt8.toNat_add]; omega
set_option maxHeartbeats 4000000 in
theorem tail_ok (l : By) (hl : l.length ≤ 100000) (c : UInt8) (hc : tl8 l = c) : Pur Try.prog 43 [.slice .frozen l.length (bs l)] (.int .u8 (c.toNat : Int)) := by
  have hb : l.length * 1 = (bs l).length := by rw [bs_len, Nat.mul_one]
  refine pur_intro Try.func43 rfl Try.ntmps43 rfl (by first | rfl | assumption | exact bs_cl _) fun B => ?_
  repeat (first | with_reducible (first | refine W_seq ?_ | refine q_then ?_ | refine q_thenx ?_ | refine W_block ?_ | refine q_block ?_ | refine q_blockx ?_ | refine W_ret ?_ | refine W_skip ?_ | refine W_exit ?_) | (with_reducible refine R_nil ?_; try dsimp only [slots0, slots_ud, lg_all, cells_U, agg_ud, drop0, dropS, takeS, take0, ud_nil, take_ud, take_ud0, drop_ud, drop_ud0, take_udk, D.cells, D.fz, D.fzs, List.take_succ_cons, List.take_zero, List.drop_succ_cons, List.drop_zero, List.cons_append, List.nil_append, List.append_eq, List.length_cons, List.length_nil, Nat.reduceAdd, Nat.reduceMul, Nat.reduceSub, Int.reduceAdd, Int.reduceSub, Int.reduceToNat, Int.reduceNeg, Int.reduceMul]) | refine W_plain rfl ?_ | refine and_chk (by kernel_rfl) ?_ | refine k_move rfl rfl ?_ | refine k_assign rfl rfl ?_ | (refine k_indexAddrs rfl rfl rfl ⟨?_, ?_⟩ rfl ?_; (omega); (omega)) | refine k_loade rfl rfl rfl ?_ | refine k_len rfl rfl ?_ | (refine k_addi rfl rfl rfl ?_ ?_; (omega)) | (refine k_lssT rfl rfl rfl ?_ ?_; (omega)) | (refine k_lssF rfl rfl rfl ?_ ?_; (omega)) | refine W_yes rfl ?_ | refine W_no rfl ?_)
  refine W_loop (fun n' ρ m nx => ∃ (i : Nat) (s : UInt8), i ≤ l.length ∧ s = tl8 (l.take i) ∧ n' = l.length - i ∧ ρ = [(8, .int .i64 (i : Int)), (7, .int .i64 (l.length : Int)), (6, .slice .frozen l.length (bs l)), (3, .int .u8 (s.toNat : Int)), (2, .int .u8 0)] ∧ m = [] ∧ nx = 0)
    ⟨_, _, _, _, (by repeat (first | exact trivial | refine ⟨⟨rfl, rfl⟩, ?_⟩ | refine ⟨⟨rfl, bs_bel _ _⟩, ?_⟩ | refine ⟨⟨rfl, arr_bels _ _ _⟩, ?_⟩)), (by repeat (first | exact trivial | refine ⟨⟨rfl, rfl, rfl⟩, ?_⟩ | refine ⟨⟨rfl, rfl, bs_bels _ _⟩, ?_⟩ | refine ⟨⟨rfl, rfl, arr_bels _ _ _⟩, ?_⟩)), 0, 0, Nat.zero_le _, rfl, rfl, rfl, rfl, rfl⟩ ?_
  rintro n' ρ m nx ⟨i, s, hi, hs, rfl, rfl, rfl, rfl⟩
  by_cases hlt : i < l.length
  · obtain ⟨x, hx⟩ : ∃ x, l[i]? = some x := ⟨_, List.getElem?_eq_getElem hlt⟩
    have cu := bs_cut l i x hx
    have ha := u8_add s x
    have ht := tl8_take l i x hx
    rw [← hs] at ht
    repeat (first | with_reducible (first | refine W_seq ?_ | refine q_then ?_ | refine q_thenx ?_ | refine W_block ?_ | refine q_block ?_ | refine q_blockx ?_ | refine W_ret ?_ | refine W_skip ?_ | refine W_exit ?_) | (with_reducible refine R_nil ?_; try dsimp only [slots0, slots_ud, lg_all, cells_U, agg_ud, drop0, dropS, takeS, take0, ud_nil, take_ud, take_ud0, drop_ud, drop_ud0, take_udk, D.cells, D.fz, D.fzs, List.take_succ_cons, List.take_zero, List.drop_succ_cons, List.drop_zero, List.cons_append, List.nil_append, List.append_eq, List.length_cons, List.length_nil, Nat.reduceAdd, Nat.reduceMul, Nat.reduceSub, Int.reduceAdd, Int.reduceSub, Int.reduceToNat, Int.reduceNeg, Int.reduceMul]) | refine W_plain rfl ?_ | refine and_chk (by kernel_rfl) ?_ | refine k_move rfl rfl ?_ | refine k_assign rfl rfl ?_ | (refine k_indexAddrs rfl rfl rfl ⟨?_, ?_⟩ hb ?_; (omega); (omega)) | refine k_loade rfl rfl (cu _) ?_ | refine k_add rfl rfl rfl ha ?_ | (refine k_append rfl rfl rfl ?_ ?_ ?_ rfl ?_ rfl rfl rfl ?_; (first | rfl | exact trivial | (show 0 < _; omega)); (first | rfl | (simp <;> omega)); (first | rfl | (simp <;> omega)); (omega)) | (refine k_indexAddrs rfl rfl rfl ⟨?_, ?_⟩ rfl ?_; (omega); (omega)) | refine k_loade rfl rfl rfl ?_ | refine k_len rfl rfl ?_ | (refine k_addi rfl rfl rfl ?_ ?_; (omega)) | (refine k_lssT rfl rfl rfl ?_ ?_; (omega)) | (refine k_lssF rfl rfl rfl ?_ ?_; (omega)) | refine W_yes rfl ?_ | refine W_no rfl ?_)
    exact ⟨l.length - (i + 1), _, _, _, (by repeat (first | exact trivial | refine ⟨⟨rfl, rfl⟩, ?_⟩ | refine ⟨⟨rfl, bs_bel _ _⟩, ?_⟩ | refine ⟨⟨rfl, arr_bels _ _ _⟩, ?_⟩)), (by repeat (first | exact trivial | refine ⟨⟨rfl, rfl, rfl⟩, ?_⟩ | refine ⟨⟨rfl, rfl, bs_bels _ _⟩, ?_⟩ | refine ⟨⟨rfl, rfl, arr_bels _ _ _⟩, ?_⟩)), by omega, i + 1, _, by omega, ht.symm, rfl, rfl, rfl, rfl⟩
  · have ei : i = l.length := by omega
    subst ei
    rw [List.take_length, hc] at hs
    subst hs
    repeat (first | with_reducible (first | refine W_seq ?_ | refine q_then ?_ | refine q_thenx ?_ | refine W_block ?_ | refine q_block ?_ | refine q_blockx ?_ | refine W_ret ?_ | refine W_skip ?_ | refine W_exit ?_) | (with_reducible refine R_nil ?_; try dsimp only [slots0, slots_ud, lg_all, cells_U, agg_ud, drop0, dropS, takeS, take0, ud_nil, take_ud, take_ud0, drop_ud, drop_ud0, take_udk, D.cells, D.fz, D.fzs, List.take_succ_cons, List.take_zero, List.drop_succ_cons, List.drop_zero, List.cons_append, List.nil_append, List.append_eq, List.length_cons, List.length_nil, Nat.reduceAdd, Nat.reduceMul, Nat.reduceSub, Int.reduceAdd, Int.reduceSub, Int.reduceToNat, Int.reduceNeg, Int.reduceMul]) | refine W_plain rfl ?_ | refine and_chk (by kernel_rfl) ?_ | refine k_move rfl rfl ?_ | refine k_assign rfl rfl ?_ | (refine k_append rfl rfl rfl ?_ ?_ ?_ rfl ?_ rfl rfl rfl ?_; (first | rfl | exact trivial | (show 0 < _; omega)); (first | rfl | (simp <;> omega)); (first | rfl | (simp <;> omega)); (omega)) | (refine k_indexAddrs rfl rfl rfl ⟨?_, ?_⟩ rfl ?_; (omega); (omega)) | refine k_loade rfl rfl rfl ?_ | refine k_len rfl rfl ?_ | (refine k_addi rfl rfl rfl ?_ ?_; (omega)) | (refine k_lssT rfl rfl rfl ?_ ?_; (omega)) | (refine k_lssF rfl rfl rfl ?_ ?_; (omega)) | refine W_yes rfl ?_ | refine W_no rfl ?_)
    (first | with_reducible refine q_endr ?_); refine rets1 Try.results43 (by first | exact RetV.tmp _ _ rfl | exact RetV.cell _ _ _ _ _ _ _ _ inferInstance rfl rfl rfl) ?_
    rfl
set_option maxHeartbeats 4000000 in
theorem Append_ok (a b r : By) (hr : r.length ≤ 200) (h : a.length + b.length + r.length + 3 ≤ 9000) : Pur Try.prog 36 [.agg (lg a b), .slice .frozen r.length (bs r)] (.tup [.agg (lg a (b ++ rec8 r)), .int .i64 0]) := by
  have ta := tail_ok r (by omega) _ rfl
  have la := bs_len a
  have lb := bs_len b
  have lr := bs_len r
  have hsh : (r.length : Int).fdiv (2 ^ (min (8 : Int).toNat IntKind.i64.bits)) = 0 := by
    rw [Int.fdiv_eq_ediv_of_nonneg _ (by decide)]
    show (r.length : Int) / 256 = 0
    omega
  have hc0 : IntKind.u8.wrap 0 = ((UInt8.ofNat (r.length / 256)).toNat : Int) := by rw [Nat.div_eq_of_lt (by omega)]; rfl
  have hc1 : IntKind.u8.wrap (r.length : Int) = ((UInt8.ofNat r.length).toNat : Int) := by rw [u8_in _ (by omega), UInt8.toNat_ofNat']; omega
  have e : lg a (b ++ rec8 r) = [.slice .frozen (0 + a.length) (bs a), .slice .frozen (0 + b.length + (2 + r.length + 1)) (bs b ++ ([.int .u8 ((UInt8.ofNat (r.length / 256)).toNat : Int), .int .u8 ((UInt8.ofNat r.length).toNat : Int)] ++ bs r ++ [.int .u8 ((tl8 r).toNat : Int)]))] := by
    unfold lg
    rw [bs_app, List.length_append, rec8_len, Nat.zero_add, Nat.zero_add]
    have : bs (rec8 r) = [.int .u8 ((UInt8.ofNat (r.length / 256)).toNat : Int), .int .u8 ((UInt8.ofNat r.length).toNat : Int)] ++ bs r ++ [.int .u8 ((tl8 r).toNat : Int)] := by simp [rec8, bs]
    rw [this, show r.length + 3 = 2 + r.length + 1 from by omega]
  rw [e]
  generalize tl8 r = t at *
  generalize ((UInt8.ofNat (r.length / 256)).toNat : Int) = x0 at *
  generalize ((UInt8.ofNat r.length).toNat : Int) = x1 at *
  refine pur_intro Try.func36 rfl Try.ntmps36 rfl (by first | rfl | assumption | exact bs_cl _) fun B => ?_
  repeat (first | with_reducible (first | refine W_seq ?_ | refine q_then ?_ | refine W_ret ?_ | refine W_skip ?_) | (with_reducible refine R_nil ?_; try dsimp only [slots0, slots_ud, lg_all, cells_U, agg_ud, drop0, dropS, takeS, take0, ud_nil, take_ud, take_ud0, drop_ud, drop_ud0, take_udk, D.cells, D.fz, D.fzs, List.take_succ_cons, List.take_zero, List.drop_succ_cons, List.drop_zero, List.cons_append, List.nil_append, List.append_eq, List.length_cons, List.length_nil, Nat.reduceAdd, Nat.reduceMul, Nat.reduceSub, Int.reduceAdd, Int.reduceSub, Int.reduceToNat, Int.reduceNeg, Int.reduceMul]) | refine W_plain rfl ?_ | refine W_drawn mixed rfl ?_ | refine and_chk (by kernel_rfl) ?_ | refine k_move rfl rfl ?_ | refine k_assign rfl rfl ?_ | refine k_load rfl rfl rfl rfl ?_ | refine k_alloc rfl ?_ | refine k_box rfl rfl rfl ?_ | refine k_store rfl rfl rfl rfl rfl rfl rfl ?_ | refine k_fieldAddr rfl rfl rfl ?_ | refine k_build rfl rfl rfl ?_ | refine k_call rfl ta rfl rfl rfl rfl ?_ | (refine k_shr rfl rfl rfl ?_ hsh ?_; (decide)) | refine k_conv rfl rfl hc0 ?_ | refine k_conv rfl rfl hc1 ?_ | refine k_buildSlice (cs := [.int .u8 x0, .int .u8 x1]) rfl rfl rfl rfl rfl rfl rfl ?_ | refine k_buildSlice (cs := [.int .u8 (t.toNat : Int)]) rfl rfl rfl rfl rfl rfl rfl ?_ | (refine k_append rfl rfl rfl ?_ ?_ ?_ rfl ?_ rfl rfl rfl ?_; (first | rfl | exact trivial | (show 0 < _; omega)); (first | rfl | (simp <;> omega)); (first | rfl | (simp <;> omega)); (omega)) | refine k_buildSlice (cs := []) rfl rfl rfl rfl rfl rfl rfl ?_ | refine k_buildSlice rfl rfl rfl rfl rfl rfl rfl ?_ | refine k_len rfl rfl ?_ | refine k_pickF rfl rfl rfl ?_ | (refine k_addi rfl rfl rfl ?_ ?_; (omega)) | (refine k_gtrF rfl rfl rfl ?_ ?_; (omega)) | refine W_no rfl ?_)
  (first | with_reducible refine q_endr ?_); refine rets2 Try.results36 (by first | exact RetV.tmp _ _ rfl | exact RetV.cell _ _ _ _ _ _ _ _ inferInstance rfl rfl rfl) (by first | exact RetV.tmp _ _ rfl | exact RetV.cell _ _ _ _ _ _ _ _ inferInstance rfl rfl rfl) ?_ ?_
  all_goals rfl
theorem Sync_ok (a b : By) (h : a.length + b.length ≤ 9000) : Pur Try.prog 42 [.agg (lg a b)] (.agg [.slice .frozen (0 + a.length + b.length) (bs a ++ bs b), .slice .nil 0 []]) := by
  have la := bs_len a
  have lb := bs_len b
  refine pur_intro Try.func42 rfl Try.ntmps42 rfl (by first | rfl | assumption | exact bs_cl _) fun B => ?_
  repeat (first | with_reducible (first | refine W_seq ?_ | refine q_then ?_ | refine W_ret ?_) | (with_reducible refine R_nil ?_; try dsimp only [slots0, slots_ud, lg_all, cells_U, agg_ud, drop0, dropS, takeS, take0, ud_nil, take_ud, take_ud0, drop_ud, drop_ud0, take_udk, D.cells, D.fz, D.fzs, List.take_succ_cons, List.take_zero, List.drop_succ_cons, List.drop_zero, List.cons_append, List.nil_append, List.append_eq, List.length_cons, List.length_nil, Nat.reduceAdd, Nat.reduceMul, Nat.reduceSub, Int.reduceAdd, Int.reduceSub, Int.reduceToNat, Int.reduceNeg, Int.reduceMul]) | refine W_plain rfl ?_ | refine W_drawn mixed rfl ?_ | refine and_chk (by kernel_rfl) ?_ | refine k_load rfl rfl rfl rfl ?_ | refine k_alloc rfl ?_ | refine k_box rfl rfl rfl ?_ | refine k_store rfl rfl rfl rfl rfl rfl rfl ?_ | refine k_fieldAddr rfl rfl rfl ?_ | refine k_build rfl rfl rfl ?_ | (refine k_append rfl rfl rfl ?_ ?_ ?_ rfl ?_ rfl rfl rfl ?_; (first | rfl | exact trivial | (show 0 < _; omega)); (first | rfl | (simp <;> omega)); (first | rfl | (simp <;> omega)); (omega)) | refine k_buildSlice (cs := []) rfl rfl rfl rfl rfl rfl rfl ?_ | refine k_buildSlice rfl rfl rfl rfl rfl rfl rfl ?_)
  (first | with_reducible refine q_endr ?_); refine rets1 Try.results42 (by first | exact RetV.tmp _ _ rfl | exact RetV.cell _ _ _ _ _ _ _ _ inferInstance rfl rfl rfl) ?_
  all_goals rfl
end Go.Proofs.Ytcfefmbbbfdppaa
namespace Go.Proofs.Ytcfefmbbbfdppaa
open Go.RowKit Go.Lib Go.IntWalk
set_option linter.unusedVariables false
set_option maxRecDepth 100000
--nrm lg_all
end Go.Proofs.Ytcfefmbbbfdppaa
namespace Go.Proofs.Ytcfefmbbbfdppaa
open Go.RowKit Go.Lib Go.IntWalk
set_option linter.unusedVariables false
set_option maxRecDepth 100000
--nrm lg_all lgn_all rt_all
def lgn (a : By) : List D := [.slice .frozen a.length (bs a), .slice .nil 0 []]
theorem lgn_ups (a : By) : Ups (lgn a) (lg a []) := .cons (.refl _) (.cons (.nil _) .nil)
theorem Sync_at (a b : By) (h : a.length + b.length ≤ 9000) : Pur Try.prog 42 [.agg (lg a b)] (.agg (lgn (a ++ b))) := by
  have := Sync_ok a b h
  rw [← bs_app, Nat.zero_add, ← List.length_append] at this
  exact this
end Go.Proofs.Ytcfefmbbbfdppaa
