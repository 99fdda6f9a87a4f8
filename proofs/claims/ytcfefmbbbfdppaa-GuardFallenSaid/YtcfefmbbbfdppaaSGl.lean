/- log's Mend. Conditions: few bytes. -/
import Derived.Test.YtcfefmbbbfdppaaSGd
import Derived.Test.YtcfefmbbbfdppaaSGg
namespace Go.Proofs.Ytcfefmbbbfdppaa
open Go.RowKit Go.Lib
set_option linter.unusedVariables false
abbrev By := List UInt8
def tl8 (r : By) : UInt8 := r.foldl (fun s c => s + c) 0
def rec8 (r : By) : By := UInt8.ofNat (r.length / 256) :: UInt8.ofNat r.length :: (r ++ [tl8 r])
theorem rec8_len (r : By) : (rec8 r).length = r.length + 3 := by simp [rec8]
def cat8 (l : List By) : By := l.flatMap rec8
theorem cat8_app (a b : List By) : cat8 (a ++ b) = cat8 a ++ cat8 b := by simp [cat8]
def hdr (b : By) : Nat := (b[0]?.getD 0).toNat * 256 + (b[1]?.getD 0).toNat
def stopB (b : By) : Prop := b.length < 3 ∨ 200 < hdr b ∨ b.length < hdr b + 3 ∨ some (tl8 ((b.drop 2).take (hdr b))) ≠ b[hdr b + 2]?
instance (b : By) : Decidable (stopB b) := by unfold stopB; infer_instance
def opn (b : By) : List By × Nat :=
  if h : stopB b then ([], 0)
  else let q := opn (b.drop (hdr b + 3)); ((b.drop 2).take (hdr b) :: q.1, hdr b + 3 + q.2)
termination_by b.length
decreasing_by
  simp only [List.length_drop]
  unfold stopB at h
  omega
theorem opn_stop (b : By) (h : stopB b) : opn b = ([], 0) := by rw [opn, dif_pos h]
theorem opn_go (b : By) (h : ¬ stopB b) : opn b = ((b.drop 2).take (hdr b) :: (opn (b.drop (hdr b + 3))).1, hdr b + 3 + (opn (b.drop (hdr b + 3))).2) := by
  rw [opn, dif_neg h]
theorem opn_le : ∀ (k : Nat) (b : By), b.length ≤ k → (opn b).2 ≤ b.length
  | 0, b, h => by rw [opn_stop b (.inl (by omega))]; exact Nat.zero_le _
  | k + 1, b, h => by
    by_cases hs : stopB b
    · rw [opn_stop b hs]; exact Nat.zero_le _
    · rw [opn_go b hs]
      have h2 : ¬ b.length < hdr b + 3 := fun e => hs (.inr (.inr (.inl e)))
      have := opn_le k (b.drop (hdr b + 3)) (by rw [List.length_drop]; omega)
      rw [List.length_drop] at this
      show hdr b + 3 + _ ≤ _
      omega
theorem hdr_rec (r t : By) (hr : r.length ≤ 200) : hdr (rec8 r ++ t) = r.length := by
  unfold hdr rec8
  simp only [List.cons_append, List.getElem?_cons_zero, List.getElem?_cons_succ, Option.getD_some]
  rw [Nat.div_eq_of_lt (by omega)]
  have : (UInt8.ofNat r.length).toNat = r.length := by rw [UInt8.toNat_ofNat']; omega
  rw [this]
  show (UInt8.ofNat 0).toNat * 256 + _ = _
  simp
theorem opn_rec (r t : By) (hr : r.length ≤ 200) : opn (rec8 r ++ t) = (r :: (opn t).1, r.length + 3 + (opn t).2) := by
  have hh := hdr_rec r t hr
  have hl : (rec8 r ++ t).length = r.length + 3 + t.length := by rw [List.length_append, rec8_len]
  have e1 : ((rec8 r ++ t).drop 2).take r.length = r := by
    show ((r ++ [tl8 r]) ++ t).take r.length = r
    rw [List.append_assoc, List.take_left]
  have e2 : (rec8 r ++ t)[r.length + 2]? = some (tl8 r) := by
    show ((UInt8.ofNat (r.length / 256) :: UInt8.ofNat r.length :: (r ++ [tl8 r])) ++ t)[r.length + 2]? = _
    simp
  have e3 : (rec8 r ++ t).drop (r.length + 3) = t := by
    rw [← rec8_len r, List.drop_left]
  have hns : ¬ stopB (rec8 r ++ t) := by
    unfold stopB
    rw [hh, e1, e2]
    rintro (h | h | h | h)
    · omega
    · omega
    · omega
    · exact h rfl
  rw [opn_go _ hns, hh, e1, e3]
theorem opn_cat (l : List By) (t : By) (hl : ∀ r ∈ l, r.length ≤ 200) : opn (cat8 l ++ t) = (l ++ (opn t).1, (cat8 l).length + (opn t).2) := by
  induction l with
  | nil => simp [cat8]
  | cons r l ih =>
    have := ih fun x hx => hl x (List.mem_cons_of_mem _ hx)
    have e : cat8 (r :: l) ++ t = rec8 r ++ (cat8 l ++ t) := by simp [cat8]
    rw [e, opn_rec r _ (hl r (by simp)), this]
    simp [cat8, rec8_len, Nat.add_assoc]
theorem opn_part (r : By) (hr : r.length ≤ 200) (k : Nat) (hk : k < (rec8 r).length) : opn ((rec8 r).take k) = ([], 0) := by
  rw [rec8_len] at hk
  have hlen : ((rec8 r).take k).length = k := by rw [List.length_take, rec8_len]; omega
  refine opn_stop _ ?_
  by_cases h3 : k < 3
  · exact .inl (by omega)
  · refine .inr (.inr (.inl ?_))
    have hh := hdr_rec r [] hr
    rw [List.append_nil] at hh
    have : hdr ((rec8 r).take k) = hdr (rec8 r) := by
      unfold hdr
      rw [List.getElem?_take, List.getElem?_take, if_pos (by omega), if_pos (by omega)]
    rw [this, hh, hlen]; omega
def lg (a b : By) : List D := [.slice .frozen a.length (bs a), .slice .frozen b.length (bs b)]
def rcs (l : List By) : List D := l.map fun r => .slice .frozen r.length (bs r)
theorem rcs_len (l : List By) : (rcs l).length = l.length := by simp [rcs]
theorem bs_app (a b : By) : bs (a ++ b) = bs a ++ bs b := by simp [bs]
theorem bs_take (a : By) (k : Nat) : (bs a).take k = bs (a.take k) := by simp [bs, List.map_take]
theorem bs_drop (a : By) (k : Nat) : (bs a).drop k = bs (a.drop k) := by simp [bs, List.map_drop]
end Go.Proofs.Ytcfefmbbbfdppaa
namespace Go.Proofs.Ytcfefmbbbfdppaa
open Go.RowKit Go.Lib Go.IntWalk
set_option linter.unusedVariables false
set_option maxRecDepth 100000
--nrm lg_all
theorem lg_all (a b : By) : List.take 2 (lg a b) = lg a b := rfl
theorem one_cut (cs : List D) (j : Nat) (d : D) (h : cs[j]? = some d) (z : List D) : cut ⟨false, 1, z⟩ 0 (cs.drop j) = some d := by
  have hlt := (List.getElem?_eq_some_iff.1 h).1
  unfold cut
  simp only [cond_false, List.drop_zero]
  rw [List.getElem?_drop]
  simpa using h
theorem bs_cut (l : By) (i : Nat) (x : UInt8) (h : l[i]? = some x) (z : List D) : cut ⟨false, 1, z⟩ 0 ((bs l).drop ((i : Int).toNat * 1)) = some (.int .u8 (x.toNat : Int)) := by
  rw [Int.toNat_natCast, Nat.mul_one]
  exact one_cut _ _ _ (bs_get l i x h) z
theorem tl8_take (l : By) (i : Nat) (x : UInt8) (h : l[i]? = some x) : tl8 (l.take (i + 1)) = tl8 (l.take i) + x := by
  unfold tl8
  rw [List.take_add_one, h]
  simp [List.foldl_append]
theorem u8_add (a b : UInt8) : IntKind.u8.wrap ((a.toNat : Int) + (b.toNat : Int)) = (((a + b).toNat : Nat) : Int) := by
  rw [IntKind.wrap_u8, UInt8.toNat_add]; omega
set_option maxHeartbeats 4000000 in
theorem tail_ok (l : By) (hl : l.length ≤ 100000) (c : UInt8) (hc : tl8 l = c) : Pur Try.prog 43 [.slice .frozen l.length (bs l)] (.int .u8 (c.toNat : Int)) := by
  have hb : l.length * 1 = (bs l).length := by rw [bs_len, Nat.mul_one]
  refine pur_intro Try.func43 rfl Try.ntmps43 rfl (by first | rfl | assumption | exact bs_cl _) fun B => ?_
  repeat (first | with_reducible (first | refine W_seq ?_ | refine q_then ?_ | refine q_thenx ?_ | refine W_block ?_ | refine q_block ?_ | refine q_blockx ?_ | refine W_ret ?_ | refine W_skip ?_ | refine W_exit ?_) | (with_reducible refine R_nil ?_; try dsimp only [slots0, slots_ud, lg_all, cells_U, agg_ud, drop0, dropS, takeS, take0, ud_nil, take_ud, take_ud0, drop_ud, drop_ud0, take_udk, D.cells, D.fz, D.fzs, List.take_succ_cons, List.take_zero, List.drop_succ_cons, List.drop_zero, List.cons_append, List.nil_append, List.append_eq, List.length_cons, List.length_nil, Nat.reduceAdd, Nat.reduceMul, Nat.reduceSub, Int.reduceAdd, Int.reduceSub, Int.reduceToNat, Int.reduceNeg, Int.reduceMul]) | refine W_plain rfl ?_ | refine and_chk (by kernel_rfl) ?_ | refine k_move rfl rfl ?_ | refine k_assign rfl rfl ?_ | (refine k_indexAddrs rfl rfl rfl ⟨?_, ?_⟩ rfl ?_; (omega); (omega)) | refine k_loade rfl rfl rfl ?_ | refine k_len rfl rfl ?_ | (refine k_addi rfl rfl rfl ?_ ?_; (omega)) | (refine k_lssT rfl rfl rfl ?_ ?_; (omega)) | (refine k_lssF rfl rfl rfl ?_ ?_; (omega)) | refine W_yes rfl ?_ | refine W_no rfl ?_)
  refine W_loop (fun n' ρ m nx => ∃ (i : Nat) (s : UInt8), i ≤ l.length ∧ s = tl8 (l.take i) ∧ n' = l.length - i ∧ ρ = [(8, .int .i64 (i : Int)), (7, .int .i64 (l.length : Int)), (6, .slice .frozen l.length (bs l)), (3, .int .u8 (s.toNat : Int)), (2, .int .u8 0)] ∧ m = [] ∧ nx = 0)
    ⟨_, _, _, _, (by repeat (first | exact trivial | refine ⟨⟨rfl, rfl⟩, ?_⟩ | refine ⟨⟨rfl, bs_bel _ _⟩, ?_⟩ | refine ⟨⟨rfl, arr_bels _ _ _⟩, ?_⟩)), (by repeat (first | exact trivial | refine ⟨⟨rfl, rfl, rfl⟩, ?_⟩ | refine ⟨⟨rfl, rfl, bs_bels _ _⟩, ?_⟩ | refine ⟨⟨rfl, rfl, arr_bels _ _ _⟩, ?_⟩)), 0, 0, Nat.zero_le _, rfl, rfl, rfl, rfl, rfl⟩ ?_
  rintro n' ρ m nx ⟨i, s, hi, hs, rfl, rfl, rfl, rfl⟩
  by_cases hlt : i < l.length
  · obtain ⟨x, hx⟩ : ∃ x, l[i]? = some x := ⟨_, List.getElem?_eq_getElem hlt⟩
    have cu := bs_cut l i x hx
    have ha := u8_add s x
    have ht := tl8_take l i x hx
    rw [← hs] at ht
    repeat (first | with_reducible (first | refine W_seq ?_ | refine q_then ?_ | refine q_thenx ?_ | refine W_block ?_ | refine q_block ?_ | refine q_blockx ?_ | refine W_ret ?_ | refine W_skip ?_ | refine W_exit ?_) | (with_reducible refine R_nil ?_; try dsimp only [slots0, slots_ud, lg_all, cells_U, agg_ud, drop0, dropS, takeS, take0, ud_nil, take_ud, take_ud0, drop_ud, drop_ud0, take_udk, D.cells, D.fz, D.fzs, List.take_succ_cons, List.take_zero, List.drop_succ_cons, List.drop_zero, List.cons_append, List.nil_append, List.append_eq, List.length_cons, List.length_nil, Nat.reduceAdd, Nat.reduceMul, Nat.reduceSub, Int.reduceAdd, Int.reduceSub, Int.reduceToNat, Int.reduceNeg, Int.reduceMul]) | refine W_plain rfl ?_ | refine and_chk (by kernel_rfl) ?_ | refine k_move rfl rfl ?_ | refine k_assign rfl rfl ?_ | (refine k_indexAddrs rfl rfl rfl ⟨?_, ?_⟩ hb ?_; (omega); (omega)) | refine k_loade rfl rfl (cu _) ?_ | refine k_add rfl rfl rfl ha ?_ | (refine k_append rfl rfl rfl ?_ ?_ ?_ rfl ?_ rfl rfl rfl ?_; (first | rfl | exact trivial | (show 0 < _; omega)); (first | rfl | (simp <;> omega)); (first | rfl | (simp <;> omega)); (omega)) | (refine k_indexAddrs rfl rfl rfl ⟨?_, ?_⟩ rfl ?_; (omega); (omega)) | refine k_loade rfl rfl rfl ?_ | refine k_len rfl rfl ?_ | (refine k_addi rfl rfl rfl ?_ ?_; (omega)) | (refine k_lssT rfl rfl rfl ?_ ?_; (omega)) | (refine k_lssF rfl rfl rfl ?_ ?_; (omega)) | refine W_yes rfl ?_ | refine W_no rfl ?_)
    exact ⟨l.length - (i + 1), _, _, _, (by repeat (first | exact trivial | refine ⟨⟨rfl, rfl⟩, ?_⟩ | refine ⟨⟨rfl, bs_bel _ _⟩, ?_⟩ | refine ⟨⟨rfl, arr_bels _ _ _⟩, ?_⟩)), (by repeat (first | exact trivial | refine ⟨⟨rfl, rfl, rfl⟩, ?_⟩ | refine ⟨⟨rfl, rfl, bs_bels _ _⟩, ?_⟩ | refine ⟨⟨rfl, rfl, arr_bels _ _ _⟩, ?_⟩)), by omega, i + 1, _, by omega, ht.symm, rfl, rfl, rfl, rfl⟩
  · have ei : i = l.length := by omega
    subst ei
    rw [List.take_length, hc] at hs
    subst hs
    repeat (first | with_reducible (first | refine W_seq ?_ | refine q_then ?_ | refine q_thenx ?_ | refine W_block ?_ | refine q_block ?_ | refine q_blockx ?_ | refine W_ret ?_ | refine W_skip ?_ | refine W_exit ?_) | (with_reducible refine R_nil ?_; try dsimp only [slots0, slots_ud, lg_all, cells_U, agg_ud, drop0, dropS, takeS, take0, ud_nil, take_ud, take_ud0, drop_ud, drop_ud0, take_udk, D.cells, D.fz, D.fzs, List.take_succ_cons, List.take_zero, List.drop_succ_cons, List.drop_zero, List.cons_append, List.nil_append, List.append_eq, List.length_cons, List.length_nil, Nat.reduceAdd, Nat.reduceMul, Nat.reduceSub, Int.reduceAdd, Int.reduceSub, Int.reduceToNat, Int.reduceNeg, Int.reduceMul]) | refine W_plain rfl ?_ | refine and_chk (by kernel_rfl) ?_ | refine k_move rfl rfl ?_ | refine k_assign rfl rfl ?_ | (refine k_append rfl rfl rfl ?_ ?_ ?_ rfl ?_ rfl rfl rfl ?_; (first | rfl | exact trivial | (show 0 < _; omega)); (first | rfl | (simp <;> omega)); (first | rfl | (simp <;> omega)); (omega)) | (refine k_indexAddrs rfl rfl rfl ⟨?_, ?_⟩ rfl ?_; (omega); (omega)) | refine k_loade rfl rfl rfl ?_ | refine k_len rfl rfl ?_ | (refine k_addi rfl rfl rfl ?_ ?_; (omega)) | (refine k_lssT rfl rfl rfl ?_ ?_; (omega)) | (refine k_lssF rfl rfl rfl ?_ ?_; (omega)) | refine W_yes rfl ?_ | refine W_no rfl ?_)
    (first | with_reducible refine q_endr ?_); refine rets1 Try.results43 (by first | exact RetV.tmp _ _ rfl | exact RetV.cell _ _ _ _ _ _ _ _ inferInstance rfl rfl rfl) ?_
    rfl
set_option maxHeartbeats 4000000 in
theorem Append_ok (a b r : By) (hr : r.length ≤ 200) (h : a.length + b.length + r.length + 3 ≤ 9000) : Pur Try.prog 36 [.agg (lg a b), .slice .frozen r.length (bs r)] (.tup [.agg (lg a (b ++ rec8 r)), .int .i64 0]) := by
  have ta := tail_ok r (by omega) _ rfl
  have la := bs_len a
  have lb := bs_len b
  have lr := bs_len r
  have hsh : (r.length : Int).fdiv (2 ^ (min (8 : Int).toNat IntKind.i64.bits)) = 0 := by
    rw [Int.fdiv_eq_ediv_of_nonneg _ (by decide)]
    show (r.length : Int) / 256 = 0
    omega
  have hc0 : IntKind.u8.wrap 0 = ((UInt8.ofNat (r.length / 256)).toNat : Int) := by rw [Nat.div_eq_of_lt (by omega)]; rfl
  have hc1 : IntKind.u8.wrap (r.length : Int) = ((UInt8.ofNat r.length).toNat : Int) := by rw [u8_in _ (by omega), UInt8.toNat_ofNat']; omega
  have e : lg a (b ++ rec8 r) = [.slice .frozen (0 + a.length) (bs a), .slice .frozen (0 + b.length + (2 + r.length + 1)) (bs b ++ ([.int .u8 ((UInt8.ofNat (r.length / 256)).toNat : Int), .int .u8 ((UInt8.ofNat r.length).toNat : Int)] ++ bs r ++ [.int .u8 ((tl8 r).toNat : Int)]))] := by
    unfold lg
    rw [bs_app, List.length_append, rec8_len, Nat.zero_add, Nat.zero_add]
    have : bs (rec8 r) = [.int .u8 ((UInt8.ofNat (r.length / 256)).toNat : Int), .int .u8 ((UInt8.ofNat r.length).toNat : Int)] ++ bs r ++ [.int .u8 ((tl8 r).toNat : Int)] := by simp [rec8, bs]
    rw [this, show r.length + 3 = 2 + r.length + 1 from by omega]
  rw [e]
  generalize tl8 r = t at *
  generalize ((UInt8.ofNat (r.length / 256)).toNat : Int) = x0 at *
  generalize ((UInt8.ofNat r.length).toNat : Int) = x1 at *
  refine pur_intro Try.func36 rfl Try.ntmps36 rfl (by first | rfl | assumption | exact bs_cl _) fun B => ?_
  repeat (first | with_reducible (first | refine W_seq ?_ | refine q_then ?_ | refine W_ret ?_ | refine W_skip ?_) | (with_reducible refine R_nil ?_; try dsimp only [slots0, slots_ud, lg_all, cells_U, agg_ud, drop0, dropS, takeS, take0, ud_nil, take_ud, take_ud0, drop_ud, drop_ud0, take_udk, D.cells, D.fz, D.fzs, List.take_succ_cons, List.take_zero, List.drop_succ_cons, List.drop_zero, List.cons_append, List.nil_append, List.append_eq, List.length_cons, List.length_nil, Nat.reduceAdd, Nat.reduceMul, Nat.reduceSub, Int.reduceAdd, Int.reduceSub, Int.reduceToNat, Int.reduceNeg, Int.reduceMul]) | refine W_plain rfl ?_ | refine W_drawn mixed rfl ?_ | refine and_chk (by kernel_rfl) ?_ | refine k_move rfl rfl ?_ | refine k_assign rfl rfl ?_ | refine k_load rfl rfl rfl rfl ?_ | refine k_alloc rfl ?_ | refine k_box rfl rfl rfl ?_ | refine k_store rfl rfl rfl rfl rfl rfl rfl ?_ | refine k_fieldAddr rfl rfl rfl ?_ | refine k_build rfl rfl rfl ?_ | refine k_call rfl ta rfl rfl rfl rfl ?_ | (refine k_shr rfl rfl rfl ?_ hsh ?_; (decide)) | refine k_conv rfl rfl hc0 ?_ | refine k_conv rfl rfl hc1 ?_ | refine k_buildSlice (cs := [.int .u8 x0, .int .u8 x1]) rfl rfl rfl rfl rfl rfl rfl ?_ | refine k_buildSlice (cs := [.int .u8 (t.toNat : Int)]) rfl rfl rfl rfl rfl rfl rfl ?_ | (refine k_append rfl rfl rfl ?_ ?_ ?_ rfl ?_ rfl rfl rfl ?_; (first | rfl | exact trivial | (show 0 < _; omega)); (first | rfl | (simp <;> omega)); (first | rfl | (simp <;> omega)); (omega)) | refine k_buildSlice (cs := []) rfl rfl rfl rfl rfl rfl rfl ?_ | refine k_buildSlice rfl rfl rfl rfl rfl rfl rfl ?_ | refine k_len rfl rfl ?_ | refine k_pickF rfl rfl rfl ?_ | (refine k_addi rfl rfl rfl ?_ ?_; (omega)) | (refine k_gtrF rfl rfl rfl ?_ ?_; (omega)) | refine W_no rfl ?_)
  (first | with_reducible refine q_endr ?_); refine rets2 Try.results36 (by first | exact RetV.tmp _ _ rfl | exact RetV.cell _ _ _ _ _ _ _ _ inferInstance rfl rfl rfl) (by first | exact RetV.tmp _ _ rfl | exact RetV.cell _ _ _ _ _ _ _ _ inferInstance rfl rfl rfl) ?_ ?_
  all_goals rfl
theorem Sync_ok (a b : By) (h : a.length + b.length ≤ 9000) : Pur Try.prog 42 [.agg (lg a b)] (.agg [.slice .frozen (0 + a.length + b.length) (bs a ++ bs b), .slice .nil 0 []]) := by
  have la := bs_len a
  have lb := bs_len b
  refine pur_intro Try.func42 rfl Try.ntmps42 rfl (by first | rfl | assumption | exact bs_cl _) fun B => ?_
  repeat (first | with_reducible (first | refine W_seq ?_ | refine q_then ?_ | refine W_ret ?_) | (with_reducible refine R_nil ?_; try dsimp only [slots0, slots_ud, lg_all, cells_U, agg_ud, drop0, dropS, takeS, take0, ud_nil, take_ud, take_ud0, drop_ud, drop_ud0, take_udk, D.cells, D.fz, D.fzs, List.take_succ_cons, List.take_zero, List.drop_succ_cons, List.drop_zero, List.cons_append, List.nil_append, List.append_eq, List.length_cons, List.length_nil, Nat.reduceAdd, Nat.reduceMul, Nat.reduceSub, Int.reduceAdd, Int.reduceSub, Int.reduceToNat, Int.reduceNeg, Int.reduceMul]) | refine W_plain rfl ?_ | refine W_drawn mixed rfl ?_ | refine and_chk (by kernel_rfl) ?_ | refine k_load rfl rfl rfl rfl ?_ | refine k_alloc rfl ?_ | refine k_box rfl rfl rfl ?_ | refine k_store rfl rfl rfl rfl rfl rfl rfl ?_ | refine k_fieldAddr rfl rfl rfl ?_ | refine k_build rfl rfl rfl ?_ | (refine k_append rfl rfl rfl ?_ ?_ ?_ rfl ?_ rfl rfl rfl ?_; (first | rfl | exact trivial | (show 0 < _; omega)); (first | rfl | (simp <;> omega)); (first | rfl | (simp <;> omega)); (omega)) | refine k_buildSlice (cs := []) rfl rfl rfl rfl rfl rfl rfl ?_ | refine k_buildSlice rfl rfl rfl rfl rfl rfl rfl ?_)
  (first | with_reducible refine q_endr ?_); refine rets1 Try.results42 (by first | exact RetV.tmp _ _ rfl | exact RetV.cell _ _ _ _ _ _ _ _ inferInstance rfl rfl rfl) ?_
  all_goals rfl
theorem Crash_ok (a b : By) (h : a.length + b.length ≤ 9000) (k : Nat) (hk : k ≤ b.length) : Pur Try.prog 37 [.agg (lg a b), .int .i64 k] (.tup [.agg [.slice .frozen (0 + a.length + k) (bs a ++ bs (b.take k)), .slice .nil 0 []], .int .i64 0]) := by
  have la := bs_len a
  have lb := bs_len b
  have lk : (bs (b.take k)).length = k := by rw [bs_len, List.length_take]; omega
  have hb : b.length * 1 = (bs b).length := by rw [bs_len, Nat.mul_one]
  have h1 : ((k : Int) - 0).toNat = k := by omega
  have h2 : ((bs b).drop ((0 : Int).toNat * 1)).take (k * 1) = bs (b.take k) := by
    rw [Nat.mul_one, ← bs_take]; rfl
  refine pur_intro Try.func37 rfl Try.ntmps37 rfl (by first | rfl | assumption | exact bs_cl _) fun B => ?_
  repeat (first | with_reducible (first | refine W_seq ?_ | refine q_then ?_ | refine W_ret ?_ | refine W_skip ?_) | (with_reducible refine R_nil ?_; try dsimp only [slots0, slots_ud, lg_all, cells_U, agg_ud, drop0, dropS, takeS, take0, ud_nil, take_ud, take_ud0, drop_ud, drop_ud0, take_udk, D.cells, D.fz, D.fzs, List.take_succ_cons, List.take_zero, List.drop_succ_cons, List.drop_zero, List.cons_append, List.nil_append, List.append_eq, List.length_cons, List.length_nil, Nat.reduceAdd, Nat.reduceMul, Nat.reduceSub, Int.reduceAdd, Int.reduceSub, Int.reduceToNat, Int.reduceNeg, Int.reduceMul]) | refine W_plain rfl ?_ | refine W_drawn mixed rfl ?_ | refine and_chk (by kernel_rfl) ?_ | refine k_move rfl rfl ?_ | refine k_assign rfl rfl ?_ | refine k_load rfl rfl rfl rfl ?_ | refine k_alloc rfl ?_ | refine k_box rfl rfl rfl ?_ | refine k_store rfl rfl rfl rfl rfl rfl rfl ?_ | refine k_fieldAddr rfl rfl rfl ?_ | refine k_build rfl rfl rfl ?_ | (refine k_slice rfl rfl rfl rfl ⟨?_, ?_, ?_⟩ (by exact hb) (by exact h1) (by exact h2) ?_; (omega); (omega); (omega)) | (refine k_append rfl rfl rfl ?_ ?_ ?_ rfl ?_ rfl rfl rfl ?_; (first | rfl | exact trivial | (show 0 < _; omega)); (first | rfl | (simp <;> omega)); (first | rfl | (simp <;> omega)); (omega)) | (refine k_slice rfl rfl rfl rfl ⟨?_, ?_, ?_⟩ rfl rfl rfl ?_; (omega); (omega); (omega)) | refine k_buildSlice (cs := []) rfl rfl rfl rfl rfl rfl rfl ?_ | refine k_buildSlice rfl rfl rfl rfl rfl rfl rfl ?_ | refine k_len rfl rfl ?_ | refine k_pickF rfl rfl rfl ?_ | (refine k_lssF rfl rfl rfl ?_ ?_; (omega)) | (refine k_gtrF rfl rfl rfl ?_ ?_; (omega)) | refine W_no rfl ?_)
  (first | with_reducible refine q_endr ?_); refine rets2 Try.results37 (by first | exact RetV.tmp _ _ rfl | exact RetV.cell _ _ _ _ _ _ _ _ inferInstance rfl rfl rfl) (by first | exact RetV.tmp _ _ rfl | exact RetV.cell _ _ _ _ _ _ _ _ inferInstance rfl rfl rfl) ?_ ?_
  all_goals rfl
end Go.Proofs.Ytcfefmbbbfdppaa
namespace Go.Proofs.Ytcfefmbbbfdppaa
open Go.RowKit Go.Lib Go.IntWalk
set_option linter.unusedVariables false
set_option maxRecDepth 100000
--nrm lg_all
theorem or8 (x y : UInt8) : bitw .or .i64 ((x.toNat : Int) * 256) (y.toNat : Int) = (x.toNat : Int) * 256 + (y.toNat : Int) := by
  have hx := x.toNat_lt
  have hy := y.toNat_lt
  have e1 : (BitVec.ofInt 64 ((x.toNat : Int) * 256)).toNat = x.toNat * 256 := by
    rw [BitVec.toNat_ofInt]; omega
  have e2 : (BitVec.ofInt 64 (y.toNat : Int)).toNat = y.toNat := by
    rw [BitVec.toNat_ofInt]; omega
  have e3 : x.toNat * 256 ||| y.toNat = x.toNat * 256 + y.toNat := by
    have := Nat.shiftLeft_add_eq_or_of_lt (i := 8) (b := y.toNat) (by omega) x.toNat
    rw [Nat.shiftLeft_eq] at this
    exact this.symm
  show IntKind.i64.wrap (((BitVec.ofInt 64 ((x.toNat : Int) * 256) ||| BitVec.ofInt 64 (y.toNat : Int)).toNat : Nat) : Int) = _
  rw [BitVec.toNat_or, e1, e2, e3, i64_in _ (by omega)]
  omega
theorem shl8 (x : UInt8) : IntKind.i64.wrap ((x.toNat : Int) * 2 ^ (min (8 : Int).toNat IntKind.i64.bits)) = (x.toNat : Int) * 256 := by
  have hx := x.toNat_lt
  show IntKind.i64.wrap ((x.toNat : Int) * 256) = _
  rw [i64_in _ (by omega)]
set_option maxHeartbeats 8000000 in
theorem Open_ok (a b : By) (h : a.length + b.length ≤ 9000) (l : List By) (at_ : Nat) (ho : opn (a ++ b) = (l, at_)) : Pur Try.prog 23 [.agg (lg a b)] (.tup [.slice .frozen l.length (rcs l), .int .i64 at_]) := by
  have la := bs_len a
  have lb := bs_len b
  obtain ⟨c, hc⟩ : ∃ c, a ++ b = c := ⟨_, rfl⟩
  have hcl : c.length ≤ 9000 := by rw [← hc, List.length_append]; exact h
  rw [hc] at ho
  refine pur_intro Try.func23 rfl Try.ntmps23 rfl (by first | rfl | assumption | exact bs_cl _) fun B => ?_
  repeat (first | with_reducible (first | refine W_seq ?_ | refine q_then ?_ | refine q_thenx ?_ | refine W_block ?_ | refine q_block ?_ | refine q_blockx ?_ | refine W_ret ?_ | refine W_skip ?_ | refine W_label ?_ | refine W_exit ?_ | refine W_scope ?_ | refine q_scoper ?_) | (with_reducible refine R_nil ?_; try dsimp only [slots0, slots_ud, lg_all, lg_all, cells_U, agg_ud, drop0, dropS, takeS, take0, ud_nil, take_ud, take_ud0, drop_ud, drop_ud0, take_udk, D.cells, D.fz, D.fzs, List.take_succ_cons, List.take_zero, List.drop_succ_cons, List.drop_zero, List.cons_append, List.nil_append, List.append_eq, List.length_cons, List.length_nil, Nat.reduceAdd, Nat.reduceMul, Nat.reduceSub, Int.reduceAdd, Int.reduceSub, Int.reduceToNat, Int.reduceNeg, Int.reduceMul]) | refine q_blocky rfl ?_ | refine W_plain rfl ?_ | refine W_drawn mixed rfl ?_ | refine and_chk (by kernel_rfl) ?_ | refine k_move rfl rfl ?_ | refine k_assign rfl rfl ?_ | refine k_load rfl rfl rfl rfl ?_ | refine k_box rfl rfl rfl ?_ | refine k_fieldAddr rfl rfl rfl ?_ | (refine k_append rfl rfl rfl ?_ ?_ ?_ rfl ?_ rfl rfl rfl ?_; (first | rfl | exact trivial | (show 0 < _; omega)); (first | rfl | (simp <;> omega)); (first | rfl | (simp <;> omega)); (omega)) | (refine k_slice rfl rfl rfl rfl ⟨?_, ?_, ?_⟩ rfl rfl rfl ?_; (omega); (omega); (omega)) | refine k_buildSlice (cs := []) rfl rfl rfl rfl rfl rfl rfl ?_ | refine k_buildSlice rfl rfl rfl rfl rfl rfl rfl ?_ | (refine k_indexAddrs rfl rfl rfl ⟨?_, ?_⟩ rfl ?_; (omega); (omega)) | refine k_loade rfl rfl rfl ?_ | refine k_len rfl rfl ?_ | (refine k_addi rfl rfl rfl ?_ ?_; (omega)) | (refine k_subi rfl rfl rfl ?_ ?_; (omega)) | (refine k_lssT rfl rfl rfl ?_ ?_; (omega)) | (refine k_lssF rfl rfl rfl ?_ ?_; (omega)) | (refine k_gtrT rfl rfl rfl ?_ ?_; (omega)) | (refine k_gtrF rfl rfl rfl ?_ ?_; (omega)) | (refine k_geqT rfl rfl rfl ?_ ?_; (omega)) | (refine k_geqF rfl rfl rfl ?_ ?_; (omega)) | (refine k_neqT rfl rfl rfl ?_ ?_; (omega)) | (refine k_neqF rfl rfl rfl ?_ ?_; (omega)) | refine W_yes rfl ?_ | refine W_no rfl ?_)
  refine W_of_weak (weak_tok 32 1) ?_
  refine W_loopW (fun n' ρ m nx => ∃ (p : Nat) (d : List By) (nd q : Nat) (z zo : List D), nd = d.length ∧ zo = rcs d ∧ q = c.length ∧ z = bs c ∧ p ≤ c.length ∧ opn c = (d ++ (opn (c.drop p)).1, p + (opn (c.drop p)).2) ∧ n' = c.length - p ∧ ρ = [(6, .slice (.own 1) nd zo), (5, .int .i64 (p : Int)), (4, .slice .frozen q z)] ∧ m = [(1, some (.tok 32 1))] ∧ nx = 2)
    ⟨_, _, _, _, (weak_ren (fun l => if l = 1 then 4 else l) (by repeat (first | exact trivial | refine ⟨⟨_, rfl, (by first | exact Up.refl _ | exact Up.fz _ _ _ | exact Up.nil _ | exact Up.nrs _ | assumption), rfl⟩, ?_⟩)) (by repeat (first | exact trivial | refine ⟨⟨rfl, _, rfl, (by first | exact Ups.refl _ | assumption | ((repeat refine Ups.cons (by first | exact Up.refl _ | exact Up.nil _ | exact Up.fz _ _ _) ?_); exact Ups.nil)), rfl⟩, ?_⟩ | refine ⟨⟨rfl, rfl⟩, ?_⟩ | refine ⟨⟨rfl, _, rfl, bs_ups _ _, bs_lalls _ _⟩, ?_⟩ | refine ⟨⟨rfl, _, rfl, cls_ups _ _ (by assumption), cls_lalls _ _ (by assumption)⟩, ?_⟩)) (by first | decide | simp) (Nat.zero_le _) (fun _ h => absurd h (Nat.not_lt_zero _))), 0, [], 0, _, _, [], rfl, rfl, (by rw [← hc, List.length_append]; omega : 0 + a.length + b.length = c.length), (by rw [← hc, bs_app] : bs a ++ bs b = bs c), Nat.zero_le _, by simp, rfl, rfl, rfl, rfl⟩ ?_
  rintro n' ρ m nx ⟨p, d, nd, q, z, zo, hnd, hzo, hq, hz, hp, hop, rfl, rfl, rfl, rfl⟩
  have hzl : q * 1 = z.length := by rw [hz, hq, bs_len, Nat.mul_one]
  have hel : (c.drop p).length = c.length - p := List.length_drop
  have hd9 : nd ≤ 9000 := by
    have h1 := opn_le c.length c (Nat.le_refl _)
    have h2 : ∀ (k : Nat) (b : By), b.length ≤ k → (opn b).1.length ≤ b.length := by
      intro k
      induction k with
      | zero => intro b hb; rw [opn_stop b (.inl (by omega))]; exact Nat.zero_le _
      | succ k ih =>
        intro b hb
        by_cases hs : stopB b
        · rw [opn_stop b hs]; exact Nat.zero_le _
        · rw [opn_go b hs]
          have h2 : ¬ b.length < hdr b + 3 := fun e => hs (.inr (.inr (.inl e)))
          have := ih (b.drop (hdr b + 3)) (by rw [List.length_drop]; omega)
          rw [List.length_drop] at this
          show (_ :: _).length ≤ _
          rw [List.length_cons]; omega
    have := h2 c.length c (Nat.le_refl _)
    rw [hop] at this
    simp at this; omega
  have hzol : zo.length = nd := by rw [hzo, rcs_len, hnd]
  by_cases h3 : (c.drop p).length < 3
  · have hs : stopB (c.drop p) := .inl h3
    have hst := opn_stop _ hs
    rw [hst, List.append_nil, Nat.add_zero, ho] at hop
    injection hop with h1 h2
    subst h1; subst h2; subst hnd; subst hzo
    repeat (first | with_reducible (first | refine W_seq ?_ | refine q_then ?_ | refine q_thenx ?_ | refine W_block ?_ | refine q_block ?_ | refine q_blockx ?_ | refine W_ret ?_ | refine W_skip ?_ | refine W_label ?_ | refine W_exit ?_ | refine W_scope ?_ | refine q_scoper ?_) | (with_reducible refine R_nil ?_; try dsimp only [slots0, slots_ud, lg_all, lg_all, cells_U, agg_ud, drop0, dropS, takeS, take0, ud_nil, take_ud, take_ud0, drop_ud, drop_ud0, take_udk, D.cells, D.fz, D.fzs, List.take_succ_cons, List.take_zero, List.drop_succ_cons, List.drop_zero, List.cons_append, List.nil_append, List.append_eq, List.length_cons, List.length_nil, Nat.reduceAdd, Nat.reduceMul, Nat.reduceSub, Int.reduceAdd, Int.reduceSub, Int.reduceToNat, Int.reduceNeg, Int.reduceMul]) | refine q_blocky rfl ?_ | refine W_plain rfl ?_ | refine W_drawn mixed rfl ?_ | refine and_chk (by kernel_rfl) ?_ | refine k_move rfl rfl ?_ | refine k_assign rfl rfl ?_ | refine k_load rfl rfl rfl rfl ?_ | refine k_box rfl rfl rfl ?_ | refine k_fieldAddr rfl rfl rfl ?_ | (refine k_append rfl rfl rfl ?_ ?_ ?_ rfl ?_ rfl rfl rfl ?_; (first | rfl | exact trivial | (show 0 < _; omega)); (first | rfl | (simp <;> omega)); (first | rfl | (simp <;> omega)); (omega)) | (refine k_slice rfl rfl rfl rfl ⟨?_, ?_, ?_⟩ rfl rfl rfl ?_; (omega); (omega); (omega)) | refine k_buildSlice (cs := []) rfl rfl rfl rfl rfl rfl rfl ?_ | refine k_buildSlice rfl rfl rfl rfl rfl rfl rfl ?_ | (refine k_indexAddrs rfl rfl rfl ⟨?_, ?_⟩ rfl ?_; (omega); (omega)) | refine k_loade rfl rfl rfl ?_ | refine k_len rfl rfl ?_ | (refine k_addi rfl rfl rfl ?_ ?_; (omega)) | (refine k_subi rfl rfl rfl ?_ ?_; (omega)) | (refine k_lssT rfl rfl rfl ?_ ?_; (omega)) | (refine k_lssF rfl rfl rfl ?_ ?_; (omega)) | (refine k_gtrT rfl rfl rfl ?_ ?_; (omega)) | (refine k_gtrF rfl rfl rfl ?_ ?_; (omega)) | (refine k_geqT rfl rfl rfl ?_ ?_; (omega)) | (refine k_geqF rfl rfl rfl ?_ ?_; (omega)) | (refine k_neqT rfl rfl rfl ?_ ?_; (omega)) | (refine k_neqF rfl rfl rfl ?_ ?_; (omega)) | refine W_yes rfl ?_ | refine W_no rfl ?_)
    (first | with_reducible refine q_endr ?_); refine rets2 Try.results23 (by first | exact RetV.tmp _ _ rfl | exact RetV.cell _ _ _ _ _ _ _ _ inferInstance rfl rfl rfl) (by first | exact RetV.tmp _ _ rfl | exact RetV.cell _ _ _ _ _ _ _ _ inferInstance rfl rfl rfl) ?_ ?_
    · rfl
    · rfl
  · obtain ⟨x0, hx0⟩ : ∃ x, c[p]? = some x := ⟨_, List.getElem?_eq_getElem (by omega)⟩
    obtain ⟨x1, hx1⟩ : ∃ x, c[p + 1]? = some x := ⟨_, List.getElem?_eq_getElem (by omega)⟩
    have cu0 := bs_cut c p x0 hx0
    have cu1 : ∀ z, cut ⟨false, 1, z⟩ 0 ((bs c).drop (((p : Int) + 1).toNat * 1)) = some (.int .u8 (x1.toNat : Int)) := bs_cut c (p + 1) x1 hx1
    rw [← hz] at cu0 cu1
    have hh : hdr (c.drop p) = x0.toNat * 256 + x1.toNat := by
      unfold hdr
      rw [List.getElem?_drop, List.getElem?_drop, Nat.add_zero, hx0, hx1]; rfl
    have b0 := x0.toNat_lt
    have b1 := x1.toNat_lt
    have hv0 : IntKind.i64.wrap (x0.toNat : Int) = (x0.toNat : Int) := i64_in _ (by omega)
    have hv1 : IntKind.i64.wrap (x1.toNat : Int) = (x1.toNat : Int) := i64_in _ (by omega)
    have sh := shl8 x0
    have orr : bitw .or .i64 ((x0.toNat : Int) * 256) (x1.toNat : Int) = ((hdr (c.drop p) : Nat) : Int) := by rw [or8, hh]; omega
    obtain ⟨k, hk⟩ : ∃ k, hdr (c.drop p) = k := ⟨_, rfl⟩
    rw [hk] at orr hh
    by_cases h200 : 200 < k
    · have hs : stopB (c.drop p) := .inr (.inl (by rw [hk]; exact h200))
      have hst := opn_stop _ hs
      rw [hst, List.append_nil, Nat.add_zero, ho] at hop
      injection hop with h1 h2
      subst h1; subst h2; subst hnd; subst hzo
      repeat (first | with_reducible (first | refine W_seq ?_ | refine q_then ?_ | refine q_thenx ?_ | refine W_block ?_ | refine q_block ?_ | refine q_blockx ?_ | refine W_ret ?_ | refine W_skip ?_ | refine W_label ?_ | refine W_exit ?_ | refine W_scope ?_ | refine q_scoper ?_) | (with_reducible refine R_nil ?_; try dsimp only [slots0, slots_ud, lg_all, lg_all, cells_U, agg_ud, drop0, dropS, takeS, take0, ud_nil, take_ud, take_ud0, drop_ud, drop_ud0, take_udk, D.cells, D.fz, D.fzs, List.take_succ_cons, List.take_zero, List.drop_succ_cons, List.drop_zero, List.cons_append, List.nil_append, List.append_eq, List.length_cons, List.length_nil, Nat.reduceAdd, Nat.reduceMul, Nat.reduceSub, Int.reduceAdd, Int.reduceSub, Int.reduceToNat, Int.reduceNeg, Int.reduceMul]) | refine q_blocky rfl ?_ | refine W_plain rfl ?_ | refine W_drawn mixed rfl ?_ | refine and_chk (by kernel_rfl) ?_ | refine k_move rfl rfl ?_ | refine k_assign rfl rfl ?_ | refine k_load rfl rfl rfl rfl ?_ | refine k_box rfl rfl rfl ?_ | refine k_fieldAddr rfl rfl rfl ?_ | (refine k_indexAddrs rfl rfl rfl ⟨?_, ?_⟩ (by exact hzl) ?_; (omega); (omega)) | refine k_loade rfl rfl (cu0 _) ?_ | refine k_loade rfl rfl (cu1 _) ?_ | refine k_conv rfl rfl hv0 ?_ | refine k_conv rfl rfl hv1 ?_ | (refine k_shl rfl rfl rfl ?_ sh ?_; (decide)) | refine k_bits rfl rfl rfl rfl orr ?_ | (refine k_append rfl rfl rfl ?_ ?_ ?_ rfl ?_ rfl rfl rfl ?_; (first | rfl | exact trivial | (show 0 < _; omega)); (first | rfl | (simp <;> omega)); (first | rfl | (simp <;> omega)); (omega)) | (refine k_slice rfl rfl rfl rfl ⟨?_, ?_, ?_⟩ rfl rfl rfl ?_; (omega); (omega); (omega)) | refine k_buildSlice (cs := []) rfl rfl rfl rfl rfl rfl rfl ?_ | refine k_buildSlice rfl rfl rfl rfl rfl rfl rfl ?_ | (refine k_indexAddrs rfl rfl rfl ⟨?_, ?_⟩ rfl ?_; (omega); (omega)) | refine k_loade rfl rfl rfl ?_ | refine k_len rfl rfl ?_ | (refine k_addi rfl rfl rfl ?_ ?_; (omega)) | (refine k_subi rfl rfl rfl ?_ ?_; (omega)) | (refine k_lssT rfl rfl rfl ?_ ?_; (omega)) | (refine k_lssF rfl rfl rfl ?_ ?_; (omega)) | (refine k_gtrT rfl rfl rfl ?_ ?_; (omega)) | (refine k_gtrF rfl rfl rfl ?_ ?_; (omega)) | (refine k_geqT rfl rfl rfl ?_ ?_; (omega)) | (refine k_geqF rfl rfl rfl ?_ ?_; (omega)) | (refine k_neqT rfl rfl rfl ?_ ?_; (omega)) | (refine k_neqF rfl rfl rfl ?_ ?_; (omega)) | refine W_yes rfl ?_ | refine W_no rfl ?_)
      (first | with_reducible refine q_endr ?_); refine rets2 Try.results23 (by first | exact RetV.tmp _ _ rfl | exact RetV.cell _ _ _ _ _ _ _ _ inferInstance rfl rfl rfl) (by first | exact RetV.tmp _ _ rfl | exact RetV.cell _ _ _ _ _ _ _ _ inferInstance rfl rfl rfl) ?_ ?_
      · rfl
      · rfl
    · by_cases hsh : (c.drop p).length < k + 3
      · have hs : stopB (c.drop p) := .inr (.inr (.inl (by rw [hk]; exact hsh)))
        have hst := opn_stop _ hs
        rw [hst, List.append_nil, Nat.add_zero, ho] at hop
        injection hop with h1 h2
        subst h1; subst h2; subst hnd; subst hzo
        repeat (first | with_reducible (first | refine W_seq ?_ | refine q_then ?_ | refine q_thenx ?_ | refine W_block ?_ | refine q_block ?_ | refine q_blockx ?_ | refine W_ret ?_ | refine W_skip ?_ | refine W_label ?_ | refine W_exit ?_ | refine W_scope ?_ | refine q_scoper ?_) | (with_reducible refine R_nil ?_; try dsimp only [slots0, slots_ud, lg_all, lg_all, cells_U, agg_ud, drop0, dropS, takeS, take0, ud_nil, take_ud, take_ud0, drop_ud, drop_ud0, take_udk, D.cells, D.fz, D.fzs, List.take_succ_cons, List.take_zero, List.drop_succ_cons, List.drop_zero, List.cons_append, List.nil_append, List.append_eq, List.length_cons, List.length_nil, Nat.reduceAdd, Nat.reduceMul, Nat.reduceSub, Int.reduceAdd, Int.reduceSub, Int.reduceToNat, Int.reduceNeg, Int.reduceMul]) | refine q_blocky rfl ?_ | refine W_plain rfl ?_ | refine W_drawn mixed rfl ?_ | refine and_chk (by kernel_rfl) ?_ | refine k_move rfl rfl ?_ | refine k_assign rfl rfl ?_ | refine k_load rfl rfl rfl rfl ?_ | refine k_box rfl rfl rfl ?_ | refine k_fieldAddr rfl rfl rfl ?_ | (refine k_indexAddrs rfl rfl rfl ⟨?_, ?_⟩ (by exact hzl) ?_; (omega); (omega)) | refine k_loade rfl rfl (cu0 _) ?_ | refine k_loade rfl rfl (cu1 _) ?_ | refine k_conv rfl rfl hv0 ?_ | refine k_conv rfl rfl hv1 ?_ | (refine k_shl rfl rfl rfl ?_ sh ?_; (decide)) | refine k_bits rfl rfl rfl rfl orr ?_ | (refine k_append rfl rfl rfl ?_ ?_ ?_ rfl ?_ rfl rfl rfl ?_; (first | rfl | exact trivial | (show 0 < _; omega)); (first | rfl | (simp <;> omega)); (first | rfl | (simp <;> omega)); (omega)) | (refine k_slice rfl rfl rfl rfl ⟨?_, ?_, ?_⟩ rfl rfl rfl ?_; (omega); (omega); (omega)) | refine k_buildSlice (cs := []) rfl rfl rfl rfl rfl rfl rfl ?_ | refine k_buildSlice rfl rfl rfl rfl rfl rfl rfl ?_ | (refine k_indexAddrs rfl rfl rfl ⟨?_, ?_⟩ rfl ?_; (omega); (omega)) | refine k_loade rfl rfl rfl ?_ | refine k_len rfl rfl ?_ | (refine k_addi rfl rfl rfl ?_ ?_; (omega)) | (refine k_subi rfl rfl rfl ?_ ?_; (omega)) | (refine k_lssT rfl rfl rfl ?_ ?_; (omega)) | (refine k_lssF rfl rfl rfl ?_ ?_; (omega)) | (refine k_gtrT rfl rfl rfl ?_ ?_; (omega)) | (refine k_gtrF rfl rfl rfl ?_ ?_; (omega)) | (refine k_geqT rfl rfl rfl ?_ ?_; (omega)) | (refine k_geqF rfl rfl rfl ?_ ?_; (omega)) | (refine k_neqT rfl rfl rfl ?_ ?_; (omega)) | (refine k_neqF rfl rfl rfl ?_ ?_; (omega)) | refine W_yes rfl ?_ | refine W_no rfl ?_)
        (first | with_reducible refine q_endr ?_); refine rets2 Try.results23 (by first | exact RetV.tmp _ _ rfl | exact RetV.cell _ _ _ _ _ _ _ _ inferInstance rfl rfl rfl) (by first | exact RetV.tmp _ _ rfl | exact RetV.cell _ _ _ _ _ _ _ _ inferInstance rfl rfl rfl) ?_ ?_
        · rfl
        · rfl
      · obtain ⟨y, hy⟩ : ∃ x, c[p + 2 + k]? = some x := ⟨_, List.getElem?_eq_getElem (by omega)⟩
        have cuy : ∀ z, cut ⟨false, 1, z⟩ 0 ((bs c).drop (((p : Int) + 2 + (k : Int)).toNat * 1)) = some (.int .u8 (y.toNat : Int)) := bs_cut c (p + 2 + k) y hy
        rw [← hz] at cuy
        have hy2 : (c.drop p)[k + 2]? = some y := by rw [List.getElem?_drop, ← hy]; congr 1; omega
        have hrl : ((c.drop (p + 2)).take k).length = k := by rw [List.length_take, List.length_drop]; omega
        have hr2 : ((c.drop p).drop 2).take k = (c.drop (p + 2)).take k := by rw [List.drop_drop]
        have sl1 : (((p : Int) + 2 + (k : Int)) - ((p : Int) + 2)).toNat = k := by omega
        have sl2 : (z.drop (((p : Int) + 2).toNat * 1)).take (k * 1) = bs ((c.drop (p + 2)).take k) := by
          rw [hz, show ((p : Int) + 2).toNat = p + 2 from by omega, Nat.mul_one, Nat.mul_one, bs_drop, bs_take]
        obtain ⟨t, ht⟩ : ∃ t, tl8 ((c.drop (p + 2)).take k) = t := ⟨_, rfl⟩
        have ta := tail_ok ((c.drop (p + 2)).take k) (by omega) t ht
        rw [hrl] at ta
        have lrb := bs_len ((c.drop (p + 2)).take k)
        rw [hrl] at lrb
        by_cases hty : t = y
        · have hs : ¬ stopB (c.drop p) := by
            unfold stopB
            rw [hk, hr2, ht, hy2, hty]
            rintro (h | h | h | h)
            · exact h3 h
            · exact h200 h
            · exact hsh h
            · exact h rfl
          have hgo := opn_go _ hs
          rw [hk, hr2, List.drop_drop] at hgo
          rw [hgo] at hop
          subst hty
          generalize (c.drop (p + 2)).take k = r at *
          repeat (first | with_reducible (first | refine W_seq ?_ | refine q_then ?_ | refine q_thenx ?_ | refine W_block ?_ | refine q_block ?_ | refine q_blockx ?_ | refine W_ret ?_ | refine W_skip ?_ | refine W_label ?_ | refine W_exit ?_ | refine W_scope ?_ | refine q_scoper ?_) | (with_reducible refine R_nil ?_; try dsimp only [slots0, slots_ud, lg_all, lg_all, cells_U, agg_ud, drop0, dropS, takeS, take0, ud_nil, take_ud, take_ud0, drop_ud, drop_ud0, take_udk, D.cells, D.fz, D.fzs, List.take_succ_cons, List.take_zero, List.drop_succ_cons, List.drop_zero, List.cons_append, List.nil_append, List.append_eq, List.length_cons, List.length_nil, Nat.reduceAdd, Nat.reduceMul, Nat.reduceSub, Int.reduceAdd, Int.reduceSub, Int.reduceToNat, Int.reduceNeg, Int.reduceMul]) | refine q_blocky rfl ?_ | refine W_plain rfl ?_ | refine W_drawn mixed rfl ?_ | refine and_chk (by kernel_rfl) ?_ | refine k_move rfl rfl ?_ | refine k_assign rfl rfl ?_ | refine k_load rfl rfl rfl rfl ?_ | refine k_box rfl rfl rfl ?_ | refine k_fieldAddr rfl rfl rfl ?_ | (refine k_indexAddrs rfl rfl rfl ⟨?_, ?_⟩ (by exact hzl) ?_; (omega); (omega)) | refine k_loade rfl rfl (cu0 _) ?_ | refine k_loade rfl rfl (cu1 _) ?_ | refine k_conv rfl rfl hv0 ?_ | refine k_conv rfl rfl hv1 ?_ | (refine k_shl rfl rfl rfl ?_ sh ?_; (decide)) | refine k_bits rfl rfl rfl rfl orr ?_ | refine k_loade rfl rfl (cuy _) ?_ | (refine k_slice rfl rfl rfl rfl ⟨?_, ?_, ?_⟩ (by exact hzl) (by exact sl1) (by exact sl2) ?_; (omega); (omega); (omega)) | refine k_call rfl ta rfl rfl rfl rfl ?_ | (refine k_append rfl rfl rfl ?_ ?_ ?_ rfl ?_ rfl rfl rfl ?_; (first | rfl | exact trivial | (show 0 < _; omega)); (first | rfl | (simp <;> omega)); (first | rfl | (simp <;> omega)); (omega)) | (refine k_slice rfl rfl rfl rfl ⟨?_, ?_, ?_⟩ rfl rfl rfl ?_; (omega); (omega); (omega)) | refine k_buildSlice (cs := []) rfl rfl rfl rfl rfl rfl rfl ?_ | refine k_buildSlice rfl rfl rfl rfl rfl rfl rfl ?_ | (refine k_indexAddrs rfl rfl rfl ⟨?_, ?_⟩ rfl ?_; (omega); (omega)) | refine k_loade rfl rfl rfl ?_ | refine k_len rfl rfl ?_ | (refine k_addi rfl rfl rfl ?_ ?_; (omega)) | (refine k_subi rfl rfl rfl ?_ ?_; (omega)) | (refine k_lssT rfl rfl rfl ?_ ?_; (omega)) | (refine k_lssF rfl rfl rfl ?_ ?_; (omega)) | (refine k_gtrT rfl rfl rfl ?_ ?_; (omega)) | (refine k_gtrF rfl rfl rfl ?_ ?_; (omega)) | (refine k_geqT rfl rfl rfl ?_ ?_; (omega)) | (refine k_geqF rfl rfl rfl ?_ ?_; (omega)) | (refine k_neqT rfl rfl rfl ?_ ?_; (omega)) | (refine k_neqF rfl rfl rfl ?_ ?_; (omega)) | refine W_yes rfl ?_ | refine W_no rfl ?_)
          refine ⟨c.length - (p + (k + 3)), _, _, _, (weak_ren (fun l => if l = 1 then 5 else l) (by repeat (first | exact trivial | refine ⟨⟨_, rfl, (by first | exact Up.refl _ | exact Up.fz _ _ _ | exact Up.nil _ | exact Up.nrs _ | assumption), rfl⟩, ?_⟩)) (by repeat (first | exact trivial | refine ⟨⟨rfl, _, rfl, (by first | exact Ups.refl _ | assumption | ((repeat refine Ups.cons (by first | exact Up.refl _ | exact Up.nil _ | exact Up.fz _ _ _) ?_); exact Ups.nil)), rfl⟩, ?_⟩ | refine ⟨⟨rfl, rfl⟩, ?_⟩ | refine ⟨⟨rfl, _, rfl, bs_ups _ _, bs_lalls _ _⟩, ?_⟩ | refine ⟨⟨rfl, _, rfl, cls_ups _ _ (by assumption), cls_lalls _ _ (by assumption)⟩, ?_⟩)) (by first | decide | simp) (Nat.zero_le _) (fun _ h => absurd h (Nat.not_lt_zero _))), by omega, p + (k + 3), d ++ [r], nd + 1, q, z, zo ++ [.slice .frozen (0 + k) (bs r)], by rw [hnd]; simp, ?_, hq, hz, by omega, ?_, rfl, rfl, rfl, rfl⟩
          · rw [hzo]
            unfold rcs
            rw [List.map_append, List.map_cons, List.map_nil, hrl, Nat.zero_add]
          · rw [hop, List.append_assoc, List.cons_append, List.nil_append]
            congr 1
            omega
        · have hs : stopB (c.drop p) := .inr (.inr (.inr (by rw [hk, hr2, ht, hy2]; intro e; injection e with e; exact hty e)))
          have hne : ¬ ((t.toNat : Int) = (y.toNat : Int)) := fun e => hty (UInt8.toNat_inj.1 (by omega))
          have hst := opn_stop _ hs
          rw [hst, List.append_nil, Nat.add_zero, ho] at hop
          injection hop with h1 h2
          subst h1; subst h2; subst hnd; subst hzo
          repeat (first | with_reducible (first | refine W_seq ?_ | refine q_then ?_ | refine q_thenx ?_ | refine W_block ?_ | refine q_block ?_ | refine q_blockx ?_ | refine W_ret ?_ | refine W_skip ?_ | refine W_label ?_ | refine W_exit ?_ | refine W_scope ?_ | refine q_scoper ?_) | (with_reducible refine R_nil ?_; try dsimp only [slots0, slots_ud, lg_all, lg_all, cells_U, agg_ud, drop0, dropS, takeS, take0, ud_nil, take_ud, take_ud0, drop_ud, drop_ud0, take_udk, D.cells, D.fz, D.fzs, List.take_succ_cons, List.take_zero, List.drop_succ_cons, List.drop_zero, List.cons_append, List.nil_append, List.append_eq, List.length_cons, List.length_nil, Nat.reduceAdd, Nat.reduceMul, Nat.reduceSub, Int.reduceAdd, Int.reduceSub, Int.reduceToNat, Int.reduceNeg, Int.reduceMul]) | refine q_blocky rfl ?_ | refine W_plain rfl ?_ | refine W_drawn mixed rfl ?_ | refine and_chk (by kernel_rfl) ?_ | refine k_move rfl rfl ?_ | refine k_assign rfl rfl ?_ | refine k_load rfl rfl rfl rfl ?_ | refine k_box rfl rfl rfl ?_ | refine k_fieldAddr rfl rfl rfl ?_ | (refine k_indexAddrs rfl rfl rfl ⟨?_, ?_⟩ (by exact hzl) ?_; (omega); (omega)) | refine k_loade rfl rfl (cu0 _) ?_ | refine k_loade rfl rfl (cu1 _) ?_ | refine k_conv rfl rfl hv0 ?_ | refine k_conv rfl rfl hv1 ?_ | (refine k_shl rfl rfl rfl ?_ sh ?_; (decide)) | refine k_bits rfl rfl rfl rfl orr ?_ | refine k_loade rfl rfl (cuy _) ?_ | (refine k_slice rfl rfl rfl rfl ⟨?_, ?_, ?_⟩ (by exact hzl) (by exact sl1) (by exact sl2) ?_; (omega); (omega); (omega)) | refine k_call rfl ta rfl rfl rfl rfl ?_ | (refine k_append rfl rfl rfl ?_ ?_ ?_ rfl ?_ rfl rfl rfl ?_; (first | rfl | exact trivial | (show 0 < _; omega)); (first | rfl | (simp <;> omega)); (first | rfl | (simp <;> omega)); (omega)) | (refine k_slice rfl rfl rfl rfl ⟨?_, ?_, ?_⟩ rfl rfl rfl ?_; (omega); (omega); (omega)) | refine k_buildSlice (cs := []) rfl rfl rfl rfl rfl rfl rfl ?_ | refine k_buildSlice rfl rfl rfl rfl rfl rfl rfl ?_ | (refine k_indexAddrs rfl rfl rfl ⟨?_, ?_⟩ rfl ?_; (omega); (omega)) | refine k_loade rfl rfl rfl ?_ | refine k_len rfl rfl ?_ | (refine k_addi rfl rfl rfl ?_ ?_; (omega)) | (refine k_subi rfl rfl rfl ?_ ?_; (omega)) | (refine k_lssT rfl rfl rfl ?_ ?_; (omega)) | (refine k_lssF rfl rfl rfl ?_ ?_; (omega)) | (refine k_gtrT rfl rfl rfl ?_ ?_; (omega)) | (refine k_gtrF rfl rfl rfl ?_ ?_; (omega)) | (refine k_geqT rfl rfl rfl ?_ ?_; (omega)) | (refine k_geqF rfl rfl rfl ?_ ?_; (omega)) | (refine k_neqT rfl rfl rfl ?_ ?_; (omega)) | (refine k_neqF rfl rfl rfl ?_ ?_; (omega)) | refine W_yes rfl ?_ | refine W_no rfl ?_)
          (first | with_reducible refine q_endr ?_); refine rets2 Try.results23 (by first | exact RetV.tmp _ _ rfl | exact RetV.cell _ _ _ _ _ _ _ _ inferInstance rfl rfl rfl) (by first | exact RetV.tmp _ _ rfl | exact RetV.cell _ _ _ _ _ _ _ _ inferInstance rfl rfl rfl) ?_ ?_
          · rfl
          · rfl
end Go.Proofs.Ytcfefmbbbfdppaa
namespace Go.Proofs.Ytcfefmbbbfdppaa
open Go.RowKit Go.Lib Go.IntWalk
set_option linter.unusedVariables false
set_option maxRecDepth 100000
--nrm lg_all lgn_all rt_all
def lgn (a : By) : List D := [.slice .frozen a.length (bs a), .slice .nil 0 []]
theorem lgn_all (a : By) : List.take 2 (lgn a) = lgn a := rfl
theorem pur_ups {P : Program} {F : FuncId} {ds es : List D} {d : D} (h : Pur P F es d) (u : Ups ds es) : Pur P F ds d := fun w hw vs hg hok hr => h w hw vs hg hok (u.reps hr)
theorem lgn_ups (a : By) : Ups (lgn a) (lg a []) := .cons (.refl _) (.cons (.nil _) .nil)
theorem Sync_at (a b : By) (h : a.length + b.length ≤ 9000) : Pur Try.prog 42 [.agg (lg a b)] (.agg (lgn (a ++ b))) := by
  have := Sync_ok a b h
  rw [← bs_app, Nat.zero_add, ← List.length_append] at this
  exact this
theorem Crash_at (a b : By) (h : a.length + b.length ≤ 9000) (k : Nat) (hk : k ≤ b.length) : Pur Try.prog 37 [.agg (lg a b), .int .i64 k] (.tup [.agg (lgn (a ++ b.take k)), .int .i64 0]) := by
  have := Crash_ok a b h k hk
  rw [← bs_app, Nat.zero_add, show a.length + k = (a ++ b.take k).length from by rw [List.length_append, List.length_take]; omega] at this
  exact this
set_option maxHeartbeats 4000000 in
theorem Mend_ok (a : By) (h : a.length ≤ 9000) (l : List By) (k : Nat) (ho : opn a = (l, k)) : Pur Try.prog 22 [.agg (lg a [])] (.tup [.agg (lgn (a.take k)), .int .i64 0]) := by
  have hk : k ≤ a.length := by
    have := opn_le _ a (Nat.le_refl _)
    rw [ho] at this; exact this
  have op := Open_ok a [] (by simpa using h) l k (by rw [List.append_nil]; exact ho)
  have la := bs_len a
  have lk : (bs (a.take k)).length = k := by rw [bs_len, List.length_take]; omega
  have hb : a.length * 1 = (bs a).length := by rw [bs_len, Nat.mul_one]
  have h1 : ((k : Int) - 0).toNat = k := by omega
  have h2 : ((bs a).drop ((0 : Int).toNat * 1)).take (k * 1) = bs (a.take k) := by
    rw [Nat.mul_one, ← bs_take]; rfl
  have e : lgn (a.take k) = [.slice .frozen (0 + k) (bs (a.take k)), .slice .nil 0 []] := by
    unfold lgn; rw [List.length_take, Nat.min_eq_left hk, Nat.zero_add]
  rw [e]
  refine pur_intro Try.func22 rfl Try.ntmps22 rfl (by first | rfl | assumption | exact bs_cl _) fun B => ?_
  repeat (first | with_reducible (first | refine W_seq ?_ | refine q_then ?_ | refine W_ret ?_ | refine W_skip ?_) | (with_reducible refine R_nil ?_; try dsimp only [slots0, slots_ud, lg_all, lgn_all, rt_all, lg_all, lg_all, cells_U, agg_ud, drop0, dropS, takeS, take0, ud_nil, take_ud, take_ud0, drop_ud, drop_ud0, take_udk, D.cells, D.fz, D.fzs, List.take_succ_cons, List.take_zero, List.drop_succ_cons, List.drop_zero, List.cons_append, List.nil_append, List.append_eq, List.length_cons, List.length_nil, Nat.reduceAdd, Nat.reduceMul, Nat.reduceSub, Int.reduceAdd, Int.reduceSub, Int.reduceToNat, Int.reduceNeg, Int.reduceMul]) | refine W_plain rfl ?_ | refine and_chk (by kernel_rfl) ?_ | refine k_move rfl rfl ?_ | refine k_assign rfl rfl ?_ | refine k_load rfl rfl rfl rfl ?_ | refine k_alloc rfl ?_ | refine k_box rfl rfl rfl ?_ | refine k_store rfl rfl rfl rfl rfl rfl rfl ?_ | refine k_extract rfl rfl rfl ?_ | refine k_fieldAddr rfl rfl rfl ?_ | refine k_build rfl rfl rfl ?_ | refine k_call rfl op rfl rfl rfl rfl ?_ | (refine k_slice rfl rfl rfl rfl ⟨?_, ?_, ?_⟩ (by exact hb) (by exact h1) (by exact h2) ?_; (omega); (omega); (omega)) | (refine k_gtrF rfl rfl rfl ?_ ?_; (decide)) | (refine k_append rfl rfl rfl ?_ ?_ ?_ rfl ?_ rfl rfl rfl ?_; (first | rfl | exact trivial | (show 0 < _; omega)); (first | rfl | (simp <;> omega)); (first | rfl | (simp <;> omega)); (omega)) | (refine k_slice rfl rfl rfl rfl ⟨?_, ?_, ?_⟩ rfl rfl rfl ?_; (omega); (omega); (omega)) | refine k_buildSlice (cs := []) rfl rfl rfl rfl rfl rfl rfl ?_ | refine k_buildSlice rfl rfl rfl rfl rfl rfl rfl ?_ | refine k_len rfl rfl ?_ | (refine k_gtrF rfl rfl rfl ?_ ?_; (omega)) | refine W_no rfl ?_)
  (first | with_reducible refine q_endr ?_); refine rets2 Try.results22 (by first | exact RetV.tmp _ _ rfl | exact RetV.cell _ _ _ _ _ _ _ _ inferInstance rfl rfl rfl) (by first | exact RetV.tmp _ _ rfl | exact RetV.cell _ _ _ _ _ _ _ _ inferInstance rfl rfl rfl) ?_ ?_
  all_goals rfl
theorem rcs_get (l : List By) (i : Nat) (r : By) (h : l[i]? = some r) : (rcs l)[i]? = some (.slice .frozen r.length (bs r)) := by simp [rcs, h]
theorem rcs_cut (l : List By) (i : Nat) (r : By) (h : l[i]? = some r) (z : List D) : cut ⟨false, 1, z⟩ 0 ((rcs l).drop ((i : Int).toNat * 1)) = some (.slice .frozen r.length (bs r)) := by
  rw [Int.toNat_natCast, Nat.mul_one]
  exact one_cut _ _ _ (rcs_get l i r h) z
end Go.Proofs.Ytcfefmbbbfdppaa
