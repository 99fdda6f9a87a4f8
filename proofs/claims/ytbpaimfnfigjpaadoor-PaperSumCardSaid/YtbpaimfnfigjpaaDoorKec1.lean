/- keccak's turning: what the code makes of the lanes is the rounds of the sponge. Conditions: none. -/
import Derived.Test.YtbpaimfnfigjpaaDoorKecW
import Derived.Test.YtbpaimfnfigjpaaDoorDGlob
import Derived.Test.YtbpaimfnfigjpaaDoorDInst
import Derived.Test.YtbpaimfnfigjpaaDoorDMore
namespace Go.Proofs.YtbpaimfnfigjpaaDoor
open Go.RowKit Go.IntWalk Kec
set_option linter.unusedVariables false
set_option maxRecDepth 100000
--nrm arr_len arr_cls arr_fzs arr_bels

theorem rl_or (x : Kec.W) (r : Nat) (h : r < 64) : rl x r = x <<< r ||| x >>> (64 - r) := by
  unfold rl
  rw [BitVec.rotateLeft_def, Nat.mod_eq_of_lt h]
theorem rot_ok (x : Kec.W) (r : Nat) (h : r < 64) : Pur Tryd.prog 24 [.int .u64 (wv x), .int .i64 (r : Int)] (.int .u64 (wv (rl x r))) := by
  have h1 : IntKind.u64.wrap (r : Int) = (r : Int) := u64_in _ (by omega)
  have h2 : bitw .and .u64 (r : Int) 63 = (r : Int) := by
    have e1 : (r : Int) = wv (BitVec.ofNat 64 r) := by unfold wv; rw [BitVec.toNat_ofNat, Nat.mod_eq_of_lt (by omega)]
    have e2 : (63 : Int) = wv (BitVec.ofNat 64 63) := by decide
    rw [e2, e1, and_wv]
    unfold wv
    congr 1
    rw [BitVec.toNat_and, BitVec.toNat_ofNat, BitVec.toNat_ofNat, Nat.mod_eq_of_lt (by omega : r < 2 ^ 64)]
    show r &&& 63 = r
    rw [show (63 : Nat) = 2 ^ 6 - 1 from rfl, Nat.and_two_pow_sub_one_eq_mod, Nat.mod_eq_of_lt (by omega)]
  have h3 : IntKind.u64.wrap (64 - (r : Int)) = ((64 - r : Nat) : Int) := by rw [u64_in _ (by omega)]; omega
  have h4 := shl_wv x r h
  have h5 := shr_wv x (64 - r) (by omega)
  have h6 := or_wv (x <<< r) (x >>> (64 - r))
  rw [← rl_or x r h] at h6
  refine pur_intro Tryd.func24 rfl Tryd.ntmps24 rfl (by first | rfl | assumption | exact bs_cl _) fun B => ?_
  repeat (first | with_reducible refine W_seq ?_ | with_reducible refine q_then ?_ | with_reducible refine q_thenr ?_ | with_reducible refine q_thenx ?_ | with_reducible refine W_block ?_ | with_reducible refine q_block ?_ | with_reducible refine q_blockr ?_ | with_reducible refine q_blockx ?_ | with_reducible refine W_ret ?_ | with_reducible refine W_skip ?_ | with_reducible refine W_label ?_ | with_reducible refine W_exit ?_ | with_reducible refine W_scope ?_ | with_reducible refine q_scope ?_ | with_reducible refine q_scoper ?_ | with_reducible refine q_scopex ?_ | (with_reducible refine R_nil ?_; try dsimp only [slots0, slots_ud, arr_len, arr_cls, arr_fzs, arr_bels, cells_U, agg_ud, drop0, dropS, takeS, take0, ud_nil, take_ud, take_ud0, drop_ud, drop_ud0, take_udk, D.cells, D.fz, D.fzs, List.take_succ_cons, List.take_zero, List.drop_succ_cons, List.drop_zero, List.cons_append, List.nil_append, List.append_eq, List.length_cons, List.length_nil, Nat.reduceAdd, Nat.reduceMul, Nat.reduceSub, Int.reduceAdd, Int.reduceSub, Int.reduceToNat, Int.reduceNeg, Int.reduceMul]) | refine q_blocky rfl ?_ | refine W_plain rfl ?_ | refine W_drawn mixed rfl ?_ | refine and_chk (by kernel_rfl) ?_ | refine k_move rfl rfl ?_ | refine k_assign rfl rfl ?_ | refine k_load rfl rfl rfl rfl ?_ | refine k_alloc rfl ?_ | refine k_box rfl rfl rfl ?_ | refine k_store rfl rfl rfl rfl rfl rfl rfl ?_ | refine k_extract rfl rfl rfl ?_ | refine k_fieldAddr rfl rfl rfl ?_ | refine k_field rfl rfl rfl ?_ | refine k_build rfl rfl rfl ?_ | refine k_conv rfl rfl h1 ?_ | refine k_bits rfl rfl rfl rfl h2 ?_ | refine k_shl rfl rfl rfl (by omega) h4 ?_ | refine k_sub rfl rfl rfl h3 ?_ | refine k_shr rfl rfl rfl (by omega) h5 ?_ | refine k_bits rfl rfl rfl rfl h6 ?_ | refine k_buildSlice (cs := []) rfl rfl rfl rfl rfl rfl rfl ?_ | refine k_buildSlice rfl rfl rfl rfl rfl rfl rfl ?_ | refine k_indexAddr rfl rfl rfl ⟨by omega, by omega⟩ ?_ | refine k_indexAddrs rfl rfl rfl ⟨by omega, by omega⟩ rfl ?_ | refine k_index rfl rfl rfl ⟨by omega, by omega⟩ rfl ?_ | refine k_loade rfl rfl rfl ?_ | refine k_fieldAddre rfl rfl rfl rfl ?_ | refine k_len rfl rfl ?_ | refine k_nilCheck rfl rfl rfl ?_ | refine k_pickT rfl rfl rfl ?_ | refine k_pickF rfl rfl rfl ?_ | refine k_addi rfl rfl rfl (by omega) ?_ | refine k_subi rfl rfl rfl (by omega) ?_ | refine k_negi rfl rfl (by omega) ?_ | refine k_not rfl rfl rfl ?_ | refine k_lssT rfl rfl rfl (by omega) ?_ | refine k_lssF rfl rfl rfl (by omega) ?_ | refine k_leqT rfl rfl rfl (by omega) ?_ | refine k_leqF rfl rfl rfl (by omega) ?_ | refine k_gtrT rfl rfl rfl (by omega) ?_ | refine k_gtrF rfl rfl rfl (by omega) ?_ | refine k_geqT rfl rfl rfl (by omega) ?_ | refine k_geqF rfl rfl rfl (by omega) ?_ | refine k_eqlT rfl rfl rfl (by omega) ?_ | refine k_eqlF rfl rfl rfl (by omega) ?_ | refine k_neqT rfl rfl rfl (by omega) ?_ | refine k_neqF rfl rfl rfl (by omega) ?_ | refine k_eqa rfl rfl rfl rfl rfl rfl ?_ | refine k_nea rfl rfl rfl rfl rfl rfl ?_ | refine k_makeFunc rfl rfl rfl ?_ | refine k_skip rfl ?_ | refine k_skip0 rfl ?_ | refine k_pick rfl rfl rfl rfl rfl ?_ | refine W_yes rfl ?_ | refine W_no rfl ?_)
  (first | with_reducible refine q_endr ?_ | with_reducible refine q_endn ?_); refine rets1 Tryd.results24 (by first | exact RetV.tmp _ _ rfl | exact RetV.cell _ _ _ _ _ _ _ _ inferInstance rfl rfl rfl) ?_
  rfl

/-- the tables as they are read -/
def kf : S := fun j => kons.getD j 0
def tcells : List D := turns.map fun (t : Nat) => D.int .i64 (t : Int)
def tab0 : List Value := [0x0000000000000001, 0x0000000000008082, 0x800000000000808a, 0x8000000080008000, 0x000000000000808b, 0x0000000080000001, 0x8000000080008081, 0x8000000000008009, 0x000000000000008a, 0x0000000000000088, 0x0000000080008009, 0x000000008000000a, 0x000000008000808b, 0x800000000000008b, 0x8000000000008089, 0x8000000000008003, 0x8000000000008002, 0x8000000000000080, 0x000000000000800a, 0x800000008000000a, 0x8000000080008081, 0x8000000000008080, 0x0000000080000001, 0x8000000080008008].map (.int .u64)
def tab1 : List Value := [0, 1, 62, 28, 27, 36, 44, 6, 55, 20, 3, 10, 43, 25, 39, 41, 45, 15, 21, 8, 18, 2, 61, 56, 14].map (.int .i64)
theorem gm0 : (0, tab0) ∈ gtab := List.mem_cons_self
theorem gm1 : (1, tab1) ∈ gtab := List.mem_cons_of_mem _ List.mem_cons_self
theorem ov0 : ofVals tab0 = some (arr kf 24) := by kernel_rfl
theorem ov1 : ofVals tab1 = some tcells := by kernel_rfl
theorem tt_cut (i : Nat) (h : i < 25) : cut ⟨false, 1, [.int .i64 0]⟩ (0 + ((i : Nat) : Int).toNat * 1) tcells = some (.int .i64 ((turnAt i : Nat) : Int)) := by
  unfold cut
  rw [Int.toNat_natCast, Nat.zero_add, Nat.mul_one, cond_false]
  have key : ∀ i, i < 25 → tcells[i]? = some (.int .i64 ((turnAt i : Nat) : Int)) := by
    intro i hi
    unfold tcells turnAt
    rw [List.getElem?_map, List.getD_eq_getElem?_getD]
    have : i < turns.length := hi
    rw [List.getElem?_eq_getElem this]; rfl
  exact key i h
theorem arr_ix (f : S) (n k : Nat) (h : k < n) : cut ⟨false, 1, [.int .u64 0]⟩ (((k : Nat) : Int).toNat * 1) (arr f n) = some (.int .u64 (wv (f k))) := by
  have := arr_cut f n k h
  rw [Nat.zero_add] at this; exact this

theorem quo5 (k : Nat) (hk : k < 1000) : IntKind.i64.wrap ((k : Int).tdiv 5) = ((k / 5 : Nat) : Int) := by
  rw [Int.tdiv_eq_ediv_of_nonneg (by omega), i64_in _ (by omega)]; omega
theorem rem5 (k : Nat) : (k : Int).tmod 5 = ((k % 5 : Nat) : Int) := by
  rw [Int.tmod_eq_emod_of_nonneg (by omega)]; omega
theorem rem5a (k c : Nat) : ((k : Int) + (c : Int)).tmod 5 = (((k + c) % 5 : Nat) : Int) := by
  have := rem5 (k + c)
  rw [← this]; push_cast; rfl
theorem mulc (c k : Nat) (hc : c < 10) (hk : k < 1000) : IntKind.i64.wrap ((c : Int) * (k : Int)) = ((c * k : Nat) : Int) := by
  have : c * k ≤ 9 * 999 := Nat.mul_le_mul (by omega) (by omega)
  rw [← Int.natCast_mul, i64_in _ (by omega)]

/-- the lanes with the sums in -/
def tI (a : S) (i : Nat) : Kec.W := a i ^^^ cI a 25 ((i % 5 + 4) % 5) ^^^ rl (cI a 25 ((i % 5 + 1) % 5)) 1
theorem tI_theta (a : S) (i : Nat) : tI a i = theta a i := by
  unfold tI theta dd
  rw [cI_par a _ (Nat.mod_lt _ (by decide)), cI_par a _ (Nat.mod_lt _ (by decide)), BitVec.xor_assoc]
def rI (k : Kec.W) (a : S) : S := upd (aI (bI (tI a) 25) a 25) 0 (aI (bI (tI a) 25) a 25 0 ^^^ k)
theorem rI_round (k : Kec.W) (a : S) : Eq25 (rI k a) (round k a) := by
  have ht : tI a = theta a := funext fun i => tI_theta a i
  have hb : Eq25 (bI (tI a) 25) (rhopi (theta a)) := by rw [ht]; exact bI_rhopi (theta a)
  have hc : Eq25 (chi (bI (tI a) 25)) (chi (rhopi (theta a))) := fun i hi => by
    unfold chi
    rw [hb i hi, hb _ (by omega), hb _ (by omega)]
  intro i hi
  unfold rI upd round iota
  by_cases e : i = 0
  · subst e
    rw [if_pos rfl, if_pos rfl, aI_at, if_pos (by omega), hc 0 (by omega)]
  · rw [if_neg e, if_neg e, aI_at, if_pos hi, hc i hi]
theorem turn_succ (a : S) (r : Nat) (h : r < 24) : turn (kons.take (r + 1)) a = round (kf r) (turn (kons.take r) a) := by
  have hk : kons[r]? = some (kf r) := by
    unfold kf
    rw [List.getD_eq_getElem?_getD]
    have : r < kons.length := h
    rw [List.getElem?_eq_getElem this]; rfl
  rw [List.take_add_one, hk]
  unfold turn
  rw [List.foldl_append]; rfl

theorem z25_ (a : S) : splice 0 (arr a 25) (arr a 25) = some (arr a 25) := arr_lay a 25 _ (arr_len _ _)

set_option maxHeartbeats 16000000 in
theorem Turn_ok (a : S) : Pur Tryd.prog 23 [.agg (arr a 25)] (.agg (arr (turn kons a) 25)) := by
  have hcl : D.cl (.agg (arr (turn kons a) 25)) = true := arr_cls _ _
  refine pur_intro Tryd.func23 rfl Tryd.ntmps23 rfl hcl fun B => ?_
  repeat (first | with_reducible refine W_seq ?_ | with_reducible refine q_then ?_ | with_reducible refine q_thenr ?_ | with_reducible refine q_thenx ?_ | with_reducible refine W_block ?_ | with_reducible refine q_block ?_ | with_reducible refine q_blockr ?_ | with_reducible refine q_blockx ?_ | with_reducible refine W_ret ?_ | with_reducible refine W_skip ?_ | with_reducible refine W_label ?_ | with_reducible refine W_exit ?_ | with_reducible refine W_scope ?_ | with_reducible refine q_scope ?_ | with_reducible refine q_scoper ?_ | with_reducible refine q_scopex ?_ | (with_reducible refine R_nil ?_; try dsimp only [slots0, slots_ud, arr_len, arr_cls, arr_fzs, arr_bels, cells_U, agg_ud, drop0, dropS, takeS, take0, ud_nil, take_ud, take_ud0, drop_ud, drop_ud0, take_udk, D.cells, D.fz, D.fzs, List.take_succ_cons, List.take_zero, List.drop_succ_cons, List.drop_zero, List.cons_append, List.nil_append, List.append_eq, List.length_cons, List.length_nil, Nat.reduceAdd, Nat.reduceMul, Nat.reduceSub, Int.reduceAdd, Int.reduceSub, Int.reduceToNat, Int.reduceNeg, Int.reduceMul]) | refine q_blocky rfl ?_ | refine W_plain rfl ?_ | refine W_drawn mixed rfl ?_ | refine and_chk (by kernel_rfl) ?_ | refine k_move rfl rfl ?_ | refine k_assign rfl rfl ?_ | refine k_load rfl rfl rfl rfl ?_ | refine k_alloc rfl ?_ | refine k_box rfl rfl rfl ?_ | refine k_store rfl rfl rfl rfl rfl rfl rfl ?_ | refine k_extract rfl rfl rfl ?_ | refine k_fieldAddr rfl rfl rfl ?_ | refine k_field rfl rfl rfl ?_ | refine k_build rfl rfl rfl ?_ | refine k_loadg rfl rfl gm0 ov0 (by exact arr_whole _ _ _) ?_ | refine k_buildSlice (cs := []) rfl rfl rfl rfl rfl rfl rfl ?_ | refine k_buildSlice rfl rfl rfl rfl rfl rfl rfl ?_ | refine k_indexAddr rfl rfl rfl ⟨by omega, by omega⟩ ?_ | refine k_indexAddrs rfl rfl rfl ⟨by omega, by omega⟩ rfl ?_ | refine k_index rfl rfl rfl ⟨by omega, by omega⟩ rfl ?_ | refine k_loade rfl rfl rfl ?_ | refine k_fieldAddre rfl rfl rfl rfl ?_ | refine k_len rfl rfl ?_ | refine k_nilCheck rfl rfl rfl ?_ | refine k_pickT rfl rfl rfl ?_ | refine k_pickF rfl rfl rfl ?_ | refine k_addi rfl rfl rfl (by omega) ?_ | refine k_subi rfl rfl rfl (by omega) ?_ | refine k_negi rfl rfl (by omega) ?_ | refine k_not rfl rfl rfl ?_ | refine k_lssT rfl rfl rfl (by omega) ?_ | refine k_lssF rfl rfl rfl (by omega) ?_ | refine k_leqT rfl rfl rfl (by omega) ?_ | refine k_leqF rfl rfl rfl (by omega) ?_ | refine k_gtrT rfl rfl rfl (by omega) ?_ | refine k_gtrF rfl rfl rfl (by omega) ?_ | refine k_geqT rfl rfl rfl (by omega) ?_ | refine k_geqF rfl rfl rfl (by omega) ?_ | refine k_eqlT rfl rfl rfl (by omega) ?_ | refine k_eqlF rfl rfl rfl (by omega) ?_ | refine k_neqT rfl rfl rfl (by omega) ?_ | refine k_neqF rfl rfl rfl (by omega) ?_ | refine k_eqa rfl rfl rfl rfl rfl rfl ?_ | refine k_nea rfl rfl rfl rfl rfl rfl ?_ | refine k_makeFunc rfl rfl rfl ?_ | refine k_skip rfl ?_ | refine k_skip0 rfl ?_ | refine k_pick rfl rfl rfl rfl rfl ?_ | refine W_yes rfl ?_ | refine W_no rfl ?_)
  refine W_loop (fun n' ρ m nx => ∃ r : Nat, r ≤ 24 ∧ n' = 24 - r ∧ ρ = [(17, .int .i64 (r : Int)), (16, .agg (arr kf 24)), (2, .ptr 1 0), (1, .ptr 0 0)] ∧ m = [(1, some (.var 50 (arr (fun _ => 0) 25))), (0, some (.var 50 (arr (turn (kons.take r) a) 25)))] ∧ nx = 2)
    ⟨_, _, _, _, (by repeat (first | exact trivial | refine ⟨⟨rfl, rfl⟩, ?_⟩ | refine ⟨⟨rfl, bs_bel _ _⟩, ?_⟩ | refine ⟨⟨rfl, arr_bels _ _ _⟩, ?_⟩)), (by repeat (first | exact trivial | refine ⟨⟨rfl, rfl, rfl⟩, ?_⟩ | refine ⟨⟨rfl, rfl, bs_bels _ _⟩, ?_⟩ | refine ⟨⟨rfl, rfl, arr_bels _ _ _⟩, ?_⟩)), 0, by decide, rfl, rfl, rfl, rfl⟩ ?_
  rintro n' ρ m nx ⟨r, hr, rfl, rfl, rfl, rfl⟩
  by_cases hlt : r < 24
  · have hts := turn_succ a r hlt
    have hix := arr_ix kf 24 r hlt
    generalize turn (kons.take r) a = A at *
    generalize kf r = kr at *
    have hfin : arr (rI kr A) 25 = arr (turn (kons.take (r + 1)) a) 25 := by rw [hts]; exact arr_congr (rI_round kr A)
    repeat (first | with_reducible refine W_seq ?_ | with_reducible refine q_then ?_ | with_reducible refine q_thenr ?_ | with_reducible refine q_thenx ?_ | with_reducible refine W_block ?_ | with_reducible refine q_block ?_ | with_reducible refine q_blockr ?_ | with_reducible refine q_blockx ?_ | with_reducible refine W_ret ?_ | with_reducible refine W_skip ?_ | with_reducible refine W_label ?_ | with_reducible refine W_exit ?_ | with_reducible refine W_scope ?_ | with_reducible refine q_scope ?_ | with_reducible refine q_scoper ?_ | with_reducible refine q_scopex ?_ | (with_reducible refine R_nil ?_; try dsimp only [slots0, slots_ud, arr_len, arr_cls, arr_fzs, arr_bels, cells_U, agg_ud, drop0, dropS, takeS, take0, ud_nil, take_ud, take_ud0, drop_ud, drop_ud0, take_udk, D.cells, D.fz, D.fzs, List.take_succ_cons, List.take_zero, List.drop_succ_cons, List.drop_zero, List.cons_append, List.nil_append, List.append_eq, List.length_cons, List.length_nil, Nat.reduceAdd, Nat.reduceMul, Nat.reduceSub, Int.reduceAdd, Int.reduceSub, Int.reduceToNat, Int.reduceNeg, Int.reduceMul]) | refine q_blocky rfl ?_ | refine W_plain rfl ?_ | refine W_drawn mixed rfl ?_ | refine and_chk (by kernel_rfl) ?_ | refine k_move rfl rfl ?_ | refine k_assign rfl rfl ?_ | refine k_load rfl rfl rfl rfl ?_ | refine k_alloc rfl ?_ | refine k_box rfl rfl rfl ?_ | refine k_store rfl rfl rfl rfl rfl rfl rfl ?_ | refine k_extract rfl rfl rfl ?_ | refine k_fieldAddr rfl rfl rfl ?_ | refine k_field rfl rfl rfl ?_ | refine k_build rfl rfl rfl ?_ | refine k_index rfl rfl rfl ⟨by omega, by omega⟩ (by exact hix) ?_ | refine k_load rfl rfl rfl (by exact arr_whole _ _ _) ?_ | refine k_buildSlice (cs := []) rfl rfl rfl rfl rfl rfl rfl ?_ | refine k_buildSlice rfl rfl rfl rfl rfl rfl rfl ?_ | refine k_indexAddr rfl rfl rfl ⟨by omega, by omega⟩ ?_ | refine k_indexAddrs rfl rfl rfl ⟨by omega, by omega⟩ rfl ?_ | refine k_index rfl rfl rfl ⟨by omega, by omega⟩ rfl ?_ | refine k_loade rfl rfl rfl ?_ | refine k_fieldAddre rfl rfl rfl rfl ?_ | refine k_len rfl rfl ?_ | refine k_nilCheck rfl rfl rfl ?_ | refine k_pickT rfl rfl rfl ?_ | refine k_pickF rfl rfl rfl ?_ | refine k_addi rfl rfl rfl (by omega) ?_ | refine k_subi rfl rfl rfl (by omega) ?_ | refine k_negi rfl rfl (by omega) ?_ | refine k_not rfl rfl rfl ?_ | refine k_lssT rfl rfl rfl (by omega) ?_ | refine k_lssF rfl rfl rfl (by omega) ?_ | refine k_leqT rfl rfl rfl (by omega) ?_ | refine k_leqF rfl rfl rfl (by omega) ?_ | refine k_gtrT rfl rfl rfl (by omega) ?_ | refine k_gtrF rfl rfl rfl (by omega) ?_ | refine k_geqT rfl rfl rfl (by omega) ?_ | refine k_geqF rfl rfl rfl (by omega) ?_ | refine k_eqlT rfl rfl rfl (by omega) ?_ | refine k_eqlF rfl rfl rfl (by omega) ?_ | refine k_neqT rfl rfl rfl (by omega) ?_ | refine k_neqF rfl rfl rfl (by omega) ?_ | refine k_eqa rfl rfl rfl rfl rfl rfl ?_ | refine k_nea rfl rfl rfl rfl rfl rfl ?_ | refine k_makeFunc rfl rfl rfl ?_ | refine k_skip rfl ?_ | refine k_skip0 rfl ?_ | refine k_pick rfl rfl rfl rfl rfl ?_ | refine W_yes rfl ?_ | refine W_no rfl ?_)
    -- the sums
    refine W_loop (fun n' ρ m nx => ∃ i : Nat, i ≤ 25 ∧ n' = 25 - i ∧ ρ = [(21, .int .i64 (i : Int)), (20, .agg (arr A 25)), (5, .ptr 2 0), (4, .int .u64 (wv kr)), (17, .int .i64 (r : Int)), (16, .agg (arr kf 24)), (2, .ptr 1 0), (1, .ptr 0 0)] ∧ m = [(2, some (.var 62 (arr (cI A i) 5))), (1, some (.var 50 (arr (fun _ => 0) 25))), (0, some (.var 50 (arr A 25)))] ∧ nx = 3)
      ⟨_, _, _, _, (by repeat (first | exact trivial | refine ⟨⟨rfl, rfl⟩, ?_⟩ | refine ⟨⟨rfl, bs_bel _ _⟩, ?_⟩ | refine ⟨⟨rfl, arr_bels _ _ _⟩, ?_⟩)), (by repeat (first | exact trivial | refine ⟨⟨rfl, rfl, rfl⟩, ?_⟩ | refine ⟨⟨rfl, rfl, bs_bels _ _⟩, ?_⟩ | refine ⟨⟨rfl, rfl, arr_bels _ _ _⟩, ?_⟩)), 0, by decide, rfl, rfl, rfl, rfl⟩ ?_
    rintro n' ρ m nx ⟨i, hi, rfl, rfl, rfl, rfl⟩
    by_cases hil : i < 25
    · have h5 := rem5 i
      have hA := arr_ix A 25 i hil
      have hc := arr_cut (cI A i) 5 (i % 5) (Nat.mod_lt _ (by decide))
      have hp := arr_put (cI A i) 5 (i % 5) (Nat.mod_lt _ (by decide)) (cI A i (i % 5) ^^^ A i)
      have hx := xor_wv (cI A i (i % 5)) (A i)
      have hm5 : i % 5 < 5 := Nat.mod_lt _ (by decide)
      have hn : upd (cI A i) (i % 5) (cI A i (i % 5) ^^^ A i) = cI A (i + 1) := rfl
      rw [hn] at hp
      clear hn
      generalize i % 5 = q at *
      repeat (first | with_reducible refine W_seq ?_ | with_reducible refine q_then ?_ | with_reducible refine q_thenr ?_ | with_reducible refine q_thenx ?_ | with_reducible refine W_block ?_ | with_reducible refine q_block ?_ | with_reducible refine q_blockr ?_ | with_reducible refine q_blockx ?_ | with_reducible refine W_ret ?_ | with_reducible refine W_skip ?_ | with_reducible refine W_label ?_ | with_reducible refine W_exit ?_ | with_reducible refine W_scope ?_ | with_reducible refine q_scope ?_ | with_reducible refine q_scoper ?_ | with_reducible refine q_scopex ?_ | (with_reducible refine R_nil ?_; try dsimp only [slots0, slots_ud, arr_len, arr_cls, arr_fzs, arr_bels, cells_U, agg_ud, drop0, dropS, takeS, take0, ud_nil, take_ud, take_ud0, drop_ud, drop_ud0, take_udk, D.cells, D.fz, D.fzs, List.take_succ_cons, List.take_zero, List.drop_succ_cons, List.drop_zero, List.cons_append, List.nil_append, List.append_eq, List.length_cons, List.length_nil, Nat.reduceAdd, Nat.reduceMul, Nat.reduceSub, Int.reduceAdd, Int.reduceSub, Int.reduceToNat, Int.reduceNeg, Int.reduceMul]) | refine q_blocky rfl ?_ | refine W_plain rfl ?_ | refine W_drawn mixed rfl ?_ | refine and_chk (by kernel_rfl) ?_ | refine k_move rfl rfl ?_ | refine k_assign rfl rfl ?_ | refine k_load rfl rfl rfl rfl ?_ | refine k_alloc rfl ?_ | refine k_box rfl rfl rfl ?_ | refine k_store rfl rfl rfl rfl rfl rfl rfl ?_ | refine k_extract rfl rfl rfl ?_ | refine k_fieldAddr rfl rfl rfl ?_ | refine k_field rfl rfl rfl ?_ | refine k_build rfl rfl rfl ?_ | refine k_index rfl rfl rfl ⟨by omega, by omega⟩ (by exact hA) ?_ | refine k_rem rfl rfl rfl (by decide) h5 ?_ | refine k_load rfl rfl rfl (by exact hc) ?_ | refine k_bits rfl rfl rfl rfl hx ?_ | refine k_store rfl rfl rfl rfl rfl rfl (by exact hp) ?_ | refine k_buildSlice (cs := []) rfl rfl rfl rfl rfl rfl rfl ?_ | refine k_buildSlice rfl rfl rfl rfl rfl rfl rfl ?_ | refine k_indexAddr rfl rfl rfl ⟨by omega, by omega⟩ ?_ | refine k_indexAddrs rfl rfl rfl ⟨by omega, by omega⟩ rfl ?_ | refine k_index rfl rfl rfl ⟨by omega, by omega⟩ rfl ?_ | refine k_loade rfl rfl rfl ?_ | refine k_fieldAddre rfl rfl rfl rfl ?_ | refine k_len rfl rfl ?_ | refine k_nilCheck rfl rfl rfl ?_ | refine k_pickT rfl rfl rfl ?_ | refine k_pickF rfl rfl rfl ?_ | refine k_addi rfl rfl rfl (by omega) ?_ | refine k_subi rfl rfl rfl (by omega) ?_ | refine k_negi rfl rfl (by omega) ?_ | refine k_not rfl rfl rfl ?_ | refine k_lssT rfl rfl rfl (by omega) ?_ | refine k_lssF rfl rfl rfl (by omega) ?_ | refine k_leqT rfl rfl rfl (by omega) ?_ | refine k_leqF rfl rfl rfl (by omega) ?_ | refine k_gtrT rfl rfl rfl (by omega) ?_ | refine k_gtrF rfl rfl rfl (by omega) ?_ | refine k_geqT rfl rfl rfl (by omega) ?_ | refine k_geqF rfl rfl rfl (by omega) ?_ | refine k_eqlT rfl rfl rfl (by omega) ?_ | refine k_eqlF rfl rfl rfl (by omega) ?_ | refine k_neqT rfl rfl rfl (by omega) ?_ | refine k_neqF rfl rfl rfl (by omega) ?_ | refine k_eqa rfl rfl rfl rfl rfl rfl ?_ | refine k_nea rfl rfl rfl rfl rfl rfl ?_ | refine k_makeFunc rfl rfl rfl ?_ | refine k_skip rfl ?_ | refine k_skip0 rfl ?_ | refine k_pick rfl rfl rfl rfl rfl ?_ | refine W_yes rfl ?_ | refine W_no rfl ?_)
      exact ⟨25 - (i + 1), _, _, _, (by repeat (first | exact trivial | refine ⟨⟨rfl, rfl⟩, ?_⟩ | refine ⟨⟨rfl, bs_bel _ _⟩, ?_⟩ | refine ⟨⟨rfl, arr_bels _ _ _⟩, ?_⟩)), (by repeat (first | exact trivial | refine ⟨⟨rfl, rfl, rfl⟩, ?_⟩ | refine ⟨⟨rfl, rfl, bs_bels _ _⟩, ?_⟩ | refine ⟨⟨rfl, rfl, arr_bels _ _ _⟩, ?_⟩)), by omega, i + 1, by omega, rfl, rfl, rfl, rfl⟩
    · have ei : i = 25 := by omega
      subst ei
      repeat (first | with_reducible refine W_seq ?_ | with_reducible refine q_then ?_ | with_reducible refine q_thenr ?_ | with_reducible refine q_thenx ?_ | with_reducible refine W_block ?_ | with_reducible refine q_block ?_ | with_reducible refine q_blockr ?_ | with_reducible refine q_blockx ?_ | with_reducible refine W_ret ?_ | with_reducible refine W_skip ?_ | with_reducible refine W_label ?_ | with_reducible refine W_exit ?_ | with_reducible refine W_scope ?_ | with_reducible refine q_scope ?_ | with_reducible refine q_scoper ?_ | with_reducible refine q_scopex ?_ | (with_reducible refine R_nil ?_; try dsimp only [slots0, slots_ud, arr_len, arr_cls, arr_fzs, arr_bels, cells_U, agg_ud, drop0, dropS, takeS, take0, ud_nil, take_ud, take_ud0, drop_ud, drop_ud0, take_udk, D.cells, D.fz, D.fzs, List.take_succ_cons, List.take_zero, List.drop_succ_cons, List.drop_zero, List.cons_append, List.nil_append, List.append_eq, List.length_cons, List.length_nil, Nat.reduceAdd, Nat.reduceMul, Nat.reduceSub, Int.reduceAdd, Int.reduceSub, Int.reduceToNat, Int.reduceNeg, Int.reduceMul]) | refine q_blocky rfl ?_ | refine W_plain rfl ?_ | refine W_drawn mixed rfl ?_ | refine and_chk (by kernel_rfl) ?_ | refine k_move rfl rfl ?_ | refine k_assign rfl rfl ?_ | refine k_load rfl rfl rfl rfl ?_ | refine k_alloc rfl ?_ | refine k_box rfl rfl rfl ?_ | refine k_store rfl rfl rfl rfl rfl rfl rfl ?_ | refine k_extract rfl rfl rfl ?_ | refine k_fieldAddr rfl rfl rfl ?_ | refine k_field rfl rfl rfl ?_ | refine k_build rfl rfl rfl ?_ | refine k_buildSlice (cs := []) rfl rfl rfl rfl rfl rfl rfl ?_ | refine k_buildSlice rfl rfl rfl rfl rfl rfl rfl ?_ | refine k_indexAddr rfl rfl rfl ⟨by omega, by omega⟩ ?_ | refine k_indexAddrs rfl rfl rfl ⟨by omega, by omega⟩ rfl ?_ | refine k_index rfl rfl rfl ⟨by omega, by omega⟩ rfl ?_ | refine k_loade rfl rfl rfl ?_ | refine k_fieldAddre rfl rfl rfl rfl ?_ | refine k_len rfl rfl ?_ | refine k_nilCheck rfl rfl rfl ?_ | refine k_pickT rfl rfl rfl ?_ | refine k_pickF rfl rfl rfl ?_ | refine k_addi rfl rfl rfl (by omega) ?_ | refine k_subi rfl rfl rfl (by omega) ?_ | refine k_negi rfl rfl (by omega) ?_ | refine k_not rfl rfl rfl ?_ | refine k_lssT rfl rfl rfl (by omega) ?_ | refine k_lssF rfl rfl rfl (by omega) ?_ | refine k_leqT rfl rfl rfl (by omega) ?_ | refine k_leqF rfl rfl rfl (by omega) ?_ | refine k_gtrT rfl rfl rfl (by omega) ?_ | refine k_gtrF rfl rfl rfl (by omega) ?_ | refine k_geqT rfl rfl rfl (by omega) ?_ | refine k_geqF rfl rfl rfl (by omega) ?_ | refine k_eqlT rfl rfl rfl (by omega) ?_ | refine k_eqlF rfl rfl rfl (by omega) ?_ | refine k_neqT rfl rfl rfl (by omega) ?_ | refine k_neqF rfl rfl rfl (by omega) ?_ | refine k_eqa rfl rfl rfl rfl rfl rfl ?_ | refine k_nea rfl rfl rfl rfl rfl rfl ?_ | refine k_makeFunc rfl rfl rfl ?_ | refine k_skip rfl ?_ | refine k_skip0 rfl ?_ | refine k_pick rfl rfl rfl rfl rfl ?_ | refine W_yes rfl ?_ | refine W_no rfl ?_)
      generalize hC : cI A 25 = C at *
      -- mixed and turned
      refine W_loop (fun n' ρ m nx => ∃ i : Nat, i ≤ 25 ∧ n' = 25 - i ∧ ρ = [(33, .int .i64 (i : Int)), (8, .ptr 3 0), (5, .ptr 2 0), (4, .int .u64 (wv kr)), (17, .int .i64 (r : Int)), (16, .agg (arr kf 24)), (2, .ptr 1 0), (1, .ptr 0 0)] ∧ m = [(3, some (.var 50 (arr (bI (tI A) i) 25))), (2, some (.var 62 (arr C 5))), (1, some (.var 50 (arr (fun _ => 0) 25))), (0, some (.var 50 (arr A 25)))] ∧ nx = 4)
        ⟨_, _, _, _, (by repeat (first | exact trivial | refine ⟨⟨rfl, rfl⟩, ?_⟩ | refine ⟨⟨rfl, bs_bel _ _⟩, ?_⟩ | refine ⟨⟨rfl, arr_bels _ _ _⟩, ?_⟩)), (by repeat (first | exact trivial | refine ⟨⟨rfl, rfl, rfl⟩, ?_⟩ | refine ⟨⟨rfl, rfl, bs_bels _ _⟩, ?_⟩ | refine ⟨⟨rfl, rfl, arr_bels _ _ _⟩, ?_⟩)), 0, by decide, rfl, rfl, rfl, rfl⟩ ?_
      rintro n' ρ m nx ⟨i, hi, rfl, rfl, rfl, rfl⟩
      by_cases hil : i < 25
      · have hm5 : i % 5 < 5 := Nat.mod_lt _ (by decide)
        have hd5 : i / 5 < 5 := by omega
        have h5 := rem5 i
        have hq := quo5 i (by omega)
        have h4 := rem5a (i % 5) 4
        have h1 := rem5a (i % 5) 1
        have hA := arr_cut A 25 i hil
        have hc4 := arr_cut C 5 ((i % 5 + 4) % 5) (Nat.mod_lt _ (by decide))
        have hc1 := arr_cut C 5 ((i % 5 + 1) % 5) (Nat.mod_lt _ (by decide))
        have hx1 := xor_wv (A i) (C ((i % 5 + 4) % 5))
        have hr1 : Pur Tryd.prog 24 [.int .u64 (wv (C ((i % 5 + 1) % 5))), .int .i64 1] (.int .u64 (wv (rl (C ((i % 5 + 1) % 5)) 1))) := rot_ok _ 1 (by decide)
        have hx2 := xor_wv (A i ^^^ C ((i % 5 + 4) % 5)) (rl (C ((i % 5 + 1) % 5)) 1)
        have hti : A i ^^^ C ((i % 5 + 4) % 5) ^^^ rl (C ((i % 5 + 1) % 5)) 1 = tI A i := by unfold tI; rw [hC]
        rw [hti] at hx2
        have hrt := rot_ok (tI A i) (turnAt i) (turnAt_lt i hil)
        have htt := tt_cut i hil
        have m2 : IntKind.i64.wrap (2 * ((i % 5 : Nat) : Int)) = ((2 * (i % 5) : Nat) : Int) := mulc 2 _ (by omega) (by omega)
        have m3 : IntKind.i64.wrap (3 * ((i / 5 : Nat) : Int)) = ((3 * (i / 5) : Nat) : Int) := mulc 3 _ (by omega) (by omega)
        have m23 := rem5a (2 * (i % 5)) (3 * (i / 5))
        have m5 : IntKind.i64.wrap (5 * (((2 * (i % 5) + 3 * (i / 5)) % 5 : Nat) : Int)) = ((5 * ((2 * (i % 5) + 3 * (i / 5)) % 5) : Nat) : Int) := mulc 5 _ (by omega) (by omega)
        have hgo : ((i / 5 : Nat) : Int) + ((5 * ((2 * (i % 5) + 3 * (i / 5)) % 5) : Nat) : Int) = ((goes i : Nat) : Int) := by unfold goes; push_cast; rfl
        have hgl := (comes_goes i hil).2
        have hp := arr_put (bI (tI A) i) 25 (goes i) hgl (rl (tI A i) (turnAt i))
        have hn : upd (bI (tI A) i) (goes i) (rl (tI A i) (turnAt i)) = bI (tI A) (i + 1) := rfl
        rw [hn, ← hgo] at hp
        clear hn
        have hw23 : (2 * (i % 5) + 3 * (i / 5)) % 5 < 5 := Nat.mod_lt _ (by decide)
        have hl4 : (i % 5 + 4) % 5 < 5 := Nat.mod_lt _ (by decide)
        have hl1 : (i % 5 + 1) % 5 < 5 := Nat.mod_lt _ (by decide)
        generalize (2 * (i % 5) + 3 * (i / 5)) % 5 = q23 at *
        generalize (i % 5 + 4) % 5 = q4 at *
        generalize (i % 5 + 1) % 5 = q1 at *
        generalize i % 5 = q at *
        generalize i / 5 = y at *
        generalize goes i = gi at *
        generalize turnAt i = ti at *
        generalize tI A i = V at *
        repeat (first | with_reducible refine W_seq ?_ | with_reducible refine q_then ?_ | with_reducible refine q_thenr ?_ | with_reducible refine q_thenx ?_ | with_reducible refine W_block ?_ | with_reducible refine q_block ?_ | with_reducible refine q_blockr ?_ | with_reducible refine q_blockx ?_ | with_reducible refine W_ret ?_ | with_reducible refine W_skip ?_ | with_reducible refine W_label ?_ | with_reducible refine W_exit ?_ | with_reducible refine W_scope ?_ | with_reducible refine q_scope ?_ | with_reducible refine q_scoper ?_ | with_reducible refine q_scopex ?_ | (with_reducible refine R_nil ?_; try dsimp only [slots0, slots_ud, arr_len, arr_cls, arr_fzs, arr_bels, cells_U, agg_ud, drop0, dropS, takeS, take0, ud_nil, take_ud, take_ud0, drop_ud, drop_ud0, take_udk, D.cells, D.fz, D.fzs, List.take_succ_cons, List.take_zero, List.drop_succ_cons, List.drop_zero, List.cons_append, List.nil_append, List.append_eq, List.length_cons, List.length_nil, Nat.reduceAdd, Nat.reduceMul, Nat.reduceSub, Int.reduceAdd, Int.reduceSub, Int.reduceToNat, Int.reduceNeg, Int.reduceMul]) | refine q_blocky rfl ?_ | refine W_plain rfl ?_ | refine W_drawn mixed rfl ?_ | refine and_chk (by kernel_rfl) ?_ | refine k_move rfl rfl ?_ | refine k_assign rfl rfl ?_ | refine k_load rfl rfl rfl rfl ?_ | refine k_alloc rfl ?_ | refine k_box rfl rfl rfl ?_ | refine k_store rfl rfl rfl rfl rfl rfl rfl ?_ | refine k_extract rfl rfl rfl ?_ | refine k_fieldAddr rfl rfl rfl ?_ | refine k_field rfl rfl rfl ?_ | refine k_build rfl rfl rfl ?_ | refine k_rem rfl rfl rfl (by decide) h5 ?_ | refine k_quo rfl rfl rfl (by decide) hq ?_ | refine k_rem rfl rfl rfl (by decide) h4 ?_ | refine k_rem rfl rfl rfl (by decide) h1 ?_ | refine k_load rfl rfl rfl (by exact hA) ?_ | refine k_load rfl rfl rfl (by exact hc4) ?_ | refine k_load rfl rfl rfl (by exact hc1) ?_ | refine k_bits rfl rfl rfl rfl hx1 ?_ | refine k_bits rfl rfl rfl rfl hx2 ?_ | refine k_call rfl hr1 rfl rfl rfl rfl ?_ | refine k_mul rfl rfl rfl m2 ?_ | refine k_mul rfl rfl rfl m3 ?_ | refine k_rem rfl rfl rfl (by decide) m23 ?_ | refine k_mul rfl rfl rfl m5 ?_ | refine k_indexAddrg rfl rfl rfl ⟨by omega, by omega⟩ ?_ | refine k_loadg rfl rfl gm1 ov1 (by exact htt) ?_ | refine k_call rfl hrt rfl rfl rfl rfl ?_ | refine k_store rfl rfl rfl rfl rfl rfl (by exact hp) ?_ | refine k_buildSlice (cs := []) rfl rfl rfl rfl rfl rfl rfl ?_ | refine k_buildSlice rfl rfl rfl rfl rfl rfl rfl ?_ | refine k_indexAddr rfl rfl rfl ⟨by omega, by omega⟩ ?_ | refine k_indexAddrs rfl rfl rfl ⟨by omega, by omega⟩ rfl ?_ | refine k_index rfl rfl rfl ⟨by omega, by omega⟩ rfl ?_ | refine k_loade rfl rfl rfl ?_ | refine k_fieldAddre rfl rfl rfl rfl ?_ | refine k_len rfl rfl ?_ | refine k_nilCheck rfl rfl rfl ?_ | refine k_pickT rfl rfl rfl ?_ | refine k_pickF rfl rfl rfl ?_ | refine k_addi rfl rfl rfl (by omega) ?_ | refine k_subi rfl rfl rfl (by omega) ?_ | refine k_negi rfl rfl (by omega) ?_ | refine k_not rfl rfl rfl ?_ | refine k_lssT rfl rfl rfl (by omega) ?_ | refine k_lssF rfl rfl rfl (by omega) ?_ | refine k_leqT rfl rfl rfl (by omega) ?_ | refine k_leqF rfl rfl rfl (by omega) ?_ | refine k_gtrT rfl rfl rfl (by omega) ?_ | refine k_gtrF rfl rfl rfl (by omega) ?_ | refine k_geqT rfl rfl rfl (by omega) ?_ | refine k_geqF rfl rfl rfl (by omega) ?_ | refine k_eqlT rfl rfl rfl (by omega) ?_ | refine k_eqlF rfl rfl rfl (by omega) ?_ | refine k_neqT rfl rfl rfl (by omega) ?_ | refine k_neqF rfl rfl rfl (by omega) ?_ | refine k_eqa rfl rfl rfl rfl rfl rfl ?_ | refine k_nea rfl rfl rfl rfl rfl rfl ?_ | refine k_makeFunc rfl rfl rfl ?_ | refine k_skip rfl ?_ | refine k_skip0 rfl ?_ | refine k_pick rfl rfl rfl rfl rfl ?_ | refine W_yes rfl ?_ | refine W_no rfl ?_)
        exact ⟨25 - (i + 1), _, _, _, (by repeat (first | exact trivial | refine ⟨⟨rfl, rfl⟩, ?_⟩ | refine ⟨⟨rfl, bs_bel _ _⟩, ?_⟩ | refine ⟨⟨rfl, arr_bels _ _ _⟩, ?_⟩)), (by repeat (first | exact trivial | refine ⟨⟨rfl, rfl, rfl⟩, ?_⟩ | refine ⟨⟨rfl, rfl, bs_bels _ _⟩, ?_⟩ | refine ⟨⟨rfl, rfl, arr_bels _ _ _⟩, ?_⟩)), by omega, i + 1, by omega, rfl, rfl, rfl, rfl⟩
      · have ei : i = 25 := by omega
        subst ei
        repeat (first | with_reducible refine W_seq ?_ | with_reducible refine q_then ?_ | with_reducible refine q_thenr ?_ | with_reducible refine q_thenx ?_ | with_reducible refine W_block ?_ | with_reducible refine q_block ?_ | with_reducible refine q_blockr ?_ | with_reducible refine q_blockx ?_ | with_reducible refine W_ret ?_ | with_reducible refine W_skip ?_ | with_reducible refine W_label ?_ | with_reducible refine W_exit ?_ | with_reducible refine W_scope ?_ | with_reducible refine q_scope ?_ | with_reducible refine q_scoper ?_ | with_reducible refine q_scopex ?_ | (with_reducible refine R_nil ?_; try dsimp only [slots0, slots_ud, arr_len, arr_cls, arr_fzs, arr_bels, cells_U, agg_ud, drop0, dropS, takeS, take0, ud_nil, take_ud, take_ud0, drop_ud, drop_ud0, take_udk, D.cells, D.fz, D.fzs, List.take_succ_cons, List.take_zero, List.drop_succ_cons, List.drop_zero, List.cons_append, List.nil_append, List.append_eq, List.length_cons, List.length_nil, Nat.reduceAdd, Nat.reduceMul, Nat.reduceSub, Int.reduceAdd, Int.reduceSub, Int.reduceToNat, Int.reduceNeg, Int.reduceMul]) | refine q_blocky rfl ?_ | refine W_plain rfl ?_ | refine W_drawn mixed rfl ?_ | refine and_chk (by kernel_rfl) ?_ | refine k_move rfl rfl ?_ | refine k_assign rfl rfl ?_ | refine k_load rfl rfl rfl rfl ?_ | refine k_alloc rfl ?_ | refine k_box rfl rfl rfl ?_ | refine k_store rfl rfl rfl rfl rfl rfl rfl ?_ | refine k_extract rfl rfl rfl ?_ | refine k_fieldAddr rfl rfl rfl ?_ | refine k_field rfl rfl rfl ?_ | refine k_build rfl rfl rfl ?_ | refine k_buildSlice (cs := []) rfl rfl rfl rfl rfl rfl rfl ?_ | refine k_buildSlice rfl rfl rfl rfl rfl rfl rfl ?_ | refine k_indexAddr rfl rfl rfl ⟨by omega, by omega⟩ ?_ | refine k_indexAddrs rfl rfl rfl ⟨by omega, by omega⟩ rfl ?_ | refine k_index rfl rfl rfl ⟨by omega, by omega⟩ rfl ?_ | refine k_loade rfl rfl rfl ?_ | refine k_fieldAddre rfl rfl rfl rfl ?_ | refine k_len rfl rfl ?_ | refine k_nilCheck rfl rfl rfl ?_ | refine k_pickT rfl rfl rfl ?_ | refine k_pickF rfl rfl rfl ?_ | refine k_addi rfl rfl rfl (by omega) ?_ | refine k_subi rfl rfl rfl (by omega) ?_ | refine k_negi rfl rfl (by omega) ?_ | refine k_not rfl rfl rfl ?_ | refine k_lssT rfl rfl rfl (by omega) ?_ | refine k_lssF rfl rfl rfl (by omega) ?_ | refine k_leqT rfl rfl rfl (by omega) ?_ | refine k_leqF rfl rfl rfl (by omega) ?_ | refine k_gtrT rfl rfl rfl (by omega) ?_ | refine k_gtrF rfl rfl rfl (by omega) ?_ | refine k_geqT rfl rfl rfl (by omega) ?_ | refine k_geqF rfl rfl rfl (by omega) ?_ | refine k_eqlT rfl rfl rfl (by omega) ?_ | refine k_eqlF rfl rfl rfl (by omega) ?_ | refine k_neqT rfl rfl rfl (by omega) ?_ | refine k_neqF rfl rfl rfl (by omega) ?_ | refine k_eqa rfl rfl rfl rfl rfl rfl ?_ | refine k_nea rfl rfl rfl rfl rfl rfl ?_ | refine k_makeFunc rfl rfl rfl ?_ | refine k_skip rfl ?_ | refine k_skip0 rfl ?_ | refine k_pick rfl rfl rfl rfl rfl ?_ | refine W_yes rfl ?_ | refine W_no rfl ?_)
        generalize hB : bI (tI A) 25 = F at *
        -- row by row
        refine W_loop (fun n' ρ m nx => ∃ i : Nat, i ≤ 25 ∧ n' = 25 - i ∧ ρ = [(72, .int .i64 (i : Int)), (8, .ptr 3 0), (4, .int .u64 (wv kr)), (17, .int .i64 (r : Int)), (16, .agg (arr kf 24)), (2, .ptr 1 0), (1, .ptr 0 0)] ∧ m = [(3, some (.var 50 (arr F 25))), (1, some (.var 50 (arr (fun _ => 0) 25))), (0, some (.var 50 (arr (aI F A i) 25)))] ∧ nx = 4)
          ⟨_, _, _, _, (by repeat (first | exact trivial | refine ⟨⟨rfl, rfl⟩, ?_⟩ | refine ⟨⟨rfl, bs_bel _ _⟩, ?_⟩ | refine ⟨⟨rfl, arr_bels _ _ _⟩, ?_⟩)), (by repeat (first | exact trivial | refine ⟨⟨rfl, rfl, rfl⟩, ?_⟩ | refine ⟨⟨rfl, rfl, bs_bels _ _⟩, ?_⟩ | refine ⟨⟨rfl, rfl, arr_bels _ _ _⟩, ?_⟩)), 0, by decide, rfl, rfl, rfl, rfl⟩ ?_
        rintro n' ρ m nx ⟨i, hi, rfl, rfl, rfl, rfl⟩
        by_cases hil : i < 25
        · have hm5 : i % 5 < 5 := Nat.mod_lt _ (by decide)
          have hd5 : i / 5 < 5 := by omega
          have h5 := rem5 i
          have hq := quo5 i (by omega)
          have h1 := rem5a (i % 5) 1
          have h2 := rem5a (i % 5) 2
          have m5 : IntKind.i64.wrap (5 * ((i / 5 : Nat) : Int)) = ((5 * (i / 5) : Nat) : Int) := mulc 5 _ (by omega) (by omega)
          have e1 : (((i % 5 + 1) % 5 : Nat) : Int) + ((5 * (i / 5) : Nat) : Int) = (((i % 5 + 1) % 5 + 5 * (i / 5) : Nat) : Int) := by push_cast; rfl
          have e2 : (((i % 5 + 2) % 5 : Nat) : Int) + ((5 * (i / 5) : Nat) : Int) = (((i % 5 + 2) % 5 + 5 * (i / 5) : Nat) : Int) := by push_cast; rfl
          have hF := arr_cut F 25 i hil
          have hF1 := arr_cut F 25 ((i % 5 + 1) % 5 + 5 * (i / 5)) (by omega)
          have hF2 := arr_cut F 25 ((i % 5 + 2) % 5 + 5 * (i / 5)) (by omega)
          have hco := com_wv (F ((i % 5 + 1) % 5 + 5 * (i / 5)))
          have han := and_wv (~~~ F ((i % 5 + 1) % 5 + 5 * (i / 5))) (F ((i % 5 + 2) % 5 + 5 * (i / 5)))
          have hxo := xor_wv (F i) (~~~ F ((i % 5 + 1) % 5 + 5 * (i / 5)) &&& F ((i % 5 + 2) % 5 + 5 * (i / 5)))
          have hch : F i ^^^ (~~~ F ((i % 5 + 1) % 5 + 5 * (i / 5)) &&& F ((i % 5 + 2) % 5 + 5 * (i / 5))) = chi F i := rfl
          rw [hch] at hxo
          clear hch
          have hp := arr_put (aI F A i) 25 i hil (chi F i)
          have hn : upd (aI F A i) i (chi F i) = aI F A (i + 1) := rfl
          rw [hn] at hp
          clear hn
          rw [← e1] at hF1
          rw [← e2] at hF2
          have b1 : (i % 5 + 1) % 5 + 5 * (i / 5) < 25 := by omega
          have b2 : (i % 5 + 2) % 5 + 5 * (i / 5) < 25 := by omega
          have hl2 : (i % 5 + 2) % 5 < 5 := Nat.mod_lt _ (by decide)
          have hl1 : (i % 5 + 1) % 5 < 5 := Nat.mod_lt _ (by decide)
          generalize F ((i % 5 + 1) % 5 + 5 * (i / 5)) = X1 at *
          generalize F ((i % 5 + 2) % 5 + 5 * (i / 5)) = X2 at *
          generalize chi F i = V at *
          generalize (i % 5 + 2) % 5 = q2 at *
          generalize (i % 5 + 1) % 5 = q1 at *
          generalize i % 5 = q at *
          generalize i / 5 = y at *
          repeat (first | with_reducible refine W_seq ?_ | with_reducible refine q_then ?_ | with_reducible refine q_thenr ?_ | with_reducible refine q_thenx ?_ | with_reducible refine W_block ?_ | with_reducible refine q_block ?_ | with_reducible refine q_blockr ?_ | with_reducible refine q_blockx ?_ | with_reducible refine W_ret ?_ | with_reducible refine W_skip ?_ | with_reducible refine W_label ?_ | with_reducible refine W_exit ?_ | with_reducible refine W_scope ?_ | with_reducible refine q_scope ?_ | with_reducible refine q_scoper ?_ | with_reducible refine q_scopex ?_ | (with_reducible refine R_nil ?_; try dsimp only [slots0, slots_ud, arr_len, arr_cls, arr_fzs, arr_bels, cells_U, agg_ud, drop0, dropS, takeS, take0, ud_nil, take_ud, take_ud0, drop_ud, drop_ud0, take_udk, D.cells, D.fz, D.fzs, List.take_succ_cons, List.take_zero, List.drop_succ_cons, List.drop_zero, List.cons_append, List.nil_append, List.append_eq, List.length_cons, List.length_nil, Nat.reduceAdd, Nat.reduceMul, Nat.reduceSub, Int.reduceAdd, Int.reduceSub, Int.reduceToNat, Int.reduceNeg, Int.reduceMul]) | refine q_blocky rfl ?_ | refine W_plain rfl ?_ | refine W_drawn mixed rfl ?_ | refine and_chk (by kernel_rfl) ?_ | refine k_move rfl rfl ?_ | refine k_assign rfl rfl ?_ | refine k_load rfl rfl rfl rfl ?_ | refine k_alloc rfl ?_ | refine k_box rfl rfl rfl ?_ | refine k_store rfl rfl rfl rfl rfl rfl rfl ?_ | refine k_extract rfl rfl rfl ?_ | refine k_fieldAddr rfl rfl rfl ?_ | refine k_field rfl rfl rfl ?_ | refine k_build rfl rfl rfl ?_ | refine k_rem rfl rfl rfl (by decide) h5 ?_ | refine k_quo rfl rfl rfl (by decide) hq ?_ | refine k_rem rfl rfl rfl (by decide) h1 ?_ | refine k_rem rfl rfl rfl (by decide) h2 ?_ | refine k_load rfl rfl rfl (by exact hF) ?_ | refine k_load rfl rfl rfl (by exact hF1) ?_ | refine k_load rfl rfl rfl (by exact hF2) ?_ | refine k_com rfl rfl hco ?_ | refine k_bits rfl rfl rfl rfl han ?_ | refine k_bits rfl rfl rfl rfl hxo ?_ | refine k_mul rfl rfl rfl m5 ?_ | refine k_store rfl rfl rfl rfl rfl rfl (by exact hp) ?_ | refine k_buildSlice (cs := []) rfl rfl rfl rfl rfl rfl rfl ?_ | refine k_buildSlice rfl rfl rfl rfl rfl rfl rfl ?_ | refine k_indexAddr rfl rfl rfl ⟨by omega, by omega⟩ ?_ | refine k_indexAddrs rfl rfl rfl ⟨by omega, by omega⟩ rfl ?_ | refine k_index rfl rfl rfl ⟨by omega, by omega⟩ rfl ?_ | refine k_loade rfl rfl rfl ?_ | refine k_fieldAddre rfl rfl rfl rfl ?_ | refine k_len rfl rfl ?_ | refine k_nilCheck rfl rfl rfl ?_ | refine k_pickT rfl rfl rfl ?_ | refine k_pickF rfl rfl rfl ?_ | refine k_addi rfl rfl rfl (by omega) ?_ | refine k_subi rfl rfl rfl (by omega) ?_ | refine k_negi rfl rfl (by omega) ?_ | refine k_not rfl rfl rfl ?_ | refine k_lssT rfl rfl rfl (by omega) ?_ | refine k_lssF rfl rfl rfl (by omega) ?_ | refine k_leqT rfl rfl rfl (by omega) ?_ | refine k_leqF rfl rfl rfl (by omega) ?_ | refine k_gtrT rfl rfl rfl (by omega) ?_ | refine k_gtrF rfl rfl rfl (by omega) ?_ | refine k_geqT rfl rfl rfl (by omega) ?_ | refine k_geqF rfl rfl rfl (by omega) ?_ | refine k_eqlT rfl rfl rfl (by omega) ?_ | refine k_eqlF rfl rfl rfl (by omega) ?_ | refine k_neqT rfl rfl rfl (by omega) ?_ | refine k_neqF rfl rfl rfl (by omega) ?_ | refine k_eqa rfl rfl rfl rfl rfl rfl ?_ | refine k_nea rfl rfl rfl rfl rfl rfl ?_ | refine k_makeFunc rfl rfl rfl ?_ | refine k_skip rfl ?_ | refine k_skip0 rfl ?_ | refine k_pick rfl rfl rfl rfl rfl ?_ | refine W_yes rfl ?_ | refine W_no rfl ?_)
          exact ⟨25 - (i + 1), _, _, _, (by repeat (first | exact trivial | refine ⟨⟨rfl, rfl⟩, ?_⟩ | refine ⟨⟨rfl, bs_bel _ _⟩, ?_⟩ | refine ⟨⟨rfl, arr_bels _ _ _⟩, ?_⟩)), (by repeat (first | exact trivial | refine ⟨⟨rfl, rfl, rfl⟩, ?_⟩ | refine ⟨⟨rfl, rfl, bs_bels _ _⟩, ?_⟩ | refine ⟨⟨rfl, rfl, arr_bels _ _ _⟩, ?_⟩)), by omega, i + 1, by omega, rfl, rfl, rfl, rfl⟩
        · have ei : i = 25 := by omega
          subst ei
          have hL := arr_cut (aI F A 25) 25 0 (by decide)
          have hp := arr_put (aI F A 25) 25 0 (by decide) (aI F A 25 0 ^^^ kr)
          have hx := xor_wv (aI F A 25 0) kr
          have hn : upd (aI F A 25) 0 (aI F A 25 0 ^^^ kr) = rI kr A := by unfold rI; rw [hB]
          rw [hn, hfin] at hp
          generalize aI F A 25 = Z at *
          repeat (first | with_reducible refine W_seq ?_ | with_reducible refine q_then ?_ | with_reducible refine q_thenr ?_ | with_reducible refine q_thenx ?_ | with_reducible refine W_block ?_ | with_reducible refine q_block ?_ | with_reducible refine q_blockr ?_ | with_reducible refine q_blockx ?_ | with_reducible refine W_ret ?_ | with_reducible refine W_skip ?_ | with_reducible refine W_label ?_ | with_reducible refine W_exit ?_ | with_reducible refine W_scope ?_ | with_reducible refine q_scope ?_ | with_reducible refine q_scoper ?_ | with_reducible refine q_scopex ?_ | (with_reducible refine R_nil ?_; try dsimp only [slots0, slots_ud, arr_len, arr_cls, arr_fzs, arr_bels, cells_U, agg_ud, drop0, dropS, takeS, take0, ud_nil, take_ud, take_ud0, drop_ud, drop_ud0, take_udk, D.cells, D.fz, D.fzs, List.take_succ_cons, List.take_zero, List.drop_succ_cons, List.drop_zero, List.cons_append, List.nil_append, List.append_eq, List.length_cons, List.length_nil, Nat.reduceAdd, Nat.reduceMul, Nat.reduceSub, Int.reduceAdd, Int.reduceSub, Int.reduceToNat, Int.reduceNeg, Int.reduceMul]) | refine q_blocky rfl ?_ | refine W_plain rfl ?_ | refine W_drawn mixed rfl ?_ | refine and_chk (by kernel_rfl) ?_ | refine k_move rfl rfl ?_ | refine k_assign rfl rfl ?_ | refine k_load rfl rfl rfl rfl ?_ | refine k_alloc rfl ?_ | refine k_box rfl rfl rfl ?_ | refine k_store rfl rfl rfl rfl rfl rfl rfl ?_ | refine k_extract rfl rfl rfl ?_ | refine k_fieldAddr rfl rfl rfl ?_ | refine k_field rfl rfl rfl ?_ | refine k_build rfl rfl rfl ?_ | refine k_load rfl rfl rfl (by exact hL) ?_ | refine k_bits rfl rfl rfl rfl hx ?_ | refine k_store rfl rfl rfl rfl rfl rfl (by exact hp) ?_ | refine k_buildSlice (cs := []) rfl rfl rfl rfl rfl rfl rfl ?_ | refine k_buildSlice rfl rfl rfl rfl rfl rfl rfl ?_ | refine k_indexAddr rfl rfl rfl ⟨by omega, by omega⟩ ?_ | refine k_indexAddrs rfl rfl rfl ⟨by omega, by omega⟩ rfl ?_ | refine k_index rfl rfl rfl ⟨by omega, by omega⟩ rfl ?_ | refine k_loade rfl rfl rfl ?_ | refine k_fieldAddre rfl rfl rfl rfl ?_ | refine k_len rfl rfl ?_ | refine k_nilCheck rfl rfl rfl ?_ | refine k_pickT rfl rfl rfl ?_ | refine k_pickF rfl rfl rfl ?_ | refine k_addi rfl rfl rfl (by omega) ?_ | refine k_subi rfl rfl rfl (by omega) ?_ | refine k_negi rfl rfl (by omega) ?_ | refine k_not rfl rfl rfl ?_ | refine k_lssT rfl rfl rfl (by omega) ?_ | refine k_lssF rfl rfl rfl (by omega) ?_ | refine k_leqT rfl rfl rfl (by omega) ?_ | refine k_leqF rfl rfl rfl (by omega) ?_ | refine k_gtrT rfl rfl rfl (by omega) ?_ | refine k_gtrF rfl rfl rfl (by omega) ?_ | refine k_geqT rfl rfl rfl (by omega) ?_ | refine k_geqF rfl rfl rfl (by omega) ?_ | refine k_eqlT rfl rfl rfl (by omega) ?_ | refine k_eqlF rfl rfl rfl (by omega) ?_ | refine k_neqT rfl rfl rfl (by omega) ?_ | refine k_neqF rfl rfl rfl (by omega) ?_ | refine k_eqa rfl rfl rfl rfl rfl rfl ?_ | refine k_nea rfl rfl rfl rfl rfl rfl ?_ | refine k_makeFunc rfl rfl rfl ?_ | refine k_skip rfl ?_ | refine k_skip0 rfl ?_ | refine k_pick rfl rfl rfl rfl rfl ?_ | refine W_yes rfl ?_ | refine W_no rfl ?_)
          exact ⟨24 - (r + 1), _, _, _, (by repeat (first | exact trivial | refine ⟨⟨rfl, rfl⟩, ?_⟩ | refine ⟨⟨rfl, bs_bel _ _⟩, ?_⟩ | refine ⟨⟨rfl, arr_bels _ _ _⟩, ?_⟩)), (by exact ⟨⟨rfl, rfl, arr_bels _ _ _⟩, ⟨congrArg (fun z => some (Loc.var 50 z)) (Option.some.inj hp), rfl, arr_bels _ _ _⟩, trivial⟩), by omega, r + 1, by omega, rfl, rfl, rfl, rfl⟩
  · have er : r = 24 := by omega
    subst er
    have hk : kons.take 24 = kons := rfl
    rw [hk]
    repeat (first | with_reducible refine W_seq ?_ | with_reducible refine q_then ?_ | with_reducible refine q_thenr ?_ | with_reducible refine q_thenx ?_ | with_reducible refine W_block ?_ | with_reducible refine q_block ?_ | with_reducible refine q_blockr ?_ | with_reducible refine q_blockx ?_ | with_reducible refine W_ret ?_ | with_reducible refine W_skip ?_ | with_reducible refine W_label ?_ | with_reducible refine W_exit ?_ | with_reducible refine W_scope ?_ | with_reducible refine q_scope ?_ | with_reducible refine q_scoper ?_ | with_reducible refine q_scopex ?_ | (with_reducible refine R_nil ?_; try dsimp only [slots0, slots_ud, arr_len, arr_cls, arr_fzs, arr_bels, cells_U, agg_ud, drop0, dropS, takeS, take0, ud_nil, take_ud, take_ud0, drop_ud, drop_ud0, take_udk, D.cells, D.fz, D.fzs, List.take_succ_cons, List.take_zero, List.drop_succ_cons, List.drop_zero, List.cons_append, List.nil_append, List.append_eq, List.length_cons, List.length_nil, Nat.reduceAdd, Nat.reduceMul, Nat.reduceSub, Int.reduceAdd, Int.reduceSub, Int.reduceToNat, Int.reduceNeg, Int.reduceMul]) | refine q_blocky rfl ?_ | refine W_plain rfl ?_ | refine W_drawn mixed rfl ?_ | refine and_chk (by kernel_rfl) ?_ | refine k_move rfl rfl ?_ | refine k_assign rfl rfl ?_ | refine k_load rfl rfl rfl rfl ?_ | refine k_alloc rfl ?_ | refine k_box rfl rfl rfl ?_ | refine k_store rfl rfl rfl rfl rfl rfl rfl ?_ | refine k_extract rfl rfl rfl ?_ | refine k_fieldAddr rfl rfl rfl ?_ | refine k_field rfl rfl rfl ?_ | refine k_build rfl rfl rfl ?_ | refine k_load rfl rfl rfl (by exact arr_whole _ _ _) ?_ | refine k_store rfl rfl rfl rfl (arr_len _ _) rfl (by exact arr_lay _ _ _ (arr_len _ _)) ?_ | refine k_buildSlice (cs := []) rfl rfl rfl rfl rfl rfl rfl ?_ | refine k_buildSlice rfl rfl rfl rfl rfl rfl rfl ?_ | refine k_indexAddr rfl rfl rfl ⟨by omega, by omega⟩ ?_ | refine k_indexAddrs rfl rfl rfl ⟨by omega, by omega⟩ rfl ?_ | refine k_index rfl rfl rfl ⟨by omega, by omega⟩ rfl ?_ | refine k_loade rfl rfl rfl ?_ | refine k_fieldAddre rfl rfl rfl rfl ?_ | refine k_len rfl rfl ?_ | refine k_nilCheck rfl rfl rfl ?_ | refine k_pickT rfl rfl rfl ?_ | refine k_pickF rfl rfl rfl ?_ | refine k_addi rfl rfl rfl (by omega) ?_ | refine k_subi rfl rfl rfl (by omega) ?_ | refine k_negi rfl rfl (by omega) ?_ | refine k_not rfl rfl rfl ?_ | refine k_lssT rfl rfl rfl (by omega) ?_ | refine k_lssF rfl rfl rfl (by omega) ?_ | refine k_leqT rfl rfl rfl (by omega) ?_ | refine k_leqF rfl rfl rfl (by omega) ?_ | refine k_gtrT rfl rfl rfl (by omega) ?_ | refine k_gtrF rfl rfl rfl (by omega) ?_ | refine k_geqT rfl rfl rfl (by omega) ?_ | refine k_geqF rfl rfl rfl (by omega) ?_ | refine k_eqlT rfl rfl rfl (by omega) ?_ | refine k_eqlF rfl rfl rfl (by omega) ?_ | refine k_neqT rfl rfl rfl (by omega) ?_ | refine k_neqF rfl rfl rfl (by omega) ?_ | refine k_eqa rfl rfl rfl rfl rfl rfl ?_ | refine k_nea rfl rfl rfl rfl rfl rfl ?_ | refine k_makeFunc rfl rfl rfl ?_ | refine k_skip rfl ?_ | refine k_skip0 rfl ?_ | refine k_pick rfl rfl rfl rfl rfl ?_ | refine W_yes rfl ?_ | refine W_no rfl ?_)
    (first | with_reducible refine q_endr ?_ | with_reducible refine q_endn ?_); refine rets1 Tryd.results23 (RetV.cell _ _ _ _ _ _ _ _ inferInstance rfl rfl (by exact arr_whole _ _ _)) ?_
    show D.agg (D.fzs (arr (turn kons a) 25)) = _
    rw [arr_fzs]
end Go.Proofs.YtbpaimfnfigjpaaDoor
