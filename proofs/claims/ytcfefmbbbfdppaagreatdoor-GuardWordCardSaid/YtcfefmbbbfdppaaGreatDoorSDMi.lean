/- Slices of variables, read cell by cell. Of any program. No conditions. -/
import Derived.Test.YtcfefmbbbfdppaaGreatDoorSBytes
import Derived.Test.YtcfefmbbbfdppaaGreatDoorSDGlob
import Derived.Test.YtcfefmbbbfdppaaGreatDoorSDInst
import Derived.Test.YtcfefmbbbfdppaaGreatDoorSDMore
import Derived.Test.YtcfefmbbbfdppaaGreatDoorSDK2
import Derived.Test.YtcfefmbbbfdppaaGreatDoorSDCode
namespace Go.Proofs.YtcfefmbbbfdppaaGreatDoor
open Go.RowKit Go.IntWalk Kec
set_option linter.unusedVariables false
set_option maxRecDepth 100000
--nrm arr_len arr_cls arr_fzs arr_bels
theorem rl_or (x : Kec.W) (r : Nat) (h : r < 64) : rl x r = x <<< r ||| x >>> (64 - r) := by
  unfold rl
  rw [BitVec.rotateLeft_def, Nat.mod_eq_of_lt h]
theorem rot_ok (x : Kec.W) (r : Nat) (h : r < 64) : Pur Tryz.prog 113 [.int .u64 (wv x), .int .i64 (r : Int)] (.int .u64 (wv (rl x r))) := by
  have h1 : IntKind.u64.wrap (r : Int) = (r : Int) := u64_in _ (by omega)
  have h2 : bitw .and .u64 (r : Int) 63 = (r : Int) := by
    have e1 : (r : Int) = wv (BitVec.ofNat 64 r) := by unfold wv; rw [BitVec.toNat_ofNat, Nat.mod_eq_of_lt (by omega)]
    have e2 : (63 : Int) = wv (BitVec.ofNat 64 63) := by decide
    rw [e2, e1, and_wv]
    unfold wv
    congr 1
    rw [BitVec.toNat_and, BitVec.toNat_ofNat, BitVec.toNat_ofNat, Nat.mod_eq_of_lt (by omega : r < 2 ^ 64)]
    show r &&& 63 = r
    rw [show (63 : Nat) = 2 ^ 6 - 1 from rfl, Nat.and_two_pow_sub_one_eq_mod, Nat.mod_eq_of_lt (by omega)]
  have h3 : IntKind.u64.wrap (64 - (r : Int)) = ((64 - r : Nat) : Int) := by rw [u64_in _ (by omega)]; omega
  have h4 := shl_wv x r h
  have h5 := shr_wv x (64 - r) (by omega)
  have h6 := or_wv (x <<< r) (x >>> (64 - r))
  rw [← rl_or x r h] at h6
  refine pur_intro Tryz.func113 rfl Tryz.ntmps113 rfl (by first | rfl | assumption | exact bs_cl _) fun B => ?_
  repeat (first | (with_reducible refine R_nil ?_; try dsimp only [slots0, slots_ud, arr_len, arr_cls, arr_fzs, arr_bels, cells_U, agg_ud, drop0, dropS, takeS, take0, ud_nil, take_ud, take_ud0, drop_ud, drop_ud0, take_udk, D.cells, D.fz, D.fzs, List.take_succ_cons, List.take_zero, List.drop_succ_cons, List.drop_zero, List.cons_append, List.nil_append, List.append_eq, List.length_cons, List.length_nil, Nat.reduceAdd, Nat.reduceMul, Nat.reduceSub, Int.reduceAdd, Int.reduceSub, Int.reduceToNat, Int.reduceNeg, Int.reduceMul]) | refine zc ?_ | refine zA ?_ | refine k_conv rfl rfl h1 ?_ | refine k_bits rfl rfl rfl rfl h2 ?_ | (refine k_shl rfl rfl rfl ?_ h4 ?_; (omega)) | refine k_sub rfl rfl rfl h3 ?_ | (refine k_shr rfl rfl rfl ?_ h5 ?_; (omega)) | refine k_bits rfl rfl rfl rfl h6 ?_ | refine zB ?_)
  (first | with_reducible refine q_endr ?_); refine rets1 Tryz.results113 (by exact zv) ?_
  rfl
def kf : S := fun j => kons.getD j 0
def tcells : List D := turns.map fun (t : Nat) => D.int .i64 (t : Int)
def tab0 : List Value := [0x0000000000000001, 0x0000000000008082, 0x800000000000808a, 0x8000000080008000, 0x000000000000808b, 0x0000000080000001, 0x8000000080008081, 0x8000000000008009, 0x000000000000008a, 0x0000000000000088, 0x0000000080008009, 0x000000008000000a, 0x000000008000808b, 0x800000000000008b, 0x8000000000008089, 0x8000000000008003, 0x8000000000008002, 0x8000000000000080, 0x000000000000800a, 0x800000008000000a, 0x8000000080008081, 0x8000000000008080, 0x0000000080000001, 0x8000000080008008].map (.int .u64)
def tab1 : List Value := [0, 1, 62, 28, 27, 36, 44, 6, 55, 20, 3, 10, 43, 25, 39, 41, 45, 15, 21, 8, 18, 2, 61, 56, 14].map (.int .i64)
theorem gm0 : (0, tab0) ∈ gtab := List.mem_cons_self
theorem gm1 : (1, tab1) ∈ gtab := List.mem_cons_of_mem _ List.mem_cons_self
theorem ov0 : ofVals tab0 = some (arr kf 24) := by kernel_rfl
theorem ov1 : ofVals tab1 = some tcells := by kernel_rfl
theorem tt_cut (i : Nat) (h : i < 25) : cut ⟨false, 1, [.int .i64 0]⟩ (0 + ((i : Nat) : Int).toNat * 1) tcells = some (.int .i64 ((turnAt i : Nat) : Int)) := by
  unfold cut
  rw [Int.toNat_natCast, Nat.zero_add, Nat.mul_one, cond_false]
  have key : ∀ i, i < 25 → tcells[i]? = some (.int .i64 ((turnAt i : Nat) : Int)) := by
    intro i hi
    unfold tcells turnAt
    rw [List.getElem?_map, List.getD_eq_getElem?_getD]
    have : i < turns.length := hi
    rw [List.getElem?_eq_getElem this]; rfl
  exact key i h
theorem arr_ix (f : S) (n k : Nat) (h : k < n) : cut ⟨false, 1, [.int .u64 0]⟩ (((k : Nat) : Int).toNat * 1) (arr f n) = some (.int .u64 (wv (f k))) := by
  have := arr_cut f n k h
  rw [Nat.zero_add] at this; exact this
theorem quo5 (k : Nat) (hk : k < 1000) : IntKind.i64.wrap ((k : Int).tdiv 5) = ((k / 5 : Nat) : Int) := by
  rw [Int.tdiv_eq_ediv_of_nonneg (by omega), i64_in _ (by omega)]; omega
theorem rem5 (k : Nat) : (k : Int).tmod 5 = ((k % 5 : Nat) : Int) := by
  rw [Int.tmod_eq_emod_of_nonneg (by omega)]; omega
theorem rem5a (k c : Nat) : ((k : Int) + (c : Int)).tmod 5 = (((k + c) % 5 : Nat) : Int) := by
  have := rem5 (k + c)
  rw [← this]; push_cast; rfl
theorem mulc (c k : Nat) (hc : c < 10) (hk : k < 1000) : IntKind.i64.wrap ((c : Int) * (k : Int)) = ((c * k : Nat) : Int) := by
  have : c * k ≤ 9 * 999 := Nat.mul_le_mul (by omega) (by omega)
  rw [← Int.natCast_mul, i64_in _ (by omega)]
def tI (a : S) (i : Nat) : Kec.W := a i ^^^ cI a 25 ((i % 5 + 4) % 5) ^^^ rl (cI a 25 ((i % 5 + 1) % 5)) 1
theorem tI_theta (a : S) (i : Nat) : tI a i = theta a i := by
  unfold tI theta dd
  rw [cI_par a _ (Nat.mod_lt _ (by decide)), cI_par a _ (Nat.mod_lt _ (by decide)), BitVec.xor_assoc]
def rI (k : Kec.W) (a : S) : S := upd (aI (bI (tI a) 25) a 25) 0 (aI (bI (tI a) 25) a 25 0 ^^^ k)
theorem rI_round (k : Kec.W) (a : S) : Eq25 (rI k a) (round k a) := by
  have ht : tI a = theta a := funext fun i => tI_theta a i
  have hb : Eq25 (bI (tI a) 25) (rhopi (theta a)) := by rw [ht]; exact bI_rhopi (theta a)
  have hc : Eq25 (chi (bI (tI a) 25)) (chi (rhopi (theta a))) := fun i hi => by
    unfold chi
    rw [hb i hi, hb _ (by omega), hb _ (by omega)]
  intro i hi
  unfold rI upd round iota
  by_cases e : i = 0
  · subst e
    rw [if_pos rfl, if_pos rfl, aI_at, if_pos (by omega), hc 0 (by omega)]
  · rw [if_neg e, if_neg e, aI_at, if_pos hi, hc i hi]
theorem turn_succ (a : S) (r : Nat) (h : r < 24) : turn (kons.take (r + 1)) a = round (kf r) (turn (kons.take r) a) := by
  have hk : kons[r]? = some (kf r) := by
    unfold kf
    rw [List.getD_eq_getElem?_getD]
    have : r < kons.length := h
    rw [List.getElem?_eq_getElem this]; rfl
  rw [List.take_add_one, hk]
  unfold turn
  rw [List.foldl_append]; rfl
set_option maxHeartbeats 16000000 in
theorem Turn_ok (a : S) : Pur Tryz.prog 109 [.agg (arr a 25)] (.agg (arr (turn kons a) 25)) := by
  have hcl : D.cl (.agg (arr (turn kons a) 25)) = true := arr_cls _ _
  refine pur_intro Tryz.func109 rfl Tryz.ntmps109 rfl hcl fun B => ?_
  repeat (first | (with_reducible refine R_nil ?_; try dsimp only [slots0, slots_ud, arr_len, arr_cls, arr_fzs, arr_bels, cells_U, agg_ud, drop0, dropS, takeS, take0, ud_nil, take_ud, take_ud0, drop_ud, drop_ud0, take_udk, D.cells, D.fz, D.fzs, List.take_succ_cons, List.take_zero, List.drop_succ_cons, List.drop_zero, List.cons_append, List.nil_append, List.append_eq, List.length_cons, List.length_nil, Nat.reduceAdd, Nat.reduceMul, Nat.reduceSub, Int.reduceAdd, Int.reduceSub, Int.reduceToNat, Int.reduceNeg, Int.reduceMul]) | refine zc ?_ | refine zA ?_ | refine k_loadg rfl rfl gm0 ov0 (arr_whole _ _ _) ?_ | refine zB ?_)
  refine W_loop (fun n' ρ m nx => ∃ r : Nat, r ≤ 24 ∧ n' = 24 - r ∧ ρ = [(17, .int .i64 (r : Int)), (16, .agg (arr kf 24)), (2, .ptr 1 0), (1, .ptr 0 0)] ∧ m = [(1, some (.var 123 (arr (fun _ => 0) 25))), (0, some (.var 123 (arr (turn (kons.take r) a) 25)))] ∧ nx = 2)
    ⟨_, _, _, _, (by exact zs), (by exact zm), 0, by decide, rfl, rfl, rfl, rfl⟩ ?_
  rintro n' ρ m nx ⟨r, hr, rfl, rfl, rfl, rfl⟩
  by_cases hlt : r < 24
  · have hts := turn_succ a r hlt
    have hix := arr_ix kf 24 r hlt
    generalize turn (kons.take r) a = A at *
    generalize kf r = kr at *
    have hfin : arr (rI kr A) 25 = arr (turn (kons.take (r + 1)) a) 25 := by rw [hts]; exact arr_congr (rI_round kr A)
    repeat (first | (with_reducible refine R_nil ?_; try dsimp only [slots0, slots_ud, arr_len, arr_cls, arr_fzs, arr_bels, cells_U, agg_ud, drop0, dropS, takeS, take0, ud_nil, take_ud, take_ud0, drop_ud, drop_ud0, take_udk, D.cells, D.fz, D.fzs, List.take_succ_cons, List.take_zero, List.drop_succ_cons, List.drop_zero, List.cons_append, List.nil_append, List.append_eq, List.length_cons, List.length_nil, Nat.reduceAdd, Nat.reduceMul, Nat.reduceSub, Int.reduceAdd, Int.reduceSub, Int.reduceToNat, Int.reduceNeg, Int.reduceMul]) | refine zc ?_ | refine zA ?_ | (refine k_index rfl rfl rfl ⟨?_, ?_⟩ (by exact hix) ?_; (omega); (omega)) | refine k_load rfl rfl rfl (arr_whole _ _ _) ?_ | refine zB ?_)
    refine W_loop (fun n' ρ m nx => ∃ i : Nat, i ≤ 25 ∧ n' = 25 - i ∧ ρ = [(21, .int .i64 (i : Int)), (20, .agg (arr A 25)), (5, .ptr 2 0), (4, .int .u64 (wv kr)), (17, .int .i64 (r : Int)), (16, .agg (arr kf 24)), (2, .ptr 1 0), (1, .ptr 0 0)] ∧ m = [(2, some (.var 194 (arr (cI A i) 5))), (1, some (.var 123 (arr (fun _ => 0) 25))), (0, some (.var 123 (arr A 25)))] ∧ nx = 3)
      ⟨_, _, _, _, (by exact zs), (by exact zm), 0, by decide, rfl, rfl, rfl, rfl⟩ ?_
    rintro n' ρ m nx ⟨i, hi, rfl, rfl, rfl, rfl⟩
    by_cases hil : i < 25
    · have h5 := rem5 i
      have hA := arr_ix A 25 i hil
      have hc := arr_cut (cI A i) 5 (i % 5) (Nat.mod_lt _ (by decide))
      have hp := arr_put (cI A i) 5 (i % 5) (Nat.mod_lt _ (by decide)) (cI A i (i % 5) ^^^ A i)
      have hx := xor_wv (cI A i (i % 5)) (A i)
      have hm5 : i % 5 < 5 := Nat.mod_lt _ (by decide)
      have hn : upd (cI A i) (i % 5) (cI A i (i % 5) ^^^ A i) = cI A (i + 1) := rfl
      rw [hn] at hp
      clear hn
      generalize i % 5 = q at *
      repeat (first | (with_reducible refine R_nil ?_; try dsimp only [slots0, slots_ud, arr_len, arr_cls, arr_fzs, arr_bels, cells_U, agg_ud, drop0, dropS, takeS, take0, ud_nil, take_ud, take_ud0, drop_ud, drop_ud0, take_udk, D.cells, D.fz, D.fzs, List.take_succ_cons, List.take_zero, List.drop_succ_cons, List.drop_zero, List.cons_append, List.nil_append, List.append_eq, List.length_cons, List.length_nil, Nat.reduceAdd, Nat.reduceMul, Nat.reduceSub, Int.reduceAdd, Int.reduceSub, Int.reduceToNat, Int.reduceNeg, Int.reduceMul]) | refine zc ?_ | refine zA ?_ | (refine k_index rfl rfl rfl ⟨?_, ?_⟩ (by exact hA) ?_; (omega); (omega)) | (refine k_rem rfl rfl rfl ?_ h5 ?_; (decide)) | refine k_load rfl rfl rfl (by exact hc) ?_ | refine k_bits rfl rfl rfl rfl hx ?_ | refine k_store rfl rfl rfl rfl rfl rfl (by exact hp) ?_ | refine zB ?_)
      exact ⟨25 - (i + 1), _, _, _, (by exact zs), (by exact zm), by omega, i + 1, by omega, rfl, rfl, rfl, rfl⟩
    · have ei : i = 25 := by omega
      subst ei
      repeat (first | (with_reducible refine R_nil ?_; try dsimp only [slots0, slots_ud, arr_len, arr_cls, arr_fzs, arr_bels, cells_U, agg_ud, drop0, dropS, takeS, take0, ud_nil, take_ud, take_ud0, drop_ud, drop_ud0, take_udk, D.cells, D.fz, D.fzs, List.take_succ_cons, List.take_zero, List.drop_succ_cons, List.drop_zero, List.cons_append, List.nil_append, List.append_eq, List.length_cons, List.length_nil, Nat.reduceAdd, Nat.reduceMul, Nat.reduceSub, Int.reduceAdd, Int.reduceSub, Int.reduceToNat, Int.reduceNeg, Int.reduceMul]) | refine zc ?_ | refine zAB ?_)
      generalize hC : cI A 25 = C at *
      refine W_loop (fun n' ρ m nx => ∃ i : Nat, i ≤ 25 ∧ n' = 25 - i ∧ ρ = [(33, .int .i64 (i : Int)), (8, .ptr 3 0), (5, .ptr 2 0), (4, .int .u64 (wv kr)), (17, .int .i64 (r : Int)), (16, .agg (arr kf 24)), (2, .ptr 1 0), (1, .ptr 0 0)] ∧ m = [(3, some (.var 123 (arr (bI (tI A) i) 25))), (2, some (.var 194 (arr C 5))), (1, some (.var 123 (arr (fun _ => 0) 25))), (0, some (.var 123 (arr A 25)))] ∧ nx = 4)
        ⟨_, _, _, _, (by exact zs), (by exact zm), 0, by decide, rfl, rfl, rfl, rfl⟩ ?_
      rintro n' ρ m nx ⟨i, hi, rfl, rfl, rfl, rfl⟩
      by_cases hil : i < 25
      · have hm5 : i % 5 < 5 := Nat.mod_lt _ (by decide)
        have hd5 : i / 5 < 5 := by omega
        have h5 := rem5 i
        have hq := quo5 i (by omega)
        have h4 := rem5a (i % 5) 4
        have h1 := rem5a (i % 5) 1
        have hA := arr_cut A 25 i hil
        have hc4 := arr_cut C 5 ((i % 5 + 4) % 5) (Nat.mod_lt _ (by decide))
        have hc1 := arr_cut C 5 ((i % 5 + 1) % 5) (Nat.mod_lt _ (by decide))
        have hx1 := xor_wv (A i) (C ((i % 5 + 4) % 5))
        have hr1 : Pur Tryz.prog 113 [.int .u64 (wv (C ((i % 5 + 1) % 5))), .int .i64 1] (.int .u64 (wv (rl (C ((i % 5 + 1) % 5)) 1))) := rot_ok _ 1 (by decide)
        have hx2 := xor_wv (A i ^^^ C ((i % 5 + 4) % 5)) (rl (C ((i % 5 + 1) % 5)) 1)
        have hti : A i ^^^ C ((i % 5 + 4) % 5) ^^^ rl (C ((i % 5 + 1) % 5)) 1 = tI A i := by unfold tI; rw [hC]
        rw [hti] at hx2
        have hrt := rot_ok (tI A i) (turnAt i) (turnAt_lt i hil)
        have htt := tt_cut i hil
        have m2 : IntKind.i64.wrap (2 * ((i % 5 : Nat) : Int)) = ((2 * (i % 5) : Nat) : Int) := mulc 2 _ (by omega) (by omega)
        have m3 : IntKind.i64.wrap (3 * ((i / 5 : Nat) : Int)) = ((3 * (i / 5) : Nat) : Int) := mulc 3 _ (by omega) (by omega)
        have m23 := rem5a (2 * (i % 5)) (3 * (i / 5))
        have m5 : IntKind.i64.wrap (5 * (((2 * (i % 5) + 3 * (i / 5)) % 5 : Nat) : Int)) = ((5 * ((2 * (i % 5) + 3 * (i / 5)) % 5) : Nat) : Int) := mulc 5 _ (by omega) (by omega)
        have hgo : ((i / 5 : Nat) : Int) + ((5 * ((2 * (i % 5) + 3 * (i / 5)) % 5) : Nat) : Int) = ((goes i : Nat) : Int) := by unfold goes; push_cast; rfl
        have hgl := (comes_goes i hil).2
        have hp := arr_put (bI (tI A) i) 25 (goes i) hgl (rl (tI A i) (turnAt i))
        have hn : upd (bI (tI A) i) (goes i) (rl (tI A i) (turnAt i)) = bI (tI A) (i + 1) := rfl
        rw [hn, ← hgo] at hp
        clear hn
        have hw23 : (2 * (i % 5) + 3 * (i / 5)) % 5 < 5 := Nat.mod_lt _ (by decide)
        have hl4 : (i % 5 + 4) % 5 < 5 := Nat.mod_lt _ (by decide)
        have hl1 : (i % 5 + 1) % 5 < 5 := Nat.mod_lt _ (by decide)
        generalize (2 * (i % 5) + 3 * (i / 5)) % 5 = q23 at *
        generalize (i % 5 + 4) % 5 = q4 at *
        generalize (i % 5 + 1) % 5 = q1 at *
        generalize i % 5 = q at *
        generalize i / 5 = y at *
        generalize goes i = gi at *
        generalize turnAt i = ti at *
        generalize tI A i = V at *
        repeat (first | (with_reducible refine R_nil ?_; try dsimp only [slots0, slots_ud, arr_len, arr_cls, arr_fzs, arr_bels, cells_U, agg_ud, drop0, dropS, takeS, take0, ud_nil, take_ud, take_ud0, drop_ud, drop_ud0, take_udk, D.cells, D.fz, D.fzs, List.take_succ_cons, List.take_zero, List.drop_succ_cons, List.drop_zero, List.cons_append, List.nil_append, List.append_eq, List.length_cons, List.length_nil, Nat.reduceAdd, Nat.reduceMul, Nat.reduceSub, Int.reduceAdd, Int.reduceSub, Int.reduceToNat, Int.reduceNeg, Int.reduceMul]) | refine zc ?_ | refine zA ?_ | (refine k_rem rfl rfl rfl ?_ h5 ?_; (decide)) | (refine k_quo rfl rfl rfl ?_ hq ?_; (decide)) | (refine k_rem rfl rfl rfl ?_ h4 ?_; (decide)) | (refine k_rem rfl rfl rfl ?_ h1 ?_; (decide)) | refine k_load rfl rfl rfl (by exact hA) ?_ | refine k_load rfl rfl rfl (by exact hc4) ?_ | refine k_load rfl rfl rfl (by exact hc1) ?_ | refine k_bits rfl rfl rfl rfl hx1 ?_ | refine k_bits rfl rfl rfl rfl hx2 ?_ | refine k_call rfl hr1 rfl rfl rfl rfl ?_ | refine k_mul rfl rfl rfl m2 ?_ | refine k_mul rfl rfl rfl m3 ?_ | (refine k_rem rfl rfl rfl ?_ m23 ?_; (decide)) | refine k_mul rfl rfl rfl m5 ?_ | (refine k_indexAddrg rfl rfl rfl ⟨?_, ?_⟩ ?_; (omega); (omega)) | refine k_loadg rfl rfl gm1 ov1 (by exact htt) ?_ | refine k_call rfl hrt rfl rfl rfl rfl ?_ | refine k_store rfl rfl rfl rfl rfl rfl (by exact hp) ?_ | refine zB ?_)
        exact ⟨25 - (i + 1), _, _, _, (by exact zs), (by exact zm), by omega, i + 1, by omega, rfl, rfl, rfl, rfl⟩
      · have ei : i = 25 := by omega
        subst ei
        repeat (first | (with_reducible refine R_nil ?_; try dsimp only [slots0, slots_ud, arr_len, arr_cls, arr_fzs, arr_bels, cells_U, agg_ud, drop0, dropS, takeS, take0, ud_nil, take_ud, take_ud0, drop_ud, drop_ud0, take_udk, D.cells, D.fz, D.fzs, List.take_succ_cons, List.take_zero, List.drop_succ_cons, List.drop_zero, List.cons_append, List.nil_append, List.append_eq, List.length_cons, List.length_nil, Nat.reduceAdd, Nat.reduceMul, Nat.reduceSub, Int.reduceAdd, Int.reduceSub, Int.reduceToNat, Int.reduceNeg, Int.reduceMul]) | refine zc ?_ | refine zAB ?_)
        generalize hB : bI (tI A) 25 = F at *
        refine W_loop (fun n' ρ m nx => ∃ i : Nat, i ≤ 25 ∧ n' = 25 - i ∧ ρ = [(72, .int .i64 (i : Int)), (8, .ptr 3 0), (4, .int .u64 (wv kr)), (17, .int .i64 (r : Int)), (16, .agg (arr kf 24)), (2, .ptr 1 0), (1, .ptr 0 0)] ∧ m = [(3, some (.var 123 (arr F 25))), (1, some (.var 123 (arr (fun _ => 0) 25))), (0, some (.var 123 (arr (aI F A i) 25)))] ∧ nx = 4)
          ⟨_, _, _, _, (by exact zs), (by exact zm), 0, by decide, rfl, rfl, rfl, rfl⟩ ?_
        rintro n' ρ m nx ⟨i, hi, rfl, rfl, rfl, rfl⟩
        by_cases hil : i < 25
        · have hm5 : i % 5 < 5 := Nat.mod_lt _ (by decide)
          have hd5 : i / 5 < 5 := by omega
          have h5 := rem5 i
          have hq := quo5 i (by omega)
          have h1 := rem5a (i % 5) 1
          have h2 := rem5a (i % 5) 2
          have m5 : IntKind.i64.wrap (5 * ((i / 5 : Nat) : Int)) = ((5 * (i / 5) : Nat) : Int) := mulc 5 _ (by omega) (by omega)
          have e1 : (((i % 5 + 1) % 5 : Nat) : Int) + ((5 * (i / 5) : Nat) : Int) = (((i % 5 + 1) % 5 + 5 * (i / 5) : Nat) : Int) := by push_cast; rfl
          have e2 : (((i % 5 + 2) % 5 : Nat) : Int) + ((5 * (i / 5) : Nat) : Int) = (((i % 5 + 2) % 5 + 5 * (i / 5) : Nat) : Int) := by push_cast; rfl
          have hF := arr_cut F 25 i hil
          have hF1 := arr_cut F 25 ((i % 5 + 1) % 5 + 5 * (i / 5)) (by omega)
          have hF2 := arr_cut F 25 ((i % 5 + 2) % 5 + 5 * (i / 5)) (by omega)
          have hco := com_wv (F ((i % 5 + 1) % 5 + 5 * (i / 5)))
          have han := and_wv (~~~ F ((i % 5 + 1) % 5 + 5 * (i / 5))) (F ((i % 5 + 2) % 5 + 5 * (i / 5)))
          have hxo := xor_wv (F i) (~~~ F ((i % 5 + 1) % 5 + 5 * (i / 5)) &&& F ((i % 5 + 2) % 5 + 5 * (i / 5)))
          have hch : F i ^^^ (~~~ F ((i % 5 + 1) % 5 + 5 * (i / 5)) &&& F ((i % 5 + 2) % 5 + 5 * (i / 5))) = chi F i := rfl
          rw [hch] at hxo
          clear hch
          have hp := arr_put (aI F A i) 25 i hil (chi F i)
          have hn : upd (aI F A i) i (chi F i) = aI F A (i + 1) := rfl
          rw [hn] at hp
          clear hn
          rw [← e1] at hF1
          rw [← e2] at hF2
          have b1 : (i % 5 + 1) % 5 + 5 * (i / 5) < 25 := by omega
          have b2 : (i % 5 + 2) % 5 + 5 * (i / 5) < 25 := by omega
          have hl2 : (i % 5 + 2) % 5 < 5 := Nat.mod_lt _ (by decide)
          have hl1 : (i % 5 + 1) % 5 < 5 := Nat.mod_lt _ (by decide)
          generalize F ((i % 5 + 1) % 5 + 5 * (i / 5)) = X1 at *
          generalize F ((i % 5 + 2) % 5 + 5 * (i / 5)) = X2 at *
          generalize chi F i = V at *
          generalize (i % 5 + 2) % 5 = q2 at *
          generalize (i % 5 + 1) % 5 = q1 at *
          generalize i % 5 = q at *
          generalize i / 5 = y at *
          repeat (first | (with_reducible refine R_nil ?_; try dsimp only [slots0, slots_ud, arr_len, arr_cls, arr_fzs, arr_bels, cells_U, agg_ud, drop0, dropS, takeS, take0, ud_nil, take_ud, take_ud0, drop_ud, drop_ud0, take_udk, D.cells, D.fz, D.fzs, List.take_succ_cons, List.take_zero, List.drop_succ_cons, List.drop_zero, List.cons_append, List.nil_append, List.append_eq, List.length_cons, List.length_nil, Nat.reduceAdd, Nat.reduceMul, Nat.reduceSub, Int.reduceAdd, Int.reduceSub, Int.reduceToNat, Int.reduceNeg, Int.reduceMul]) | refine zc ?_ | refine zA ?_ | (refine k_rem rfl rfl rfl ?_ h5 ?_; (decide)) | (refine k_quo rfl rfl rfl ?_ hq ?_; (decide)) | (refine k_rem rfl rfl rfl ?_ h1 ?_; (decide)) | (refine k_rem rfl rfl rfl ?_ h2 ?_; (decide)) | refine k_load rfl rfl rfl (by exact hF) ?_ | refine k_load rfl rfl rfl (by exact hF1) ?_ | refine k_load rfl rfl rfl (by exact hF2) ?_ | refine k_com rfl rfl hco ?_ | refine k_bits rfl rfl rfl rfl han ?_ | refine k_bits rfl rfl rfl rfl hxo ?_ | refine k_mul rfl rfl rfl m5 ?_ | refine k_store rfl rfl rfl rfl rfl rfl (by exact hp) ?_ | refine zB ?_)
          exact ⟨25 - (i + 1), _, _, _, (by exact zs), (by exact zm), by omega, i + 1, by omega, rfl, rfl, rfl, rfl⟩
        · have ei : i = 25 := by omega
          subst ei
          have hL := arr_cut (aI F A 25) 25 0 (by decide)
          have hp := arr_put (aI F A 25) 25 0 (by decide) (aI F A 25 0 ^^^ kr)
          have hx := xor_wv (aI F A 25 0) kr
          have hn : upd (aI F A 25) 0 (aI F A 25 0 ^^^ kr) = rI kr A := by unfold rI; rw [hB]
          rw [hn, hfin] at hp
          generalize aI F A 25 = Z at *
          repeat (first | (with_reducible refine R_nil ?_; try dsimp only [slots0, slots_ud, arr_len, arr_cls, arr_fzs, arr_bels, cells_U, agg_ud, drop0, dropS, takeS, take0, ud_nil, take_ud, take_ud0, drop_ud, drop_ud0, take_udk, D.cells, D.fz, D.fzs, List.take_succ_cons, List.take_zero, List.drop_succ_cons, List.drop_zero, List.cons_append, List.nil_append, List.append_eq, List.length_cons, List.length_nil, Nat.reduceAdd, Nat.reduceMul, Nat.reduceSub, Int.reduceAdd, Int.reduceSub, Int.reduceToNat, Int.reduceNeg, Int.reduceMul]) | refine zc ?_ | refine zA ?_ | refine k_load rfl rfl rfl (by exact hL) ?_ | refine k_bits rfl rfl rfl rfl hx ?_ | refine k_store rfl rfl rfl rfl rfl rfl (by exact hp) ?_ | refine zB ?_)
          exact ⟨24 - (r + 1), _, _, _, (by exact zs), (by exact ⟨⟨rfl, rfl, arr_bels _ _ _⟩, ⟨congrArg (fun z => some (Loc.var 123 z)) (Option.some.inj hp), rfl, arr_bels _ _ _⟩, trivial⟩), by omega, r + 1, by omega, rfl, rfl, rfl, rfl⟩
  · have er : r = 24 := by omega
    subst er
    have hk : kons.take 24 = kons := rfl
    rw [hk]
    repeat (first | (with_reducible refine R_nil ?_; try dsimp only [slots0, slots_ud, arr_len, arr_cls, arr_fzs, arr_bels, cells_U, agg_ud, drop0, dropS, takeS, take0, ud_nil, take_ud, take_ud0, drop_ud, drop_ud0, take_udk, D.cells, D.fz, D.fzs, List.take_succ_cons, List.take_zero, List.drop_succ_cons, List.drop_zero, List.cons_append, List.nil_append, List.append_eq, List.length_cons, List.length_nil, Nat.reduceAdd, Nat.reduceMul, Nat.reduceSub, Int.reduceAdd, Int.reduceSub, Int.reduceToNat, Int.reduceNeg, Int.reduceMul]) | refine zc ?_ | refine zA ?_ | refine k_load rfl rfl rfl (arr_whole _ _ _) ?_ | refine k_store rfl rfl rfl rfl (arr_len _ _) rfl (by exact arr_lay _ _ _ (arr_len _ _)) ?_ | refine zB ?_)
    (first | with_reducible refine q_endr ?_); refine rets1 Tryz.results109 (RetV.cell _ _ _ _ _ _ _ _ inferInstance rfl rfl (by exact arr_whole _ _ _)) ?_
    show D.agg (D.fzs (arr (turn kons a) 25)) = _
    rw [arr_fzs]
end Go.Proofs.YtcfefmbbbfdppaaGreatDoor
namespace Go.Proofs.YtcfefmbbbfdppaaGreatDoor
open Go.RowKit
set_option linter.unusedVariables false
set_option linter.unusedSimpArgs false
mutual
theorem bel_cl (n : Nat) : ∀ (d : D), d.cl = true → d.bel n = true
  | .agg cs, h => by simp only [D.cl] at h; simp only [D.bel]; exact bels_cls n cs h
  | .tup cs, h => by simp only [D.cl] at h; simp only [D.bel]; exact bels_cls n cs h
  | .fn f cs, h => by simp only [D.cl] at h; simp only [D.bel]; exact bels_cls n cs h
  | .slice tk k cs, h => by cases tk <;> simp [D.cl] at h <;> rfl
  | .ptr l off, h => by simp [D.cl] at h
  | .ms l off k, h => by simp [D.cl] at h
  | .rs l k, h => by simp [D.cl] at h
  | .mp l, h => by simp [D.cl] at h
  | .int _ _, _ => rfl
  | .bool _, _ => rfl
  | .str _, _ => rfl
  | .eptr _, _ => rfl
  | .raw _, _ => rfl
  | .opq, _ => rfl
  | .undef, _ => rfl
theorem bels_cls (n : Nat) : ∀ (ds : List D), D.cls ds = true → D.bels n ds = true
  | [], _ => rfl
  | d :: ds, h => by
    simp only [D.cls, Bool.and_eq_true] at h
    simp only [D.bels, bel_cl n d h.1, bels_cls n ds h.2, Bool.and_self]
end
section
variable {P : Program} {o : Oper} {ρ : Slots} {m : Mem}
theorem r_indexAddrM {T : TypeId} {x ix : Operand} {E : TypeId} {ty : Ty} [ha : HasSl P T E] [ht : HasTy P E ty] {l off n : Nat} {k : IntKind} {j : Int} (ho : o.op = .indexAddr T x ix) (hx : oev ρ x = some (.ms l off n)) (hix : oev ρ ix = some (.int k j)) (hj : 0 ≤ j ∧ j < n) : OpSound P o (Eff.val (.ptr l (off + j.toNat * ty.size))) ρ m := by
  refine sound_val fun B G a w m' hs h _ => ?_
  have hp := h x (by simp [ho, Op.operands]) _ hx
  have hq := h ix (by simp [ho, Op.operands]) _ hix
  generalize hev : a.eval x = vx at hp
  generalize hevi : a.eval ix = vi at hq
  cases hq
  cases hp with
  | ms l off n cap hk hn =>
    obtain ⟨i, hi, hsi⟩ := Option.map_eq_some_iff.1 ht.size
    refine ⟨.pointer (some ⟨G.g l, off + j.toNat * ty.size, none⟩), ?_, .ptr l _ hk⟩
    simp [execOp, ho, hev, hevi, Instr.indexAt, Instr.sureAddr, Sem.run_bind, run_underlying ha.sl, asIntOf, hj.1, hj.2, sizeOf, typeInfo, hi, hsi, add_off]
theorem r_lenM {x : Operand} {t E : TypeId} [ha : HasSl P t E] {l off n : Nat} (ho : o.op = .call { callee := .builtin .len, args := #[x], argTypes := #[t] }) (hx : oev ρ x = some (.ms l off n)) : OpSound P o (Eff.val (.int .i64 n)) ρ m := by
  refine sound_val fun B G a w m' _ hh _ => ?_
  have hp := hh x (by simp [ho, Op.operands, Call.operands]) _ hx
  generalize hev : a.eval x = vx at hp
  refine ⟨.int .i64 n, run_len_ ho hev ?_, .int _ _⟩
  cases hp <;> simp [Builtin.len_, Sem.run_bind, run_underlying ha.sl, goInt]
end
section
variable {P : Program} {ρ : Slots} {m : Mem} {nx : Nat} {ops : Array Oper} {os : List Oper} {K : List Eff → Slots → Mem → Nat → Prop}
theorem k_indexAddrM {t : Tmp} {T : TypeId} {x ix : Operand} {E : TypeId} {ty : Ty} [HasSl P T E] [HasTy P E ty] {l off n : Nat} {k : IntKind} {j : Int} {V : TypeId} {pos : String} {af : Array Edge} {gd : Option (Nat × Bool)} (hg : gok ops ρ ⟨some t, .indexAddr T x ix, V, pos, af, gd⟩ = some true)
    (hx : oev ρ x = some (.ms l off n)) (hix : oev ρ ix = some (.int k j)) (hj : 0 ≤ j ∧ j < n)
    (hh : R P ops os (fun Es => K (Eff.val (.ptr l (off + j.toNat * ty.size)) :: Es)) ((t, .ptr l (off + j.toNat * ty.size)) :: ρ) m nx) : R P ops (⟨some t, .indexAddr T x ix, V, pos, af, gd⟩ :: os) K ρ m nx := R_cons hg (r_indexAddrM rfl hx hix hj) rfl hh
theorem k_lenM {t : Tmp} {T E : TypeId} [HasSl P T E] {x : Operand} {l off n : Nat} {V : TypeId} {pos : String} {af : Array Edge} {gd : Option (Nat × Bool)} (hg : gok ops ρ ⟨some t, .call { callee := .builtin .len, args := #[x], argTypes := #[T] }, V, pos, af, gd⟩ = some true) (hx : oev ρ x = some (.ms l off n)) (hh : R P ops os (fun Es => K (Eff.val ((.int .i64 n)) :: Es)) ((t, (.int .i64 n)) :: ρ) m nx) :
    R P ops (⟨some t, .call { callee := .builtin .len, args := #[x], argTypes := #[T] }, V, pos, af, gd⟩ :: os) K ρ m nx := R_cons hg (r_lenM rfl hx) rfl hh
end
end Go.Proofs.YtcfefmbbbfdppaaGreatDoor
