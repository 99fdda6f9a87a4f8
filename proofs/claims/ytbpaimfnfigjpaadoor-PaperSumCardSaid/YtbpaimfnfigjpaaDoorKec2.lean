/- The sponge as the program keeps it: check and soak. Conditions: a sponge that holds less than a block, and noughts behind it. -/
import Derived.Test.YtbpaimfnfigjpaaDoorKec1
import Derived.Test.YtbpaimfnfigjpaaDoorDMi
import Derived.Test.YtbpaimfnfigjpaaDoorDPart
import Derived.Test.YtbpaimfnfigjpaaDoorBStr
import Derived.Test.YtbpaimfnfigjpaaDoorDConv
import Derived.Test.YtbpaimfnfigjpaaDoorBytes
namespace Go.Proofs.YtbpaimfnfigjpaaDoor
open Go.RowKit Go.IntWalk Kec
set_option linter.unusedVariables false
set_option maxRecDepth 100000
--nrm arr_len arr_cls arr_fzs arr_bels

/-- what is held: some bytes, and noughts -/
def hld (l : List UInt8) : List UInt8 := l ++ List.replicate (136 - l.length) 0
theorem hld_len (l : List UInt8) (h : l.length ≤ 136) : (hld l).length = 136 := by simp [hld]; omega
def spC (f : S) (h : List UInt8) (n : Nat) : List D := arr f 25 ++ (bs h ++ [.int .i64 (n : Int)])
theorem spC_len (f : S) (h : List UInt8) (n : Nat) (hh : h.length = 136) : (spC f h n).length = 162 := by
  unfold spC; rw [List.length_append, List.length_append, arr_len, bs_len, hh]; rfl
theorem spC_cls (f : S) (h : List UInt8) (n : Nat) : D.cls (spC f h n) = true := D.cls_of fun d hd => by
  unfold spC at hd
  rcases List.mem_append.1 hd with h | h
  · exact D.cls_mem (arr_cls f 25) d h
  · rcases List.mem_append.1 h with h | h
    · exact D.cls_mem (bs_cl _) d h
    · simp at h; subst h; rfl
theorem fzs_append : ∀ (a b : List D), D.fzs (a ++ b) = D.fzs a ++ D.fzs b
  | [], b => rfl
  | d :: a, b => by show d.fz :: D.fzs (a ++ b) = _; rw [fzs_append a b]; rfl
theorem bs_fzs' : ∀ (l : List UInt8), D.fzs (bs l) = bs l
  | [] => rfl
  | a :: l => by
    show (D.int .u8 (a.toNat : Int)).fz :: D.fzs (bs l) = _
    rw [bs_fzs' l]; rfl
theorem spC_fzs (f : S) (h : List UInt8) (n : Nat) : D.fzs (spC f h n) = spC f h n := by
  unfold spC; rw [fzs_append, fzs_append, arr_fzs, bs_fzs']; rfl
/-- the three fields -/
theorem spC_lanes (f : S) (h : List UInt8) (n : Nat) (ze : List D) : cut ⟨true, 25, ze⟩ 0 (spC f h n) = some (.agg (arr f 25)) := by
  unfold cut spC
  simp only [cond_true, Nat.zero_add, List.drop_zero]
  rw [Nat.ble_eq_true_of_le (by rw [List.length_append, arr_len]; omega), cond_true, List.take_append_of_le_length (by rw [arr_len]; omega), List.take_of_length_le (by rw [arr_len]; omega)]
theorem spC_held (f : S) (h : List UInt8) (n : Nat) (hh : h.length = 136) (ze : List D) : cut ⟨true, 136, ze⟩ 25 (spC f h n) = some (.agg (bs h)) := by
  unfold cut spC
  simp only [cond_true]
  rw [Nat.ble_eq_true_of_le (by rw [List.length_append, arr_len, List.length_append, bs_len, hh]; omega), cond_true]
  have : (arr f 25 ++ (bs h ++ [D.int .i64 (n : Int)])).drop 25 = bs h ++ [D.int .i64 (n : Int)] := by
    rw [List.drop_append_of_le_length (by rw [arr_len]; omega), List.drop_of_length_le (by rw [arr_len]; omega)]; rfl
  rw [this, List.take_append_of_le_length (by rw [bs_len, hh]; omega), List.take_of_length_le (by rw [bs_len, hh]; omega)]
theorem spC_at (f : S) (h : List UInt8) (n k : Nat) (hh : h.length = 136) (hk : k < 136) : (spC f h n)[25 + k]? = some (.int .u8 ((h.getD k 0).toNat : Int)) := by
  unfold spC
  rw [List.getElem?_append_right (by rw [arr_len]; omega), arr_len, show 25 + k - 25 = k from by omega, List.getElem?_append_left (by rw [bs_len, hh]; omega)]
  refine bs_get h k _ ?_
  rw [List.getD_eq_getElem?_getD, List.getElem?_eq_getElem (by omega)]; rfl
theorem spC_n (f : S) (h : List UInt8) (n : Nat) (hh : h.length = 136) (ze : List D) : cut ⟨false, 1, ze⟩ 161 (spC f h n) = some (.int .i64 (n : Int)) := by
  unfold cut spC
  rw [cond_false, List.getElem?_append_right (by rw [arr_len]; omega), arr_len, List.getElem?_append_right (by rw [bs_len, hh]; omega), bs_len, hh]; rfl
theorem spC_lane (f : S) (h : List UInt8) (n k : Nat) (hk : k < 25) (ze : List D) : cut ⟨false, 1, ze⟩ (0 + ((k : Nat) : Int).toNat * 1) (spC f h n) = some (.int .u64 (wv (f k))) := by
  unfold cut spC
  rw [Int.toNat_natCast, Nat.zero_add, Nat.mul_one, cond_false, List.getElem?_append_left (by rw [arr_len]; exact hk), arr_get f 25 k hk]
theorem spC_putlane (f : S) (h : List UInt8) (n k : Nat) (hk : k < 25) (v : Kec.W) : splice (0 + ((k : Nat) : Int).toNat * 1) [D.int .u64 (wv v)] (spC f h n) = some (spC (upd f k v) h n) := by
  have hp := arr_put f 25 k hk v
  rw [Int.toNat_natCast, Nat.zero_add, Nat.mul_one] at hp ⊢
  unfold splice at hp ⊢
  rw [Nat.ble_eq_true_of_le (by rw [arr_len]; simp; omega), cond_true] at hp
  unfold spC
  rw [Nat.ble_eq_true_of_le (by rw [List.length_append, arr_len]; simp; omega), cond_true, List.take_append_of_le_length (by rw [arr_len]; omega), List.drop_append_of_le_length (by rw [arr_len]; simp; omega)]
  have := Option.some.inj hp
  rw [← this]
  simp only [List.append_assoc]

theorem arr_fz1 (f : S) (n : Nat) : D.fzs [D.agg (arr f n)] = [D.agg (arr f n)] := by
  show [D.agg (D.fzs (arr f n))] = _
  rw [arr_fzs]
theorem arr_cl1 (f : S) (n : Nat) : D.cls [D.agg (arr f n)] = true := by
  show (D.cls (arr f n) && true) = true
  rw [arr_cls]; rfl
theorem spC_bels (k : Nat) (f : S) (h : List UInt8) (n : Nat) : D.bels k (spC f h n) = true := by
  exact bels_cls k _ (spC_cls f h n)
theorem spC_whole (f : S) (h : List UInt8) (n : Nat) (hh : h.length = 136) (ze : List D) : cut ⟨true, 162, ze⟩ 0 (spC f h n) = some (.agg (spC f h n)) := by
  unfold cut
  simp only [cond_true, Nat.zero_add, List.drop_zero]
  rw [Nat.ble_eq_true_of_le (by rw [spC_len f h n hh]; exact Nat.le_refl _), cond_true, List.take_of_length_le (by rw [spC_len f h n hh]; exact Nat.le_refl _)]
theorem spC_lay (f : S) (h : List UInt8) (n : Nat) (hh : h.length = 136) (cs : List D) (hc : cs.length = 162) : splice 0 (spC f h n) cs = some (spC f h n) := by
  unfold splice
  rw [Nat.ble_eq_true_of_le (by rw [spC_len f h n hh, hc]; exact Nat.le_refl _), cond_true, Nat.zero_add, List.drop_of_length_le (by rw [spC_len f h n hh, hc]; exact Nat.le_refl _)]
  simp

/-- bytes into the lanes, when i are in -/
def sI (f : S) (h : List UInt8) : Nat → S
  | 0 => f
  | i + 1 => upd (sI f h i) (i / 8) (sI f h i (i / 8) ^^^ BitVec.ofNat 64 (h.getD i 0).toNat <<< (8 * (i % 8)))
theorem u8_wv (c : UInt8) : IntKind.u64.wrap ((c.toNat : Nat) : Int) = wv (BitVec.ofNat 64 c.toNat) := by
  have := c.toNat_lt
  unfold wv
  rw [u64_in _ (by omega), BitVec.toNat_ofNat, Nat.mod_eq_of_lt (by omega)]
theorem quo8' (k : Nat) (hk : k < 1000) : IntKind.i64.wrap ((k : Int).tdiv 8) = ((k / 8 : Nat) : Int) := by
  rw [Int.tdiv_eq_ediv_of_nonneg (by omega), i64_in _ (by omega)]; omega
theorem rem8' (k : Nat) : (k : Int).tmod 8 = ((k % 8 : Nat) : Int) := by
  rw [Int.tmod_eq_emod_of_nonneg (by omega)]; omega
theorem b_ix (l : List UInt8) (k : Nat) (h : k < l.length) : cut ⟨false, 1, [.int .u8 0]⟩ (((k : Nat) : Int).toNat * 1) (bs l) = some (.int .u8 ((l.getD k 0).toNat : Int)) := by
  unfold cut
  rw [Int.toNat_natCast, Nat.mul_one, cond_false]
  refine bs_get l k _ ?_
  rw [List.getD_eq_getElem?_getD, List.getElem?_eq_getElem h]; rfl

theorem hld0 : (hld []).length = 136 := rfl
theorem spC_front (f g : S) (h : List UInt8) (n : Nat) : splice 0 (arr g 25) (spC f h n) = some (spC g h n) := by
  unfold splice spC
  rw [Nat.ble_eq_true_of_le (by rw [List.length_append, arr_len, arr_len]; omega), cond_true, List.take_zero, List.nil_append, Nat.zero_add, arr_len, List.drop_append_of_le_length (by rw [arr_len]; omega), List.drop_of_length_le (by rw [arr_len]; omega), List.nil_append]
theorem sp_build (T : S) (zs : List D) (hz : zs = spC (fun _ => 0) (hld []) 0) : dfill [(0, 25), (25, 136), (161, 1)] zs [(0, .agg (arr T 25))] = some (spC T (hld []) 0) := by
  subst hz
  have e : splice 0 (D.agg (arr T 25)).cells (spC (fun _ => 0) (hld []) 0) = some (spC T (hld []) 0) := spC_front _ _ _ _
  have hc : (Nat.beq (D.agg (arr T 25)).cells.length 25 && (D.agg (arr T 25)).fits) = true := by
    show (Nat.beq (arr T 25).length 25 && true) = true
    rw [arr_len]; rfl
  simp only [dfill, List.getElem?_cons_zero, hc, cond_true, e]
set_option maxHeartbeats 16000000 in
theorem soak_ok (f : S) (h : List UInt8) (n : Nat) (hh : h.length = 136) : Pur Tryd.prog 22 [.agg (spC f h n)] (.agg (spC (turn kons (sI f h 136)) (hld []) 0)) := by
  obtain ⟨F, hF⟩ : ∃ F, sI f h 136 = F := ⟨_, rfl⟩
  rw [hF]
  have hT := Turn_ok F
  obtain ⟨T, hT'⟩ : ∃ T, turn kons F = T := ⟨_, rfl⟩
  rw [hT'] at hT ⊢
  have hcl : D.cl (.agg (spC T (hld []) 0)) = true := spC_cls _ _ _
  refine pur_intro Tryd.func22 rfl Tryd.ntmps22 rfl (by first | rfl | assumption | exact bs_cl _) fun B => ?_
  repeat (first | with_reducible refine W_seq ?_ | with_reducible refine q_then ?_ | with_reducible refine q_thenr ?_ | with_reducible refine q_thenx ?_ | with_reducible refine W_block ?_ | with_reducible refine q_block ?_ | with_reducible refine q_blockr ?_ | with_reducible refine q_blockx ?_ | with_reducible refine W_ret ?_ | with_reducible refine W_skip ?_ | with_reducible refine W_label ?_ | with_reducible refine W_exit ?_ | with_reducible refine W_scope ?_ | with_reducible refine q_scope ?_ | with_reducible refine q_scoper ?_ | with_reducible refine q_scopex ?_ | (with_reducible refine R_nil ?_; try dsimp only [slots0, slots_ud, arr_len, arr_cls, arr_fzs, arr_bels, cells_U, agg_ud, drop0, dropS, takeS, take0, ud_nil, take_ud, take_ud0, drop_ud, drop_ud0, take_udk, D.cells, D.fz, D.fzs, List.take_succ_cons, List.take_zero, List.drop_succ_cons, List.drop_zero, List.cons_append, List.nil_append, List.append_eq, List.length_cons, List.length_nil, Nat.reduceAdd, Nat.reduceMul, Nat.reduceSub, Int.reduceAdd, Int.reduceSub, Int.reduceToNat, Int.reduceNeg, Int.reduceMul]) | refine q_blocky rfl ?_ | refine W_plain rfl ?_ | refine W_drawn mixed rfl ?_ | refine and_chk (by kernel_rfl) ?_ | refine k_move rfl rfl ?_ | refine k_assign rfl rfl ?_ | refine k_load rfl rfl rfl rfl ?_ | refine k_alloc rfl ?_ | refine k_box rfl rfl rfl ?_ | refine k_store rfl rfl rfl rfl rfl rfl rfl ?_ | refine k_extract rfl rfl rfl ?_ | refine k_fieldAddr rfl rfl rfl ?_ | refine k_field rfl rfl rfl ?_ | refine k_build rfl rfl rfl ?_ | refine k_load rfl rfl rfl (by exact spC_held _ _ _ hh _) ?_ | refine k_append rfl rfl rfl (by first | rfl | exact trivial | (show 0 < _; omega)) (by first | rfl | (simp <;> omega)) (by first | rfl | (simp <;> omega)) rfl (by omega) rfl rfl rfl ?_ | refine k_slice rfl rfl rfl rfl ⟨by omega, by omega, by omega⟩ rfl rfl rfl ?_ | refine k_slice3 rfl rfl rfl rfl rfl ⟨by omega, by omega, by omega⟩ rfl rfl rfl ?_ | refine k_sliceA rfl rfl rfl rfl ⟨by omega, by omega, by omega, by omega⟩ rfl rfl ?_ | refine k_sliceE rfl rfl rfl rfl ⟨by omega, by omega, by omega, by omega⟩ rfl rfl rfl rfl ?_ | refine k_buildSlice (cs := []) rfl rfl rfl rfl rfl rfl rfl ?_ | refine k_buildSlice rfl rfl rfl rfl rfl rfl rfl ?_ | refine k_indexAddr rfl rfl rfl ⟨by omega, by omega⟩ ?_ | refine k_indexAddrs rfl rfl rfl ⟨by omega, by omega⟩ rfl ?_ | refine k_index rfl rfl rfl ⟨by omega, by omega⟩ rfl ?_ | refine k_loade rfl rfl rfl ?_ | refine k_fieldAddre rfl rfl rfl rfl ?_ | refine k_len rfl rfl ?_ | refine k_nilCheck rfl rfl rfl ?_ | refine k_pickT rfl rfl rfl ?_ | refine k_pickF rfl rfl rfl ?_ | refine k_addi rfl rfl rfl (by omega) ?_ | refine k_subi rfl rfl rfl (by omega) ?_ | refine k_negi rfl rfl (by omega) ?_ | refine k_not rfl rfl rfl ?_ | refine k_lssT rfl rfl rfl (by omega) ?_ | refine k_lssF rfl rfl rfl (by omega) ?_ | refine k_leqT rfl rfl rfl (by omega) ?_ | refine k_leqF rfl rfl rfl (by omega) ?_ | refine k_gtrT rfl rfl rfl (by omega) ?_ | refine k_gtrF rfl rfl rfl (by omega) ?_ | refine k_geqT rfl rfl rfl (by omega) ?_ | refine k_geqF rfl rfl rfl (by omega) ?_ | refine k_eqlT rfl rfl rfl (by omega) ?_ | refine k_eqlF rfl rfl rfl (by omega) ?_ | refine k_neqT rfl rfl rfl (by omega) ?_ | refine k_neqF rfl rfl rfl (by omega) ?_ | refine k_eqa rfl rfl rfl rfl rfl rfl ?_ | refine k_nea rfl rfl rfl rfl rfl rfl ?_ | refine k_makeFunc rfl rfl rfl ?_ | refine k_skip rfl ?_ | refine k_skip0 rfl ?_ | refine k_pick rfl rfl rfl rfl rfl ?_ | refine W_yes rfl ?_ | refine W_no rfl ?_)
  refine W_loop (fun n' ρ m nx => ∃ i : Nat, i ≤ 136 ∧ n' = 136 - i ∧ ρ = [(7, .int .i64 (i : Int)), (6, .agg (bs h)), (2, .ptr 1 0), (1, .ptr 0 0)] ∧ (∃ cs, cs.length = 162 ∧ D.bels 2 cs = true ∧ m = [(1, some (.var 53 cs)), (0, some (.var 53 (spC (sI f h i) h n)))]) ∧ nx = 2)
    ⟨_, _, _, _, (by exact ⟨⟨rfl, rfl⟩, ⟨rfl, bels_cls _ _ (bs_cl _)⟩, ⟨rfl, rfl⟩, ⟨rfl, rfl⟩, trivial⟩), (by exact ⟨⟨rfl, rfl, rfl⟩, ⟨rfl, rfl, spC_bels _ _ _ _⟩, trivial⟩), 0, by decide, rfl, rfl, ⟨_, rfl, rfl, rfl⟩, rfl⟩ ?_
  rintro n' ρ m nx ⟨i, hi, rfl, rfl, ⟨cs, hcs, hbl, rfl⟩, rfl⟩
  by_cases hlt : i < 136
  · have hb := b_ix h i (by omega)
    have hu := u8_wv (h.getD i 0)
    have hq := quo8' i (by omega)
    have hr := rem8' i
    have hm : IntKind.i64.wrap (8 * ((i % 8 : Nat) : Int)) = ((8 * (i % 8) : Nat) : Int) := mulc 8 _ (by omega) (by omega)
    have hl := spC_lane (sI f h i) h n (i / 8) (by omega)
    have hs := shl_wv (BitVec.ofNat 64 (h.getD i 0).toNat) (8 * (i % 8)) (by omega)
    have hx := xor_wv (sI f h i (i / 8)) (BitVec.ofNat 64 (h.getD i 0).toNat <<< (8 * (i % 8)))
    have hp := spC_putlane (sI f h i) h n (i / 8) (by omega) (sI f h i (i / 8) ^^^ BitVec.ofNat 64 (h.getD i 0).toNat <<< (8 * (i % 8)))
    have hn : upd (sI f h i) (i / 8) (sI f h i (i / 8) ^^^ BitVec.ofNat 64 (h.getD i 0).toNat <<< (8 * (i % 8))) = sI f h (i + 1) := rfl
    rw [hn] at hp
    clear hn
    have b1 : i / 8 < 25 := by omega
    have b2 : i % 8 < 8 := by omega
    generalize (h.getD i 0) = c at *
    generalize h1 : sI f h (i + 1) = g1 at *
    generalize sI f h i = g0 at *
    generalize i / 8 = q at *
    generalize i % 8 = r at *
    repeat (first | with_reducible refine W_seq ?_ | with_reducible refine q_then ?_ | with_reducible refine q_thenr ?_ | with_reducible refine q_thenx ?_ | with_reducible refine W_block ?_ | with_reducible refine q_block ?_ | with_reducible refine q_blockr ?_ | with_reducible refine q_blockx ?_ | with_reducible refine W_ret ?_ | with_reducible refine W_skip ?_ | with_reducible refine W_label ?_ | with_reducible refine W_exit ?_ | with_reducible refine W_scope ?_ | with_reducible refine q_scope ?_ | with_reducible refine q_scoper ?_ | with_reducible refine q_scopex ?_ | (with_reducible refine R_nil ?_; try dsimp only [slots0, slots_ud, arr_len, arr_cls, arr_fzs, arr_bels, cells_U, agg_ud, drop0, dropS, takeS, take0, ud_nil, take_ud, take_ud0, drop_ud, drop_ud0, take_udk, D.cells, D.fz, D.fzs, List.take_succ_cons, List.take_zero, List.drop_succ_cons, List.drop_zero, List.cons_append, List.nil_append, List.append_eq, List.length_cons, List.length_nil, Nat.reduceAdd, Nat.reduceMul, Nat.reduceSub, Int.reduceAdd, Int.reduceSub, Int.reduceToNat, Int.reduceNeg, Int.reduceMul]) | refine q_blocky rfl ?_ | refine W_plain rfl ?_ | refine W_drawn mixed rfl ?_ | refine and_chk (by kernel_rfl) ?_ | refine k_move rfl rfl ?_ | refine k_assign rfl rfl ?_ | refine k_load rfl rfl rfl rfl ?_ | refine k_alloc rfl ?_ | refine k_box rfl rfl rfl ?_ | refine k_store rfl rfl rfl rfl rfl rfl rfl ?_ | refine k_extract rfl rfl rfl ?_ | refine k_fieldAddr rfl rfl rfl ?_ | refine k_field rfl rfl rfl ?_ | refine k_build rfl rfl rfl ?_ | refine k_index rfl rfl rfl ⟨by omega, by omega⟩ (by exact hb) ?_ | refine k_quo rfl rfl rfl (by decide) hq ?_ | refine k_rem rfl rfl rfl (by decide) hr ?_ | refine k_mul rfl rfl rfl hm ?_ | refine k_load rfl rfl rfl (by exact hl _) ?_ | refine k_conv rfl rfl hu ?_ | refine k_shl rfl rfl rfl (by omega) hs ?_ | refine k_bits rfl rfl rfl rfl hx ?_ | refine k_store rfl rfl rfl rfl rfl rfl (by exact hp) ?_ | refine k_append rfl rfl rfl (by first | rfl | exact trivial | (show 0 < _; omega)) (by first | rfl | (simp <;> omega)) (by first | rfl | (simp <;> omega)) rfl (by omega) rfl rfl rfl ?_ | refine k_slice rfl rfl rfl rfl ⟨by omega, by omega, by omega⟩ rfl rfl rfl ?_ | refine k_slice3 rfl rfl rfl rfl rfl ⟨by omega, by omega, by omega⟩ rfl rfl rfl ?_ | refine k_sliceA rfl rfl rfl rfl ⟨by omega, by omega, by omega, by omega⟩ rfl rfl ?_ | refine k_sliceE rfl rfl rfl rfl ⟨by omega, by omega, by omega, by omega⟩ rfl rfl rfl rfl ?_ | refine k_buildSlice (cs := []) rfl rfl rfl rfl rfl rfl rfl ?_ | refine k_buildSlice rfl rfl rfl rfl rfl rfl rfl ?_ | refine k_indexAddr rfl rfl rfl ⟨by omega, by omega⟩ ?_ | refine k_indexAddrs rfl rfl rfl ⟨by omega, by omega⟩ rfl ?_ | refine k_index rfl rfl rfl ⟨by omega, by omega⟩ rfl ?_ | refine k_loade rfl rfl rfl ?_ | refine k_fieldAddre rfl rfl rfl rfl ?_ | refine k_len rfl rfl ?_ | refine k_nilCheck rfl rfl rfl ?_ | refine k_pickT rfl rfl rfl ?_ | refine k_pickF rfl rfl rfl ?_ | refine k_addi rfl rfl rfl (by omega) ?_ | refine k_subi rfl rfl rfl (by omega) ?_ | refine k_negi rfl rfl (by omega) ?_ | refine k_not rfl rfl rfl ?_ | refine k_lssT rfl rfl rfl (by omega) ?_ | refine k_lssF rfl rfl rfl (by omega) ?_ | refine k_leqT rfl rfl rfl (by omega) ?_ | refine k_leqF rfl rfl rfl (by omega) ?_ | refine k_gtrT rfl rfl rfl (by omega) ?_ | refine k_gtrF rfl rfl rfl (by omega) ?_ | refine k_geqT rfl rfl rfl (by omega) ?_ | refine k_geqF rfl rfl rfl (by omega) ?_ | refine k_eqlT rfl rfl rfl (by omega) ?_ | refine k_eqlF rfl rfl rfl (by omega) ?_ | refine k_neqT rfl rfl rfl (by omega) ?_ | refine k_neqF rfl rfl rfl (by omega) ?_ | refine k_eqa rfl rfl rfl rfl rfl rfl ?_ | refine k_nea rfl rfl rfl rfl rfl rfl ?_ | refine k_makeFunc rfl rfl rfl ?_ | refine k_skip rfl ?_ | refine k_skip0 rfl ?_ | refine k_pick rfl rfl rfl rfl rfl ?_ | refine W_yes rfl ?_ | refine W_no rfl ?_)
    subst h1
    exact ⟨136 - (i + 1), _, _, _, (by exact ⟨⟨rfl, rfl⟩, ⟨rfl, bels_cls _ _ (bs_cl _)⟩, ⟨rfl, rfl⟩, ⟨rfl, rfl⟩, trivial⟩), (by exact ⟨⟨rfl, rfl, hbl⟩, ⟨rfl, rfl, spC_bels _ _ _ _⟩, trivial⟩), by omega, i + 1, by omega, rfl, rfl, ⟨_, hcs, hbl, rfl⟩, rfl⟩
  · have ei : i = 136 := by omega
    subst ei
    rw [hF]
    repeat (first | with_reducible refine W_seq ?_ | with_reducible refine q_then ?_ | with_reducible refine q_thenr ?_ | with_reducible refine q_thenx ?_ | with_reducible refine W_block ?_ | with_reducible refine q_block ?_ | with_reducible refine q_blockr ?_ | with_reducible refine q_blockx ?_ | with_reducible refine W_ret ?_ | with_reducible refine W_skip ?_ | with_reducible refine W_label ?_ | with_reducible refine W_exit ?_ | with_reducible refine W_scope ?_ | with_reducible refine q_scope ?_ | with_reducible refine q_scoper ?_ | with_reducible refine q_scopex ?_ | (with_reducible refine R_nil ?_; try dsimp only [slots0, slots_ud, arr_len, arr_cls, arr_fzs, arr_bels, cells_U, agg_ud, drop0, dropS, takeS, take0, ud_nil, take_ud, take_ud0, drop_ud, drop_ud0, take_udk, D.cells, D.fz, D.fzs, List.take_succ_cons, List.take_zero, List.drop_succ_cons, List.drop_zero, List.cons_append, List.nil_append, List.append_eq, List.length_cons, List.length_nil, Nat.reduceAdd, Nat.reduceMul, Nat.reduceSub, Int.reduceAdd, Int.reduceSub, Int.reduceToNat, Int.reduceNeg, Int.reduceMul]) | refine q_blocky rfl ?_ | refine W_plain rfl ?_ | refine W_drawn mixed rfl ?_ | refine and_chk (by kernel_rfl) ?_ | refine k_load rfl rfl rfl (by exact spC_lanes _ _ _ _) ?_ | refine k_build rfl rfl (by exact sp_build _ _ (by kernel_rfl)) ?_ | refine k_move rfl rfl ?_ | refine k_assign rfl rfl ?_ | refine k_load rfl rfl rfl rfl ?_ | refine k_alloc rfl ?_ | refine k_box rfl rfl rfl ?_ | refine k_store rfl rfl rfl rfl rfl rfl rfl ?_ | refine k_extract rfl rfl rfl ?_ | refine k_fieldAddr rfl rfl rfl ?_ | refine k_field rfl rfl rfl ?_ | refine k_build rfl rfl rfl ?_ | refine k_call rfl hT rfl (arr_fz1 _ _) (arr_cl1 _ _) (arr_cls _ _) ?_ | refine k_store rfl rfl rfl rfl (by exact spC_len _ _ _ hld0) rfl (by exact spC_lay _ _ _ hld0 cs hcs) ?_ | refine k_append rfl rfl rfl (by first | rfl | exact trivial | (show 0 < _; omega)) (by first | rfl | (simp <;> omega)) (by first | rfl | (simp <;> omega)) rfl (by omega) rfl rfl rfl ?_ | refine k_slice rfl rfl rfl rfl ⟨by omega, by omega, by omega⟩ rfl rfl rfl ?_ | refine k_slice3 rfl rfl rfl rfl rfl ⟨by omega, by omega, by omega⟩ rfl rfl rfl ?_ | refine k_sliceA rfl rfl rfl rfl ⟨by omega, by omega, by omega, by omega⟩ rfl rfl ?_ | refine k_sliceE rfl rfl rfl rfl ⟨by omega, by omega, by omega, by omega⟩ rfl rfl rfl rfl ?_ | refine k_buildSlice (cs := []) rfl rfl rfl rfl rfl rfl rfl ?_ | refine k_buildSlice rfl rfl rfl rfl rfl rfl rfl ?_ | refine k_indexAddr rfl rfl rfl ⟨by omega, by omega⟩ ?_ | refine k_indexAddrs rfl rfl rfl ⟨by omega, by omega⟩ rfl ?_ | refine k_index rfl rfl rfl ⟨by omega, by omega⟩ rfl ?_ | refine k_loade rfl rfl rfl ?_ | refine k_fieldAddre rfl rfl rfl rfl ?_ | refine k_len rfl rfl ?_ | refine k_nilCheck rfl rfl rfl ?_ | refine k_pickT rfl rfl rfl ?_ | refine k_pickF rfl rfl rfl ?_ | refine k_addi rfl rfl rfl (by omega) ?_ | refine k_subi rfl rfl rfl (by omega) ?_ | refine k_negi rfl rfl (by omega) ?_ | refine k_not rfl rfl rfl ?_ | refine k_lssT rfl rfl rfl (by omega) ?_ | refine k_lssF rfl rfl rfl (by omega) ?_ | refine k_leqT rfl rfl rfl (by omega) ?_ | refine k_leqF rfl rfl rfl (by omega) ?_ | refine k_gtrT rfl rfl rfl (by omega) ?_ | refine k_gtrF rfl rfl rfl (by omega) ?_ | refine k_geqT rfl rfl rfl (by omega) ?_ | refine k_geqF rfl rfl rfl (by omega) ?_ | refine k_eqlT rfl rfl rfl (by omega) ?_ | refine k_eqlF rfl rfl rfl (by omega) ?_ | refine k_neqT rfl rfl rfl (by omega) ?_ | refine k_neqF rfl rfl rfl (by omega) ?_ | refine k_eqa rfl rfl rfl rfl rfl rfl ?_ | refine k_nea rfl rfl rfl rfl rfl rfl ?_ | refine k_makeFunc rfl rfl rfl ?_ | refine k_skip rfl ?_ | refine k_skip0 rfl ?_ | refine k_pick rfl rfl rfl rfl rfl ?_ | refine W_yes rfl ?_ | refine W_no rfl ?_)
    (first | with_reducible refine q_endr ?_ | with_reducible refine q_endn ?_); refine rets1 Tryd.results22 (RetV.cell _ _ _ _ _ _ _ _ inferInstance rfl rfl (by exact spC_whole _ _ _ hld0 _)) ?_
    show D.agg (D.fzs (spC T (hld []) 0)) = _
    rw [spC_fzs]
end Go.Proofs.YtbpaimfnfigjpaaDoor
