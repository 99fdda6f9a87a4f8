/- The sponge's Add and End; Sum. Conditions: a sponge that holds less than a block, and noughts behind it; bytes that are data. -/
import Derived.Test.YtcfefmbbbfdppaaGreatDoorSBytes
import Derived.Test.YtcfefmbbbfdppaaGreatDoorSDMi
import Derived.Test.YtcfefmbbbfdppaaGreatDoorSDMore
import Derived.Test.YtcfefmbbbfdppaaGreatDoorSWide1
namespace Go.Proofs.YtcfefmbbbfdppaaGreatDoor
open Go.RowKit Go.IntWalk Kec
set_option linter.unusedVariables false
set_option maxRecDepth 100000
--nrm arr_len arr_cls arr_fzs arr_bels
def hld (l : List UInt8) : List UInt8 := l ++ List.replicate (136 - l.length) 0
theorem hld_len (l : List UInt8) (h : l.length ≤ 136) : (hld l).length = 136 := by simp [hld]; omega
def spC (f : S) (h : List UInt8) (n : Nat) : List D := arr f 25 ++ (bs h ++ [.int .i64 (n : Int)])
theorem spC_len (f : S) (h : List UInt8) (n : Nat) (hh : h.length = 136) : (spC f h n).length = 162 := by
  unfold spC; rw [List.length_append, List.length_append, arr_len, bs_len, hh]; rfl
theorem spC_cls (f : S) (h : List UInt8) (n : Nat) : D.cls (spC f h n) = true := D.cls_of fun d hd => by
  unfold spC at hd
  rcases List.mem_append.1 hd with h | h
  · exact D.cls_mem (arr_cls f 25) d h
  · rcases List.mem_append.1 h with h | h
    · exact D.cls_mem (bs_cl _) d h
    · simp at h; subst h; rfl
theorem fzs_append : ∀ (a b : List D), D.fzs (a ++ b) = D.fzs a ++ D.fzs b
  | [], b => rfl
  | d :: a, b => by show d.fz :: D.fzs (a ++ b) = _; rw [fzs_append a b]; rfl
theorem bs_fzs' : ∀ (l : List UInt8), D.fzs (bs l) = bs l
  | [] => rfl
  | a :: l => by
    show (D.int .u8 (a.toNat : Int)).fz :: D.fzs (bs l) = _
    rw [bs_fzs' l]; rfl
theorem spC_fzs (f : S) (h : List UInt8) (n : Nat) : D.fzs (spC f h n) = spC f h n := by
  unfold spC; rw [fzs_append, fzs_append, arr_fzs, bs_fzs']; rfl
theorem spC_lanes (f : S) (h : List UInt8) (n : Nat) (ze : List D) : cut ⟨true, 25, ze⟩ 0 (spC f h n) = some (.agg (arr f 25)) := by
  unfold cut spC
  simp only [cond_true, Nat.zero_add, List.drop_zero]
  rw [Nat.ble_eq_true_of_le (by rw [List.length_append, arr_len]; omega), cond_true, List.take_append_of_le_length (by rw [arr_len]; omega), List.take_of_length_le (by rw [arr_len]; omega)]
theorem spC_held (f : S) (h : List UInt8) (n : Nat) (hh : h.length = 136) (ze : List D) : cut ⟨true, 136, ze⟩ 25 (spC f h n) = some (.agg (bs h)) := by
  unfold cut spC
  simp only [cond_true]
  rw [Nat.ble_eq_true_of_le (by rw [List.length_append, arr_len, List.length_append, bs_len, hh]; omega), cond_true]
  have : (arr f 25 ++ (bs h ++ [D.int .i64 (n : Int)])).drop 25 = bs h ++ [D.int .i64 (n : Int)] := by
    rw [List.drop_append_of_le_length (by rw [arr_len]; omega), List.drop_of_length_le (by rw [arr_len]; omega)]; rfl
  rw [this, List.take_append_of_le_length (by rw [bs_len, hh]; omega), List.take_of_length_le (by rw [bs_len, hh]; omega)]
theorem spC_at (f : S) (h : List UInt8) (n k : Nat) (hh : h.length = 136) (hk : k < 136) : (spC f h n)[25 + k]? = some (.int .u8 ((h.getD k 0).toNat : Int)) := by
  unfold spC
  rw [List.getElem?_append_right (by rw [arr_len]; omega), arr_len, show 25 + k - 25 = k from by omega, List.getElem?_append_left (by rw [bs_len, hh]; omega)]
  refine bs_get h k _ ?_
  rw [List.getD_eq_getElem?_getD, List.getElem?_eq_getElem (by omega)]; rfl
theorem spC_n (f : S) (h : List UInt8) (n : Nat) (hh : h.length = 136) (ze : List D) : cut ⟨false, 1, ze⟩ 161 (spC f h n) = some (.int .i64 (n : Int)) := by
  unfold cut spC
  rw [cond_false, List.getElem?_append_right (by rw [arr_len]; omega), arr_len, List.getElem?_append_right (by rw [bs_len, hh]; omega), bs_len, hh]; rfl
theorem spC_lane (f : S) (h : List UInt8) (n k : Nat) (hk : k < 25) (ze : List D) : cut ⟨false, 1, ze⟩ (0 + ((k : Nat) : Int).toNat * 1) (spC f h n) = some (.int .u64 (wv (f k))) := by
  unfold cut spC
  rw [Int.toNat_natCast, Nat.zero_add, Nat.mul_one, cond_false, List.getElem?_append_left (by rw [arr_len]; exact hk), arr_get f 25 k hk]
theorem spC_putlane (f : S) (h : List UInt8) (n k : Nat) (hk : k < 25) (v : Kec.W) : splice (0 + ((k : Nat) : Int).toNat * 1) [D.int .u64 (wv v)] (spC f h n) = some (spC (upd f k v) h n) := by
  have hp := arr_put f 25 k hk v
  rw [Int.toNat_natCast, Nat.zero_add, Nat.mul_one] at hp ⊢
  unfold splice at hp ⊢
  rw [Nat.ble_eq_true_of_le (by rw [arr_len]; simp; omega), cond_true] at hp
  unfold spC
  rw [Nat.ble_eq_true_of_le (by rw [List.length_append, arr_len]; simp; omega), cond_true, List.take_append_of_le_length (by rw [arr_len]; omega), List.drop_append_of_le_length (by rw [arr_len]; simp; omega)]
  have := Option.some.inj hp
  rw [← this]
  simp only [List.append_assoc]
theorem arr_fz1 (f : S) (n : Nat) : D.fzs [D.agg (arr f n)] = [D.agg (arr f n)] := by
  show [D.agg (D.fzs (arr f n))] = _
  rw [arr_fzs]
theorem arr_cl1 (f : S) (n : Nat) : D.cls [D.agg (arr f n)] = true := by
  show (D.cls (arr f n) && true) = true
  rw [arr_cls]; rfl
theorem spC_bels (k : Nat) (f : S) (h : List UInt8) (n : Nat) : D.bels k (spC f h n) = true := by
  exact bels_cls k _ (spC_cls f h n)
theorem spC_whole (f : S) (h : List UInt8) (n : Nat) (hh : h.length = 136) (ze : List D) : cut ⟨true, 162, ze⟩ 0 (spC f h n) = some (.agg (spC f h n)) := by
  unfold cut
  simp only [cond_true, Nat.zero_add, List.drop_zero]
  rw [Nat.ble_eq_true_of_le (by rw [spC_len f h n hh]; exact Nat.le_refl _), cond_true, List.take_of_length_le (by rw [spC_len f h n hh]; exact Nat.le_refl _)]
theorem spC_lay (f : S) (h : List UInt8) (n : Nat) (hh : h.length = 136) (cs : List D) (hc : cs.length = 162) : splice 0 (spC f h n) cs = some (spC f h n) := by
  unfold splice
  rw [Nat.ble_eq_true_of_le (by rw [spC_len f h n hh, hc]; exact Nat.le_refl _), cond_true, Nat.zero_add, List.drop_of_length_le (by rw [spC_len f h n hh, hc]; exact Nat.le_refl _)]
  simp
def sI (f : S) (h : List UInt8) : Nat → S
  | 0 => f
  | i + 1 => upd (sI f h i) (i / 8) (sI f h i (i / 8) ^^^ BitVec.ofNat 64 (h.getD i 0).toNat <<< (8 * (i % 8)))
theorem u8_wv (c : UInt8) : IntKind.u64.wrap ((c.toNat : Nat) : Int) = wv (BitVec.ofNat 64 c.toNat) := by
  have := c.toNat_lt
  unfold wv
  rw [u64_in _ (by omega), BitVec.toNat_ofNat, Nat.mod_eq_of_lt (by omega)]
theorem quo8' (k : Nat) (hk : k < 1000) : IntKind.i64.wrap ((k : Int).tdiv 8) = ((k / 8 : Nat) : Int) := by
  rw [Int.tdiv_eq_ediv_of_nonneg (by omega), i64_in _ (by omega)]; omega
theorem rem8' (k : Nat) : (k : Int).tmod 8 = ((k % 8 : Nat) : Int) := by
  rw [Int.tmod_eq_emod_of_nonneg (by omega)]; omega
theorem b_ix (l : List UInt8) (k : Nat) (h : k < l.length) : cut ⟨false, 1, [.int .u8 0]⟩ (((k : Nat) : Int).toNat * 1) (bs l) = some (.int .u8 ((l.getD k 0).toNat : Int)) := by
  unfold cut
  rw [Int.toNat_natCast, Nat.mul_one, cond_false]
  refine bs_get l k _ ?_
  rw [List.getD_eq_getElem?_getD, List.getElem?_eq_getElem h]; rfl
theorem hld0 : (hld []).length = 136 := rfl
theorem spC_front (f g : S) (h : List UInt8) (n : Nat) : splice 0 (arr g 25) (spC f h n) = some (spC g h n) := by
  unfold splice spC
  rw [Nat.ble_eq_true_of_le (by rw [List.length_append, arr_len, arr_len]; omega), cond_true, List.take_zero, List.nil_append, Nat.zero_add, arr_len, List.drop_append_of_le_length (by rw [arr_len]; omega), List.drop_of_length_le (by rw [arr_len]; omega), List.nil_append]
theorem sp_build (T : S) (zs : List D) (hz : zs = spC (fun _ => 0) (hld []) 0) : dfill [(0, 25), (25, 136), (161, 1)] zs [(0, .agg (arr T 25))] = some (spC T (hld []) 0) := by
  subst hz
  have e : splice 0 (D.agg (arr T 25)).cells (spC (fun _ => 0) (hld []) 0) = some (spC T (hld []) 0) := spC_front _ _ _ _
  have hc : (Nat.beq (D.agg (arr T 25)).cells.length 25 && (D.agg (arr T 25)).fits) = true := by
    show (Nat.beq (arr T 25).length 25 && true) = true
    rw [arr_len]; rfl
  simp only [dfill, List.getElem?_cons_zero, hc, cond_true, e]
set_option maxHeartbeats 16000000 in
theorem soak_ok (f : S) (h : List UInt8) (n : Nat) (hh : h.length = 136) : Pur Tryz.prog 95 [.agg (spC f h n)] (.agg (spC (turn kons (sI f h 136)) (hld []) 0)) := by
  obtain ⟨F, hF⟩ : ∃ F, sI f h 136 = F := ⟨_, rfl⟩
  rw [hF]
  have hT := Turn_ok F
  obtain ⟨T, hT'⟩ : ∃ T, turn kons F = T := ⟨_, rfl⟩
  rw [hT'] at hT ⊢
  have hcl : D.cl (.agg (spC T (hld []) 0)) = true := spC_cls _ _ _
  refine pur_intro Tryz.func95 rfl Tryz.ntmps95 rfl (by first | rfl | assumption | exact bs_cl _) fun B => ?_
  repeat (first | (with_reducible refine R_nil ?_; try dsimp only [slots0, slots_ud, arr_len, arr_cls, arr_fzs, arr_bels, cells_U, agg_ud, drop0, dropS, takeS, take0, ud_nil, take_ud, take_ud0, drop_ud, drop_ud0, take_udk, D.cells, D.fz, D.fzs, List.take_succ_cons, List.take_zero, List.drop_succ_cons, List.drop_zero, List.cons_append, List.nil_append, List.append_eq, List.length_cons, List.length_nil, Nat.reduceAdd, Nat.reduceMul, Nat.reduceSub, Int.reduceAdd, Int.reduceSub, Int.reduceToNat, Int.reduceNeg, Int.reduceMul]) | refine zc ?_ | refine zA ?_ | refine k_load rfl rfl rfl (spC_held _ _ _ hh _) ?_ | refine zB ?_)
  refine W_loop (fun n' ρ m nx => ∃ i : Nat, i ≤ 136 ∧ n' = 136 - i ∧ ρ = [(7, .int .i64 (i : Int)), (6, .agg (bs h)), (2, .ptr 1 0), (1, .ptr 0 0)] ∧ (∃ cs, cs.length = 162 ∧ D.bels 2 cs = true ∧ m = [(1, some (.var 126 cs)), (0, some (.var 126 (spC (sI f h i) h n)))]) ∧ nx = 2)
    ⟨_, _, _, _, (by exact ⟨⟨rfl, rfl⟩, ⟨rfl, bels_cls _ _ (bs_cl _)⟩, ⟨rfl, rfl⟩, ⟨rfl, rfl⟩, trivial⟩), (by exact ⟨⟨rfl, rfl, rfl⟩, ⟨rfl, rfl, spC_bels _ _ _ _⟩, trivial⟩), 0, by decide, rfl, rfl, ⟨_, rfl, rfl, rfl⟩, rfl⟩ ?_
  rintro n' ρ m nx ⟨i, hi, rfl, rfl, ⟨cs, hcs, hbl, rfl⟩, rfl⟩
  by_cases hlt : i < 136
  · have hb := b_ix h i (by omega)
    have hu := u8_wv (h.getD i 0)
    have hq := quo8' i (by omega)
    have hr := rem8' i
    have hm : IntKind.i64.wrap (8 * ((i % 8 : Nat) : Int)) = ((8 * (i % 8) : Nat) : Int) := mulc 8 _ (by omega) (by omega)
    have hl := spC_lane (sI f h i) h n (i / 8) (by omega)
    have hs := shl_wv (BitVec.ofNat 64 (h.getD i 0).toNat) (8 * (i % 8)) (by omega)
    have hx := xor_wv (sI f h i (i / 8)) (BitVec.ofNat 64 (h.getD i 0).toNat <<< (8 * (i % 8)))
    have hp := spC_putlane (sI f h i) h n (i / 8) (by omega) (sI f h i (i / 8) ^^^ BitVec.ofNat 64 (h.getD i 0).toNat <<< (8 * (i % 8)))
    have hn : upd (sI f h i) (i / 8) (sI f h i (i / 8) ^^^ BitVec.ofNat 64 (h.getD i 0).toNat <<< (8 * (i % 8))) = sI f h (i + 1) := rfl
    rw [hn] at hp
    clear hn
    have b1 : i / 8 < 25 := by omega
    have b2 : i % 8 < 8 := by omega
    generalize (h.getD i 0) = c at *
    generalize h1 : sI f h (i + 1) = g1 at *
    generalize sI f h i = g0 at *
    generalize i / 8 = q at *
    generalize i % 8 = r at *
    repeat (first | (with_reducible refine R_nil ?_; try dsimp only [slots0, slots_ud, arr_len, arr_cls, arr_fzs, arr_bels, cells_U, agg_ud, drop0, dropS, takeS, take0, ud_nil, take_ud, take_ud0, drop_ud, drop_ud0, take_udk, D.cells, D.fz, D.fzs, List.take_succ_cons, List.take_zero, List.drop_succ_cons, List.drop_zero, List.cons_append, List.nil_append, List.append_eq, List.length_cons, List.length_nil, Nat.reduceAdd, Nat.reduceMul, Nat.reduceSub, Int.reduceAdd, Int.reduceSub, Int.reduceToNat, Int.reduceNeg, Int.reduceMul]) | refine zc ?_ | refine zA ?_ | (refine k_index rfl rfl rfl ⟨?_, ?_⟩ (by exact hb) ?_; (omega); (omega)) | (refine k_quo rfl rfl rfl ?_ hq ?_; (decide)) | (refine k_rem rfl rfl rfl ?_ hr ?_; (decide)) | refine k_mul rfl rfl rfl hm ?_ | refine k_load rfl rfl rfl (hl _) ?_ | refine k_conv rfl rfl hu ?_ | (refine k_shl rfl rfl rfl ?_ hs ?_; (omega)) | refine k_bits rfl rfl rfl rfl hx ?_ | refine k_store rfl rfl rfl rfl rfl rfl (by exact hp) ?_ | refine zB ?_)
    subst h1
    exact ⟨136 - (i + 1), _, _, _, (by exact ⟨⟨rfl, rfl⟩, ⟨rfl, bels_cls _ _ (bs_cl _)⟩, ⟨rfl, rfl⟩, ⟨rfl, rfl⟩, trivial⟩), (by exact ⟨⟨rfl, rfl, hbl⟩, ⟨rfl, rfl, spC_bels _ _ _ _⟩, trivial⟩), by omega, i + 1, by omega, rfl, rfl, ⟨_, hcs, hbl, rfl⟩, rfl⟩
  · have ei : i = 136 := by omega
    subst ei
    rw [hF]
    repeat (first | (with_reducible refine R_nil ?_; try dsimp only [slots0, slots_ud, arr_len, arr_cls, arr_fzs, arr_bels, cells_U, agg_ud, drop0, dropS, takeS, take0, ud_nil, take_ud, take_ud0, drop_ud, drop_ud0, take_udk, D.cells, D.fz, D.fzs, List.take_succ_cons, List.take_zero, List.drop_succ_cons, List.drop_zero, List.cons_append, List.nil_append, List.append_eq, List.length_cons, List.length_nil, Nat.reduceAdd, Nat.reduceMul, Nat.reduceSub, Int.reduceAdd, Int.reduceSub, Int.reduceToNat, Int.reduceNeg, Int.reduceMul]) | refine zc ?_ | refine k_load rfl rfl rfl (spC_lanes _ _ _ _) ?_ | refine k_build rfl rfl (by exact sp_build _ _ (by kernel_rfl)) ?_ | refine zA ?_ | refine k_call rfl hT rfl (arr_fz1 _ _) (arr_cl1 _ _) (arr_cls _ _) ?_ | refine k_store rfl rfl rfl rfl (by exact spC_len _ _ _ hld0) rfl (by exact spC_lay _ _ _ hld0 cs hcs) ?_ | refine zB ?_)
    (first | with_reducible refine q_endr ?_); refine rets1 Tryz.results95 (RetV.cell _ _ _ _ _ _ _ _ inferInstance rfl rfl (by exact spC_whole _ _ _ hld0 _)) ?_
    show D.agg (D.fzs (spC T (hld []) 0)) = _
    rw [spC_fzs]
end Go.Proofs.YtcfefmbbbfdppaaGreatDoor
namespace Go.Proofs.YtcfefmbbbfdppaaGreatDoor
open Go.RowKit Go.IntWalk Kec
set_option linter.unusedVariables false
set_option maxRecDepth 100000
--nrm arr_len arr_cls arr_fzs arr_bels
theorem hld_zero (l : List UInt8) (k : Nat) (h : l.length ≤ k) : (hld l).getD k 0 = 0 := by
  unfold hld
  rw [List.getD_eq_getElem?_getD, List.getElem?_append_right h, List.getElem?_replicate]
  split <;> rfl
theorem spC_byte (f : S) (h : List UInt8) (n k : Nat) (hh : h.length = 136) (hk : k < 136) (ze : List D) (o : Nat) (ho : o = 25 + k) : cut ⟨false, 1, ze⟩ o (spC f h n) = some (.int .u8 ((h.getD k 0).toNat : Int)) := by
  unfold cut; rw [cond_false, ho]; exact spC_at f h n k hh hk
theorem splice_one (l : List D) (o : Nat) (x : D) (h : o < l.length) : splice o [x] l = some (l.set o x) := by
  unfold splice
  rw [Nat.ble_eq_true_of_le (by simp; omega), cond_true, List.set_eq_take_append_cons_drop, if_pos h]
  simp
theorem spC_putbyte (f : S) (h : List UInt8) (n k : Nat) (hh : h.length = 136) (hk : k < 136) (c : UInt8) (o : Nat) (ho : o = 25 + k) : splice o [D.int .u8 (c.toNat : Int)] (spC f h n) = some (spC f (h.set k c) n) := by
  subst ho
  rw [splice_one _ _ _ (by rw [spC_len f h n hh]; omega)]
  congr 1
  unfold spC
  have hb : (bs h).set k (D.int .u8 (c.toNat : Int)) = bs (h.set k c) := by unfold bs; rw [List.map_set]
  rw [List.set_append_right _ _ (by rw [arr_len]; omega), arr_len, show 25 + k - 25 = k from by omega, List.set_append_left _ _ (by rw [bs_len, hh]; omega), hb]
theorem spC_putn (f : S) (h : List UInt8) (n : Nat) (k : Nat) (hh : h.length = 136) : splice 161 [D.int .i64 (k : Int)] (spC f h n) = some (spC f h k) := by
  unfold splice
  rw [Nat.ble_eq_true_of_le (by rw [spC_len f h n hh]; simp), cond_true]
  congr 1
  unfold spC
  have e1 : (arr f 25 ++ (bs h ++ [D.int .i64 (n : Int)])).take 161 = arr f 25 ++ bs h := by
    rw [← List.append_assoc, List.take_append_of_le_length (by rw [List.length_append, arr_len, bs_len, hh]; omega), List.take_of_length_le (by rw [List.length_append, arr_len, bs_len, hh]; omega)]
  rw [e1, List.drop_of_length_le (by simp [arr_len, bs_len, hh])]
  simp
theorem hld_set (l : List UInt8) (c : UInt8) (h : l.length < 136) : (hld l).set l.length c = hld (l ++ [c]) := by
  unfold hld
  rw [List.set_append_right _ _ (Nat.le_refl _), Nat.sub_self]
  obtain ⟨k, hk⟩ : ∃ k, 136 - l.length = k + 1 := ⟨136 - l.length - 1, by omega⟩
  rw [hk, List.replicate_succ, List.set_cons_zero, List.length_append, show 136 - (l.length + [c].length) = k from by simp; omega, List.append_assoc]
  rfl
set_option maxHeartbeats 16000000 in
theorem check_ok (f : S) (l : List UInt8) (hl : l.length < 136) : Pur Tryz.prog 94 [.agg (spC f (hld l) l.length)] (.int .i64 0) := by
  have hh := hld_len l (by omega)
  have hN := spC_n f (hld l) l.length hh
  have hz : ∀ k, l.length ≤ k → (hld l).getD k 0 = 0 := fun k hk => hld_zero l k hk
  obtain ⟨n, hn⟩ : ∃ n, l.length = n := ⟨_, rfl⟩
  rw [hn] at hl hN hz ⊢
  have hnn : (((136 : Nat) : Int) - (n : Int)).toNat = 136 - n := by omega
  have hoff : 25 + ((n : Nat) : Int).toNat * 1 = 25 + n := by omega
  refine pur_intro Tryz.func94 rfl Tryz.ntmps94 rfl (by first | rfl | assumption | exact bs_cl _) fun B => ?_
  repeat (first | (with_reducible refine R_nil ?_; try dsimp only [slots0, slots_ud, arr_len, arr_cls, arr_fzs, arr_bels, cells_U, agg_ud, drop0, dropS, takeS, take0, ud_nil, take_ud, take_ud0, drop_ud, drop_ud0, take_udk, D.cells, D.fz, D.fzs, List.take_succ_cons, List.take_zero, List.drop_succ_cons, List.drop_zero, List.cons_append, List.nil_append, List.append_eq, List.length_cons, List.length_nil, Nat.reduceAdd, Nat.reduceMul, Nat.reduceSub, Int.reduceAdd, Int.reduceSub, Int.reduceToNat, Int.reduceNeg, Int.reduceMul]) | refine zc ?_ | refine k_load rfl rfl rfl (hN _) ?_ | (refine k_sliceA rfl rfl rfl rfl ⟨?_, ?_, ?_, ?_⟩ hnn hoff ?_; (omega); (omega); (omega); (omega)) | refine zA ?_ | refine k_lenM rfl rfl ?_ | refine zB ?_)
  refine W_loop (fun n' ρ m nx => ∃ i : Nat, i ≤ 136 - n ∧ n' = 136 - n - i ∧ ρ = [(18, .int .i64 (i : Int)), (17, .int .i64 ((136 - n : Nat) : Int)), (16, .ms 0 (25 + n) (136 - n)), (1, .ptr 0 0)] ∧ m = [(0, some (.var 126 (spC f (hld l) n)))] ∧ nx = 1)
    ⟨_, _, _, _, (by exact zs), (by exact ⟨⟨rfl, rfl, spC_bels _ _ _ _⟩, trivial⟩), 0, by omega, rfl, rfl, rfl, rfl⟩ ?_
  rintro n' ρ m nx ⟨i, hi, rfl, rfl, rfl, rfl⟩
  by_cases hlt : i < 136 - n
  · have hc := spC_byte f (hld l) n (n + i) hh (by omega)
    rw [hz (n + i) (by omega)] at hc
    have hc' : ∀ ze, cut ⟨false, 1, ze⟩ (25 + n + ((i : Nat) : Int).toNat * 1) (spC f (hld l) n) = some (.int .u8 0) := fun ze => hc ze _ (by omega)
    repeat (first | (with_reducible refine R_nil ?_; try dsimp only [slots0, slots_ud, arr_len, arr_cls, arr_fzs, arr_bels, cells_U, agg_ud, drop0, dropS, takeS, take0, ud_nil, take_ud, take_ud0, drop_ud, drop_ud0, take_udk, D.cells, D.fz, D.fzs, List.take_succ_cons, List.take_zero, List.drop_succ_cons, List.drop_zero, List.cons_append, List.nil_append, List.append_eq, List.length_cons, List.length_nil, Nat.reduceAdd, Nat.reduceMul, Nat.reduceSub, Int.reduceAdd, Int.reduceSub, Int.reduceToNat, Int.reduceNeg, Int.reduceMul]) | refine zc ?_ | refine k_load rfl rfl rfl (hc' _) ?_ | refine zA ?_ | (refine k_indexAddrM rfl rfl rfl ⟨?_, ?_⟩ ?_; (omega); (omega)) | refine zB ?_)
    exact ⟨136 - n - (i + 1), _, _, _, (by exact zs), (by exact ⟨⟨rfl, rfl, spC_bels _ _ _ _⟩, trivial⟩), by omega, i + 1, by omega, rfl, rfl, rfl, rfl⟩
  · have ei : i = 136 - n := by omega
    subst ei
    repeat (first | (with_reducible refine R_nil ?_; try dsimp only [slots0, slots_ud, arr_len, arr_cls, arr_fzs, arr_bels, cells_U, agg_ud, drop0, dropS, takeS, take0, ud_nil, take_ud, take_ud0, drop_ud, drop_ud0, take_udk, D.cells, D.fz, D.fzs, List.take_succ_cons, List.take_zero, List.drop_succ_cons, List.drop_zero, List.cons_append, List.nil_append, List.append_eq, List.length_cons, List.length_nil, Nat.reduceAdd, Nat.reduceMul, Nat.reduceSub, Int.reduceAdd, Int.reduceSub, Int.reduceToNat, Int.reduceNeg, Int.reduceMul]) | refine zc ?_ | refine zAB ?_)
    (first | with_reducible refine q_endr ?_); refine rets1 Tryz.results94 (by exact zv) ?_
    rfl
end Go.Proofs.YtcfefmbbbfdppaaGreatDoor
namespace Go.Proofs.YtcfefmbbbfdppaaGreatDoor
open Go.RowKit Go.IntWalk Kec
set_option linter.unusedVariables false
set_option maxRecDepth 100000
--nrm arr_len arr_cls arr_fzs arr_bels
def addS (s : S × List UInt8) (c : UInt8) : S × List UInt8 := if s.2.length + 1 = 136 then (turn kons (sI s.1 (s.2 ++ [c]) 136), []) else (s.1, s.2 ++ [c])
theorem addS_lt (s : S × List UInt8) (c : UInt8) (h : s.2.length < 136) : (addS s c).2.length < 136 := by
  unfold addS
  split
  · simp
  · simp; omega
def addA (s : S × List UInt8) (b : List UInt8) : S × List UInt8 := b.foldl addS s
theorem addA_lt : ∀ (b : List UInt8) (s : S × List UInt8), s.2.length < 136 → (addA s b).2.length < 136
  | [], s, h => h
  | c :: b, s, h => addA_lt b (addS s c) (addS_lt s c h)
def spD (s : S × List UInt8) : List D := spC s.1 (hld s.2) s.2.length
theorem hld_full (l : List UInt8) (h : l.length = 136) : hld l = l := by unfold hld; rw [h]; simp
theorem addS_a (s : S × List UInt8) (c : UInt8) (h : s.2.length + 1 = 136) : spD (addS s c) = spC (turn kons (sI s.1 (hld (s.2 ++ [c])) 136)) (hld []) 0 := by
  unfold addS spD
  rw [if_pos h, hld_full (s.2 ++ [c]) (by simp; omega)]; rfl
theorem addS_b (s : S × List UInt8) (c : UInt8) (h : ¬ s.2.length + 1 = 136) : spD (addS s c) = spC s.1 (hld (s.2 ++ [c])) (s.2.length + 1) := by
  unfold addS spD
  rw [if_neg h]; simp
theorem spD_len (s : S × List UInt8) (h : s.2.length < 136) : (spD s).length = 162 := spC_len _ _ _ (hld_len _ (by omega))
theorem spD_bels (k : Nat) (s : S × List UInt8) : D.bels k (spD s) = true := spC_bels k _ _ _
theorem spD_fz1 (s : S × List UInt8) : D.fzs [D.agg (spD s)] = [D.agg (spD s)] := by
  show [D.agg (D.fzs (spC _ _ _))] = _
  rw [spC_fzs]; rfl
theorem spC_fz1 (f : S) (h : List UInt8) (n : Nat) : D.fzs [D.agg (spC f h n)] = [D.agg (spC f h n)] := by
  show [D.agg (D.fzs (spC _ _ _))] = _
  rw [spC_fzs]
theorem spC_cl1 (f : S) (h : List UInt8) (n : Nat) : D.cls [D.agg (spC f h n)] = true := by
  show (D.cls (spC _ _ _) && true) = true
  rw [spC_cls]; rfl
theorem addA_take (s : S × List UInt8) (b : List UInt8) (i : Nat) (h : i < b.length) : addA s (b.take (i + 1)) = addS (addA s (b.take i)) (b.getD i 0) := by
  unfold addA
  rw [List.take_add_one, List.getElem?_eq_getElem h, List.foldl_append, List.getD_eq_getElem?_getD, List.getElem?_eq_getElem h]; rfl
theorem sl_ix (b : List UInt8) (i : Nat) (h : i < b.length) (ze : List D) : cut ⟨false, 1, ze⟩ 0 ((bs b).drop (((i : Nat) : Int).toNat * 1)) = some (.int .u8 ((b.getD i 0).toNat : Int)) := by
  unfold cut
  rw [Int.toNat_natCast, Nat.mul_one, cond_false, List.getElem?_drop, Nat.add_zero]
  refine bs_get b i _ ?_
  rw [List.getD_eq_getElem?_getD, List.getElem?_eq_getElem h]; rfl
set_option maxHeartbeats 32000000 in
theorem KAdd_ok (s : S × List UInt8) (hs : s.2.length < 136) (b : List UInt8) (nb : Nat) (hnb : b.length = nb) (hsm : nb < 1000000) : Pur Tryz.prog 64 [.agg (spD s), .slice .frozen nb (bs b)] (.tup [.agg (spD (addA s b)), .int .i64 0]) := by
  have hc := check_ok s.1 s.2 hs
  have hfl := addA_lt b s hs
  obtain ⟨Z, hZ⟩ : ∃ Z, addA s b = Z := ⟨_, rfl⟩
  rw [hZ] at hfl ⊢
  have hcl : D.cl (.tup [.agg (spD Z), .int .i64 0]) = true := by show (D.cls (spC _ _ _) && true) = true; rw [spC_cls]; rfl
  refine pur_intro Tryz.func64 rfl Tryz.ntmps64 rfl (by first | rfl | assumption | exact bs_cl _) fun B => ?_
  repeat (first | (with_reducible refine R_nil ?_; try dsimp only [slots0, slots_ud, arr_len, arr_cls, arr_fzs, arr_bels, cells_U, agg_ud, drop0, dropS, takeS, take0, ud_nil, take_ud, take_ud0, drop_ud, drop_ud0, take_udk, D.cells, D.fz, D.fzs, List.take_succ_cons, List.take_zero, List.drop_succ_cons, List.drop_zero, List.cons_append, List.nil_append, List.append_eq, List.length_cons, List.length_nil, Nat.reduceAdd, Nat.reduceMul, Nat.reduceSub, Int.reduceAdd, Int.reduceSub, Int.reduceToNat, Int.reduceNeg, Int.reduceMul]) | refine zc ?_ | refine k_load rfl rfl rfl (spC_whole _ _ _ (hld_len _ (by omega)) _) ?_ | refine k_call rfl hc rfl (spD_fz1 _) (spC_cl1 _ _ _) rfl ?_ | refine zAB ?_)
  refine W_loop (fun n' ρ m nx => ∃ i : Nat, i ≤ nb ∧ n' = nb - i ∧ ρ = [(17, .int .i64 (i : Int)), (16, .int .i64 (nb : Int)), (15, .slice .frozen nb (bs b)), (5, .int .i64 0), (4, .ptr 1 0), (2, .ptr 0 0)] ∧ (∃ cs, cs.length = 162 ∧ D.bels 2 cs = true ∧ m = [(1, some (.var 126 cs)), (0, some (.var 126 (spD (addA s (b.take i)))))]) ∧ nx = 2)
    ⟨_, _, _, _, (by exact zs), (by exact ⟨⟨rfl, rfl, rfl⟩, ⟨rfl, rfl, spD_bels _ _⟩, trivial⟩), 0, by omega, rfl, rfl, ⟨_, rfl, rfl, rfl⟩, rfl⟩ ?_
  have hbn : nb * 1 = (bs b).length := by rw [bs_len]; omega
  rintro n' ρ m nx ⟨i, hi, rfl, rfl, ⟨cs, hcs, hbl, rfl⟩, rfl⟩
  by_cases hlt : i < nb
  · have hst := addA_take s b i (by omega)
    have hix := sl_ix b i (by omega)
    have hil := addA_lt (b.take i) s hs
    generalize hY : addA s (b.take i) = Y at *
    generalize b.getD i 0 = c at *
    have hh := hld_len Y.2 (by omega)
    have hN : ∀ ze, cut ⟨false, 1, ze⟩ 161 (spD Y) = some (.int .i64 (Y.2.length : Int)) := spC_n Y.1 (hld Y.2) Y.2.length hh
    have hsB : splice (25 + ((Y.2.length : Nat) : Int).toNat * 1) [D.int .u8 (c.toNat : Int)] (spD Y) = some (spC Y.1 (hld (Y.2 ++ [c])) Y.2.length) := by
      rw [← hld_set Y.2 c hil]
      exact spC_putbyte Y.1 (hld Y.2) Y.2.length Y.2.length hh hil c _ (by omega)
    have hh1 := hld_len (Y.2 ++ [c]) (by simp; omega)
    have hN1 : ∀ ze, cut ⟨false, 1, ze⟩ 161 (spC Y.1 (hld (Y.2 ++ [c])) Y.2.length) = some (.int .i64 (Y.2.length : Int)) := spC_n Y.1 _ Y.2.length hh1
    have hsN : splice 161 [D.int .i64 (((Y.2.length + 1 : Nat)) : Int)] (spC Y.1 (hld (Y.2 ++ [c])) Y.2.length) = some (spC Y.1 (hld (Y.2 ++ [c])) (Y.2.length + 1)) := spC_putn Y.1 _ Y.2.length (Y.2.length + 1) hh1
    have hN2 : ∀ ze, cut ⟨false, 1, ze⟩ 161 (spC Y.1 (hld (Y.2 ++ [c])) (Y.2.length + 1)) = some (.int .i64 ((Y.2.length + 1 : Nat) : Int)) := spC_n Y.1 _ (Y.2.length + 1) hh1
    have hadd : IntKind.i64.wrap ((Y.2.length : Int) + 1) = ((Y.2.length + 1 : Nat) : Int) := by rw [i64_in _ (by omega)]; omega
    by_cases hfull : Y.2.length + 1 = 136
    · have hso := soak_ok Y.1 (hld (Y.2 ++ [c])) (Y.2.length + 1) hh1
      have hre := addS_a Y c hfull
      rw [← hre] at hso
      have hwh := spC_whole Y.1 (hld (Y.2 ++ [c])) (Y.2.length + 1) hh1
      have hXl := spD_len (addS Y c) (addS_lt Y c hil)
      have hlay : ∀ cs : List D, cs.length = 162 → splice 0 (spD (addS Y c)) cs = some (spD (addS Y c)) := fun cs hc => by
        unfold splice
        rw [Nat.ble_eq_true_of_le (by rw [hXl, hc]; exact Nat.le_refl _), cond_true, Nat.zero_add, List.drop_of_length_le (by rw [hXl, hc]; exact Nat.le_refl _)]
        simp
      have hl2 := hlay _ (spC_len Y.1 (hld (Y.2 ++ [c])) (Y.2.length + 1) hh1)
      have hcl2 : D.cl (.agg (spD (addS Y c))) = true := spC_cls _ _ _
      generalize Y.2.length = q at *
      generalize hld (Y.2 ++ [c]) = H at *
      repeat (first | (with_reducible refine R_nil ?_; try dsimp only [slots0, slots_ud, arr_len, arr_cls, arr_fzs, arr_bels, cells_U, agg_ud, drop0, dropS, takeS, take0, ud_nil, take_ud, take_ud0, drop_ud, drop_ud0, take_udk, D.cells, D.fz, D.fzs, List.take_succ_cons, List.take_zero, List.drop_succ_cons, List.drop_zero, List.cons_append, List.nil_append, List.append_eq, List.length_cons, List.length_nil, Nat.reduceAdd, Nat.reduceMul, Nat.reduceSub, Int.reduceAdd, Int.reduceSub, Int.reduceToNat, Int.reduceNeg, Int.reduceMul]) | refine zc ?_ | (refine k_indexAddrs rfl rfl rfl ⟨?_, ?_⟩ (by exact hbn) ?_; (omega); (omega)) | refine k_loade rfl rfl (hix _) ?_ | refine k_load rfl rfl rfl (hN _) ?_ | refine k_store rfl rfl rfl rfl rfl rfl (by exact hsB) ?_ | refine k_load rfl rfl rfl (hN1 _) ?_ | refine k_add (k := .i64) rfl rfl rfl hadd ?_ | refine k_store rfl rfl rfl rfl rfl rfl (by exact hsN) ?_ | refine k_load rfl rfl rfl (hN2 _) ?_ | refine k_load rfl rfl rfl (hwh _) ?_ | refine k_call rfl hso rfl (spC_fz1 _ _ _) (spC_cl1 _ _ _) hcl2 ?_ | refine k_store rfl rfl rfl rfl (by exact hXl) rfl (by exact hl2) ?_ | refine zAB ?_)
      rw [← hst]
      exact ⟨nb - (i + 1), _, _, _, (by exact zs), (by exact ⟨⟨rfl, rfl, hbl⟩, ⟨rfl, rfl, spD_bels _ _⟩, trivial⟩), by omega, i + 1, by omega, rfl, rfl, ⟨_, hcs, hbl, rfl⟩, rfl⟩
    · have hre := addS_b Y c hfull
      rw [← hst] at hre
      generalize Y.2.length = q at *
      generalize hld (Y.2 ++ [c]) = H at *
      repeat (first | (with_reducible refine R_nil ?_; try dsimp only [slots0, slots_ud, arr_len, arr_cls, arr_fzs, arr_bels, cells_U, agg_ud, drop0, dropS, takeS, take0, ud_nil, take_ud, take_ud0, drop_ud, drop_ud0, take_udk, D.cells, D.fz, D.fzs, List.take_succ_cons, List.take_zero, List.drop_succ_cons, List.drop_zero, List.cons_append, List.nil_append, List.append_eq, List.length_cons, List.length_nil, Nat.reduceAdd, Nat.reduceMul, Nat.reduceSub, Int.reduceAdd, Int.reduceSub, Int.reduceToNat, Int.reduceNeg, Int.reduceMul]) | refine zc ?_ | (refine k_indexAddrs rfl rfl rfl ⟨?_, ?_⟩ (by exact hbn) ?_; (omega); (omega)) | refine k_loade rfl rfl (hix _) ?_ | refine k_load rfl rfl rfl (hN _) ?_ | refine k_store rfl rfl rfl rfl rfl rfl (by exact hsB) ?_ | refine k_load rfl rfl rfl (hN1 _) ?_ | refine k_add (k := .i64) rfl rfl rfl hadd ?_ | refine k_store rfl rfl rfl rfl rfl rfl (by exact hsN) ?_ | refine k_load rfl rfl rfl (hN2 _) ?_ | refine zAB ?_)
      rw [← hre]
      exact ⟨nb - (i + 1), _, _, _, (by exact zs), (by exact ⟨⟨rfl, rfl, hbl⟩, ⟨rfl, rfl, spD_bels _ _⟩, trivial⟩), by omega, i + 1, by omega, rfl, rfl, ⟨_, hcs, hbl, rfl⟩, rfl⟩
  · have ei : i = nb := by omega
    subst ei
    have hZ' : addA s (b.take i) = Z := by rw [← hnb, List.take_length, hZ]
    rw [hZ']
    have hwh : ∀ ze, cut ⟨true, 162, ze⟩ 0 (spD Z) = some (.agg (spD Z)) := spC_whole Z.1 (hld Z.2) Z.2.length (hld_len Z.2 (by omega))
    have hlay : splice 0 (spD Z) cs = some (spD Z) := spC_lay _ _ _ (hld_len Z.2 (by omega)) cs hcs
    have hZl := spD_len Z hfl
    repeat (first | (with_reducible refine R_nil ?_; try dsimp only [slots0, slots_ud, arr_len, arr_cls, arr_fzs, arr_bels, cells_U, agg_ud, drop0, dropS, takeS, take0, ud_nil, take_ud, take_ud0, drop_ud, drop_ud0, take_udk, D.cells, D.fz, D.fzs, List.take_succ_cons, List.take_zero, List.drop_succ_cons, List.drop_zero, List.cons_append, List.nil_append, List.append_eq, List.length_cons, List.length_nil, Nat.reduceAdd, Nat.reduceMul, Nat.reduceSub, Int.reduceAdd, Int.reduceSub, Int.reduceToNat, Int.reduceNeg, Int.reduceMul]) | refine zc ?_ | refine k_load rfl rfl rfl (hwh _) ?_ | refine k_store rfl rfl rfl rfl (by exact hZl) rfl (by exact hlay) ?_ | refine zAB ?_)
    (first | with_reducible refine q_endr ?_); refine rets2 Tryz.results64 (RetV.cell _ _ _ _ _ _ _ _ inferInstance rfl rfl (by exact hwh _)) (RetV.tmp _ _ rfl) ?_ rfl
    show D.agg (D.fzs (spC _ _ _)) = _
    rw [spC_fzs]; rfl
end Go.Proofs.YtcfefmbbbfdppaaGreatDoor
