/- A message's cells, the last three by themselves. Conditions: as said. -/
import Derived.Test.YtcfefmbbbfdppaaGreatDoorSBytes
import Derived.Test.YtcfefmbbbfdppaaGreatDoorSKec4
import Derived.Test.YtcfefmbbbfdppaaGreatDoorSDFix
namespace Go.Proofs.YtcfefmbbbfdppaaGreatDoor
open Go.RowKit Go.IntWalk Kec
set_option linter.unusedVariables false
set_option maxRecDepth 100000
--nrm arr_len arr_cls arr_fzs arr_bels
def padK (l : List UInt8) : List UInt8 := ((hld l).set l.length 1).set 135 (((hld l).set l.length 1).getD 135 0 ||| 128)
theorem padK_len (l : List UInt8) (h : l.length < 136) : (padK l).length = 136 := by unfold padK; rw [List.length_set, List.length_set, hld_len l (by omega)]
def outI (T : S) : Nat → List UInt8
  | 0 => List.replicate 32 0
  | i + 1 => (outI T i).set i (UInt8.ofNat (T (i / 8) >>> (8 * (i % 8))).toNat)
theorem outI_len (T : S) : ∀ i, (outI T i).length = 32
  | 0 => rfl
  | i + 1 => by rw [outI, List.length_set, outI_len T i]
def endS (s : S × List UInt8) : List UInt8 := outI (turn kons (sI s.1 (padK s.2) 136)) 32
theorem endS_len (s : S × List UInt8) : (endS s).length = 32 := outI_len _ _
def kec (b : List UInt8) : List UInt8 := endS (addA (fun _ => 0, []) b)
theorem kec_len (b : List UInt8) : (kec b).length = 32 := outI_len _ _
theorem or_u8 (x y : UInt8) : bitw .or .u8 (x.toNat : Int) (y.toNat : Int) = ((x ||| y).toNat : Int) := by
  unfold bitw
  show IntKind.u8.wrap ((BitVec.ofInt 8 (x.toNat : Int) ||| BitVec.ofInt 8 (y.toNat : Int)).toNat : Int) = _
  have e : ∀ z : UInt8, BitVec.ofInt 8 ((z.toNat : Nat) : Int) = z.toBitVec := fun z => by
    rw [BitVec.ofInt_natCast]; simp
  rw [e, e, IntKind.wrap_u8, ← UInt8.toBitVec_or]
  have := (x ||| y).toNat_lt
  show ((x ||| y).toNat : Int) % 256 = _
  omega
theorem wv_u8 (x : Kec.W) : IntKind.u8.wrap (wv x) = ((UInt8.ofNat x.toNat).toNat : Int) := by
  unfold wv
  rw [IntKind.wrap_u8, UInt8.toNat_ofNat']; omega
set_option maxHeartbeats 32000000 in
theorem End_ok (s : S × List UInt8) (hs : s.2.length < 136) : Pur Tryz.prog 66 [.agg (spD s)] (.tup [.agg (bs (endS s)), .int .i64 0]) := by
  have hck := check_ok s.1 s.2 hs
  have hh := hld_len s.2 (by omega)
  have hN : ∀ ze, cut ⟨false, 1, ze⟩ 161 (spD s) = some (.int .i64 (s.2.length : Int)) := spC_n s.1 (hld s.2) s.2.length hh
  have hWh : ∀ ze, cut ⟨true, 162, ze⟩ 0 (spD s) = some (.agg (spD s)) := spC_whole _ _ _ hh
  have hp1 : splice (25 + ((s.2.length : Nat) : Int).toNat * 1) [D.int .u8 1] (spD s) = some (spC s.1 ((hld s.2).set s.2.length 1) s.2.length) := spC_putbyte s.1 (hld s.2) s.2.length s.2.length hh hs 1 _ (by omega)
  have hh1 : ((hld s.2).set s.2.length 1).length = 136 := by rw [List.length_set, hh]
  have hb : ∀ ze, cut ⟨false, 1, ze⟩ 160 (spC s.1 ((hld s.2).set s.2.length 1) s.2.length) = some (.int .u8 ((((hld s.2).set s.2.length 1).getD 135 0).toNat : Int)) := fun ze => spC_byte s.1 _ s.2.length 135 hh1 (by decide) ze 160 rfl
  have hor : bitw .or .u8 ((((hld s.2).set s.2.length 1).getD 135 0).toNat : Int) 128 = (((((hld s.2).set s.2.length 1).getD 135 0) ||| 128).toNat : Int) := or_u8 _ 128
  have hp2 : splice 160 [D.int .u8 (((((hld s.2).set s.2.length 1).getD 135 0) ||| 128).toNat : Int)] (spC s.1 ((hld s.2).set s.2.length 1) s.2.length) = some (spC s.1 (padK s.2) s.2.length) := spC_putbyte s.1 _ s.2.length 135 hh1 (by decide) _ 160 rfl
  have hpl := padK_len s.2 hs
  have hso := soak_ok s.1 (padK s.2) s.2.length hpl
  have hwp := spC_whole s.1 (padK s.2) s.2.length hpl
  obtain ⟨T, hT⟩ : ∃ T, turn kons (sI s.1 (padK s.2) 136) = T := ⟨_, rfl⟩
  rw [hT] at hso
  have hlen := spC_len T (hld []) 0 hld0
  have hlay := spC_lay T (hld []) 0 hld0 (spC s.1 (padK s.2) s.2.length) (spC_len _ _ _ hpl)
  have hcT : D.cl (.agg (spC T (hld []) 0)) = true := spC_cls _ _ _
  have hE : endS s = outI T 32 := by unfold endS; rw [hT]
  rw [hE]
  obtain ⟨Z, hZ⟩ : ∃ Z, outI T 32 = Z := ⟨_, rfl⟩
  rw [hZ]
  have hZl : Z.length = 32 := by rw [← hZ]; exact outI_len T 32
  have hcl : D.cl (.tup [.agg (bs Z), .int .i64 0]) = true := by show (D.cls (bs Z) && true) = true; rw [bs_cl]; rfl
  have hf1 := spD_fz1 s
  have hc1 : D.cls [D.agg (spD s)] = true := spC_cl1 _ _ _
  have hf3 := spC_fz1 s.1 (padK s.2) s.2.length
  have hc3 := spC_cl1 s.1 (padK s.2) s.2.length
  have hb1 := spC_bels 3 T (hld []) 0
  have hlane : ∀ q, q < 25 → ∀ ze, cut ⟨false, 1, ze⟩ (0 + ((q : Nat) : Int).toNat * 1) (spC T (hld []) 0) = some (.int .u64 (wv (T q))) := fun q hq ze => spC_lane T (hld []) 0 q hq ze
  generalize spC T (hld []) 0 = X at *
  refine pur_intro Tryz.func66 rfl Tryz.ntmps66 rfl (by first | rfl | assumption | exact bs_cl _) fun B => ?_
  repeat (first | (with_reducible refine R_nil ?_; try dsimp only [slots0, slots_ud, arr_len, arr_cls, arr_fzs, arr_bels, cells_U, agg_ud, drop0, dropS, takeS, take0, ud_nil, take_ud, take_ud0, drop_ud, drop_ud0, take_udk, D.cells, D.fz, D.fzs, List.take_succ_cons, List.take_zero, List.drop_succ_cons, List.drop_zero, List.cons_append, List.nil_append, List.append_eq, List.length_cons, List.length_nil, Nat.reduceAdd, Nat.reduceMul, Nat.reduceSub, Int.reduceAdd, Int.reduceSub, Int.reduceToNat, Int.reduceNeg, Int.reduceMul]) | refine zc ?_ | refine k_load rfl rfl rfl (hWh _) ?_ | refine k_call rfl hck rfl hf1 hc1 rfl ?_ | refine k_load rfl rfl rfl (hN _) ?_ | refine k_store rfl rfl rfl rfl rfl rfl (by exact hp1) ?_ | refine k_load rfl rfl rfl (hb _) ?_ | refine k_bits rfl rfl rfl rfl hor ?_ | refine k_store rfl rfl rfl rfl rfl rfl (by exact hp2) ?_ | refine k_load rfl rfl rfl (hwp _) ?_ | refine k_call rfl hso rfl hf3 hc3 hcT ?_ | refine k_store rfl rfl rfl rfl (by exact hlen) rfl (by exact hlay) ?_ | refine zAB ?_)
  refine W_loop (fun n' ρ m nx => ∃ i : Nat, i ≤ 32 ∧ n' = 32 - i ∧ ρ = [(25, .int .i64 (i : Int)), (5, .ptr 2 0), (3, .int .i64 0), (2, .ptr 1 0), (1, .ptr 0 0)] ∧ m = [(2, some (.var 48 (bs (outI T i)))), (1, some (.var 48 (bs (List.replicate 32 0)))), (0, some (.var 126 X))] ∧ nx = 3)
    ⟨_, _, _, _, (by exact zs), (by exact ⟨⟨rfl, rfl, rfl⟩, ⟨rfl, rfl, rfl⟩, ⟨rfl, rfl, hb1⟩, trivial⟩), 0, by omega, rfl, rfl, rfl, rfl⟩ ?_
  rintro n' ρ m nx ⟨i, hi, rfl, rfl, rfl, rfl⟩
  by_cases hlt : i < 32
  · have hq := quo8' i (by omega)
    have hr := rem8' i
    have hm : IntKind.i64.wrap (8 * ((i % 8 : Nat) : Int)) = ((8 * (i % 8) : Nat) : Int) := mulc 8 _ (by omega) (by omega)
    have hl := hlane (i / 8) (by omega)
    have hs' := shr_wv (T (i / 8)) (8 * (i % 8)) (by omega)
    have hv := wv_u8 (T (i / 8) >>> (8 * (i % 8)))
    have hp := bs_put (outI T i) i (UInt8.ofNat (T (i / 8) >>> (8 * (i % 8))).toNat) (by rw [outI_len]; exact hlt)
    have hn : (outI T i).set i (UInt8.ofNat (T (i / 8) >>> (8 * (i % 8))).toNat) = outI T (i + 1) := rfl
    rw [hn] at hp
    clear hn
    have b1 : i / 8 < 25 := by omega
    have b2 : i % 8 < 8 := by omega
    generalize h1 : outI T (i + 1) = o1 at *
    generalize outI T i = o0 at *
    generalize i / 8 = q at *
    generalize i % 8 = r at *
    repeat (first | (with_reducible refine R_nil ?_; try dsimp only [slots0, slots_ud, arr_len, arr_cls, arr_fzs, arr_bels, cells_U, agg_ud, drop0, dropS, takeS, take0, ud_nil, take_ud, take_ud0, drop_ud, drop_ud0, take_udk, D.cells, D.fz, D.fzs, List.take_succ_cons, List.take_zero, List.drop_succ_cons, List.drop_zero, List.cons_append, List.nil_append, List.append_eq, List.length_cons, List.length_nil, Nat.reduceAdd, Nat.reduceMul, Nat.reduceSub, Int.reduceAdd, Int.reduceSub, Int.reduceToNat, Int.reduceNeg, Int.reduceMul]) | refine zc ?_ | refine k_load rfl rfl rfl (hl _) ?_ | refine k_store rfl rfl rfl rfl rfl rfl (by exact hp) ?_ | refine zA ?_ | (refine k_quo rfl rfl rfl ?_ hq ?_; (decide)) | (refine k_rem rfl rfl rfl ?_ hr ?_; (decide)) | refine k_mul rfl rfl rfl hm ?_ | (refine k_shr rfl rfl rfl ?_ hs' ?_; (omega)) | refine k_conv rfl rfl hv ?_ | refine zB ?_)
    subst h1
    exact ⟨32 - (i + 1), _, _, _, (by exact zs), (by exact ⟨⟨rfl, rfl, bels_cls _ _ (bs_cl _)⟩, ⟨rfl, rfl, bels_cls _ _ (bs_cl _)⟩, ⟨rfl, rfl, hb1⟩, trivial⟩), by omega, i + 1, by omega, rfl, rfl, rfl, rfl⟩
  · have ei : i = 32 := by omega
    subst ei
    rw [hZ]
    have hwZ := b_cut hZl
    repeat (first | (with_reducible refine R_nil ?_; try dsimp only [slots0, slots_ud, arr_len, arr_cls, arr_fzs, arr_bels, cells_U, agg_ud, drop0, dropS, takeS, take0, ud_nil, take_ud, take_ud0, drop_ud, drop_ud0, take_udk, D.cells, D.fz, D.fzs, List.take_succ_cons, List.take_zero, List.drop_succ_cons, List.drop_zero, List.cons_append, List.nil_append, List.append_eq, List.length_cons, List.length_nil, Nat.reduceAdd, Nat.reduceMul, Nat.reduceSub, Int.reduceAdd, Int.reduceSub, Int.reduceToNat, Int.reduceNeg, Int.reduceMul]) | refine zc ?_ | refine k_load rfl rfl rfl (hwZ _) ?_ | refine k_store rfl rfl rfl rfl (b_len hZl) (b_fits _) (by exact b_put hZl _ rfl) ?_ | refine zAB ?_)
    (first | with_reducible refine q_endr ?_); refine rets2 Tryz.results66 (RetV.cell _ _ _ _ _ _ _ _ inferInstance rfl rfl (by exact hwZ _)) (RetV.tmp _ _ rfl) ?_ rfl
    exact b_fz _
theorem Begin_ok : Pur Tryz.prog 65 [] (.agg (spD (fun _ => 0, []))) := by
  have hZ : (.agg (spD (fun _ => 0, [])) : D) = .agg (List.replicate 25 (.int .u64 0) ++ (List.replicate 136 (.int .u8 0) ++ [.int .i64 0])) := by kernel_rfl
  rw [hZ]
  refine pur_intro Tryz.func65 rfl Tryz.ntmps65 rfl (by first | rfl | assumption | exact bs_cl _) fun B => ?_
  repeat (first | (with_reducible refine R_nil ?_; try dsimp only [slots0, slots_ud, arr_len, arr_cls, arr_fzs, arr_bels, cells_U, agg_ud, drop0, dropS, takeS, take0, ud_nil, take_ud, take_ud0, drop_ud, drop_ud0, take_udk, D.cells, D.fz, D.fzs, List.take_succ_cons, List.take_zero, List.drop_succ_cons, List.drop_zero, List.cons_append, List.nil_append, List.append_eq, List.length_cons, List.length_nil, Nat.reduceAdd, Nat.reduceMul, Nat.reduceSub, Int.reduceAdd, Int.reduceSub, Int.reduceToNat, Int.reduceNeg, Int.reduceMul]) | refine zc ?_ | refine zAB ?_)
  (first | with_reducible refine q_endr ?_); refine rets1 Tryz.results65 (by exact zv) ?_
  rfl
theorem spD_fz (s : S × List UInt8) : (D.agg (spD s)).fz = D.agg (spD s) := by
  show D.agg (D.fzs (spC _ _ _)) = _
  rw [spC_fzs]; rfl
theorem spD_cl (s : S × List UInt8) : (D.agg (spD s)).cl = true := spC_cls _ _ _
set_option maxHeartbeats 8000000 in
theorem Sum_of (s0 : S × List UInt8) (h0 : s0.2.length < 136) (hB : Pur Tryz.prog 65 [] (.agg (spD s0))) (b : List UInt8) (nb : Nat) (hnb : b.length = nb) (hsm : nb < 1000000) : Pur Tryz.prog 28 [.slice .frozen nb (bs b)] (.agg (bs (endS (addA s0 b)))) := by
  have hA := KAdd_ok s0 h0 b nb hnb hsm
  have hAl := addA_lt b s0 h0
  have hZl := endS_len (addA s0 b)
  have hE := End_ok _ hAl
  generalize addA s0 b = s1 at *
  generalize endS s1 = Z at *
  have hcz : D.cl (.tup [.agg (bs Z), .int .i64 0]) = true := by show (D.cls (bs Z) && true) = true; rw [bs_cl]; rfl
  have hwh : ∀ ze, cut ⟨true, 162, ze⟩ 0 (spD s1) = some (.agg (spD s1)) := spC_whole _ _ _ (hld_len _ (by omega))
  have hlay : ∀ cs : List D, cs.length = 162 → splice 0 (spD s1) cs = some (spD s1) := fun cs hc => spC_lay _ _ _ (hld_len _ (by omega)) cs hc
  have hlen := spD_len _ hAl
  have hf1 := spD_fz1 s1
  have hc1 : D.cls [D.agg (spD s1)] = true := spC_cl1 _ _ _
  have hct : D.cl (.tup [.agg (spD s1), .int .i64 0]) = true := by
    show ((D.agg (spD s1)).cl && true) = true
    rw [spD_cl]; rfl
  have hc0 : D.cl (.agg (spD s0)) = true := spD_cl s0
  have hfa : D.fzs [D.agg (spD s0), D.slice .frozen nb (bs b)] = [D.agg (spD s0), D.slice .frozen nb (bs b)] := by
    show [(D.agg (spD s0)).fz, D.slice .frozen nb (bs b)] = _
    rw [spD_fz]
  have hca : D.cls [D.agg (spD s0), D.slice .frozen nb (bs b)] = true := by
    show ((D.agg (spD s0)).cl && true) = true
    rw [spD_cl]; rfl
  generalize spD s1 = X at *
  generalize spD s0 = X0 at *
  have hwZ := b_cut hZl
  have hclZ : D.cl (.agg (bs Z)) = true := bs_cl _
  clear h0 hsm hnb hAl
  refine pur_intro Tryz.func28 rfl Tryz.ntmps28 rfl hclZ fun B => ?_
  repeat (first | (with_reducible refine R_nil ?_; try dsimp only [slots0, slots_ud, arr_len, arr_cls, arr_fzs, arr_bels, cells_U, agg_ud, drop0, dropS, takeS, take0, ud_nil, take_ud, take_ud0, drop_ud, drop_ud0, take_udk, D.cells, D.fz, D.fzs, List.take_succ_cons, List.take_zero, List.drop_succ_cons, List.drop_zero, List.cons_append, List.nil_append, List.append_eq, List.length_cons, List.length_nil, Nat.reduceAdd, Nat.reduceMul, Nat.reduceSub, Int.reduceAdd, Int.reduceSub, Int.reduceToNat, Int.reduceNeg, Int.reduceMul]) | refine zc ?_ | refine k_store rfl rfl rfl rfl (by exact hlen) rfl (by exact hlay _ rfl) ?_ | refine k_load rfl rfl rfl (hwh _) ?_ | refine k_load rfl rfl rfl (hwZ _) ?_ | refine k_store rfl rfl rfl rfl (b_len hZl) (b_fits _) (by exact b_put hZl _ rfl) ?_ | refine zA ?_ | refine k_call rfl hB rfl rfl rfl hc0 ?_ | refine k_call rfl hA rfl hfa hca hct ?_ | refine k_call rfl hE rfl hf1 hc1 hcz ?_ | refine zB ?_)
  (first | with_reducible refine q_endr ?_); refine rets1 Tryz.results28 (RetV.cell _ _ _ _ _ _ _ _ inferInstance rfl rfl (by exact hwZ _)) ?_
  exact b_fz _
theorem Sum_ok (b : List UInt8) (nb : Nat) (hnb : b.length = nb) (hsm : nb < 1000000) : Pur Tryz.prog 28 [.slice .frozen nb (bs b)] (.agg (bs (kec b))) :=
  Sum_of _ (by decide) Begin_ok b nb hnb hsm
end Go.Proofs.YtcfefmbbbfdppaaGreatDoor
namespace Go.Proofs.YtcfefmbbbfdppaaGreatDoor
open Go.RowKit Go.Lib Go.IntWalk
set_option linter.unusedVariables false
set_option maxRecDepth 100000
structure BodyT where
  t : Nat
  n : Nat
  c : Nat
  e : List UInt8
  u : Nat
  v : Nat
  l : List UInt8
structure BodyT.ok (b : BodyT) : Prop where
  t : b.t ≤ 1099511627776
  n : b.n ≤ 4294967295
  c : b.c ≤ 65535
  e : b.e.length = 32
  u : b.u ≤ 1099511627776
  v : b.v ≤ 255
  l : b.l.length ≤ 300
def BodyT.cells (b : BodyT) : List D := .int .i64 b.t :: .int .i64 b.n :: .int .i64 b.c :: (bs b.e ++ [.int .i64 b.u, .int .i64 b.v, .slice .frozen b.l.length (bs b.l)])
def BodyT.out (b : BodyT) : List UInt8 := toB 8 b.t ++ toB 4 b.n ++ toB 2 b.c ++ b.e ++ toB 8 b.u ++ toB 1 b.v ++ b.l
theorem BodyT.out_len (b : BodyT) (h : b.ok) : b.out.length = 55 + b.l.length := by
  unfold BodyT.out
  simp only [List.length_append, toB_len, h.e]
section
variable {b : BodyT} (h : b.e.length = 32)
include h
theorem bd_len : b.cells.length = 38 := by
  unfold BodyT.cells
  simp only [List.length_cons, List.length_append, bs_len, h, List.length_nil]
theorem bd_all (ze : List D) : cut ⟨true, 38, ze⟩ 0 b.cells = some (.agg b.cells) := by
  unfold cut
  simp only [cond_true, Nat.zero_add, List.drop_zero]
  rw [bd_len h, List.take_of_length_le (by rw [bd_len h]; exact Nat.le_refl _)]
  rfl
theorem bd_put (cs : List D) (hc : cs.length = 38) : splice 0 b.cells cs = some b.cells := by
  unfold splice
  rw [Nat.ble_eq_true_of_le (by rw [bd_len h, hc]; exact Nat.le_refl _), cond_true, Nat.zero_add, List.drop_of_length_le (by rw [bd_len h, hc]; exact Nat.le_refl _)]
  simp
theorem bd_at (i : Nat) (d : D) (hd : [D.int .i64 b.u, .int .i64 b.v, .slice .frozen b.l.length (bs b.l)][i]? = some d) (ze : List D) (j : Nat) (hj : j = 35 + i) : cut ⟨false, 1, ze⟩ j b.cells = some d := by
  subst hj
  unfold cut BodyT.cells
  simp only [cond_false]
  rw [show 35 + i = 32 + i + 1 + 1 + 1 from by omega, List.getElem?_cons_succ, List.getElem?_cons_succ, List.getElem?_cons_succ, List.getElem?_append_right (by rw [bs_len, h]; omega), bs_len, h, Nat.add_sub_cancel_left]
  exact hd
theorem bd_e (ze : List D) : cut ⟨true, 32, ze⟩ 3 b.cells = some (.agg (bs b.e)) := by
  unfold cut
  simp only [cond_true]
  rw [bd_len h]
  have e2 : (b.cells.drop 3).take 32 = bs b.e := by
    unfold BodyT.cells
    rw [List.drop_succ_cons, List.drop_succ_cons, List.drop_succ_cons, List.drop_zero, List.take_append_of_le_length (by rw [bs_len, h]; exact Nat.le_refl _), List.take_of_length_le (by rw [bs_len, h]; exact Nat.le_refl _)]
  rw [e2]; rfl
theorem bd_dat (i : Nat) (d : D) (hd : [D.int .i64 b.u, .int .i64 b.v, .slice .frozen b.l.length (bs b.l)][i]? = some d) (ze : List D) (j : Nat) (hj : j = 35 + i) : cut ⟨false, 1, ze⟩ 0 (b.cells.drop j) = some d := by
  have := bd_at h i d hd ze j hj
  unfold cut at this ⊢
  simp only [cond_false, List.getElem?_drop, Nat.add_zero] at this ⊢
  exact this
omit h in
theorem bd_sl (h : b.e.length = 32) : ((b.cells.drop 3).drop ((0 : Int).toNat * 1)).take (32 * 1) = bs b.e := by
  unfold BodyT.cells
  rw [List.drop_succ_cons, List.drop_succ_cons, List.drop_succ_cons, List.drop_zero]
  show (List.drop 0 _).take 32 = _
  rw [List.drop_zero, List.take_append_of_le_length (by rw [bs_len, h]; exact Nat.le_refl _), List.take_of_length_le (by rw [bs_len, h]; exact Nat.le_refl _)]
end
theorem bs_frz (l : List UInt8) (r : List D) : D.fzs (bs l ++ r) = bs l ++ D.fzs r := by
  induction l with
  | nil => rfl
  | cons a l ih => show D.int .u8 _ :: D.fzs (bs l ++ r) = _; rw [ih]; rfl
theorem bs_cls_app (l : List UInt8) (r : List D) : D.cls (bs l ++ r) = D.cls r := by
  induction l with
  | nil => rfl
  | cons a l ih => show (true && D.cls (bs l ++ r)) = _; rw [ih]; rfl
theorem bd_fz (b : BodyT) : D.fzs [D.agg b.cells] = [D.agg b.cells] := by
  show [D.agg (_ :: _ :: _ :: D.fzs (bs b.e ++ _))] = _
  rw [bs_frz]; rfl
theorem bd_cls (b : BodyT) : D.cls b.cells = true := by
  show (true && (true && (true && D.cls (bs b.e ++ _)))) = true
  rw [bs_cls_app]; rfl
theorem bd_cl (b : BodyT) : D.cls [D.agg b.cells] = true := by
  show (D.cls b.cells && true) = true
  rw [bd_cls]; rfl
abbrev ff (a b : Nat) : Nat → Nat := fun l => cond (Nat.beq l 2) b (cond (Nat.beq l 1) a l)
theorem in_ok (n m : Int) (h0 : 0 ≤ n) (h1 : n ≤ m) : Pur Tryz.prog 91 [.int .i64 n, .int .i64 m] (.bool true) := by
  have e1 : decide (n ≥ 0) = true := by simp; omega
  have e2 : decide (n ≤ m) = true := by simp; omega
  refine pur_intro Tryz.func91 rfl Tryz.ntmps91 rfl (by first | rfl | assumption | exact bs_cl _) fun B => ?_
  repeat (first | refine zC ?_ | refine zA ?_ | refine k_geq rfl rfl rfl e1 ?_ | refine k_leq rfl rfl rfl e2 ?_ | refine zB ?_)
  (first | with_reducible refine q_endr ?_); refine rets1 Tryz.results91 (by exact zv) ?_
  rfl
theorem bCheck_ok (b : BodyT) (h : b.ok) : Pur Tryz.prog 62 [.agg b.cells] (.int .i64 0) := by
  have i1 := in_ok b.t 1099511627776 (by omega) (by have := h.t; omega)
  have i2 := in_ok b.n 4294967295 (by omega) (by have := h.n; omega)
  have i3 := in_ok b.c 65535 (by omega) (by have := h.c; omega)
  have i4 := in_ok b.u 1099511627776 (by omega) (by have := h.u; omega)
  have i5 := in_ok b.v 255 (by omega) (by have := h.v; omega)
  have hl := h.l
  have hu := bd_at h.e 0 _ rfl
  have hv := bd_at h.e 1 _ rfl
  have hld := bd_at h.e 2 _ rfl
  have hcl : D.cl (.agg b.cells) = true := bd_cls b
  have hlen := bd_len h.e
  refine pur_intro Tryz.func62 rfl Tryz.ntmps62 rfl (by first | rfl | assumption | exact bs_cl _) fun B => ?_
  repeat (first | refine zC ?_ | refine k_load rfl rfl rfl (by exact hu _ _ rfl) ?_ | refine k_load rfl rfl rfl (by exact hv _ _ rfl) ?_ | refine k_load rfl rfl rfl (by exact hld _ _ rfl) ?_ | refine zA ?_ | refine k_callv rfl i1 rfl rfl rfl rfl rfl ?_ | refine k_callv rfl i2 rfl rfl rfl rfl rfl ?_ | refine k_callv rfl i3 rfl rfl rfl rfl rfl ?_ | refine k_callv rfl i4 rfl rfl rfl rfl rfl ?_ | refine k_callv rfl i5 rfl rfl rfl rfl rfl ?_ | refine zB ?_)
  (first | with_reducible refine q_endr ?_); refine rets1 Tryz.results62 (by exact zv) ?_
  rfl
set_option maxHeartbeats 4000000 in
theorem body_ok (l : List UInt8) (L : Nat) (hL : l.length = L) (hsm : L ≤ 1000000) (b : BodyT) (h : b.ok) (L2 : Nat) (hL2 : L + (55 + b.l.length) = L2) (z z2 : List D) (hz : bs l = z) (hz2 : bs (l ++ b.out) = z2) :
    Fn Tryz.prog 63 2 [.ptr 0 0, .agg b.cells] (penM 1 L z) (.tup []) (penM 2 L2 z2) := by
  have c1 := number_ok l L hL b.t 8 (L + 8) (by decide) (by decide) (by have := h.t; omega) (by omega) rfl z _ hz rfl
  have c2 := number_ok (l ++ toB 8 b.t) (L + 8) (by simp [hL, toB_len]) b.n 4 (L + 8 + 4) (by decide) (by decide) (by have := h.n; omega) (by omega) rfl _ _ rfl rfl
  have c3 := number_ok (l ++ toB 8 b.t ++ toB 4 b.n) (L + 8 + 4) (by simp [hL, toB_len] <;> omega) b.c 2 (L + 8 + 4 + 2) (by decide) (by decide) (by have := h.c; omega) (by omega) rfl _ _ rfl rfl
  have c4 := bytes_ok (l ++ toB 8 b.t ++ toB 4 b.n ++ toB 2 b.c) b.e (L + 8 + 4 + 2) 32 (by simp [hL, toB_len] <;> omega) h.e (by omega) (by decide) (L + 8 + 4 + 2 + 32) rfl _ _ rfl rfl
  have c5 := number_ok (l ++ toB 8 b.t ++ toB 4 b.n ++ toB 2 b.c ++ b.e) (L + 8 + 4 + 2 + 32) (by simp [hL, toB_len, h.e] <;> omega) b.u 8 (L + 8 + 4 + 2 + 32 + 8) (by decide) (by decide) (by have := h.u; omega) (by omega) rfl _ _ rfl rfl
  have c6 := number_ok (l ++ toB 8 b.t ++ toB 4 b.n ++ toB 2 b.c ++ b.e ++ toB 8 b.u) (L + 8 + 4 + 2 + 32 + 8) (by simp [hL, toB_len, h.e] <;> omega) b.v 1 (L + 8 + 4 + 2 + 32 + 8 + 1) (by decide) (by decide) (by have := h.v; omega) (by omega) rfl _ _ rfl rfl
  have c7 := bytes_ok (l ++ toB 8 b.t ++ toB 4 b.n ++ toB 2 b.c ++ b.e ++ toB 8 b.u ++ toB 1 b.v) b.l (L + 8 + 4 + 2 + 32 + 8 + 1) b.l.length (by simp [hL, toB_len, h.e] <;> omega) rfl (by omega) (by have := h.l; omega) L2 (by omega) _ z2 rfl (by rw [← hz2]; unfold BodyT.out; simp only [List.append_assoc])
  generalize bs (l ++ toB 8 b.t ++ toB 4 b.n ++ toB 2 b.c ++ b.e ++ toB 8 b.u ++ toB 1 b.v) = z6 at *
  generalize bs (l ++ toB 8 b.t ++ toB 4 b.n ++ toB 2 b.c ++ b.e ++ toB 8 b.u) = z5 at *
  generalize bs (l ++ toB 8 b.t ++ toB 4 b.n ++ toB 2 b.c ++ b.e) = z4 at *
  generalize bs (l ++ toB 8 b.t ++ toB 4 b.n ++ toB 2 b.c) = z3 at *
  generalize bs (l ++ toB 8 b.t ++ toB 4 b.n) = z2' at *
  generalize bs (l ++ toB 8 b.t) = z1 at *
  unfold penM at *
  have hlen := bd_len h.e
  have hu := bd_dat h.e 0 _ rfl
  have hv := bd_dat h.e 1 _ rfl
  have hld := bd_dat h.e 2 _ rfl
  have hsl := bd_sl h.e
  have hcle : D.cls (bs b.e) = true := bs_cl _
  have hdl : Nat.ble (32 * 1) (b.cells.drop 3).length = true := by rw [List.length_drop, hlen]; rfl
  refine fn_intro Tryz.func63 rfl Tryz.ntmps63 rfl fun B => ?_
  iterate 4 (first | refine zC ?_ | refine zAB ?_)
  refine W_of_weak (weak_fix 2 b.cells rfl (bd_cls b) (by exact zsx) (by exact zmx) (ρ1 := [(3, .eptr b.cells), (0, .ptr 0 0)]) (m1 := [(0, some (.var 121 [.slice (.own 1) L z])), (1, some (.tok 5 1))])) ?_
  repeat (first | refine zC ?_ | refine k_fieldAddre rfl rfl rfl (by rw [hlen]; rfl) ?_ | refine k_loade rfl rfl (by exact hu _ _ rfl) ?_ | refine k_loade rfl rfl (by exact hv _ _ rfl) ?_ | refine k_loade rfl rfl (by exact hld _ _ rfl) ?_ | (refine k_sliceEt rfl rfl rfl ⟨?_, ?_⟩ rfl (by exact hdl) rfl (by exact hsl) ?_; (decide); (decide)) | refine zA ?_ | refine k_callf (ff 1 3) [0, 1, 2] (4) rfl (c1) rfl (by exact zus) (rfl) (by exact zmf) rfl rfl rfl rfl (rfl) (rfl) rfl rfl rfl rfl ?_ | refine k_callf (ff 3 4) [0, 1, 2] (5) rfl (c2) rfl (by exact zus) (rfl) (by exact zmf) rfl rfl rfl rfl (rfl) (rfl) rfl rfl rfl rfl ?_ | refine k_callf (ff 4 5) [0, 1, 2] (6) rfl (c3) rfl (by exact zus) (rfl) (by exact zmf) rfl rfl rfl rfl (rfl) (rfl) rfl rfl rfl rfl ?_ | refine k_callf (ff 5 6) [0, 1, 2] (7) rfl (c4) rfl (by exact zus) (rfl) (by exact zmf) rfl rfl rfl rfl (rfl) (rfl) rfl rfl rfl rfl ?_ | refine k_callf (ff 6 7) [0, 1, 2] (8) rfl (c5) rfl (by exact zus) (rfl) (by exact zmf) rfl rfl rfl rfl (rfl) (rfl) rfl rfl rfl rfl ?_ | refine k_callf (ff 7 8) [0, 1, 2] (9) rfl (c6) rfl (by exact zus) (rfl) (by exact zmf) rfl rfl rfl rfl (rfl) (rfl) rfl rfl rfl rfl ?_ | refine k_callf (ff 8 9) [0, 1, 2] (10) rfl (c7) rfl (by exact zus) (rfl) (by exact zmf) rfl rfl rfl rfl (rfl) (rfl) rfl rfl rfl rfl ?_ | refine zB ?_)
  first | exact (q_endf (ff 1 9) 10 (RetsF.r0 ) rfl (by repeat (first | exact trivial | refine ⟨⟨rfl, _, rfl, Ups.refl _, rfl⟩, ?_⟩ | refine ⟨⟨rfl, rfl⟩, ?_⟩)) rfl rfl rfl).2 | exact (q_endf (ff 1 9) 10 (RetsF.r0 ) rfl (by repeat (first | exact trivial | refine ⟨⟨rfl, _, rfl, Ups.refl _, rfl⟩, ?_⟩ | refine ⟨⟨rfl, rfl⟩, ?_⟩)) rfl rfl rfl).1
theorem ren2 (f : Nat → Nat) {a : D} {ds : List D} (h : D.cls ds = true) : Ups (a.ren f :: ds) (D.rens f (a :: ds)) := by
  show Ups _ (_ :: D.rens f ds)
  rw [(D.cls_ren f (fun _ => true) ds h).1]; exact Ups.refl _
theorem lal2 (p : Nat → Bool) {a : D} {ds : List D} (ha : a.lall p = true) (h : D.cls ds = true) : D.lalls p (a :: ds) = true := by
  show (a.lall p && D.lalls p ds) = true
  rw [ha, (D.cls_ren (fun l => l) p ds h).2]; rfl
abbrev fp (p a b : Nat) : Nat → Nat := fun l => cond (Nat.beq l 2) b (cond (Nat.beq l 1) a (cond (Nat.beq l 0) p l))
set_option maxHeartbeats 4000000 in
theorem pBytes_ok (b : BodyT) (h : b.ok) (n : Nat) (hn : b.out.length = n) : Pur Tryz.prog 27 [.agg b.cells] (.tup [.slice .frozen n (bs b.out), .int .i64 0]) := by
  have hol := b.out_len h
  have hb := body_ok [] 0 rfl (by decide) b h n (by omega) [] (bs b.out) rfl rfl
  have hc := bCheck_ok b h
  unfold penM at hb
  have hfz := bd_fz b
  have hcl := bd_cl b
  have hlen := bd_len h.e
  have hall := bd_all h.e
  have hput := bd_put h.e
  generalize bs b.out = z at *
  generalize b.cells = x at *
  clear hol h hn
  refine pur_intro Tryz.func27 rfl Tryz.ntmps27 rfl (by first | rfl | assumption | exact bs_cl _) fun B => ?_
  refine W_of_weak (weak_tok 5 1) ?_
  repeat (first | refine zC ?_ | refine k_load rfl rfl rfl (hall _) ?_ | refine zA ?_ | refine k_call rfl hc rfl hfz hcl rfl ?_ | refine k_callf (fp 2 0 3) [0, 1, 2] (4) rfl (hb) rfl (ren2 (a := .ptr 0 0) (fp 2 0 3) hcl) (lal2 (a := .ptr 0 0) _ rfl hcl) (by exact zmf) rfl rfl rfl rfl (rfl) (rfl) rfl rfl rfl rfl ?_ | refine zB ?_)
  (first | with_reducible refine q_endr ?_); refine rets2 Tryz.results27 (by exact zv) (by exact zv) ?_ ?_
  · rfl
  · rfl
theorem bs_oks : ∀ (l : List UInt8), D.oks (bs l) = true
  | [] => rfl
  | c :: l => by
    show (_ && D.oks (bs l)) = true
    rw [bs_oks l]; rfl
theorem bs_ok (l : List UInt8) : D.ok (.agg (bs l)) = true := by
  unfold D.ok
  rw [bs_oks]
  simp [bs, D.one]
set_option maxHeartbeats 4000000 in
theorem pSum_ok (b : BodyT) (h : b.ok) : Pur Tryz.prog 11 [.agg b.cells] (.tup [.agg (bs (kec (kec b.out))), .int .i64 0]) := by
  have hol := b.out_len h
  have hb := pBytes_ok b h b.out.length rfl
  have hll := h.l
  have hs := Sum_ok b.out b.out.length rfl (by omega)
  have hz := kec_len b.out
  have hs2 := Sum_ok (kec b.out) 32 hz (by decide)
  have hz2 := kec_len (kec b.out)
  have hfz := bd_fz b
  have hcl := bd_cl b
  have hlen := bd_len h.e
  have hall := bd_all h.e
  generalize bs b.out = z at *
  generalize kec b.out = Z at *
  generalize kec Z = Z2 at *
  generalize b.out.length = n at *
  generalize b.cells = x at *
  have hcz : D.cl (.tup [.agg (bs Z2), .int .i64 0]) = true := by show (D.cls (bs Z2) && true) = true; rw [bs_cl]; rfl
  have hwz := b_cut hz2
  have hle32 : Nat.ble (0 + 32) (bs Z).length = true := by rw [bs_len, hz]; rfl
  refine pur_intro Tryz.func11 rfl Tryz.ntmps11 rfl hcz fun B => ?_
  repeat (first | refine zC ?_ | refine k_load rfl rfl rfl (hall _) ?_ | refine k_store rfl rfl rfl rfl (b_len hz) (b_fits _) (by exact b_put hz _ rfl) ?_ | refine k_store rfl rfl rfl rfl (b_len hz2) (b_fits _) (by exact b_put hz2 _ rfl) ?_ | refine zA ?_ | refine k_call rfl hb rfl hfz hcl rfl ?_ | refine k_call rfl hs rfl rfl rfl (bs_cl _) ?_ | refine k_callms rfl hs2 rfl (Views.ms 32 rfl (b_ms hz _ _ rfl rfl) hle32 (bs_cl _) Views.nil) (bs_ok _) ?_ | refine zB ?_)
  (first | with_reducible refine q_endr ?_); refine rets2 Tryz.results11 (RetV.cell _ _ _ _ _ _ _ _ inferInstance rfl rfl (by exact hwz _)) (RetV.tmp _ _ rfl) ?_ rfl
  exact b_fz _
end Go.Proofs.YtcfefmbbbfdppaaGreatDoor
namespace Go.Proofs.YtcfefmbbbfdppaaGreatDoor
open Go.RowKit Go.Lib Go.IntWalk
set_option linter.unusedVariables false
set_option maxRecDepth 100000
def bx (t n c : Int) (e : List UInt8) (tl : List D) : List D := .int .i64 t :: .int .i64 n :: .int .i64 c :: (bs e ++ tl)
section
variable {t n c : Int} {e : List UInt8} (h : e.length = 32)
include h
theorem bx_len (tl : List D) (ht : tl.length = 3) : (bx t n c e tl).length = 38 := by
  unfold bx
  simp only [List.length_cons, List.length_append, bs_len, h, ht]
theorem bx_all (tl : List D) (ht : tl.length = 3) (ze : List D) : cut ⟨true, 38, ze⟩ 0 (bx t n c e tl) = some (.agg (bx t n c e tl)) := by
  unfold cut
  simp only [cond_true, Nat.zero_add, List.drop_zero]
  rw [bx_len h tl ht, List.take_of_length_le (by rw [bx_len h tl ht]; exact Nat.le_refl _)]
  rfl
theorem bx_lay (tl : List D) (ht : tl.length = 3) (cs : List D) (hc : cs.length = 38) : splice 0 (bx t n c e tl) cs = some (bx t n c e tl) := by
  unfold splice
  rw [Nat.ble_eq_true_of_le (by rw [bx_len h tl ht, hc]; exact Nat.le_refl _), cond_true, Nat.zero_add, List.drop_of_length_le (by rw [bx_len h tl ht, hc]; exact Nat.le_refl _)]
  simp
theorem bx_put (a b d x : D) (i : Nat) (tl : List D) (hi : (i = 0 ∧ tl = [x, b, d]) ∨ (i = 1 ∧ tl = [a, x, d]) ∨ (i = 2 ∧ tl = [a, b, x])) (j : Nat) (hj : j = 35 + i) : splice j [x] (bx t n c e [a, b, d]) = some (bx t n c e tl) := by
  subst hj
  unfold splice
  rw [Nat.ble_eq_true_of_le (by rw [bx_len h _ rfl]; simp; omega), cond_true]
  congr 1
  unfold bx
  rw [show 35 + i = 32 + i + 1 + 1 + 1 from by omega, show 32 + i + 1 + 1 + 1 + [x].length = (32 + (i + 1)) + 1 + 1 + 1 from by simp; omega]
  simp only [List.take_succ_cons, List.drop_succ_cons]
  rw [List.take_append, List.drop_append, List.take_of_length_le (by rw [bs_len, h]; omega), List.drop_of_length_le (by rw [bs_len, h]; omega), bs_len, h, Nat.add_sub_cancel_left, Nat.add_sub_cancel_left]
  rcases hi with ⟨rfl, rfl⟩ | ⟨rfl, rfl⟩ | ⟨rfl, rfl⟩ <;> simp
end
end Go.Proofs.YtcfefmbbbfdppaaGreatDoor
