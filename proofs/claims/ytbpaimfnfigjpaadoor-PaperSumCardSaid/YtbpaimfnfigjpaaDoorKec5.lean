/- The sponge's End; Begin; Sum of bytes. Conditions: a sponge that holds less than a block, and noughts behind it; bytes that are data. -/
import Derived.Test.YtbpaimfnfigjpaaDoorKec4
import Derived.Test.YtbpaimfnfigjpaaDoorBPut
namespace Go.Proofs.YtbpaimfnfigjpaaDoor
open Go.RowKit Go.IntWalk Kec
set_option linter.unusedVariables false
set_option maxRecDepth 100000
--nrm arr_len arr_cls arr_fzs arr_bels

/-- the last block: the bytes, a mark behind them, and one at the end -/
def pad (l : List UInt8) : List UInt8 := ((hld l).set l.length 1).set 135 (((hld l).set l.length 1).getD 135 0 ||| 128)
theorem pad_len (l : List UInt8) (h : l.length < 136) : (pad l).length = 136 := by unfold pad; rw [List.length_set, List.length_set, hld_len l (by omega)]
/-- bytes out of the lanes, when i are out -/
def outI (T : S) : Nat → List UInt8
  | 0 => List.replicate 32 0
  | i + 1 => (outI T i).set i (UInt8.ofNat (T (i / 8) >>> (8 * (i % 8))).toNat)
theorem outI_len (T : S) : ∀ i, (outI T i).length = 32
  | 0 => rfl
  | i + 1 => by rw [outI, List.length_set, outI_len T i]
def endS (s : S × List UInt8) : List UInt8 := outI (turn kons (sI s.1 (pad s.2) 136)) 32
theorem endS_len (s : S × List UInt8) : (endS s).length = 32 := outI_len _ _
def kec (b : List UInt8) : List UInt8 := endS (addA (fun _ => 0, []) b)
theorem kec_len (b : List UInt8) : (kec b).length = 32 := outI_len _ _

theorem or_u8 (x y : UInt8) : bitw .or .u8 (x.toNat : Int) (y.toNat : Int) = ((x ||| y).toNat : Int) := by
  unfold bitw
  show IntKind.u8.wrap ((BitVec.ofInt 8 (x.toNat : Int) ||| BitVec.ofInt 8 (y.toNat : Int)).toNat : Int) = _
  have e : ∀ z : UInt8, BitVec.ofInt 8 ((z.toNat : Nat) : Int) = z.toBitVec := fun z => by
    rw [BitVec.ofInt_natCast]; simp
  rw [e, e, IntKind.wrap_u8, ← UInt8.toBitVec_or]
  have := (x ||| y).toNat_lt
  show ((x ||| y).toNat : Int) % 256 = _
  omega
theorem wv_u8 (x : Kec.W) : IntKind.u8.wrap (wv x) = ((UInt8.ofNat x.toNat).toNat : Int) := by
  unfold wv
  rw [IntKind.wrap_u8, UInt8.toNat_ofNat']; omega

set_option maxHeartbeats 32000000 in
theorem End_ok (s : S × List UInt8) (hs : s.2.length < 136) : Pur Tryd.prog 20 [.agg (spD s)] (.tup [.agg (bs (endS s)), .int .i64 0]) := by
  have hck := check_ok s.1 s.2 hs
  have hh := hld_len s.2 (by omega)
  have hN : ∀ ze, cut ⟨false, 1, ze⟩ 161 (spD s) = some (.int .i64 (s.2.length : Int)) := spC_n s.1 (hld s.2) s.2.length hh
  have hWh : ∀ ze, cut ⟨true, 162, ze⟩ 0 (spD s) = some (.agg (spD s)) := spC_whole _ _ _ hh
  have hp1 : splice (25 + ((s.2.length : Nat) : Int).toNat * 1) [D.int .u8 1] (spD s) = some (spC s.1 ((hld s.2).set s.2.length 1) s.2.length) := spC_putbyte s.1 (hld s.2) s.2.length s.2.length hh hs 1 _ (by omega)
  have hh1 : ((hld s.2).set s.2.length 1).length = 136 := by rw [List.length_set, hh]
  have hb : ∀ ze, cut ⟨false, 1, ze⟩ 160 (spC s.1 ((hld s.2).set s.2.length 1) s.2.length) = some (.int .u8 ((((hld s.2).set s.2.length 1).getD 135 0).toNat : Int)) := fun ze => spC_byte s.1 _ s.2.length 135 hh1 (by decide) ze 160 rfl
  have hor : bitw .or .u8 ((((hld s.2).set s.2.length 1).getD 135 0).toNat : Int) 128 = (((((hld s.2).set s.2.length 1).getD 135 0) ||| 128).toNat : Int) := or_u8 _ 128
  have hp2 : splice 160 [D.int .u8 (((((hld s.2).set s.2.length 1).getD 135 0) ||| 128).toNat : Int)] (spC s.1 ((hld s.2).set s.2.length 1) s.2.length) = some (spC s.1 (pad s.2) s.2.length) := spC_putbyte s.1 _ s.2.length 135 hh1 (by decide) _ 160 rfl
  have hpl := pad_len s.2 hs
  have hso := soak_ok s.1 (pad s.2) s.2.length hpl
  have hwp := spC_whole s.1 (pad s.2) s.2.length hpl
  obtain ⟨T, hT⟩ : ∃ T, turn kons (sI s.1 (pad s.2) 136) = T := ⟨_, rfl⟩
  rw [hT] at hso
  have hlen := spC_len T (hld []) 0 hld0
  have hlay := spC_lay T (hld []) 0 hld0 (spC s.1 (pad s.2) s.2.length) (spC_len _ _ _ hpl)
  have hcT : D.cl (.agg (spC T (hld []) 0)) = true := spC_cls _ _ _
  have hE : endS s = outI T 32 := by unfold endS; rw [hT]
  rw [hE]
  obtain ⟨Z, hZ⟩ : ∃ Z, outI T 32 = Z := ⟨_, rfl⟩
  rw [hZ]
  have hZl : Z.length = 32 := by rw [← hZ]; exact outI_len T 32
  have hcl : D.cl (.tup [.agg (bs Z), .int .i64 0]) = true := by show (D.cls (bs Z) && true) = true; rw [bs_cl]; rfl
  have hf1 := spD_fz1 s
  have hc1 : D.cls [D.agg (spD s)] = true := spC_cl1 _ _ _
  have hf3 := spC_fz1 s.1 (pad s.2) s.2.length
  have hc3 := spC_cl1 s.1 (pad s.2) s.2.length
  have hb1 := spC_bels 3 T (hld []) 0
  have hlane : ∀ q, q < 25 → ∀ ze, cut ⟨false, 1, ze⟩ (0 + ((q : Nat) : Int).toNat * 1) (spC T (hld []) 0) = some (.int .u64 (wv (T q))) := fun q hq ze => spC_lane T (hld []) 0 q hq ze
  generalize spC T (hld []) 0 = X at *
  refine pur_intro Tryd.func20 rfl Tryd.ntmps20 rfl (by first | rfl | assumption | exact bs_cl _) fun B => ?_
  repeat (first | with_reducible refine W_seq ?_ | with_reducible refine q_then ?_ | with_reducible refine q_thenr ?_ | with_reducible refine q_thenx ?_ | with_reducible refine W_block ?_ | with_reducible refine q_block ?_ | with_reducible refine q_blockr ?_ | with_reducible refine q_blockx ?_ | with_reducible refine W_ret ?_ | with_reducible refine W_skip ?_ | with_reducible refine W_label ?_ | with_reducible refine W_exit ?_ | with_reducible refine W_scope ?_ | with_reducible refine q_scope ?_ | with_reducible refine q_scoper ?_ | with_reducible refine q_scopex ?_ | (with_reducible refine R_nil ?_; try dsimp only [slots0, slots_ud, arr_len, arr_cls, arr_fzs, arr_bels, cells_U, agg_ud, drop0, dropS, takeS, take0, ud_nil, take_ud, take_ud0, drop_ud, drop_ud0, take_udk, D.cells, D.fz, D.fzs, List.take_succ_cons, List.take_zero, List.drop_succ_cons, List.drop_zero, List.cons_append, List.nil_append, List.append_eq, List.length_cons, List.length_nil, Nat.reduceAdd, Nat.reduceMul, Nat.reduceSub, Int.reduceAdd, Int.reduceSub, Int.reduceToNat, Int.reduceNeg, Int.reduceMul]) | refine q_blocky rfl ?_ | refine W_plain rfl ?_ | refine W_drawn mixed rfl ?_ | refine and_chk (by kernel_rfl) ?_ | refine k_load rfl rfl rfl (by exact hWh _) ?_ | refine k_call rfl hck rfl hf1 hc1 rfl ?_ | refine k_load rfl rfl rfl (by exact hN _) ?_ | refine k_store rfl rfl rfl rfl rfl rfl (by exact hp1) ?_ | refine k_load rfl rfl rfl (by exact hb _) ?_ | refine k_bits rfl rfl rfl rfl hor ?_ | refine k_store rfl rfl rfl rfl rfl rfl (by exact hp2) ?_ | refine k_load rfl rfl rfl (by exact hwp _) ?_ | refine k_call rfl hso rfl hf3 hc3 hcT ?_ | refine k_store rfl rfl rfl rfl (by exact hlen) rfl (by exact hlay) ?_ | refine k_move rfl rfl ?_ | refine k_assign rfl rfl ?_ | refine k_load rfl rfl rfl rfl ?_ | refine k_alloc rfl ?_ | refine k_box rfl rfl rfl ?_ | refine k_store rfl rfl rfl rfl rfl rfl rfl ?_ | refine k_extract rfl rfl rfl ?_ | refine k_fieldAddr rfl rfl rfl ?_ | refine k_field rfl rfl rfl ?_ | refine k_build rfl rfl rfl ?_ | refine k_append rfl rfl rfl (by first | rfl | exact trivial | (show 0 < _; omega)) (by first | rfl | (simp <;> omega)) (by first | rfl | (simp <;> omega)) rfl (by omega) rfl rfl rfl ?_ | refine k_slice rfl rfl rfl rfl ⟨by omega, by omega, by omega⟩ rfl rfl rfl ?_ | refine k_slice3 rfl rfl rfl rfl rfl ⟨by omega, by omega, by omega⟩ rfl rfl rfl ?_ | refine k_sliceA rfl rfl rfl rfl ⟨by omega, by omega, by omega, by omega⟩ rfl rfl ?_ | refine k_sliceE rfl rfl rfl rfl ⟨by omega, by omega, by omega, by omega⟩ rfl rfl rfl rfl ?_ | refine k_buildSlice (cs := []) rfl rfl rfl rfl rfl rfl rfl ?_ | refine k_buildSlice rfl rfl rfl rfl rfl rfl rfl ?_ | refine k_indexAddr rfl rfl rfl ⟨by omega, by omega⟩ ?_ | refine k_indexAddrs rfl rfl rfl ⟨by omega, by omega⟩ rfl ?_ | refine k_index rfl rfl rfl ⟨by omega, by omega⟩ rfl ?_ | refine k_loade rfl rfl rfl ?_ | refine k_fieldAddre rfl rfl rfl rfl ?_ | refine k_len rfl rfl ?_ | refine k_nilCheck rfl rfl rfl ?_ | refine k_pickT rfl rfl rfl ?_ | refine k_pickF rfl rfl rfl ?_ | refine k_addi rfl rfl rfl (by omega) ?_ | refine k_subi rfl rfl rfl (by omega) ?_ | refine k_negi rfl rfl (by omega) ?_ | refine k_not rfl rfl rfl ?_ | refine k_lssT rfl rfl rfl (by omega) ?_ | refine k_lssF rfl rfl rfl (by omega) ?_ | refine k_leqT rfl rfl rfl (by omega) ?_ | refine k_leqF rfl rfl rfl (by omega) ?_ | refine k_gtrT rfl rfl rfl (by omega) ?_ | refine k_gtrF rfl rfl rfl (by omega) ?_ | refine k_geqT rfl rfl rfl (by omega) ?_ | refine k_geqF rfl rfl rfl (by omega) ?_ | refine k_eqlT rfl rfl rfl (by omega) ?_ | refine k_eqlF rfl rfl rfl (by omega) ?_ | refine k_neqT rfl rfl rfl (by omega) ?_ | refine k_neqF rfl rfl rfl (by omega) ?_ | refine k_eqa rfl rfl rfl rfl rfl rfl ?_ | refine k_nea rfl rfl rfl rfl rfl rfl ?_ | refine k_makeFunc rfl rfl rfl ?_ | refine k_skip rfl ?_ | refine k_skip0 rfl ?_ | refine k_pick rfl rfl rfl rfl rfl ?_ | refine W_yes rfl ?_ | refine W_no rfl ?_)
  refine W_loop (fun n' ρ m nx => ∃ i : Nat, i ≤ 32 ∧ n' = 32 - i ∧ ρ = [(25, .int .i64 (i : Int)), (5, .ptr 2 0), (3, .int .i64 0), (2, .ptr 1 0), (1, .ptr 0 0)] ∧ m = [(2, some (.var 24 (bs (outI T i)))), (1, some (.var 24 (bs (List.replicate 32 0)))), (0, some (.var 53 X))] ∧ nx = 3)
    ⟨_, _, _, _, (by repeat (first | exact trivial | refine ⟨⟨rfl, rfl⟩, ?_⟩ | refine ⟨⟨rfl, bs_bel _ _⟩, ?_⟩ | refine ⟨⟨rfl, arr_bels _ _ _⟩, ?_⟩)), (by exact ⟨⟨rfl, rfl, rfl⟩, ⟨rfl, rfl, rfl⟩, ⟨rfl, rfl, hb1⟩, trivial⟩), 0, by omega, rfl, rfl, rfl, rfl⟩ ?_
  rintro n' ρ m nx ⟨i, hi, rfl, rfl, rfl, rfl⟩
  by_cases hlt : i < 32
  · have hq := quo8' i (by omega)
    have hr := rem8' i
    have hm : IntKind.i64.wrap (8 * ((i % 8 : Nat) : Int)) = ((8 * (i % 8) : Nat) : Int) := mulc 8 _ (by omega) (by omega)
    have hl := hlane (i / 8) (by omega)
    have hs' := shr_wv (T (i / 8)) (8 * (i % 8)) (by omega)
    have hv := wv_u8 (T (i / 8) >>> (8 * (i % 8)))
    have hp := bs_put (outI T i) i (UInt8.ofNat (T (i / 8) >>> (8 * (i % 8))).toNat) (by rw [outI_len]; exact hlt)
    have hn : (outI T i).set i (UInt8.ofNat (T (i / 8) >>> (8 * (i % 8))).toNat) = outI T (i + 1) := rfl
    rw [hn] at hp
    clear hn
    have b1 : i / 8 < 25 := by omega
    have b2 : i % 8 < 8 := by omega
    generalize h1 : outI T (i + 1) = o1 at *
    generalize outI T i = o0 at *
    generalize i / 8 = q at *
    generalize i % 8 = r at *
    repeat (first | with_reducible refine W_seq ?_ | with_reducible refine q_then ?_ | with_reducible refine q_thenr ?_ | with_reducible refine q_thenx ?_ | with_reducible refine W_block ?_ | with_reducible refine q_block ?_ | with_reducible refine q_blockr ?_ | with_reducible refine q_blockx ?_ | with_reducible refine W_ret ?_ | with_reducible refine W_skip ?_ | with_reducible refine W_label ?_ | with_reducible refine W_exit ?_ | with_reducible refine W_scope ?_ | with_reducible refine q_scope ?_ | with_reducible refine q_scoper ?_ | with_reducible refine q_scopex ?_ | (with_reducible refine R_nil ?_; try dsimp only [slots0, slots_ud, arr_len, arr_cls, arr_fzs, arr_bels, cells_U, agg_ud, drop0, dropS, takeS, take0, ud_nil, take_ud, take_ud0, drop_ud, drop_ud0, take_udk, D.cells, D.fz, D.fzs, List.take_succ_cons, List.take_zero, List.drop_succ_cons, List.drop_zero, List.cons_append, List.nil_append, List.append_eq, List.length_cons, List.length_nil, Nat.reduceAdd, Nat.reduceMul, Nat.reduceSub, Int.reduceAdd, Int.reduceSub, Int.reduceToNat, Int.reduceNeg, Int.reduceMul]) | refine q_blocky rfl ?_ | refine W_plain rfl ?_ | refine W_drawn mixed rfl ?_ | refine and_chk (by kernel_rfl) ?_ | refine k_load rfl rfl rfl (by exact hl _) ?_ | refine k_store rfl rfl rfl rfl rfl rfl (by exact hp) ?_ | refine k_move rfl rfl ?_ | refine k_assign rfl rfl ?_ | refine k_load rfl rfl rfl rfl ?_ | refine k_alloc rfl ?_ | refine k_box rfl rfl rfl ?_ | refine k_store rfl rfl rfl rfl rfl rfl rfl ?_ | refine k_extract rfl rfl rfl ?_ | refine k_fieldAddr rfl rfl rfl ?_ | refine k_field rfl rfl rfl ?_ | refine k_build rfl rfl rfl ?_ | refine k_quo rfl rfl rfl (by decide) hq ?_ | refine k_rem rfl rfl rfl (by decide) hr ?_ | refine k_mul rfl rfl rfl hm ?_ | refine k_shr rfl rfl rfl (by omega) hs' ?_ | refine k_conv rfl rfl hv ?_ | refine k_append rfl rfl rfl (by first | rfl | exact trivial | (show 0 < _; omega)) (by first | rfl | (simp <;> omega)) (by first | rfl | (simp <;> omega)) rfl (by omega) rfl rfl rfl ?_ | refine k_slice rfl rfl rfl rfl ⟨by omega, by omega, by omega⟩ rfl rfl rfl ?_ | refine k_slice3 rfl rfl rfl rfl rfl ⟨by omega, by omega, by omega⟩ rfl rfl rfl ?_ | refine k_sliceA rfl rfl rfl rfl ⟨by omega, by omega, by omega, by omega⟩ rfl rfl ?_ | refine k_sliceE rfl rfl rfl rfl ⟨by omega, by omega, by omega, by omega⟩ rfl rfl rfl rfl ?_ | refine k_buildSlice (cs := []) rfl rfl rfl rfl rfl rfl rfl ?_ | refine k_buildSlice rfl rfl rfl rfl rfl rfl rfl ?_ | refine k_indexAddr rfl rfl rfl ⟨by omega, by omega⟩ ?_ | refine k_indexAddrs rfl rfl rfl ⟨by omega, by omega⟩ rfl ?_ | refine k_index rfl rfl rfl ⟨by omega, by omega⟩ rfl ?_ | refine k_loade rfl rfl rfl ?_ | refine k_fieldAddre rfl rfl rfl rfl ?_ | refine k_len rfl rfl ?_ | refine k_nilCheck rfl rfl rfl ?_ | refine k_pickT rfl rfl rfl ?_ | refine k_pickF rfl rfl rfl ?_ | refine k_addi rfl rfl rfl (by omega) ?_ | refine k_subi rfl rfl rfl (by omega) ?_ | refine k_negi rfl rfl (by omega) ?_ | refine k_not rfl rfl rfl ?_ | refine k_lssT rfl rfl rfl (by omega) ?_ | refine k_lssF rfl rfl rfl (by omega) ?_ | refine k_leqT rfl rfl rfl (by omega) ?_ | refine k_leqF rfl rfl rfl (by omega) ?_ | refine k_gtrT rfl rfl rfl (by omega) ?_ | refine k_gtrF rfl rfl rfl (by omega) ?_ | refine k_geqT rfl rfl rfl (by omega) ?_ | refine k_geqF rfl rfl rfl (by omega) ?_ | refine k_eqlT rfl rfl rfl (by omega) ?_ | refine k_eqlF rfl rfl rfl (by omega) ?_ | refine k_neqT rfl rfl rfl (by omega) ?_ | refine k_neqF rfl rfl rfl (by omega) ?_ | refine k_eqa rfl rfl rfl rfl rfl rfl ?_ | refine k_nea rfl rfl rfl rfl rfl rfl ?_ | refine k_makeFunc rfl rfl rfl ?_ | refine k_skip rfl ?_ | refine k_skip0 rfl ?_ | refine k_pick rfl rfl rfl rfl rfl ?_ | refine W_yes rfl ?_ | refine W_no rfl ?_)
    subst h1
    exact ⟨32 - (i + 1), _, _, _, (by repeat (first | exact trivial | refine ⟨⟨rfl, rfl⟩, ?_⟩ | refine ⟨⟨rfl, bs_bel _ _⟩, ?_⟩ | refine ⟨⟨rfl, arr_bels _ _ _⟩, ?_⟩)), (by exact ⟨⟨rfl, rfl, bels_cls _ _ (bs_cl _)⟩, ⟨rfl, rfl, bels_cls _ _ (bs_cl _)⟩, ⟨rfl, rfl, hb1⟩, trivial⟩), by omega, i + 1, by omega, rfl, rfl, rfl, rfl⟩
  · have ei : i = 32 := by omega
    subst ei
    rw [hZ]
    have hwZ := b_cut hZl
    repeat (first | with_reducible refine W_seq ?_ | with_reducible refine q_then ?_ | with_reducible refine q_thenr ?_ | with_reducible refine q_thenx ?_ | with_reducible refine W_block ?_ | with_reducible refine q_block ?_ | with_reducible refine q_blockr ?_ | with_reducible refine q_blockx ?_ | with_reducible refine W_ret ?_ | with_reducible refine W_skip ?_ | with_reducible refine W_label ?_ | with_reducible refine W_exit ?_ | with_reducible refine W_scope ?_ | with_reducible refine q_scope ?_ | with_reducible refine q_scoper ?_ | with_reducible refine q_scopex ?_ | (with_reducible refine R_nil ?_; try dsimp only [slots0, slots_ud, arr_len, arr_cls, arr_fzs, arr_bels, cells_U, agg_ud, drop0, dropS, takeS, take0, ud_nil, take_ud, take_ud0, drop_ud, drop_ud0, take_udk, D.cells, D.fz, D.fzs, List.take_succ_cons, List.take_zero, List.drop_succ_cons, List.drop_zero, List.cons_append, List.nil_append, List.append_eq, List.length_cons, List.length_nil, Nat.reduceAdd, Nat.reduceMul, Nat.reduceSub, Int.reduceAdd, Int.reduceSub, Int.reduceToNat, Int.reduceNeg, Int.reduceMul]) | refine q_blocky rfl ?_ | refine W_plain rfl ?_ | refine W_drawn mixed rfl ?_ | refine and_chk (by kernel_rfl) ?_ | refine k_load rfl rfl rfl (by exact hwZ _) ?_ | refine k_store rfl rfl rfl rfl (b_len hZl) (b_fits _) (by exact b_put hZl _ rfl) ?_ | refine k_move rfl rfl ?_ | refine k_assign rfl rfl ?_ | refine k_load rfl rfl rfl rfl ?_ | refine k_alloc rfl ?_ | refine k_box rfl rfl rfl ?_ | refine k_store rfl rfl rfl rfl rfl rfl rfl ?_ | refine k_extract rfl rfl rfl ?_ | refine k_fieldAddr rfl rfl rfl ?_ | refine k_field rfl rfl rfl ?_ | refine k_build rfl rfl rfl ?_ | refine k_append rfl rfl rfl (by first | rfl | exact trivial | (show 0 < _; omega)) (by first | rfl | (simp <;> omega)) (by first | rfl | (simp <;> omega)) rfl (by omega) rfl rfl rfl ?_ | refine k_slice rfl rfl rfl rfl ⟨by omega, by omega, by omega⟩ rfl rfl rfl ?_ | refine k_slice3 rfl rfl rfl rfl rfl ⟨by omega, by omega, by omega⟩ rfl rfl rfl ?_ | refine k_sliceA rfl rfl rfl rfl ⟨by omega, by omega, by omega, by omega⟩ rfl rfl ?_ | refine k_sliceE rfl rfl rfl rfl ⟨by omega, by omega, by omega, by omega⟩ rfl rfl rfl rfl ?_ | refine k_buildSlice (cs := []) rfl rfl rfl rfl rfl rfl rfl ?_ | refine k_buildSlice rfl rfl rfl rfl rfl rfl rfl ?_ | refine k_indexAddr rfl rfl rfl ⟨by omega, by omega⟩ ?_ | refine k_indexAddrs rfl rfl rfl ⟨by omega, by omega⟩ rfl ?_ | refine k_index rfl rfl rfl ⟨by omega, by omega⟩ rfl ?_ | refine k_loade rfl rfl rfl ?_ | refine k_fieldAddre rfl rfl rfl rfl ?_ | refine k_len rfl rfl ?_ | refine k_nilCheck rfl rfl rfl ?_ | refine k_pickT rfl rfl rfl ?_ | refine k_pickF rfl rfl rfl ?_ | refine k_addi rfl rfl rfl (by omega) ?_ | refine k_subi rfl rfl rfl (by omega) ?_ | refine k_negi rfl rfl (by omega) ?_ | refine k_not rfl rfl rfl ?_ | refine k_lssT rfl rfl rfl (by omega) ?_ | refine k_lssF rfl rfl rfl (by omega) ?_ | refine k_leqT rfl rfl rfl (by omega) ?_ | refine k_leqF rfl rfl rfl (by omega) ?_ | refine k_gtrT rfl rfl rfl (by omega) ?_ | refine k_gtrF rfl rfl rfl (by omega) ?_ | refine k_geqT rfl rfl rfl (by omega) ?_ | refine k_geqF rfl rfl rfl (by omega) ?_ | refine k_eqlT rfl rfl rfl (by omega) ?_ | refine k_eqlF rfl rfl rfl (by omega) ?_ | refine k_neqT rfl rfl rfl (by omega) ?_ | refine k_neqF rfl rfl rfl (by omega) ?_ | refine k_eqa rfl rfl rfl rfl rfl rfl ?_ | refine k_nea rfl rfl rfl rfl rfl rfl ?_ | refine k_makeFunc rfl rfl rfl ?_ | refine k_skip rfl ?_ | refine k_skip0 rfl ?_ | refine k_pick rfl rfl rfl rfl rfl ?_ | refine W_yes rfl ?_ | refine W_no rfl ?_)
    (first | with_reducible refine q_endr ?_ | with_reducible refine q_endn ?_); refine rets2 Tryd.results20 (RetV.cell _ _ _ _ _ _ _ _ inferInstance rfl rfl (by exact hwZ _)) (RetV.tmp _ _ rfl) ?_ rfl
    exact b_fz _

theorem Begin_ok : Pur Tryd.prog 19 [] (.agg (spD (fun _ => 0, []))) := by
  have hZ : (.agg (spD (fun _ => 0, [])) : D) = .agg (List.replicate 25 (.int .u64 0) ++ (List.replicate 136 (.int .u8 0) ++ [.int .i64 0])) := by kernel_rfl
  rw [hZ]
  refine pur_intro Tryd.func19 rfl Tryd.ntmps19 rfl (by first | rfl | assumption | exact bs_cl _) fun B => ?_
  repeat (first | with_reducible refine W_seq ?_ | with_reducible refine q_then ?_ | with_reducible refine q_thenr ?_ | with_reducible refine q_thenx ?_ | with_reducible refine W_block ?_ | with_reducible refine q_block ?_ | with_reducible refine q_blockr ?_ | with_reducible refine q_blockx ?_ | with_reducible refine W_ret ?_ | with_reducible refine W_skip ?_ | with_reducible refine W_label ?_ | with_reducible refine W_exit ?_ | with_reducible refine W_scope ?_ | with_reducible refine q_scope ?_ | with_reducible refine q_scoper ?_ | with_reducible refine q_scopex ?_ | (with_reducible refine R_nil ?_; try dsimp only [slots0, slots_ud, arr_len, arr_cls, arr_fzs, arr_bels, cells_U, agg_ud, drop0, dropS, takeS, take0, ud_nil, take_ud, take_ud0, drop_ud, drop_ud0, take_udk, D.cells, D.fz, D.fzs, List.take_succ_cons, List.take_zero, List.drop_succ_cons, List.drop_zero, List.cons_append, List.nil_append, List.append_eq, List.length_cons, List.length_nil, Nat.reduceAdd, Nat.reduceMul, Nat.reduceSub, Int.reduceAdd, Int.reduceSub, Int.reduceToNat, Int.reduceNeg, Int.reduceMul]) | refine q_blocky rfl ?_ | refine W_plain rfl ?_ | refine W_drawn mixed rfl ?_ | refine and_chk (by kernel_rfl) ?_ | refine k_move rfl rfl ?_ | refine k_assign rfl rfl ?_ | refine k_load rfl rfl rfl rfl ?_ | refine k_alloc rfl ?_ | refine k_box rfl rfl rfl ?_ | refine k_store rfl rfl rfl rfl rfl rfl rfl ?_ | refine k_extract rfl rfl rfl ?_ | refine k_fieldAddr rfl rfl rfl ?_ | refine k_field rfl rfl rfl ?_ | refine k_build rfl rfl rfl ?_ | refine k_buildSlice (cs := []) rfl rfl rfl rfl rfl rfl rfl ?_ | refine k_buildSlice rfl rfl rfl rfl rfl rfl rfl ?_ | refine k_indexAddr rfl rfl rfl ⟨by omega, by omega⟩ ?_ | refine k_indexAddrs rfl rfl rfl ⟨by omega, by omega⟩ rfl ?_ | refine k_index rfl rfl rfl ⟨by omega, by omega⟩ rfl ?_ | refine k_loade rfl rfl rfl ?_ | refine k_fieldAddre rfl rfl rfl rfl ?_ | refine k_len rfl rfl ?_ | refine k_nilCheck rfl rfl rfl ?_ | refine k_pickT rfl rfl rfl ?_ | refine k_pickF rfl rfl rfl ?_ | refine k_addi rfl rfl rfl (by omega) ?_ | refine k_subi rfl rfl rfl (by omega) ?_ | refine k_negi rfl rfl (by omega) ?_ | refine k_not rfl rfl rfl ?_ | refine k_lssT rfl rfl rfl (by omega) ?_ | refine k_lssF rfl rfl rfl (by omega) ?_ | refine k_leqT rfl rfl rfl (by omega) ?_ | refine k_leqF rfl rfl rfl (by omega) ?_ | refine k_gtrT rfl rfl rfl (by omega) ?_ | refine k_gtrF rfl rfl rfl (by omega) ?_ | refine k_geqT rfl rfl rfl (by omega) ?_ | refine k_geqF rfl rfl rfl (by omega) ?_ | refine k_eqlT rfl rfl rfl (by omega) ?_ | refine k_eqlF rfl rfl rfl (by omega) ?_ | refine k_neqT rfl rfl rfl (by omega) ?_ | refine k_neqF rfl rfl rfl (by omega) ?_ | refine k_eqa rfl rfl rfl rfl rfl rfl ?_ | refine k_nea rfl rfl rfl rfl rfl rfl ?_ | refine k_makeFunc rfl rfl rfl ?_ | refine k_skip rfl ?_ | refine k_skip0 rfl ?_ | refine k_pick rfl rfl rfl rfl rfl ?_ | refine W_yes rfl ?_ | refine W_no rfl ?_)
  (first | with_reducible refine q_endr ?_ | with_reducible refine q_endn ?_); refine rets1 Tryd.results19 (by first | exact RetV.tmp _ _ rfl | exact RetV.cell _ _ _ _ _ _ _ _ inferInstance rfl rfl rfl) ?_
  rfl

theorem spD_fz (s : S × List UInt8) : (D.agg (spD s)).fz = D.agg (spD s) := by
  show D.agg (D.fzs (spC _ _ _)) = _
  rw [spC_fzs]; rfl
theorem spD_cl (s : S × List UInt8) : (D.agg (spD s)).cl = true := spC_cls _ _ _
set_option maxHeartbeats 8000000 in
theorem Sum_of (s0 : S × List UInt8) (h0 : s0.2.length < 136) (hB : Pur Tryd.prog 19 [] (.agg (spD s0))) (b : List UInt8) (nb : Nat) (hnb : b.length = nb) (hsm : nb < 1000000) : Pur Tryd.prog 14 [.slice .frozen nb (bs b)] (.agg (bs (endS (addA s0 b)))) := by
  have hA := KAdd_ok s0 h0 b nb hnb hsm
  have hAl := addA_lt b s0 h0
  have hZl := endS_len (addA s0 b)
  have hE := End_ok _ hAl
  generalize addA s0 b = s1 at *
  generalize endS s1 = Z at *
  have hcz : D.cl (.tup [.agg (bs Z), .int .i64 0]) = true := by show (D.cls (bs Z) && true) = true; rw [bs_cl]; rfl
  have hwh : ∀ ze, cut ⟨true, 162, ze⟩ 0 (spD s1) = some (.agg (spD s1)) := spC_whole _ _ _ (hld_len _ (by omega))
  have hlay : ∀ cs : List D, cs.length = 162 → splice 0 (spD s1) cs = some (spD s1) := fun cs hc => spC_lay _ _ _ (hld_len _ (by omega)) cs hc
  have hlen := spD_len _ hAl
  have hf1 := spD_fz1 s1
  have hc1 : D.cls [D.agg (spD s1)] = true := spC_cl1 _ _ _
  have hct : D.cl (.tup [.agg (spD s1), .int .i64 0]) = true := by
    show ((D.agg (spD s1)).cl && true) = true
    rw [spD_cl]; rfl
  have hc0 : D.cl (.agg (spD s0)) = true := spD_cl s0
  have hfa : D.fzs [D.agg (spD s0), D.slice .frozen nb (bs b)] = [D.agg (spD s0), D.slice .frozen nb (bs b)] := by
    show [(D.agg (spD s0)).fz, D.slice .frozen nb (bs b)] = _
    rw [spD_fz]
  have hca : D.cls [D.agg (spD s0), D.slice .frozen nb (bs b)] = true := by
    show ((D.agg (spD s0)).cl && true) = true
    rw [spD_cl]; rfl
  generalize spD s1 = X at *
  generalize spD s0 = X0 at *
  have hwZ := b_cut hZl
  have hclZ : D.cl (.agg (bs Z)) = true := bs_cl _
  clear h0 hsm hnb hAl
  refine pur_intro Tryd.func14 rfl Tryd.ntmps14 rfl hclZ fun B => ?_
  repeat (first | with_reducible refine W_seq ?_ | with_reducible refine q_then ?_ | with_reducible refine q_thenr ?_ | with_reducible refine q_thenx ?_ | with_reducible refine W_block ?_ | with_reducible refine q_block ?_ | with_reducible refine q_blockr ?_ | with_reducible refine q_blockx ?_ | with_reducible refine W_ret ?_ | with_reducible refine W_skip ?_ | with_reducible refine W_label ?_ | with_reducible refine W_exit ?_ | with_reducible refine W_scope ?_ | with_reducible refine q_scope ?_ | with_reducible refine q_scoper ?_ | with_reducible refine q_scopex ?_ | (with_reducible refine R_nil ?_; try dsimp only [slots0, slots_ud, arr_len, arr_cls, arr_fzs, arr_bels, cells_U, agg_ud, drop0, dropS, takeS, take0, ud_nil, take_ud, take_ud0, drop_ud, drop_ud0, take_udk, D.cells, D.fz, D.fzs, List.take_succ_cons, List.take_zero, List.drop_succ_cons, List.drop_zero, List.cons_append, List.nil_append, List.append_eq, List.length_cons, List.length_nil, Nat.reduceAdd, Nat.reduceMul, Nat.reduceSub, Int.reduceAdd, Int.reduceSub, Int.reduceToNat, Int.reduceNeg, Int.reduceMul]) | refine q_blocky rfl ?_ | refine W_plain rfl ?_ | refine W_drawn mixed rfl ?_ | refine and_chk (by kernel_rfl) ?_ | refine k_store rfl rfl rfl rfl (by exact hlen) rfl (by exact hlay _ rfl) ?_ | refine k_load rfl rfl rfl (by exact hwh _) ?_ | refine k_load rfl rfl rfl (by exact hwZ _) ?_ | refine k_store rfl rfl rfl rfl (b_len hZl) (b_fits _) (by exact b_put hZl _ rfl) ?_ | refine k_move rfl rfl ?_ | refine k_assign rfl rfl ?_ | refine k_load rfl rfl rfl rfl ?_ | refine k_alloc rfl ?_ | refine k_box rfl rfl rfl ?_ | refine k_store rfl rfl rfl rfl rfl rfl rfl ?_ | refine k_extract rfl rfl rfl ?_ | refine k_fieldAddr rfl rfl rfl ?_ | refine k_field rfl rfl rfl ?_ | refine k_build rfl rfl rfl ?_ | refine k_call rfl hB rfl rfl rfl hc0 ?_ | refine k_call rfl hA rfl hfa hca hct ?_ | refine k_call rfl hE rfl hf1 hc1 hcz ?_ | refine k_append rfl rfl rfl (by first | rfl | exact trivial | (show 0 < _; omega)) (by first | rfl | (simp <;> omega)) (by first | rfl | (simp <;> omega)) rfl (by omega) rfl rfl rfl ?_ | refine k_slice rfl rfl rfl rfl ⟨by omega, by omega, by omega⟩ rfl rfl rfl ?_ | refine k_slice3 rfl rfl rfl rfl rfl ⟨by omega, by omega, by omega⟩ rfl rfl rfl ?_ | refine k_sliceA rfl rfl rfl rfl ⟨by omega, by omega, by omega, by omega⟩ rfl rfl ?_ | refine k_sliceE rfl rfl rfl rfl ⟨by omega, by omega, by omega, by omega⟩ rfl rfl rfl rfl ?_ | refine k_buildSlice (cs := []) rfl rfl rfl rfl rfl rfl rfl ?_ | refine k_buildSlice rfl rfl rfl rfl rfl rfl rfl ?_ | refine k_indexAddr rfl rfl rfl ⟨by omega, by omega⟩ ?_ | refine k_indexAddrs rfl rfl rfl ⟨by omega, by omega⟩ rfl ?_ | refine k_index rfl rfl rfl ⟨by omega, by omega⟩ rfl ?_ | refine k_loade rfl rfl rfl ?_ | refine k_fieldAddre rfl rfl rfl rfl ?_ | refine k_len rfl rfl ?_ | refine k_nilCheck rfl rfl rfl ?_ | refine k_pickT rfl rfl rfl ?_ | refine k_pickF rfl rfl rfl ?_ | refine k_addi rfl rfl rfl (by omega) ?_ | refine k_subi rfl rfl rfl (by omega) ?_ | refine k_negi rfl rfl (by omega) ?_ | refine k_not rfl rfl rfl ?_ | refine k_lssT rfl rfl rfl (by omega) ?_ | refine k_lssF rfl rfl rfl (by omega) ?_ | refine k_leqT rfl rfl rfl (by omega) ?_ | refine k_leqF rfl rfl rfl (by omega) ?_ | refine k_gtrT rfl rfl rfl (by omega) ?_ | refine k_gtrF rfl rfl rfl (by omega) ?_ | refine k_geqT rfl rfl rfl (by omega) ?_ | refine k_geqF rfl rfl rfl (by omega) ?_ | refine k_eqlT rfl rfl rfl (by omega) ?_ | refine k_eqlF rfl rfl rfl (by omega) ?_ | refine k_neqT rfl rfl rfl (by omega) ?_ | refine k_neqF rfl rfl rfl (by omega) ?_ | refine k_eqa rfl rfl rfl rfl rfl rfl ?_ | refine k_nea rfl rfl rfl rfl rfl rfl ?_ | refine k_makeFunc rfl rfl rfl ?_ | refine k_skip rfl ?_ | refine k_skip0 rfl ?_ | refine k_pick rfl rfl rfl rfl rfl ?_ | refine W_yes rfl ?_ | refine W_no rfl ?_)
  (first | with_reducible refine q_endr ?_ | with_reducible refine q_endn ?_); refine rets1 Tryd.results14 (RetV.cell _ _ _ _ _ _ _ _ inferInstance rfl rfl (by exact hwZ _)) ?_
  exact b_fz _
theorem Sum_ok (b : List UInt8) (nb : Nat) (hnb : b.length = nb) (hsm : nb < 1000000) : Pur Tryd.prog 14 [.slice .frozen nb (bs b)] (.agg (bs (kec b))) :=
  Sum_of _ (by decide) Begin_ok b nb hnb hsm
end Go.Proofs.YtbpaimfnfigjpaaDoor
