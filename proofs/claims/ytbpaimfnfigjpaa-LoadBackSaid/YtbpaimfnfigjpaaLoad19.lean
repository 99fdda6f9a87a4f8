/- The laws' load of raw things: a load that may be. Conditions: none but that numbers are ints. -/
import Derived.Test.YtbpaimfnfigjpaaLoad18
import Derived.Test.YtbpaimfnfigjpaaGg
namespace Go.Proofs.Ytbpaimfnfigjpaa
open Go.RowKit Go.Lib Go.IntWalk
set_option linter.unusedVariables false
set_option maxRecDepth 100000
theorem fill_tx (k : Int) (am fe : Nat) (tk : List UInt8) (ho : Int) (tp : List UInt8) (tc : Int) (h1 : tk.length = 32) (h2 : tp.length = 32) :
    dfill ldPl ld0 [(0, .int .i64 k), (1, U am), (2, U fe), (3, .agg (bs tk)), (4, .int .i64 ho), (5, .agg (bs tp)), (6, .int .i64 tc)] = some (ldC k am fe tk ho tp [.int .i64 tc, .int .i64 0, .str ⟨#[]⟩, .slice .nil 0 [], .int .i64 0, .slice .nil 0 []]) := by
  obtain ⟨f, rfl⟩ := list32x tk h1
  obtain ⟨g, rfl⟩ := list32x tp h2
  kernel_rfl
theorem ldC_data (k : Int) (am fe : Nat) (tk : List UInt8) (ho : Int) (tp : List UInt8) (tc : Int) (d d' : D) (h1 : tk.length = 32) (h2 : tp.length = 32) : splice 77 [d'] (ldC k am fe tk ho tp [.int .i64 tc, .int .i64 0, .str ⟨#[]⟩, d, .int .i64 0, .slice .nil 0 []]) = some (ldC k am fe tk ho tp [.int .i64 tc, .int .i64 0, .str ⟨#[]⟩, d', .int .i64 0, .slice .nil 0 []]) := by
  obtain ⟨f, rfl⟩ := list32x tk h1
  obtain ⟨g, rfl⟩ := list32x tp h2
  kernel_rfl
theorem ldC_kk (k k' : Int) (am fe : Nat) (tk : List UInt8) (ho : Int) (tp : List UInt8) (tl : List D) : splice 0 [.int .i64 k'] (ldC k am fe tk ho tp tl) = some (ldC k' am fe tk ho tp tl) := by
  unfold splice ldC
  rw [Nat.ble_eq_true_of_le (by simp), cond_true]; rfl
theorem raw_4 (k a b : Int) (s : ByteArray) (ze : List D) : cut ⟨true, 4, ze⟩ 0 [.int .i64 k, .int .i64 a, .int .i64 b, .str s] = some (.agg [.int .i64 k, .int .i64 a, .int .i64 b, .str s]) := rfl
def LoadIs (kind : Int) (x y : RawT) (l : List RawT) : Prop := ∃ A dn, Ldd A dn ∧ Pur Try.prog 12 [.int .i64 kind, .agg x.cells, .agg y.cells, .slice .frozen l.length (rws l)] (.agg A)
set_option maxHeartbeats 8000000 in
theorem loadOf_0 (kind : Int) (x y : RawT) (l : List RawT) (hk : kind % 4 = 0) : LoadIs kind x y l := by
  obtain ⟨xk, xa, xb, xs⟩ := x
  obtain ⟨yk, ya, yb, ys⟩ := y
  obtain ⟨tk, h1, hw⟩ := word_ok xk xa xb xs
  obtain ⟨hn, e1, hh⟩ := mod_nat ya 65536 (by decide)
  obtain ⟨dn, e2, hd⟩ := mod_nat xa 78 (by decide)
  obtain ⟨t, e3, ht⟩ := mod_nat xb 26 (by decide)
  obtain ⟨q, e4, hq⟩ := mod_nat yb 3 (by decide)
  have pk := p_picked kind 4 0 (by decide) (by decide) hk
  have p1 := p_picked ya 65536 hn (by decide) (by decide) e1
  have p2 := p_picked xa 78 dn (by decide) (by decide) e2
  have p3 := p_picked xb 26 t (by decide) (by decide) e3
  have p4 := p_picked yb 3 q (by decide) (by decide) e4
  obtain ⟨c, hc⟩ : ∃ c : UInt8, UInt8.ofNat (97 + t) = c := ⟨_, rfl⟩
  have hcn : c.toNat = 97 + t := by rw [← hc, UInt8.toNat_ofNat']; omega
  have w1 : IntKind.u8.wrap (t : Int) = (t : Int) := by rw [IntKind.wrap_u8]; omega
  have w2 : IntKind.u8.wrap (97 + (t : Int)) = ((c.toNat : Nat) : Int) := by rw [hcn, IntKind.wrap_u8]; omega
  obtain ⟨sy, hsy⟩ : ∃ s : ByteArray, (⟨[c, 122].toArray⟩ : ByteArray).extract 0 q = s := ⟨_, rfl⟩
  have hsl : sy.data.toList = [c, 122].take q := by
    rw [← hsy, ByteArray.data_extract, Array.toList_extract]
    simp only [List.extract_eq_take_drop, List.drop_zero, Nat.sub_zero]
  have hqs : (q : Int) ≤ ((⟨[c, 122].toArray⟩ : ByteArray).size : Int) := by show (q : Int) ≤ 2; omega
  have hex : (⟨[c, 122].toArray⟩ : ByteArray).extract (0 : Int).toNat ((q : Int)).toNat = sy := by rw [Int.toNat_natCast]; exact hsy
  have hz : ([c, 122].take q).all (fun c => c != 0) = true := by
    rw [List.all_eq_true]
    intro b hb
    have hb' := List.mem_of_mem_take hb
    rcases List.mem_cons.1 hb' with rfl | hb'
    · simp; intro h0; rw [h0] at hcn; simp at hcn; omega
    · rcases List.mem_cons.1 hb' with rfl | hb'
      · rfl
      · exact absurd hb' List.not_mem_nil
  have hL := Ldd_me tk hn dn sy _ hsl h1 (by omega) (by omega) (by rw [List.length_take]; simp; omega) hz
  have hA := hL
  refine ⟨_, 0, hA, ?_⟩
  obtain ⟨b, X, -, -, a1, a2, a3, -⟩ := hL
  have hb := fill_me 2 tk hn dn sy h1
  have hay := lay_80 _ a1
  have hac := cut_80 _ a1
  generalize ldC 2 0 0 tk hn z32' [.int .i64 0, .int .i64 dn, .str sy, .slice .nil 0 [], .int .i64 0, .slice .nil 0 []] = A at *
  show Pur Try.prog 12 [.int .i64 kind, .agg [.int .i64 xk, .int .i64 xa, .int .i64 xb, .str xs], .agg [.int .i64 yk, .int .i64 ya, .int .i64 yb, .str ys], .slice .frozen l.length (rws l)] (.agg A)
  refine pur_intro Try.func12 rfl Try.ntmps12 rfl (by show D.cls A = true; exact a3) fun B => ?_
  repeat (first | with_reducible (first | refine W_seq ?_ | refine q_then ?_ | refine q_thenr ?_ | refine q_thenx ?_ | refine W_block ?_ | refine q_block ?_ | refine q_blockr ?_ | refine q_blockx ?_ | refine W_ret ?_ | refine W_skip ?_ | refine W_label ?_ | refine W_exit ?_ | refine W_scope ?_ | refine q_scope ?_ | refine q_scoper ?_ | refine q_scopex ?_) | (with_reducible refine R_nil ?_; try dsimp only [slots0, slots_ud, cells_U, agg_ud, drop0, dropS, takeS, take0, ud_nil, take_ud, take_ud0, drop_ud, drop_ud0, take_udk, D.cells, D.fz, D.fzs, List.take_succ_cons, List.take_zero, List.drop_succ_cons, List.drop_zero, List.cons_append, List.nil_append, List.append_eq, List.length_cons, List.length_nil, Nat.reduceAdd, Nat.reduceMul, Nat.reduceSub, Int.reduceAdd, Int.reduceSub, Int.reduceToNat, Int.reduceNeg, Int.reduceMul]) | refine q_blocky rfl ?_ | refine W_plain rfl ?_ | refine W_drawn mixed rfl ?_ | refine and_chk (by kernel_rfl) ?_ | refine k_load rfl rfl rfl (raw_4 xk xa xb xs _) ?_ | refine k_load rfl rfl rfl (raw_4 yk ya yb ys _) ?_ | refine k_build rfl rfl hb ?_ | refine k_store rfl rfl rfl rfl (by exact a1) rfl (by exact hay _ rfl) ?_ | refine k_move rfl rfl ?_ | refine k_assign rfl rfl ?_ | refine k_load rfl rfl rfl rfl ?_ | refine k_alloc rfl ?_ | refine k_box rfl rfl rfl ?_ | refine k_store rfl rfl rfl rfl rfl rfl rfl ?_ | refine k_fieldAddr rfl rfl rfl ?_ | refine k_build rfl rfl rfl ?_ | refine k_call rfl pk rfl rfl rfl rfl ?_ | refine k_call rfl hw rfl rfl rfl (bs_cl _) ?_ | refine k_call rfl p1 rfl rfl rfl rfl ?_ | refine k_call rfl p2 rfl rfl rfl rfl ?_ | refine k_call rfl p3 rfl rfl rfl rfl ?_ | refine k_call rfl p4 rfl rfl rfl rfl ?_ | refine k_conv rfl rfl w1 ?_ | refine k_add rfl rfl rfl w2 ?_ | refine k_b2s (l := [c, 122]) rfl Try.underlying9 Try.underlying5 rfl rfl ?_ | refine k_slices rfl Try.underlying9 rfl rfl rfl ⟨by omega, by omega, hqs⟩ hex ?_ | (refine k_append rfl rfl rfl ?_ ?_ ?_ rfl ?_ rfl rfl rfl ?_; (first | rfl | exact trivial | (show 0 < _; omega)); (first | rfl | (simp <;> omega)); (first | rfl | (simp <;> omega)); (omega)) | (refine k_slice rfl rfl rfl rfl ⟨?_, ?_, ?_⟩ rfl rfl rfl ?_; (omega); (omega); (omega)) | (refine k_slice3 rfl rfl rfl rfl rfl ⟨?_, ?_, ?_⟩ rfl rfl rfl ?_; (omega); (omega); (omega)) | (refine k_sliceA rfl rfl rfl rfl ⟨?_, ?_, ?_, ?_⟩ rfl rfl ?_; (omega); (omega); (omega); (omega)) | (refine k_sliceE rfl rfl rfl rfl ⟨?_, ?_, ?_, ?_⟩ rfl rfl rfl rfl ?_; (omega); (omega); (omega); (omega)) | refine k_buildSlice (cs := []) rfl rfl rfl rfl rfl rfl rfl ?_ | refine k_buildSlice rfl rfl rfl rfl rfl rfl rfl ?_ | refine k_loade rfl rfl rfl ?_ | refine k_fieldAddre rfl rfl rfl rfl ?_ | (refine k_addi rfl rfl rfl ?_ ?_; (omega)) | (refine k_lssT rfl rfl rfl ?_ ?_; (omega)) | (refine k_lssF rfl rfl rfl ?_ ?_; (omega)) | (refine k_eqlT rfl rfl rfl ?_ ?_; (omega)) | (refine k_eqlF rfl rfl rfl ?_ ?_; (omega)) | refine k_eqa rfl rfl rfl rfl rfl rfl ?_ | refine W_yes rfl ?_ | refine W_no rfl ?_)
  (first | with_reducible refine q_endr ?_ | with_reducible refine q_endn ?_); refine rets1 Try.results12 (RetV.cell _ _ _ _ _ _ _ _ inferInstance rfl rfl (by exact hac _)) ?_
  show D.agg (D.fzs A) = _
  rw [a2]
set_option maxHeartbeats 8000000 in
theorem loadOf_1 (kind : Int) (x y : RawT) (l : List RawT) (hk : kind % 4 = 1) : LoadIs kind x y l := by
  obtain ⟨xn, e1, hx⟩ := mod_nat x.a 4294967296 (by decide)
  have sm := some_ok l 18 (by decide)
  have hl18 : (l.take 18).length ≤ 18 := by rw [List.length_take]; omega
  have hrl := rws_len (l.take 18)
  generalize l.take 18 = l' at *
  have ko := keysOf_ok (x :: l') _ rfl
  have hn : ((x :: l').take 19).length = l'.length + 1 := by rw [List.length_take, List.length_cons]; omega
  have hks : (((x :: l').take 19).mapIdx keyI).length = l'.length + 1 := by rw [List.length_mapIdx, hn]
  have hk20 := keyI_20 ((x :: l').take 19)
  rw [hn, List.length_cons] at ko
  have hrws : ∀ k a b s, x = ⟨k, a, b, s⟩ → [D.int .i64 k, .int .i64 a, .int .i64 b, .str s] ++ rws l' = rws (x :: l') := by rintro k a b s rfl; rfl
  obtain ⟨zk, hzk⟩ : ∃ z, rws (x :: l') = z := ⟨_, rfl⟩
  rw [hzk] at ko hrws
  obtain ⟨ks, hkse⟩ : ∃ ks, ((x :: l').take 19).mapIdx keyI = ks := ⟨_, rfl⟩
  rw [hkse] at ko hks hk20
  obtain ⟨xk, xa, xb, xs⟩ := x
  obtain ⟨yk, ya, yb, ys⟩ := y
  have hzz := hrws xk xa xb xs rfl
  have pk := p_picked kind 4 1 (by decide) (by decide) hk
  have p1 := p_picked xa 4294967296 xn (by decide) (by decide) e1
  obtain ⟨m, hm⟩ : ∃ m, l'.length = m := ⟨_, rfl⟩
  rw [hm] at ko hks sm hl18 hrl
  have hL := Ldd_tu xn (m + 1) ks hk20 hks (by omega) (by omega) (by omega)
  have hA := hL
  refine ⟨_, 0, hA, ?_⟩
  obtain ⟨b, X, -, -, a1, a2, a3, -⟩ := hL
  have hb := fill_tu 4 xn (m + 1) (bs ks.flatten)
  have hay := lay_80 _ a1
  have hac := cut_80 _ a1
  have h1m : 1 + m = m + 1 := Nat.add_comm _ _
  have hrl2 : m * 4 = (rws l').length := hrl.symm
  have hsm : 1 + m ≤ 16777216 := by omega
  generalize rws l' = zl at *
  generalize bs ks.flatten = zf at *
  generalize ldC 4 0 0 z32' 0 z32' [.int .i64 0, .int .i64 0, .str ⟨#[]⟩, .slice .nil 0 [], .int .i64 xn, .slice .frozen (m + 1) zf] = A at *
  show Pur Try.prog 12 [.int .i64 kind, .agg [.int .i64 xk, .int .i64 xa, .int .i64 xb, .str xs], .agg [.int .i64 yk, .int .i64 ya, .int .i64 yb, .str ys], .slice .frozen l.length (rws l)] (.agg A)
  refine pur_intro Try.func12 rfl Try.ntmps12 rfl (by show D.cls A = true; exact a3) fun B => ?_
  repeat (first | with_reducible (first | refine W_seq ?_ | refine q_then ?_ | refine q_thenr ?_ | refine q_thenx ?_ | refine W_block ?_ | refine q_block ?_ | refine q_blockr ?_ | refine q_blockx ?_ | refine W_ret ?_ | refine W_skip ?_ | refine W_label ?_ | refine W_exit ?_ | refine W_scope ?_ | refine q_scope ?_ | refine q_scoper ?_ | refine q_scopex ?_) | (with_reducible refine R_nil ?_; try dsimp only [slots0, slots_ud, cells_U, agg_ud, drop0, dropS, takeS, take0, ud_nil, take_ud, take_ud0, drop_ud, drop_ud0, take_udk, D.cells, D.fz, D.fzs, List.take_succ_cons, List.take_zero, List.drop_succ_cons, List.drop_zero, List.cons_append, List.nil_append, List.append_eq, List.length_cons, List.length_nil, Nat.reduceAdd, Nat.reduceMul, Nat.reduceSub, Int.reduceAdd, Int.reduceSub, Int.reduceToNat, Int.reduceNeg, Int.reduceMul]) | refine q_blocky rfl ?_ | refine W_plain rfl ?_ | refine W_drawn mixed rfl ?_ | refine and_chk (by kernel_rfl) ?_ | refine k_load rfl rfl rfl (raw_4 xk xa xb xs _) ?_ | refine k_load rfl rfl rfl (raw_4 yk ya yb ys _) ?_ | (refine k_append rfl rfl rfl ?_ rfl hrl2 rfl hsm rfl h1m (by exact hzz) ?_; (rfl)) | refine k_build rfl rfl hb ?_ | refine k_store rfl rfl rfl rfl (by exact a1) rfl (by exact hay _ rfl) ?_ | refine k_move rfl rfl ?_ | refine k_assign rfl rfl ?_ | refine k_load rfl rfl rfl rfl ?_ | refine k_alloc rfl ?_ | refine k_box rfl rfl rfl ?_ | refine k_store rfl rfl rfl rfl rfl rfl rfl ?_ | refine k_fieldAddr rfl rfl rfl ?_ | refine k_build rfl rfl rfl ?_ | refine k_call rfl pk rfl rfl rfl rfl ?_ | refine k_call rfl p1 rfl rfl rfl rfl ?_ | refine k_call rfl sm rfl rfl rfl rfl ?_ | refine k_call rfl ko rfl rfl rfl rfl ?_ | (refine k_append rfl rfl rfl ?_ ?_ ?_ rfl ?_ rfl rfl rfl ?_; (first | rfl | exact trivial | (show 0 < _; omega)); (first | rfl | (simp <;> omega)); (first | rfl | (simp <;> omega)); (omega)) | (refine k_slice rfl rfl rfl rfl ⟨?_, ?_, ?_⟩ rfl rfl rfl ?_; (omega); (omega); (omega)) | (refine k_slice3 rfl rfl rfl rfl rfl ⟨?_, ?_, ?_⟩ rfl rfl rfl ?_; (omega); (omega); (omega)) | (refine k_sliceA rfl rfl rfl rfl ⟨?_, ?_, ?_, ?_⟩ rfl rfl ?_; (omega); (omega); (omega); (omega)) | (refine k_sliceE rfl rfl rfl rfl ⟨?_, ?_, ?_, ?_⟩ rfl rfl rfl rfl ?_; (omega); (omega); (omega); (omega)) | refine k_buildSlice (cs := []) rfl rfl rfl rfl rfl rfl rfl ?_ | refine k_buildSlice rfl rfl rfl rfl rfl rfl rfl ?_ | refine k_loade rfl rfl rfl ?_ | refine k_fieldAddre rfl rfl rfl rfl ?_ | (refine k_addi rfl rfl rfl ?_ ?_; (omega)) | (refine k_lssT rfl rfl rfl ?_ ?_; (omega)) | (refine k_lssF rfl rfl rfl ?_ ?_; (omega)) | (refine k_eqlT rfl rfl rfl ?_ ?_; (omega)) | (refine k_eqlF rfl rfl rfl ?_ ?_; (omega)) | refine k_eqa rfl rfl rfl rfl rfl rfl ?_ | refine W_yes rfl ?_ | refine W_no rfl ?_)
  (first | with_reducible refine q_endr ?_ | with_reducible refine q_endn ?_); refine rets1 Try.results12 (RetV.cell _ _ _ _ _ _ _ _ inferInstance rfl rfl (by exact hac _)) ?_
  show D.agg (D.fzs A) = _
  rw [a2]
theorem four_cut (z : List D) (h : z.length = 4) (ze : List D) : cut ⟨true, 4, ze⟩ 0 z = some (.agg z) := by
  unfold cut
  simp only [cond_true, Nat.zero_add, List.drop_zero]
  rw [h, Nat.ble_self_eq_true, cond_true, List.take_of_length_le (by omega)]
theorem four_lay (z : List D) (h : z.length = 4) (cs : List D) (hc : cs.length = 4) : splice 0 z cs = some z := by
  unfold splice
  rw [Nat.ble_eq_true_of_le (by rw [h, hc]; exact Nat.le_refl _), cond_true, Nat.zero_add, List.drop_of_length_le (by rw [h, hc]; exact Nat.le_refl _)]
  simp
set_option maxHeartbeats 8000000 in
theorem loadOf_2 (kind : Int) (x y : RawT) (l : List RawT) (hk : kind % 4 = 2) : LoadIs kind x y l := by
  obtain ⟨xk, xa, xb, xs⟩ := x
  obtain ⟨yk, ya, yb, ys⟩ := y
  obtain ⟨a, ha, na⟩ := numberD xk xa xb xs
  obtain ⟨f, hf, nf⟩ := numberD yk ya yb ys
  obtain ⟨tk, h1, hwy⟩ := word_ok yk ya yb ys
  obtain ⟨tp, h2, hwx⟩ := word_ok xk xa xb xs
  obtain ⟨hn, e1, hh⟩ := mod_nat xb 65536 (by decide)
  obtain ⟨tn, e2, ht⟩ := mod_nat yb 65536 (by decide)
  have pk := p_picked kind 4 2 (by decide) (by decide) hk
  have p1 := p_picked xb 65536 hn (by decide) (by decide) e1
  have p2 := p_picked yb 65536 tn (by decide) (by decide) e2
  have pc := p_cmp a f _ ha hf rfl
  have hd9 : ([] : List UInt8).length ≤ (if false then 100 else 0) := Nat.le_refl _
  have hdu : Up (.slice .nil 0 []) (.slice .frozen ([] : List UInt8).length (bs [])) := .nil _
  have hdd : ∃ t z, D.slice .nil 0 [] = .slice t ([] : List UInt8).length z := ⟨.nil, [], rfl⟩
  by_cases hlt : f ≤ a
  · have hc0 : cmpI a f = 0 ∨ cmpI a f = 1 := by unfold cmpI; rw [if_neg (by omega)]; by_cases h : f < a <;> simp [h]
    have hcl : decide (cmpI a f < 0) = false := by rcases hc0 with e | e <;> rw [e] <;> rfl
    have hL := Ldd_tr false a f tk hn tp tn [] h1 h2 ha hf (by omega) (by omega) (by omega) hd9 _ hdu rfl rfl hdd
    have hA := hL
    refine ⟨_, _, hA, ?_⟩
    obtain ⟨b, X, -, -, a1, a2, a3, -⟩ := hL
    have hay := lay_80 _ a1
    have hac := cut_80 _ a1
    have hb := fill_tx 1 a f tk hn tp tn h1 h2
    rw [show kN false = 1 from rfl] at a1 a2 a3 hay hac ⊢
    generalize ldC 1 a f tk hn tp [.int .i64 tn, .int .i64 0, .str ⟨#[]⟩, .slice .nil 0 [], .int .i64 0, .slice .nil 0 []] = A at *
    have la : (ud a).length = 4 := rfl
    have lf : (ud f).length = 4 := rfl
    have ca := four_cut _ la
    have cf := four_cut _ lf
    have ya4 := four_lay _ la
    have yf4 := four_lay _ lf
    have hua : D.cls (ud a) = true := rfl
    have huf : D.cls (ud f) = true := rfl
    have fza : D.fzs (ud a) = ud a := rfl
    have fzf : D.fzs (ud f) = ud f := rfl
    rw [show U a = .agg (ud a) from rfl] at na pc hb
    rw [show U f = .agg (ud f) from rfl] at nf pc hb
    generalize ud a = za at *
    generalize ud f = zf at *
    generalize cmpI a f = cc at *
    have cla : (D.agg za).cl = true := hua
    have clf : (D.agg zf).cl = true := huf
    have clc : D.cls [D.agg za, D.agg zf] = true := by show (D.cls za && (D.cls zf && true)) = true; rw [hua, huf]; rfl
    have fzc : D.fzs [D.agg za, D.agg zf] = [D.agg za, D.agg zf] := by show [D.agg (D.fzs za), D.agg (D.fzs zf)] = _; rw [fza, fzf]
    show Pur Try.prog 12 [.int .i64 kind, .agg [.int .i64 xk, .int .i64 xa, .int .i64 xb, .str xs], .agg [.int .i64 yk, .int .i64 ya, .int .i64 yb, .str ys], .slice .frozen l.length (rws l)] (.agg A)
    refine pur_intro Try.func12 rfl Try.ntmps12 rfl (by show D.cls A = true; exact a3) fun B => ?_
    repeat (first | with_reducible (first | refine W_seq ?_ | refine q_then ?_ | refine q_thenr ?_ | refine q_thenx ?_ | refine W_block ?_ | refine q_block ?_ | refine q_blockr ?_ | refine q_blockx ?_ | refine W_ret ?_ | refine W_skip ?_ | refine W_label ?_ | refine W_exit ?_ | refine W_scope ?_ | refine q_scope ?_ | refine q_scoper ?_ | refine q_scopex ?_) | (with_reducible refine R_nil ?_; try dsimp only [slots0, slots_ud, cells_U, agg_ud, drop0, dropS, takeS, take0, ud_nil, take_ud, take_ud0, drop_ud, drop_ud0, take_udk, D.cells, D.fz, D.fzs, List.take_succ_cons, List.take_zero, List.drop_succ_cons, List.drop_zero, List.cons_append, List.nil_append, List.append_eq, List.length_cons, List.length_nil, Nat.reduceAdd, Nat.reduceMul, Nat.reduceSub, Int.reduceAdd, Int.reduceSub, Int.reduceToNat, Int.reduceNeg, Int.reduceMul]) | refine q_blocky rfl ?_ | refine W_plain rfl ?_ | refine W_drawn mixed rfl ?_ | refine and_chk (by kernel_rfl) ?_ | refine k_load rfl rfl rfl (raw_4 xk xa xb xs _) ?_ | refine k_load rfl rfl rfl (raw_4 yk ya yb ys _) ?_ | refine k_load rfl rfl rfl (ca _) ?_ | refine k_load rfl rfl rfl (cf _) ?_ | refine k_store rfl rfl rfl rfl (by exact la) rfl (by exact ya4 _ rfl) ?_ | refine k_store rfl rfl rfl rfl (by exact la) rfl (by exact ya4 _ lf) ?_ | refine k_store rfl rfl rfl rfl (by exact lf) rfl (by exact yf4 _ rfl) ?_ | refine k_store rfl rfl rfl rfl (by exact lf) rfl (by exact yf4 _ la) ?_ | refine k_build rfl rfl hb ?_ | refine k_store rfl rfl rfl rfl (by exact a1) rfl (by exact hay _ rfl) ?_ | refine k_store rfl rfl rfl rfl (by exact a1) rfl (by exact hay _ a1) ?_ | refine k_load rfl rfl rfl (hac _) ?_ | refine k_move rfl rfl ?_ | refine k_assign rfl rfl ?_ | refine k_load rfl rfl rfl rfl ?_ | refine k_alloc rfl ?_ | refine k_box rfl rfl rfl ?_ | refine k_store rfl rfl rfl rfl rfl rfl rfl ?_ | refine k_fieldAddr rfl rfl rfl ?_ | refine k_build rfl rfl rfl ?_ | refine k_call rfl pk rfl rfl rfl rfl ?_ | refine k_call rfl na rfl rfl rfl cla ?_ | refine k_call rfl nf rfl rfl rfl clf ?_ | refine k_call rfl pc rfl fzc clc rfl ?_ | refine k_lss rfl rfl rfl hcl ?_ | refine k_call rfl hwx rfl rfl rfl (bs_cl _) ?_ | refine k_call rfl hwy rfl rfl rfl (bs_cl _) ?_ | refine k_call rfl p1 rfl rfl rfl rfl ?_ | refine k_call rfl p2 rfl rfl rfl rfl ?_ | (refine k_append rfl rfl rfl ?_ ?_ ?_ rfl ?_ rfl rfl rfl ?_; (first | rfl | exact trivial | (show 0 < _; omega)); (first | rfl | (simp <;> omega)); (first | rfl | (simp <;> omega)); (omega)) | (refine k_slice rfl rfl rfl rfl ⟨?_, ?_, ?_⟩ rfl rfl rfl ?_; (omega); (omega); (omega)) | (refine k_slice3 rfl rfl rfl rfl rfl ⟨?_, ?_, ?_⟩ rfl rfl rfl ?_; (omega); (omega); (omega)) | (refine k_sliceA rfl rfl rfl rfl ⟨?_, ?_, ?_, ?_⟩ rfl rfl ?_; (omega); (omega); (omega); (omega)) | (refine k_sliceE rfl rfl rfl rfl ⟨?_, ?_, ?_, ?_⟩ rfl rfl rfl rfl ?_; (omega); (omega); (omega); (omega)) | refine k_buildSlice (cs := []) rfl rfl rfl rfl rfl rfl rfl ?_ | refine k_buildSlice rfl rfl rfl rfl rfl rfl rfl ?_ | refine k_loade rfl rfl rfl ?_ | refine k_fieldAddre rfl rfl rfl rfl ?_ | (refine k_addi rfl rfl rfl ?_ ?_; (omega)) | (refine k_lssT rfl rfl rfl ?_ ?_; (omega)) | (refine k_lssF rfl rfl rfl ?_ ?_; (omega)) | (refine k_eqlT rfl rfl rfl ?_ ?_; (omega)) | (refine k_eqlF rfl rfl rfl ?_ ?_; (omega)) | refine k_eqa rfl rfl rfl rfl rfl rfl ?_ | refine W_yes rfl ?_ | refine W_no rfl ?_)
    (first | with_reducible refine q_endr ?_ | with_reducible refine q_endn ?_); refine rets1 Try.results12 (RetV.cell _ _ _ _ _ _ _ _ inferInstance rfl rfl (by exact hac _)) ?_
    show D.agg (D.fzs A) = _
    rw [a2]
  · have hcl : decide (cmpI a f < 0) = true := by unfold cmpI; rw [if_pos (by omega)]; rfl
    have hL := Ldd_tr false f a tk hn tp tn [] h1 h2 hf ha (by omega) (by omega) (by omega) hd9 _ hdu rfl rfl hdd
    have hA := hL
    refine ⟨_, _, hA, ?_⟩
    obtain ⟨b, X, -, -, a1, a2, a3, -⟩ := hL
    have hay := lay_80 _ a1
    have hac := cut_80 _ a1
    have hb := fill_tx 1 f a tk hn tp tn h1 h2
    rw [show kN false = 1 from rfl] at a1 a2 a3 hay hac ⊢
    generalize ldC 1 f a tk hn tp [.int .i64 tn, .int .i64 0, .str ⟨#[]⟩, .slice .nil 0 [], .int .i64 0, .slice .nil 0 []] = A at *
    have la : (ud a).length = 4 := rfl
    have lf : (ud f).length = 4 := rfl
    have ca := four_cut _ la
    have cf := four_cut _ lf
    have ya4 := four_lay _ la
    have yf4 := four_lay _ lf
    have hua : D.cls (ud a) = true := rfl
    have huf : D.cls (ud f) = true := rfl
    have fza : D.fzs (ud a) = ud a := rfl
    have fzf : D.fzs (ud f) = ud f := rfl
    rw [show U a = .agg (ud a) from rfl] at na pc hb
    rw [show U f = .agg (ud f) from rfl] at nf pc hb
    generalize ud a = za at *
    generalize ud f = zf at *
    generalize cmpI a f = cc at *
    have cla : (D.agg za).cl = true := hua
    have clf : (D.agg zf).cl = true := huf
    have clc : D.cls [D.agg za, D.agg zf] = true := by show (D.cls za && (D.cls zf && true)) = true; rw [hua, huf]; rfl
    have fzc : D.fzs [D.agg za, D.agg zf] = [D.agg za, D.agg zf] := by show [D.agg (D.fzs za), D.agg (D.fzs zf)] = _; rw [fza, fzf]
    show Pur Try.prog 12 [.int .i64 kind, .agg [.int .i64 xk, .int .i64 xa, .int .i64 xb, .str xs], .agg [.int .i64 yk, .int .i64 ya, .int .i64 yb, .str ys], .slice .frozen l.length (rws l)] (.agg A)
    refine pur_intro Try.func12 rfl Try.ntmps12 rfl (by show D.cls A = true; exact a3) fun B => ?_
    repeat (first | with_reducible (first | refine W_seq ?_ | refine q_then ?_ | refine q_thenr ?_ | refine q_thenx ?_ | refine W_block ?_ | refine q_block ?_ | refine q_blockr ?_ | refine q_blockx ?_ | refine W_ret ?_ | refine W_skip ?_ | refine W_label ?_ | refine W_exit ?_ | refine W_scope ?_ | refine q_scope ?_ | refine q_scoper ?_ | refine q_scopex ?_) | (with_reducible refine R_nil ?_; try dsimp only [slots0, slots_ud, cells_U, agg_ud, drop0, dropS, takeS, take0, ud_nil, take_ud, take_ud0, drop_ud, drop_ud0, take_udk, D.cells, D.fz, D.fzs, List.take_succ_cons, List.take_zero, List.drop_succ_cons, List.drop_zero, List.cons_append, List.nil_append, List.append_eq, List.length_cons, List.length_nil, Nat.reduceAdd, Nat.reduceMul, Nat.reduceSub, Int.reduceAdd, Int.reduceSub, Int.reduceToNat, Int.reduceNeg, Int.reduceMul]) | refine q_blocky rfl ?_ | refine W_plain rfl ?_ | refine W_drawn mixed rfl ?_ | refine and_chk (by kernel_rfl) ?_ | refine k_load rfl rfl rfl (raw_4 xk xa xb xs _) ?_ | refine k_load rfl rfl rfl (raw_4 yk ya yb ys _) ?_ | refine k_load rfl rfl rfl (ca _) ?_ | refine k_load rfl rfl rfl (cf _) ?_ | refine k_store rfl rfl rfl rfl (by exact la) rfl (by exact ya4 _ rfl) ?_ | refine k_store rfl rfl rfl rfl (by exact la) rfl (by exact ya4 _ lf) ?_ | refine k_store rfl rfl rfl rfl (by exact lf) rfl (by exact yf4 _ rfl) ?_ | refine k_store rfl rfl rfl rfl (by exact lf) rfl (by exact yf4 _ la) ?_ | refine k_build rfl rfl hb ?_ | refine k_store rfl rfl rfl rfl (by exact a1) rfl (by exact hay _ rfl) ?_ | refine k_store rfl rfl rfl rfl (by exact a1) rfl (by exact hay _ a1) ?_ | refine k_load rfl rfl rfl (hac _) ?_ | refine k_move rfl rfl ?_ | refine k_assign rfl rfl ?_ | refine k_load rfl rfl rfl rfl ?_ | refine k_alloc rfl ?_ | refine k_box rfl rfl rfl ?_ | refine k_store rfl rfl rfl rfl rfl rfl rfl ?_ | refine k_fieldAddr rfl rfl rfl ?_ | refine k_build rfl rfl rfl ?_ | refine k_call rfl pk rfl rfl rfl rfl ?_ | refine k_call rfl na rfl rfl rfl cla ?_ | refine k_call rfl nf rfl rfl rfl clf ?_ | refine k_call rfl pc rfl fzc clc rfl ?_ | refine k_lss rfl rfl rfl hcl ?_ | refine k_call rfl hwx rfl rfl rfl (bs_cl _) ?_ | refine k_call rfl hwy rfl rfl rfl (bs_cl _) ?_ | refine k_call rfl p1 rfl rfl rfl rfl ?_ | refine k_call rfl p2 rfl rfl rfl rfl ?_ | (refine k_append rfl rfl rfl ?_ ?_ ?_ rfl ?_ rfl rfl rfl ?_; (first | rfl | exact trivial | (show 0 < _; omega)); (first | rfl | (simp <;> omega)); (first | rfl | (simp <;> omega)); (omega)) | (refine k_slice rfl rfl rfl rfl ⟨?_, ?_, ?_⟩ rfl rfl rfl ?_; (omega); (omega); (omega)) | (refine k_slice3 rfl rfl rfl rfl rfl ⟨?_, ?_, ?_⟩ rfl rfl rfl ?_; (omega); (omega); (omega)) | (refine k_sliceA rfl rfl rfl rfl ⟨?_, ?_, ?_, ?_⟩ rfl rfl ?_; (omega); (omega); (omega); (omega)) | (refine k_sliceE rfl rfl rfl rfl ⟨?_, ?_, ?_, ?_⟩ rfl rfl rfl rfl ?_; (omega); (omega); (omega); (omega)) | refine k_buildSlice (cs := []) rfl rfl rfl rfl rfl rfl rfl ?_ | refine k_buildSlice rfl rfl rfl rfl rfl rfl rfl ?_ | refine k_loade rfl rfl rfl ?_ | refine k_fieldAddre rfl rfl rfl rfl ?_ | (refine k_addi rfl rfl rfl ?_ ?_; (omega)) | (refine k_lssT rfl rfl rfl ?_ ?_; (omega)) | (refine k_lssF rfl rfl rfl ?_ ?_; (omega)) | (refine k_eqlT rfl rfl rfl ?_ ?_; (omega)) | (refine k_eqlF rfl rfl rfl ?_ ?_; (omega)) | refine k_eqa rfl rfl rfl rfl rfl rfl ?_ | refine W_yes rfl ?_ | refine W_no rfl ?_)
    (first | with_reducible refine q_endr ?_ | with_reducible refine q_endn ?_); refine rets1 Try.results12 (RetV.cell _ _ _ _ _ _ _ _ inferInstance rfl rfl (by exact hac _)) ?_
    show D.agg (D.fzs A) = _
    rw [a2]
set_option maxHeartbeats 8000000 in
theorem loadOf_3 (kind : Int) (x y : RawT) (l : List RawT) (hk : kind % 4 = 3) : LoadIs kind x y l := by
  obtain ⟨xk, xa, xb, xs⟩ := x
  obtain ⟨yk, ya, yb, ys⟩ := y
  obtain ⟨a, ha, na⟩ := numberD xk xa xb xs
  obtain ⟨f, hf, nf⟩ := numberD yk ya yb ys
  obtain ⟨tk, h1, hwy⟩ := word_ok yk ya yb ys
  obtain ⟨tp, h2, hwx⟩ := word_ok xk xa xb xs
  obtain ⟨hn, e1, hh⟩ := mod_nat xb 65536 (by decide)
  obtain ⟨tn, e2, ht⟩ := mod_nat yb 65536 (by decide)
  have pk := p_picked kind 4 3 (by decide) (by decide) hk
  have p1 := p_picked xb 65536 hn (by decide) (by decide) e1
  have p2 := p_picked yb 65536 tn (by decide) (by decide) e2
  have pc := p_cmp a f _ ha hf rfl
  obtain ⟨s', hs', cutx⟩ := cut_ok xs 100
  obtain ⟨da, hda⟩ : ∃ l, cutL xs 100 = l := ⟨_, rfl⟩
  have hdl := cutL_len xs 100
  rw [hda] at hs' hdl
  have hd9 : da.length ≤ (if true then 100 else 0) := hdl
  have hdu : Up (.slice .frozen da.length (bs da)) (.slice .frozen da.length (bs da)) := .refl _
  have hdd : ∃ t z, D.slice .frozen da.length (bs da) = .slice t da.length z := ⟨_, _, rfl⟩
  have hs2b : s'.data.toList.length = da.length := by rw [hs']
  by_cases hlt : f ≤ a
  · have hc0 : cmpI a f = 0 ∨ cmpI a f = 1 := by unfold cmpI; rw [if_neg (by omega)]; by_cases h : f < a <;> simp [h]
    have hcl : decide (cmpI a f < 0) = false := by rcases hc0 with e | e <;> rw [e] <;> rfl
    have hL := Ldd_tr true a f tk hn tp tn da h1 h2 ha hf (by omega) (by omega) (by omega) hd9 _ hdu rfl rfl hdd
    have hA := hL
    refine ⟨_, _, hA, ?_⟩
    obtain ⟨b, X, -, -, a1, a2, a3, -⟩ := hL
    have hay := lay_80 _ a1
    have hac := cut_80 _ a1
    have hb := fill_tx 1 a f tk hn tp tn h1 h2
    have hBl := ldC_len (k := 1) (am := a) (fe := f) (ho := hn) h1 h2 [.int .i64 tn, .int .i64 0, .str ⟨#[]⟩, .slice .nil 0 [], .int .i64 0, .slice .nil 0 []] rfl
    have hk3 := ldC_kk 1 3 a f tk hn tp [.int .i64 tn, .int .i64 0, .str ⟨#[]⟩, .slice .nil 0 [], .int .i64 0, .slice .nil 0 []]
    have hdt := ldC_data 3 a f tk hn tp tn (.slice .nil 0 []) (.slice .frozen da.length (bs da)) h1 h2
    have hBy := lay_80 _ hBl
    generalize ldC 1 a f tk hn tp [.int .i64 tn, .int .i64 0, .str ⟨#[]⟩, .slice .nil 0 [], .int .i64 0, .slice .nil 0 []] = Y1 at *
    generalize ldC 3 a f tk hn tp [.int .i64 tn, .int .i64 0, .str ⟨#[]⟩, .slice .nil 0 [], .int .i64 0, .slice .nil 0 []] = Y3 at *
    rw [show kN true = 3 from rfl] at a1 a2 a3 hay hac ⊢
    generalize ldC 3 a f tk hn tp [.int .i64 tn, .int .i64 0, .str ⟨#[]⟩, .slice .frozen da.length (bs da), .int .i64 0, .slice .nil 0 []] = A at *
    have la : (ud a).length = 4 := rfl
    have lf : (ud f).length = 4 := rfl
    have ca := four_cut _ la
    have cf := four_cut _ lf
    have ya4 := four_lay _ la
    have yf4 := four_lay _ lf
    have hua : D.cls (ud a) = true := rfl
    have huf : D.cls (ud f) = true := rfl
    have fza : D.fzs (ud a) = ud a := rfl
    have fzf : D.fzs (ud f) = ud f := rfl
    rw [show U a = .agg (ud a) from rfl] at na pc hb
    rw [show U f = .agg (ud f) from rfl] at nf pc hb
    generalize ud a = za at *
    generalize ud f = zf at *
    generalize cmpI a f = cc at *
    have cla : (D.agg za).cl = true := hua
    have clf : (D.agg zf).cl = true := huf
    have clc : D.cls [D.agg za, D.agg zf] = true := by show (D.cls za && (D.cls zf && true)) = true; rw [hua, huf]; rfl
    have fzc : D.fzs [D.agg za, D.agg zf] = [D.agg za, D.agg zf] := by show [D.agg (D.fzs za), D.agg (D.fzs zf)] = _; rw [fza, fzf]
    show Pur Try.prog 12 [.int .i64 kind, .agg [.int .i64 xk, .int .i64 xa, .int .i64 xb, .str xs], .agg [.int .i64 yk, .int .i64 ya, .int .i64 yb, .str ys], .slice .frozen l.length (rws l)] (.agg A)
    refine pur_intro Try.func12 rfl Try.ntmps12 rfl (by show D.cls A = true; exact a3) fun B => ?_
    repeat (first | with_reducible (first | refine W_seq ?_ | refine q_then ?_ | refine q_thenr ?_ | refine q_thenx ?_ | refine W_block ?_ | refine q_block ?_ | refine q_blockr ?_ | refine q_blockx ?_ | refine W_ret ?_ | refine W_skip ?_ | refine W_label ?_ | refine W_exit ?_ | refine W_scope ?_ | refine q_scope ?_ | refine q_scoper ?_ | refine q_scopex ?_) | (with_reducible refine R_nil ?_; try dsimp only [slots0, slots_ud, cells_U, agg_ud, drop0, dropS, takeS, take0, ud_nil, take_ud, take_ud0, drop_ud, drop_ud0, take_udk, D.cells, D.fz, D.fzs, List.take_succ_cons, List.take_zero, List.drop_succ_cons, List.drop_zero, List.cons_append, List.nil_append, List.append_eq, List.length_cons, List.length_nil, Nat.reduceAdd, Nat.reduceMul, Nat.reduceSub, Int.reduceAdd, Int.reduceSub, Int.reduceToNat, Int.reduceNeg, Int.reduceMul]) | refine q_blocky rfl ?_ | refine W_plain rfl ?_ | refine W_drawn mixed rfl ?_ | refine and_chk (by kernel_rfl) ?_ | refine k_load rfl rfl rfl (raw_4 xk xa xb xs _) ?_ | refine k_load rfl rfl rfl (raw_4 yk ya yb ys _) ?_ | refine k_load rfl rfl rfl (ca _) ?_ | refine k_load rfl rfl rfl (cf _) ?_ | refine k_store rfl rfl rfl rfl (by exact la) rfl (by exact ya4 _ rfl) ?_ | refine k_store rfl rfl rfl rfl (by exact la) rfl (by exact ya4 _ lf) ?_ | refine k_store rfl rfl rfl rfl (by exact lf) rfl (by exact yf4 _ rfl) ?_ | refine k_store rfl rfl rfl rfl (by exact lf) rfl (by exact yf4 _ la) ?_ | refine k_build rfl rfl hb ?_ | refine k_s2b rfl Try.underlying9 Try.underlying5 rfl (by exact hs') rfl ?_ | refine k_store rfl rfl rfl rfl (by exact hBl) rfl (by exact hBy _ rfl) ?_ | refine k_store rfl rfl rfl rfl rfl rfl (by exact hk3) ?_ | refine k_store rfl rfl rfl rfl rfl rfl (by exact hdt) ?_ | refine k_store rfl rfl rfl rfl (by exact a1) rfl (by exact hay _ rfl) ?_ | refine k_load rfl rfl rfl (hac _) ?_ | refine k_move rfl rfl ?_ | refine k_assign rfl rfl ?_ | refine k_load rfl rfl rfl rfl ?_ | refine k_alloc rfl ?_ | refine k_box rfl rfl rfl ?_ | refine k_store rfl rfl rfl rfl rfl rfl rfl ?_ | refine k_fieldAddr rfl rfl rfl ?_ | refine k_build rfl rfl rfl ?_ | refine k_call rfl pk rfl rfl rfl rfl ?_ | refine k_call rfl na rfl rfl rfl cla ?_ | refine k_call rfl nf rfl rfl rfl clf ?_ | refine k_call rfl pc rfl fzc clc rfl ?_ | refine k_lss rfl rfl rfl hcl ?_ | refine k_call rfl hwx rfl rfl rfl (bs_cl _) ?_ | refine k_call rfl hwy rfl rfl rfl (bs_cl _) ?_ | refine k_call rfl p1 rfl rfl rfl rfl ?_ | refine k_call rfl p2 rfl rfl rfl rfl ?_ | refine k_call rfl cutx rfl rfl rfl rfl ?_ | (refine k_append rfl rfl rfl ?_ ?_ ?_ rfl ?_ rfl rfl rfl ?_; (first | rfl | exact trivial | (show 0 < _; omega)); (first | rfl | (simp <;> omega)); (first | rfl | (simp <;> omega)); (omega)) | (refine k_slice rfl rfl rfl rfl ⟨?_, ?_, ?_⟩ rfl rfl rfl ?_; (omega); (omega); (omega)) | (refine k_slice3 rfl rfl rfl rfl rfl ⟨?_, ?_, ?_⟩ rfl rfl rfl ?_; (omega); (omega); (omega)) | (refine k_sliceA rfl rfl rfl rfl ⟨?_, ?_, ?_, ?_⟩ rfl rfl ?_; (omega); (omega); (omega); (omega)) | (refine k_sliceE rfl rfl rfl rfl ⟨?_, ?_, ?_, ?_⟩ rfl rfl rfl rfl ?_; (omega); (omega); (omega); (omega)) | refine k_buildSlice (cs := []) rfl rfl rfl rfl rfl rfl rfl ?_ | refine k_buildSlice rfl rfl rfl rfl rfl rfl rfl ?_ | refine k_loade rfl rfl rfl ?_ | refine k_fieldAddre rfl rfl rfl rfl ?_ | (refine k_addi rfl rfl rfl ?_ ?_; (omega)) | (refine k_lssT rfl rfl rfl ?_ ?_; (omega)) | (refine k_lssF rfl rfl rfl ?_ ?_; (omega)) | (refine k_eqlT rfl rfl rfl ?_ ?_; (omega)) | (refine k_eqlF rfl rfl rfl ?_ ?_; (omega)) | refine k_eqa rfl rfl rfl rfl rfl rfl ?_ | refine W_yes rfl ?_ | refine W_no rfl ?_)
    (first | with_reducible refine q_endr ?_ | with_reducible refine q_endn ?_); refine rets1 Try.results12 (RetV.cell _ _ _ _ _ _ _ _ inferInstance rfl rfl (by exact hac _)) ?_
    show D.agg (D.fzs A) = _
    rw [a2]
  · have hcl : decide (cmpI a f < 0) = true := by unfold cmpI; rw [if_pos (by omega)]; rfl
    have hL := Ldd_tr true f a tk hn tp tn da h1 h2 hf ha (by omega) (by omega) (by omega) hd9 _ hdu rfl rfl hdd
    have hA := hL
    refine ⟨_, _, hA, ?_⟩
    obtain ⟨b, X, -, -, a1, a2, a3, -⟩ := hL
    have hay := lay_80 _ a1
    have hac := cut_80 _ a1
    have hb := fill_tx 1 f a tk hn tp tn h1 h2
    have hBl := ldC_len (k := 1) (am := f) (fe := a) (ho := hn) h1 h2 [.int .i64 tn, .int .i64 0, .str ⟨#[]⟩, .slice .nil 0 [], .int .i64 0, .slice .nil 0 []] rfl
    have hk3 := ldC_kk 1 3 f a tk hn tp [.int .i64 tn, .int .i64 0, .str ⟨#[]⟩, .slice .nil 0 [], .int .i64 0, .slice .nil 0 []]
    have hdt := ldC_data 3 f a tk hn tp tn (.slice .nil 0 []) (.slice .frozen da.length (bs da)) h1 h2
    have hBy := lay_80 _ hBl
    generalize ldC 1 f a tk hn tp [.int .i64 tn, .int .i64 0, .str ⟨#[]⟩, .slice .nil 0 [], .int .i64 0, .slice .nil 0 []] = Y1 at *
    generalize ldC 3 f a tk hn tp [.int .i64 tn, .int .i64 0, .str ⟨#[]⟩, .slice .nil 0 [], .int .i64 0, .slice .nil 0 []] = Y3 at *
    rw [show kN true = 3 from rfl] at a1 a2 a3 hay hac ⊢
    generalize ldC 3 f a tk hn tp [.int .i64 tn, .int .i64 0, .str ⟨#[]⟩, .slice .frozen da.length (bs da), .int .i64 0, .slice .nil 0 []] = A at *
    have la : (ud a).length = 4 := rfl
    have lf : (ud f).length = 4 := rfl
    have ca := four_cut _ la
    have cf := four_cut _ lf
    have ya4 := four_lay _ la
    have yf4 := four_lay _ lf
    have hua : D.cls (ud a) = true := rfl
    have huf : D.cls (ud f) = true := rfl
    have fza : D.fzs (ud a) = ud a := rfl
    have fzf : D.fzs (ud f) = ud f := rfl
    rw [show U a = .agg (ud a) from rfl] at na pc hb
    rw [show U f = .agg (ud f) from rfl] at nf pc hb
    generalize ud a = za at *
    generalize ud f = zf at *
    generalize cmpI a f = cc at *
    have cla : (D.agg za).cl = true := hua
    have clf : (D.agg zf).cl = true := huf
    have clc : D.cls [D.agg za, D.agg zf] = true := by show (D.cls za && (D.cls zf && true)) = true; rw [hua, huf]; rfl
    have fzc : D.fzs [D.agg za, D.agg zf] = [D.agg za, D.agg zf] := by show [D.agg (D.fzs za), D.agg (D.fzs zf)] = _; rw [fza, fzf]
    show Pur Try.prog 12 [.int .i64 kind, .agg [.int .i64 xk, .int .i64 xa, .int .i64 xb, .str xs], .agg [.int .i64 yk, .int .i64 ya, .int .i64 yb, .str ys], .slice .frozen l.length (rws l)] (.agg A)
    refine pur_intro Try.func12 rfl Try.ntmps12 rfl (by show D.cls A = true; exact a3) fun B => ?_
    repeat (first | with_reducible (first | refine W_seq ?_ | refine q_then ?_ | refine q_thenr ?_ | refine q_thenx ?_ | refine W_block ?_ | refine q_block ?_ | refine q_blockr ?_ | refine q_blockx ?_ | refine W_ret ?_ | refine W_skip ?_ | refine W_label ?_ | refine W_exit ?_ | refine W_scope ?_ | refine q_scope ?_ | refine q_scoper ?_ | refine q_scopex ?_) | (with_reducible refine R_nil ?_; try dsimp only [slots0, slots_ud, cells_U, agg_ud, drop0, dropS, takeS, take0, ud_nil, take_ud, take_ud0, drop_ud, drop_ud0, take_udk, D.cells, D.fz, D.fzs, List.take_succ_cons, List.take_zero, List.drop_succ_cons, List.drop_zero, List.cons_append, List.nil_append, List.append_eq, List.length_cons, List.length_nil, Nat.reduceAdd, Nat.reduceMul, Nat.reduceSub, Int.reduceAdd, Int.reduceSub, Int.reduceToNat, Int.reduceNeg, Int.reduceMul]) | refine q_blocky rfl ?_ | refine W_plain rfl ?_ | refine W_drawn mixed rfl ?_ | refine and_chk (by kernel_rfl) ?_ | refine k_load rfl rfl rfl (raw_4 xk xa xb xs _) ?_ | refine k_load rfl rfl rfl (raw_4 yk ya yb ys _) ?_ | refine k_load rfl rfl rfl (ca _) ?_ | refine k_load rfl rfl rfl (cf _) ?_ | refine k_store rfl rfl rfl rfl (by exact la) rfl (by exact ya4 _ rfl) ?_ | refine k_store rfl rfl rfl rfl (by exact la) rfl (by exact ya4 _ lf) ?_ | refine k_store rfl rfl rfl rfl (by exact lf) rfl (by exact yf4 _ rfl) ?_ | refine k_store rfl rfl rfl rfl (by exact lf) rfl (by exact yf4 _ la) ?_ | refine k_build rfl rfl hb ?_ | refine k_s2b rfl Try.underlying9 Try.underlying5 rfl (by exact hs') rfl ?_ | refine k_store rfl rfl rfl rfl (by exact hBl) rfl (by exact hBy _ rfl) ?_ | refine k_store rfl rfl rfl rfl rfl rfl (by exact hk3) ?_ | refine k_store rfl rfl rfl rfl rfl rfl (by exact hdt) ?_ | refine k_store rfl rfl rfl rfl (by exact a1) rfl (by exact hay _ rfl) ?_ | refine k_load rfl rfl rfl (hac _) ?_ | refine k_move rfl rfl ?_ | refine k_assign rfl rfl ?_ | refine k_load rfl rfl rfl rfl ?_ | refine k_alloc rfl ?_ | refine k_box rfl rfl rfl ?_ | refine k_store rfl rfl rfl rfl rfl rfl rfl ?_ | refine k_fieldAddr rfl rfl rfl ?_ | refine k_build rfl rfl rfl ?_ | refine k_call rfl pk rfl rfl rfl rfl ?_ | refine k_call rfl na rfl rfl rfl cla ?_ | refine k_call rfl nf rfl rfl rfl clf ?_ | refine k_call rfl pc rfl fzc clc rfl ?_ | refine k_lss rfl rfl rfl hcl ?_ | refine k_call rfl hwx rfl rfl rfl (bs_cl _) ?_ | refine k_call rfl hwy rfl rfl rfl (bs_cl _) ?_ | refine k_call rfl p1 rfl rfl rfl rfl ?_ | refine k_call rfl p2 rfl rfl rfl rfl ?_ | refine k_call rfl cutx rfl rfl rfl rfl ?_ | (refine k_append rfl rfl rfl ?_ ?_ ?_ rfl ?_ rfl rfl rfl ?_; (first | rfl | exact trivial | (show 0 < _; omega)); (first | rfl | (simp <;> omega)); (first | rfl | (simp <;> omega)); (omega)) | (refine k_slice rfl rfl rfl rfl ⟨?_, ?_, ?_⟩ rfl rfl rfl ?_; (omega); (omega); (omega)) | (refine k_slice3 rfl rfl rfl rfl rfl ⟨?_, ?_, ?_⟩ rfl rfl rfl ?_; (omega); (omega); (omega)) | (refine k_sliceA rfl rfl rfl rfl ⟨?_, ?_, ?_, ?_⟩ rfl rfl ?_; (omega); (omega); (omega); (omega)) | (refine k_sliceE rfl rfl rfl rfl ⟨?_, ?_, ?_, ?_⟩ rfl rfl rfl rfl ?_; (omega); (omega); (omega); (omega)) | refine k_buildSlice (cs := []) rfl rfl rfl rfl rfl rfl rfl ?_ | refine k_buildSlice rfl rfl rfl rfl rfl rfl rfl ?_ | refine k_loade rfl rfl rfl ?_ | refine k_fieldAddre rfl rfl rfl rfl ?_ | (refine k_addi rfl rfl rfl ?_ ?_; (omega)) | (refine k_lssT rfl rfl rfl ?_ ?_; (omega)) | (refine k_lssF rfl rfl rfl ?_ ?_; (omega)) | (refine k_eqlT rfl rfl rfl ?_ ?_; (omega)) | (refine k_eqlF rfl rfl rfl ?_ ?_; (omega)) | refine k_eqa rfl rfl rfl rfl rfl rfl ?_ | refine W_yes rfl ?_ | refine W_no rfl ?_)
    (first | with_reducible refine q_endr ?_ | with_reducible refine q_endn ?_); refine rets1 Try.results12 (RetV.cell _ _ _ _ _ _ _ _ inferInstance rfl rfl (by exact hac _)) ?_
    show D.agg (D.fzs A) = _
    rw [a2]
end Go.Proofs.Ytbpaimfnfigjpaa
